/- The engine as a tree: runs over values that are not known, as trees of tests. Operations that the kernel does not look into. -/
import Derived.Test.YtgphpjdchnfjlaaDoorV6EngXx4
set_option linter.unusedVariables false
set_option linter.unusedSimpArgs false
namespace Go.Eng
noncomputable section

inductive Tr (α:Type) where
 | ok (a:α)
 | bad
 | ite (c:Bool) (t e:Tr α)
 | req (c:Bool) (t:Tr α)
 | reqP (p:Prop) (t:Tr α)
open Classical in
def Tr.run {α:Type}:Tr α→Option α
 | .ok a=>some a
 | .bad=>none
 | .ite c t e=>cond c t.run e.run
 | .req c t=>cond c t.run none
 | .reqP p t=>if p then t.run else none
def Tr.bind {α β:Type} (t:Tr α) (f:α→Tr β):Tr β:=Tr.rec (motive:=fun _=>Tr β) f .bad (fun c _ _ a b=>.ite c a b) (fun c _ a=>.req c a) (fun p _ a=>.reqP p a) t
theorem Tr.Fl {α β:Type} (t:Tr α) (f:α→Tr β):(t.bind f).run=t.run.bind fun a=>(f a).run:=by
 induction t with
 | ok a=>rfl
 | bad=>rfl
 | ite c a b iha ihb =>
   have e:(Tr.ite c a b).bind f=.ite c (a.bind f) (b.bind f):=rfl;rw[e];simp only[Tr.run,iha,ihb];cases c<;>rfl
 | req c a ih =>
   have e:(Tr.req c a).bind f=.req c (a.bind f):=rfl;rw[e];simp only[Tr.run,ih];cases c<;>rfl
 | reqP p a ih =>
   have e:(Tr.reqP p a).bind f=.reqP p (a.bind f):=rfl;rw[e];simp only[Tr.run,ih];by_cases hp:p
   · rw[if_pos hp,if_pos hp]
   · rw[if_neg hp,if_neg hp];rfl
theorem Tr.gx {α:Type} {p:Prop} {t:Tr α} {x:α} (h:(Tr.reqP p t).run=some x):p∧t.run=some x:=by
 simp only[Tr.run] at h;by_cases hp:p
 · rw[if_pos hp] at h;exact ⟨hp,h⟩
 · rw[if_neg hp] at h;cases h
theorem Tr.G7 {α:Type} {p:Prop} {a:Tr α} (h:p):(Tr.reqP p a).run=a.run:=by simp only[Tr.run];rw[if_pos h]
theorem Tr.bind_some {α β:Type} {t:Tr α} {f:α→Tr β} {y:β} (h:(t.bind f).run=some y):∃ x,t.run=some x∧(f x).run=some y:=by
 rw[Tr.Fl] at h;exact Option.bind_eq_some_iff.1 h
theorem Tr.aS {α:Type} {c:Bool} {t:Tr α} {x:α} (h:(Tr.req c t).run=some x):c=true∧t.run=some x:=by
 cases c with
 | true=>exact ⟨rfl,h⟩
 | false=>simp[Tr.run] at h
theorem Tr.kA {α:Type} {c:Bool} {t e:Tr α} {x:α} (h:(Tr.ite c t e).run=some x):(c=true∧t.run=some x)∨(c=false∧e.run=some x):=by
 cases c with
 | true=>exact .inl ⟨rfl,h⟩
 | false=>exact .inr ⟨rfl,h⟩
theorem Tr.ab {α:Type} {a x:α} (h:(Tr.ok a).run=some x):a=x:=Option.some.inj h
theorem Tr.ag {α:Type} {x:α} (h:(Tr.bad:Tr α).run=some x):False:=by simp[Tr.run] at h
def vW {α:Type} (o:Option α):Tr α:=Option.rec (motive:=fun _=>Tr α) .bad .ok o
theorem dc {α:Type} (o:Option α):(vW o).run=o:=by cases o<;>rfl
theorem dg {α:Type} (f:α):∃ g,g=f:=⟨f,rfl⟩

def bh:IntKind→Int→Int→Int:=Classical.choose (dg (α:=IntKind→Int→Int→Int) (fun k x y=>k.wrap (x+y)))
theorem HP:bh=(fun k x y=>k.wrap (x+y)):=Classical.choose_spec (dg (α:=IntKind→Int→Int→Int) (fun k x y=>k.wrap (x+y)))
theorem fM (k x y):bh k x y=k.wrap (x+y):=by rw[HP]
def cq:IntKind→Int→Int→Int:=Classical.choose (dg (α:=IntKind→Int→Int→Int) (fun k x y=>k.wrap (x-y)))
theorem JF:cq=(fun k x y=>k.wrap (x-y)):=Classical.choose_spec (dg (α:=IntKind→Int→Int→Int) (fun k x y=>k.wrap (x-y)))
theorem eB (k x y):cq k x y=k.wrap (x-y):=by rw[JF]
def Ei:IntKind→Int→Int→Int:=Classical.choose (dg (α:=IntKind→Int→Int→Int) (fun k x y=>k.wrap (x*y)))
theorem IV:Ei=(fun k x y=>k.wrap (x*y)):=Classical.choose_spec (dg (α:=IntKind→Int→Int→Int) (fun k x y=>k.wrap (x*y)))
theorem rX (k x y):Ei k x y=k.wrap (x*y):=by rw[IV]
def Ev:IntKind→Int→Int→Int:=Classical.choose (dg (α:=IntKind→Int→Int→Int) (fun k x y=>k.wrap (x.tdiv y)))
theorem Ji:Ev=(fun k x y=>k.wrap (x.tdiv y)):=Classical.choose_spec (dg (α:=IntKind→Int→Int→Int) (fun k x y=>k.wrap (x.tdiv y)))
theorem Dj (k x y):Ev k x y=k.wrap (x.tdiv y):=by rw[Ji]
def ay:IntKind→Int→Int→Int:=Classical.choose (dg (α:=IntKind→Int→Int→Int) (fun k x y=>x.tmod y))
theorem Jm:ay=(fun k x y=>x.tmod y):=Classical.choose_spec (dg (α:=IntKind→Int→Int→Int) (fun k x y=>x.tmod y))
theorem pN (k x y):ay k x y=x.tmod y:=by rw[Jm]
def ny:IntKind→Int→Int→Int:=Classical.choose (dg (α:=IntKind→Int→Int→Int) (fun k x y=>k.wrap (BitVec.ofInt k.bits x &&& BitVec.ofInt k.bits y).toNat))
theorem HW:ny=(fun k x y=>k.wrap (BitVec.ofInt k.bits x &&& BitVec.ofInt k.bits y).toNat):=Classical.choose_spec (dg (α:=IntKind→Int→Int→Int) (fun k x y=>k.wrap (BitVec.ofInt k.bits x &&& BitVec.ofInt k.bits y).toNat))
theorem rC (k x y):ny k x y=k.wrap (BitVec.ofInt k.bits x &&& BitVec.ofInt k.bits y).toNat:=by rw[HW]
def r8:IntKind→Int→Int→Int:=Classical.choose (dg (α:=IntKind→Int→Int→Int) (fun k x y=>k.wrap (BitVec.ofInt k.bits x ||| BitVec.ofInt k.bits y).toNat))
theorem Mz:r8=(fun k x y=>k.wrap (BitVec.ofInt k.bits x ||| BitVec.ofInt k.bits y).toNat):=Classical.choose_spec (dg (α:=IntKind→Int→Int→Int) (fun k x y=>k.wrap (BitVec.ofInt k.bits x ||| BitVec.ofInt k.bits y).toNat))
theorem tM (k x y):r8 k x y=k.wrap (BitVec.ofInt k.bits x ||| BitVec.ofInt k.bits y).toNat:=by rw[Mz]
def Ni:IntKind→Int→Int→Int:=Classical.choose (dg (α:=IntKind→Int→Int→Int) (fun k x y=>k.wrap (BitVec.ofInt k.bits x ^^^ BitVec.ofInt k.bits y).toNat))
theorem JR:Ni=(fun k x y=>k.wrap (BitVec.ofInt k.bits x ^^^ BitVec.ofInt k.bits y).toNat):=Classical.choose_spec (dg (α:=IntKind→Int→Int→Int) (fun k x y=>k.wrap (BitVec.ofInt k.bits x ^^^ BitVec.ofInt k.bits y).toNat))
theorem xF (k x y):Ni k x y=k.wrap (BitVec.ofInt k.bits x ^^^ BitVec.ofInt k.bits y).toNat:=by rw[JR]
def AB:IntKind→Int→Int→Int:=Classical.choose (dg (α:=IntKind→Int→Int→Int) (fun k x y=>k.wrap (BitVec.ofInt k.bits x &&& ~~~(BitVec.ofInt k.bits y)).toNat))
theorem Lp:AB=(fun k x y=>k.wrap (BitVec.ofInt k.bits x &&& ~~~(BitVec.ofInt k.bits y)).toNat):=Classical.choose_spec (dg (α:=IntKind→Int→Int→Int) (fun k x y=>k.wrap (BitVec.ofInt k.bits x &&& ~~~(BitVec.ofInt k.bits y)).toNat))
theorem sj (k x y):AB k x y=k.wrap (BitVec.ofInt k.bits x &&& ~~~(BitVec.ofInt k.bits y)).toNat:=by rw[Lp]
def ep:IntKind→Int→Int→Int:=Classical.choose (dg (α:=IntKind→Int→Int→Int) (fun k x y=>k.wrap (x*2 ^ (min y.toNat k.bits))))
theorem JA:ep=(fun k x y=>k.wrap (x*2 ^ (min y.toNat k.bits))):=Classical.choose_spec (dg (α:=IntKind→Int→Int→Int) (fun k x y=>k.wrap (x*2 ^ (min y.toNat k.bits))))
theorem xz (k x y):ep k x y=k.wrap (x*2 ^ (min y.toNat k.bits)):=by rw[JA]
def MS:IntKind→Int→Int→Int:=Classical.choose (dg (α:=IntKind→Int→Int→Int) (fun k x y=>x.fdiv (2 ^ (min y.toNat k.bits))))
theorem JC:MS=(fun k x y=>x.fdiv (2 ^ (min y.toNat k.bits))):=Classical.choose_spec (dg (α:=IntKind→Int→Int→Int) (fun k x y=>x.fdiv (2 ^ (min y.toNat k.bits))))
theorem JB (k x y):MS k x y=x.fdiv (2 ^ (min y.toNat k.bits)):=by rw[JC]
def bm:IntKind→Int→Int:=Classical.choose (dg (α:=IntKind→Int→Int) (fun k x=>k.wrap x))
theorem Ng:bm=(fun k x=>k.wrap x):=Classical.choose_spec (dg (α:=IntKind→Int→Int) (fun k x=>k.wrap x))
theorem Hy (k x):bm k x=k.wrap x:=by rw[Ng]
def Gy:IntKind→Int→Int:=Classical.choose (dg (α:=IntKind→Int→Int) (fun k x=>k.wrap (0-x)))
theorem I0:Gy=(fun k x=>k.wrap (0-x)):=Classical.choose_spec (dg (α:=IntKind→Int→Int) (fun k x=>k.wrap (0-x)))
theorem CX (k x):Gy k x=k.wrap (0-x):=by rw[I0]
def c7:Int→Int→Bool:=Classical.choose (dg (α:=Int→Int→Bool) (fun x y=>(x == y)))
theorem LP:c7=(fun x y=>(x == y)):=Classical.choose_spec (dg (α:=Int→Int→Bool) (fun x y=>(x == y)))
theorem bA (x y):c7 x y=(x == y):=by rw[LP]
def bQ:Int→Int→Bool:=Classical.choose (dg (α:=Int→Int→Bool) (fun x y=>decide (x<y)))
theorem Mk:bQ=(fun x y=>decide (x<y)):=Classical.choose_spec (dg (α:=Int→Int→Bool) (fun x y=>decide (x<y)))
theorem bY (x y):bQ x y=decide (x<y):=by rw[Mk]
def dS:Int→Int→Bool:=Classical.choose (dg (α:=Int→Int→Bool) (fun x y=>decide (x≤y)))
theorem Mf:dS=(fun x y=>decide (x≤y)):=Classical.choose_spec (dg (α:=Int→Int→Bool) (fun x y=>decide (x≤y)))
theorem br (x y):dS x y=decide (x≤y):=by rw[Mf]
def bD:Bool→Bool:=Classical.choose (dg (α:=Bool→Bool) (fun b=>(!b)))
theorem I3:bD=(fun b=>(!b)):=Classical.choose_spec (dg (α:=Bool→Bool) (fun b=>(!b)))
theorem aW (b):bD b=(!b):=by rw[I3]
def bC:Bool→Bool→Bool:=Classical.choose (dg (α:=Bool→Bool→Bool) (fun a b=>(a && b)))
theorem HU:bC=(fun a b=>(a && b)):=Classical.choose_spec (dg (α:=Bool→Bool→Bool) (fun a b=>(a && b)))
theorem cD (a b):bC a b=(a && b):=by rw[HU]
def Qr:Bool→Bool→Bool:=Classical.choose (dg (α:=Bool→Bool→Bool) (fun a b=>(a == b)))
theorem LO:Qr=(fun a b=>(a == b)):=Classical.choose_spec (dg (α:=Bool→Bool→Bool) (fun a b=>(a == b)))
theorem LN (a b):Qr a b=(a == b):=by rw[LO]
def fY:Int→Int→Int:=Classical.choose (dg (α:=Int→Int→Int) (fun x y=>if y<x then y else x))
theorem IT:fY=(fun x y=>if y<x then y else x):=Classical.choose_spec (dg (α:=Int→Int→Int) (fun x y=>if y<x then y else x))
theorem pF (x y):fY x y=if y<x then y else x:=by rw[IT]
def mL:Int→Int→Int:=Classical.choose (dg (α:=Int→Int→Int) (fun x y=>if y > x then y else x))
theorem IQ:mL=(fun x y=>if y > x then y else x):=Classical.choose_spec (dg (α:=Int→Int→Int) (fun x y=>if y > x then y else x))
theorem pE (x y):mL x y=if y > x then y else x:=by rw[IQ]
def bL:Int→Nat→Bool:=Classical.choose (dg (α:=Int→Nat→Bool) (fun (i:Int) (n:Nat)=>decide (0≤i∧i<(n:Int))))
theorem L8:bL=(fun (i:Int) (n:Nat)=>decide (0≤i∧i<(n:Int))):=Classical.choose_spec (dg (α:=Int→Nat→Bool) (fun (i:Int) (n:Nat)=>decide (0≤i∧i<(n:Int))))
theorem ql (i n):bL i n=decide (0≤i∧i<(n:Int)):=by rw[L8]
def kS:Int→Nat→Bool:=Classical.choose (dg (α:=Int→Nat→Bool) (fun (i:Int) (n:Nat)=>decide (0≤i∧i≤(n:Int))))
theorem Ia:kS=(fun (i:Int) (n:Nat)=>decide (0≤i∧i≤(n:Int))):=Classical.choose_spec (dg (α:=Int→Nat→Bool) (fun (i:Int) (n:Nat)=>decide (0≤i∧i≤(n:Int))))
theorem Ce (i n):kS i n=decide (0≤i∧i≤(n:Int)):=by rw[Ia]
def CV:Int→Int→Nat→Bool:=Classical.choose (dg (α:=Int→Int→Nat→Bool) (fun l c b=>decide (0≤l∧l≤c∧c.toNat*b≤room∧c.toNat≤room)))
theorem Mo:CV=(fun l c b=>decide (0≤l∧l≤c∧c.toNat*b≤room∧c.toNat≤room)):=Classical.choose_spec (dg (α:=Int→Int→Nat→Bool) (fun l c b=>decide (0≤l∧l≤c∧c.toNat*b≤room∧c.toNat≤room)))
theorem Bq (l c b):CV l c b=decide (0≤l∧l≤c∧c.toNat*b≤room∧c.toNat≤room):=by rw[Mo]
def cg:Int→Nat:=Classical.choose (dg (α:=Int→Nat) (fun i=>i.toNat))
theorem Nb:cg=(fun i=>i.toNat):=Classical.choose_spec (dg (α:=Int→Nat) (fun i=>i.toNat))
theorem j9 (i):cg i=i.toNat:=by rw[Nb]
def au:Nat→Int→Nat→Nat:=Classical.choose (dg (α:=Nat→Int→Nat→Nat) (fun o i s=>o+i.toNat*s))
theorem L6:au=(fun o i s=>o+i.toNat*s):=Classical.choose_spec (dg (α:=Nat→Int→Nat→Nat) (fun o i s=>o+i.toNat*s))
theorem bN (o i s):au o i s=o+i.toNat*s:=by rw[L6]
def ah:Nat→Nat→Nat:=Classical.choose (dg (α:=Nat→Nat→Nat) (fun a b=>a+b))
theorem HQ:ah=(fun a b=>a+b):=Classical.choose_spec (dg (α:=Nat→Nat→Nat) (fun a b=>a+b))
theorem aF (a b):ah a b=a+b:=by rw[HQ]
def dx:Nat→Nat→Nat:=Classical.choose (dg (α:=Nat→Nat→Nat) (fun a b=>a-b))
theorem JH:dx=(fun a b=>a-b):=Classical.choose_spec (dg (α:=Nat→Nat→Nat) (fun a b=>a-b))
theorem dq (a b):dx a b=a-b:=by rw[JH]
def aC:Nat→Nat→Nat:=Classical.choose (dg (α:=Nat→Nat→Nat) (fun a b=>a*b))
theorem IW:aC=(fun a b=>a*b):=Classical.choose_spec (dg (α:=Nat→Nat→Nat) (fun a b=>a*b))
theorem pH (a b):aC a b=a*b:=by rw[IW]
def w6:Nat→Nat→Nat:=Classical.choose (dg (α:=Nat→Nat→Nat) (fun a b=>min a b))
theorem IS:w6=(fun a b=>min a b):=Classical.choose_spec (dg (α:=Nat→Nat→Nat) (fun a b=>min a b))
theorem w7 (a b):w6 a b=min a b:=by rw[IS]
def bt:Nat→Nat→Bool:=Classical.choose (dg (α:=Nat→Nat→Bool) (fun a b=>decide (a<b)))
theorem Ml:bt=(fun a b=>decide (a<b)):=Classical.choose_spec (dg (α:=Nat→Nat→Bool) (fun a b=>decide (a<b)))
theorem ir (a b):bt a b=decide (a<b):=by rw[Ml]
def bH:Nat→Nat→Bool:=Classical.choose (dg (α:=Nat→Nat→Bool) (fun a b=>decide (a≤b)))
theorem Mg:bH=(fun a b=>decide (a≤b)):=Classical.choose_spec (dg (α:=Nat→Nat→Bool) (fun a b=>decide (a≤b)))
theorem lq (a b):bH a b=decide (a≤b):=by rw[Mg]
def aU:Nat→Nat→Bool:=Classical.choose (dg (α:=Nat→Nat→Bool) (fun a b=>decide (a=b)))
theorem LQ:aU=(fun a b=>decide (a=b)):=Classical.choose_spec (dg (α:=Nat→Nat→Bool) (fun a b=>decide (a=b)))
theorem fP (a b):aU a b=decide (a=b):=by rw[LQ]
def dX:Nat→Nat→Nat→Nat→Bool:=Classical.choose (dg (α:=Nat→Nat→Nat→Nat→Bool) (fun o m p n=>decide (p≤o∧o+m≤p+n)))
theorem Ma:dX=(fun o m p n=>decide (p≤o∧o+m≤p+n)):=Classical.choose_spec (dg (α:=Nat→Nat→Nat→Nat→Bool) (fun o m p n=>decide (p≤o∧o+m≤p+n)))
theorem j4 (o m p n):dX o m p n=decide (p≤o∧o+m≤p+n):=by rw[Ma]
def Lo:(Nat→AV)→IntKind→Nat→Bool→Prop:=Classical.choose (dg (α:=(Nat→AV)→IntKind→Nat→Bool→Prop) (fun f k sz full=>∀ j,∃ z n m,f j=AV.slcT none (Row.M [dh.arr k z n]) sz m full))
theorem HT:Lo=(fun f k sz full=>∀ j,∃ z n m,f j=AV.slcT none (Row.M [dh.arr k z n]) sz m full):=Classical.choose_spec (dg (α:=(Nat→AV)→IntKind→Nat→Bool→Prop) (fun f k sz full=>∀ j,∃ z n m,f j=AV.slcT none (Row.M [dh.arr k z n]) sz m full))
theorem HS (f k sz full):Lo f k sz full=∀ j,∃ z n m,f j=AV.slcT none (Row.M [dh.arr k z n]) sz m full:=by rw[HT]
def MP:Bool→(Nat→Int)→(Nat→Int)→Nat→Int:=Classical.choose (dg (α:=Bool→(Nat→Int)→(Nat→Int)→Nat→Int) (fun b x y=>cond b x y))
theorem Jx:MP=(fun b x y=>cond b x y):=Classical.choose_spec (dg (α:=Bool→(Nat→Int)→(Nat→Int)→Nat→Int) (fun b x y=>cond b x y))
theorem Jw (b x y):MP b x y=cond b x y:=by rw[Jx]
def Jt:Bool→Nat→Nat→Nat:=Classical.choose (dg (α:=Bool→Nat→Nat→Nat) (fun b x y=>cond b x y))
theorem Jv:Jt=(fun b x y=>cond b x y):=Classical.choose_spec (dg (α:=Bool→Nat→Nat→Nat) (fun b x y=>cond b x y))
theorem Ju (b x y):Jt b x y=cond b x y:=by rw[Jv]
def da:Nat→Nat→Nat→Bool:=Classical.choose (dg (α:=Nat→Nat→Nat→Bool) (fun m n b=>decide ((m+n)*b≤room∧m+n≤room)))
theorem G3:da=(fun m n b=>decide ((m+n)*b≤room∧m+n≤room)):=Classical.choose_spec (dg (α:=Nat→Nat→Nat→Bool) (fun m n b=>decide ((m+n)*b≤room∧m+n≤room)))
theorem zk (m n b):da m n b=decide ((m+n)*b≤room∧m+n≤room):=by rw[G3]
def cu:(Nat→Int)→Nat→Int→Nat→Int:=Classical.choose (dg (α:=(Nat→Int)→Nat→Int→Nat→Int) (fun z i x=>fun j=>if j=i then x else z j))
theorem sc:cu=(fun z i x=>fun j=>if j=i then x else z j):=Classical.choose_spec (dg (α:=(Nat→Int)→Nat→Int→Nat→Int) (fun z i x=>fun j=>if j=i then x else z j))
theorem iP (z i x):cu z i x=fun j=>if j=i then x else z j:=by rw[sc]
def iO:(Nat→Int)→Nat→Nat→Int:=Classical.choose (dg (α:=(Nat→Int)→Nat→Nat→Int) (fun z o=>fun j=>z (o+j)))
theorem mW:iO=(fun z o=>fun j=>z (o+j)):=Classical.choose_spec (dg (α:=(Nat→Int)→Nat→Nat→Int) (fun z o=>fun j=>z (o+j)))
def nz:(Nat→Int)→Nat→(Nat→Int)→Nat→Nat→Int:=Classical.choose (dg (α:=(Nat→Int)→Nat→(Nat→Int)→Nat→Nat→Int) (fun z o z' n=>wy z o z' n))
theorem Ik:nz=(fun z o z' n=>wy z o z' n):=Classical.choose_spec (dg (α:=(Nat→Int)→Nat→(Nat→Int)→Nat→Nat→Int) (fun z o z' n=>wy z o z' n))
theorem rG (z o z' n):nz z o z' n=wy z o z' n:=by rw[Ik]
def bJ:(Nat→Int)→Nat→(Nat→Int)→Nat→Int:=Classical.choose (dg (α:=(Nat→Int)→Nat→(Nat→Int)→Nat→Int) (fun z n z'=>fun i=>if i<n then z i else z' (i-n)))
theorem oU:bJ=(fun z n z'=>fun i=>if i<n then z i else z' (i-n)):=Classical.choose_spec (dg (α:=(Nat→Int)→Nat→(Nat→Int)→Nat→Int) (fun z n z'=>fun i=>if i<n then z i else z' (i-n)))
theorem wm (z n z'):bJ z n z'=fun i=>if i<n then z i else z' (i-n):=by rw[oU]
def gr:List Int→Nat:=Classical.choose (dg (α:=List Int→Nat) (fun l=>l.length))
theorem IJ:gr=(fun l=>l.length):=Classical.choose_spec (dg (α:=List Int→Nat) (fun l=>l.length))
theorem II (l):gr l=l.length:=by rw[IJ]
def ar:List Int→Nat→Int:=Classical.choose (dg (α:=List Int→Nat→Int) (fun l=>fun j=>l.getD j 0))
theorem lu:ar=(fun l=>fun j=>l.getD j 0):=Classical.choose_spec (dg (α:=List Int→Nat→Int) (fun l=>fun j=>l.getD j 0))
theorem gL (l):ar l=fun j=>l.getD j 0:=by rw[lu]
def mc:(Nat→Int)→(Nat→Int)→Nat→Bool:=Classical.choose (dg (α:=(Nat→Int)→(Nat→Int)→Nat→Bool) (fun z z' n=>allEq z z' n))
theorem DM:mc=(fun z z' n=>allEq z z' n):=Classical.choose_spec (dg (α:=(Nat→Int)→(Nat→Int)→Nat→Bool) (fun z z' n=>allEq z z' n))
theorem vq (z z' n):mc z z' n=allEq z z' n:=by rw[DM]
def mU:(List Int→Bool)→List Int→Bool→List Int→Bool:=Classical.choose (dg (α:=(List Int→Bool)→List Int→Bool→List Int→Bool) (fun h n b=>fz h n b))
theorem Hd:mU=(fun h n b=>fz h n b):=Classical.choose_spec (dg (α:=(List Int→Bool)→List Int→Bool→List Int→Bool) (fun h n b=>fz h n b))
theorem ie (h n b):mU h n b=fz h n b:=by rw[Hd]
def mV:(List Int→Int)→List Int→Int→List Int→Int:=Classical.choose (dg (α:=(List Int→Int)→List Int→Int→List Int→Int) (fun g n x=>iN g n x))
theorem He:mV=(fun g n x=>iN g n x):=Classical.choose_spec (dg (α:=(List Int→Int)→List Int→Int→List Int→Int) (fun g n x=>iN g n x))
theorem ig (g n x):mV g n x=iN g n x:=by rw[He]
def qN:Bool→Nat→Nat:=Classical.choose (dg (α:=Bool→Nat→Nat) (fun b c=>uP b c))
theorem Fx:qN=(fun b c=>uP b c):=Classical.choose_spec (dg (α:=Bool→Nat→Nat) (fun b c=>uP b c))
theorem mi (b c):qN b c=uP b c:=by rw[Fx]
def xW:Bool→Nat→Nat:=Classical.choose (dg (α:=Bool→Nat→Nat) (fun b c=>xV b c))
theorem Fy:xW=(fun b c=>xV b c):=Classical.choose_spec (dg (α:=Bool→Nat→Nat) (fun b c=>xV b c))
theorem sA (b c):xW b c=xV b c:=by rw[Fy]

end
end Go.Eng
