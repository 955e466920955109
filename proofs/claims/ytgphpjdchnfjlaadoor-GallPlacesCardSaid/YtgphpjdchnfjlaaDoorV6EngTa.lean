/- The engine as a tree: runs over values that are not known, as trees of tests. Operations that the kernel does not look into. -/
import Derived.Test.YtgphpjdchnfjlaaDoorV6EngXx4
set_option linter.unusedVariables false
set_option linter.unusedSimpArgs false
namespace Go.Eng
noncomputable section

inductive Tr (α:Type) where
 | ok (a:α)
 | bad
 | ite (c:Bool) (t e:Tr α)
 | req (c:Bool) (t:Tr α)
 | reqP (p:Prop) (t:Tr α)
open Classical in
def Tr.run {α:Type}:Tr α→Option α
 | .ok a=>some a
 | .bad=>none
 | .ite c t e=>cond c t.run e.run
 | .req c t=>cond c t.run none
 | .reqP p t=>if p then t.run else none
def Tr.bind {α β:Type} (t:Tr α) (f:α→Tr β):Tr β:=Tr.rec (motive:=fun _=>Tr β) f .bad (fun c _ _ a b=>.ite c a b) (fun c _ a=>.req c a) (fun p _ a=>.reqP p a) t
theorem Tr.Fl {α β:Type} (t:Tr α) (f:α→Tr β):(t.bind f).run=t.run.bind fun a=>(f a).run:=by
 induction t with
 | ok a=>rfl
 | bad=>rfl
 | ite c a b iha ihb =>
   have e:(Tr.ite c a b).bind f=.ite c (a.bind f) (b.bind f):=rfl;rw[e];simp only[Tr.run,iha,ihb];cases c<;>rfl
 | req c a ih =>
   have e:(Tr.req c a).bind f=.req c (a.bind f):=rfl;rw[e];simp only[Tr.run,ih];cases c<;>rfl
 | reqP p a ih =>
   have e:(Tr.reqP p a).bind f=.reqP p (a.bind f):=rfl;rw[e];simp only[Tr.run,ih];by_cases hp:p
   · rw[if_pos hp,if_pos hp]
   · rw[if_neg hp,if_neg hp];rfl
theorem Tr.gv {α:Type} {p:Prop} {t:Tr α} {x:α} (h:(Tr.reqP p t).run=some x):p∧t.run=some x:=by
 simp only[Tr.run] at h;by_cases hp:p
 · rw[if_pos hp] at h;exact ⟨hp,h⟩
 · rw[if_neg hp] at h;cases h
theorem Tr.G7 {α:Type} {p:Prop} {a:Tr α} (h:p):(Tr.reqP p a).run=a.run:=by simp only[Tr.run];rw[if_pos h]
theorem Tr.bind_some {α β:Type} {t:Tr α} {f:α→Tr β} {y:β} (h:(t.bind f).run=some y):∃ x,t.run=some x∧(f x).run=some y:=by
 rw[Tr.Fl] at h;exact Option.bind_eq_some_iff.1 h
theorem Tr.aU {α:Type} {c:Bool} {t:Tr α} {x:α} (h:(Tr.req c t).run=some x):c=true∧t.run=some x:=by
 cases c with
 | true=>exact ⟨rfl,h⟩
 | false=>simp[Tr.run] at h
theorem Tr.kh {α:Type} {c:Bool} {t e:Tr α} {x:α} (h:(Tr.ite c t e).run=some x):(c=true∧t.run=some x)∨(c=false∧e.run=some x):=by
 cases c with
 | true=>exact .inl ⟨rfl,h⟩
 | false=>exact .inr ⟨rfl,h⟩
theorem Tr.ae {α:Type} {a x:α} (h:(Tr.ok a).run=some x):a=x:=Option.some.inj h
theorem Tr.ah {α:Type} {x:α} (h:(Tr.bad:Tr α).run=some x):False:=by simp[Tr.run] at h
def vG {α:Type} (o:Option α):Tr α:=Option.rec (motive:=fun _=>Tr α) .bad .ok o
theorem dg {α:Type} (o:Option α):(vG o).run=o:=by cases o<;>rfl
theorem di {α:Type} (f:α):∃ g,g=f:=⟨f,rfl⟩

def bm:IntKind→Int→Int→Int:=Classical.choose (di (α:=IntKind→Int→Int→Int) (fun k x y=>k.wrap (x+y)))
theorem HG:bm=(fun k x y=>k.wrap (x+y)):=Classical.choose_spec (di (α:=IntKind→Int→Int→Int) (fun k x y=>k.wrap (x+y)))
theorem fM (k x y):bm k x y=k.wrap (x+y):=by rw[HG]
def bX:IntKind→Int→Int→Int:=Classical.choose (di (α:=IntKind→Int→Int→Int) (fun k x y=>k.wrap (x-y)))
theorem JA:bX=(fun k x y=>k.wrap (x-y)):=Classical.choose_spec (di (α:=IntKind→Int→Int→Int) (fun k x y=>k.wrap (x-y)))
theorem ep (k x y):bX k x y=k.wrap (x-y):=by rw[JA]
def Bm:IntKind→Int→Int→Int:=Classical.choose (di (α:=IntKind→Int→Int→Int) (fun k x y=>k.wrap (x*y)))
theorem IS:Bm=(fun k x y=>k.wrap (x*y)):=Classical.choose_spec (di (α:=IntKind→Int→Int→Int) (fun k x y=>k.wrap (x*y)))
theorem pc (k x y):Bm k x y=k.wrap (x*y):=by rw[IS]
def yU:IntKind→Int→Int→Int:=Classical.choose (di (α:=IntKind→Int→Int→Int) (fun k x y=>k.wrap (x.tdiv y)))
theorem Jg:yU=(fun k x y=>k.wrap (x.tdiv y)):=Classical.choose_spec (di (α:=IntKind→Int→Int→Int) (fun k x y=>k.wrap (x.tdiv y)))
theorem w7 (k x y):yU k x y=k.wrap (x.tdiv y):=by rw[Jg]
def qY:IntKind→Int→Int→Int:=Classical.choose (di (α:=IntKind→Int→Int→Int) (fun k x y=>x.tmod y))
theorem Jk:qY=(fun k x y=>x.tmod y):=Classical.choose_spec (di (α:=IntKind→Int→Int→Int) (fun k x y=>x.tmod y))
theorem rH (k x y):qY k x y=x.tmod y:=by rw[Jk]
def lQ:IntKind→Int→Int→Int:=Classical.choose (di (α:=IntKind→Int→Int→Int) (fun k x y=>k.wrap (BitVec.ofInt k.bits x &&& BitVec.ofInt k.bits y).toNat))
theorem HO:lQ=(fun k x y=>k.wrap (BitVec.ofInt k.bits x &&& BitVec.ofInt k.bits y).toNat):=Classical.choose_spec (di (α:=IntKind→Int→Int→Int) (fun k x y=>k.wrap (BitVec.ofInt k.bits x &&& BitVec.ofInt k.bits y).toNat))
theorem ov (k x y):lQ k x y=k.wrap (BitVec.ofInt k.bits x &&& BitVec.ofInt k.bits y).toNat:=by rw[HO]
def qd:IntKind→Int→Int→Int:=Classical.choose (di (α:=IntKind→Int→Int→Int) (fun k x y=>k.wrap (BitVec.ofInt k.bits x ||| BitVec.ofInt k.bits y).toNat))
theorem Ms:qd=(fun k x y=>k.wrap (BitVec.ofInt k.bits x ||| BitVec.ofInt k.bits y).toNat):=Classical.choose_spec (di (α:=IntKind→Int→Int→Int) (fun k x y=>k.wrap (BitVec.ofInt k.bits x ||| BitVec.ofInt k.bits y).toNat))
theorem tu (k x y):qd k x y=k.wrap (BitVec.ofInt k.bits x ||| BitVec.ofInt k.bits y).toNat:=by rw[Ms]
def Nb:IntKind→Int→Int→Int:=Classical.choose (di (α:=IntKind→Int→Int→Int) (fun k x y=>k.wrap (BitVec.ofInt k.bits x ^^^ BitVec.ofInt k.bits y).toNat))
theorem JP:Nb=(fun k x y=>k.wrap (BitVec.ofInt k.bits x ^^^ BitVec.ofInt k.bits y).toNat):=Classical.choose_spec (di (α:=IntKind→Int→Int→Int) (fun k x y=>k.wrap (BitVec.ofInt k.bits x ^^^ BitVec.ofInt k.bits y).toNat))
theorem xu (k x y):Nb k x y=k.wrap (BitVec.ofInt k.bits x ^^^ BitVec.ofInt k.bits y).toNat:=by rw[JP]
def HM:IntKind→Int→Int→Int:=Classical.choose (di (α:=IntKind→Int→Int→Int) (fun k x y=>k.wrap (BitVec.ofInt k.bits x &&& ~~~(BitVec.ofInt k.bits y)).toNat))
theorem Ln:HM=(fun k x y=>k.wrap (BitVec.ofInt k.bits x &&& ~~~(BitVec.ofInt k.bits y)).toNat):=Classical.choose_spec (di (α:=IntKind→Int→Int→Int) (fun k x y=>k.wrap (BitVec.ofInt k.bits x &&& ~~~(BitVec.ofInt k.bits y)).toNat))
theorem rU (k x y):HM k x y=k.wrap (BitVec.ofInt k.bits x &&& ~~~(BitVec.ofInt k.bits y)).toNat:=by rw[Ln]
def cI:IntKind→Int→Int→Int:=Classical.choose (di (α:=IntKind→Int→Int→Int) (fun k x y=>k.wrap (x*2 ^ (min y.toNat k.bits))))
theorem Jw:cI=(fun k x y=>k.wrap (x*2 ^ (min y.toNat k.bits))):=Classical.choose_spec (di (α:=IntKind→Int→Int→Int) (fun k x y=>k.wrap (x*2 ^ (min y.toNat k.bits))))
theorem rK (k x y):cI k x y=k.wrap (x*2 ^ (min y.toNat k.bits)):=by rw[Jw]
def zo:IntKind→Int→Int→Int:=Classical.choose (di (α:=IntKind→Int→Int→Int) (fun k x y=>x.fdiv (2 ^ (min y.toNat k.bits))))
theorem Jx:zo=(fun k x y=>x.fdiv (2 ^ (min y.toNat k.bits))):=Classical.choose_spec (di (α:=IntKind→Int→Int→Int) (fun k x y=>x.fdiv (2 ^ (min y.toNat k.bits))))
theorem Dm (k x y):zo k x y=x.fdiv (2 ^ (min y.toNat k.bits)):=by rw[Jx]
def Tv:IntKind→Int→Int:=Classical.choose (di (α:=IntKind→Int→Int) (fun k x=>k.wrap x))
theorem Na:Tv=(fun k x=>k.wrap x):=Classical.choose_spec (di (α:=IntKind→Int→Int) (fun k x=>k.wrap x))
theorem M9 (k x):Tv k x=k.wrap x:=by rw[Na]
def Gu:IntKind→Int→Int:=Classical.choose (di (α:=IntKind→Int→Int) (fun k x=>k.wrap (0-x)))
theorem IX:Gu=(fun k x=>k.wrap (0-x)):=Classical.choose_spec (di (α:=IntKind→Int→Int) (fun k x=>k.wrap (0-x)))
theorem CR (k x):Gu k x=k.wrap (0-x):=by rw[IX]
def b9:Int→Int→Bool:=Classical.choose (di (α:=Int→Int→Bool) (fun x y=>(x == y)))
theorem LJ:b9=(fun x y=>(x == y)):=Classical.choose_spec (di (α:=Int→Int→Bool) (fun x y=>(x == y)))
theorem aE (x y):b9 x y=(x == y):=by rw[LJ]
def bM:Int→Int→Bool:=Classical.choose (di (α:=Int→Int→Bool) (fun x y=>decide (x<y)))
theorem Md:bM=(fun x y=>decide (x<y)):=Classical.choose_spec (di (α:=Int→Int→Bool) (fun x y=>decide (x<y)))
theorem bx (x y):bM x y=decide (x<y):=by rw[Md]
def dp:Int→Int→Bool:=Classical.choose (di (α:=Int→Int→Bool) (fun x y=>decide (x≤y)))
theorem L9:dp=(fun x y=>decide (x≤y)):=Classical.choose_spec (di (α:=Int→Int→Bool) (fun x y=>decide (x≤y)))
theorem bh (x y):dp x y=decide (x≤y):=by rw[L9]
def bF:Bool→Bool:=Classical.choose (di (α:=Bool→Bool) (fun b=>(!b)))
theorem I1:bF=(fun b=>(!b)):=Classical.choose_spec (di (α:=Bool→Bool) (fun b=>(!b)))
theorem ar (b):bF b=(!b):=by rw[I1]
def bV:Bool→Bool→Bool:=Classical.choose (di (α:=Bool→Bool→Bool) (fun a b=>(a && b)))
theorem HN:bV=(fun a b=>(a && b)):=Classical.choose_spec (di (α:=Bool→Bool→Bool) (fun a b=>(a && b)))
theorem bZ (a b):bV a b=(a && b):=by rw[HN]
def LH:Bool→Bool→Bool:=Classical.choose (di (α:=Bool→Bool→Bool) (fun a b=>(a == b)))
theorem LI:LH=(fun a b=>(a == b)):=Classical.choose_spec (di (α:=Bool→Bool→Bool) (fun a b=>(a == b)))
theorem AO (a b):LH a b=(a == b):=by rw[LI]
def yD:Int→Int→Int:=Classical.choose (di (α:=Int→Int→Int) (fun x y=>if y<x then y else x))
theorem IN:yD=(fun x y=>if y<x then y else x):=Classical.choose_spec (di (α:=Int→Int→Int) (fun x y=>if y<x then y else x))
theorem rz (x y):yD x y=if y<x then y else x:=by rw[IN]
def uM:Int→Int→Int:=Classical.choose (di (α:=Int→Int→Int) (fun x y=>if y > x then y else x))
theorem IK:uM=(fun x y=>if y > x then y else x):=Classical.choose_spec (di (α:=Int→Int→Int) (fun x y=>if y > x then y else x))
theorem ry (x y):uM x y=if y > x then y else x:=by rw[IK]
def c6:Int→Nat→Bool:=Classical.choose (di (α:=Int→Nat→Bool) (fun (i:Int) (n:Nat)=>decide (0≤i∧i<(n:Int))))
theorem L3:c6=(fun (i:Int) (n:Nat)=>decide (0≤i∧i<(n:Int))):=Classical.choose_spec (di (α:=Int→Nat→Bool) (fun (i:Int) (n:Nat)=>decide (0≤i∧i<(n:Int))))
theorem pU (i n):c6 i n=decide (0≤i∧i<(n:Int)):=by rw[L3]
def kH:Int→Nat→Bool:=Classical.choose (di (α:=Int→Nat→Bool) (fun (i:Int) (n:Nat)=>decide (0≤i∧i≤(n:Int))))
theorem H4:kH=(fun (i:Int) (n:Nat)=>decide (0≤i∧i≤(n:Int))):=Classical.choose_spec (di (α:=Int→Nat→Bool) (fun (i:Int) (n:Nat)=>decide (0≤i∧i≤(n:Int))))
theorem Cc (i n):kH i n=decide (0≤i∧i≤(n:Int)):=by rw[H4]
def Ec:Int→Int→Nat→Bool:=Classical.choose (di (α:=Int→Int→Nat→Bool) (fun l c b=>decide (0≤l∧l≤c∧c.toNat*b≤room∧c.toNat≤room)))
theorem Mh:Ec=(fun l c b=>decide (0≤l∧l≤c∧c.toNat*b≤room∧c.toNat≤room)):=Classical.choose_spec (di (α:=Int→Int→Nat→Bool) (fun l c b=>decide (0≤l∧l≤c∧c.toNat*b≤room∧c.toNat≤room)))
theorem wH (l c b):Ec l c b=decide (0≤l∧l≤c∧c.toNat*b≤room∧c.toNat≤room):=by rw[Mh]
def bY:Int→Nat:=Classical.choose (di (α:=Int→Nat) (fun i=>i.toNat))
theorem MY:bY=(fun i=>i.toNat):=Classical.choose_spec (di (α:=Int→Nat) (fun i=>i.toNat))
theorem jV (i):bY i=i.toNat:=by rw[MY]
def aw:Nat→Int→Nat→Nat:=Classical.choose (di (α:=Nat→Int→Nat→Nat) (fun o i s=>o+i.toNat*s))
theorem L1:aw=(fun o i s=>o+i.toNat*s):=Classical.choose_spec (di (α:=Nat→Int→Nat→Nat) (fun o i s=>o+i.toNat*s))
theorem bJ (o i s):aw o i s=o+i.toNat*s:=by rw[L1]
def au:Nat→Nat→Nat:=Classical.choose (di (α:=Nat→Nat→Nat) (fun a b=>a+b))
theorem HI:au=(fun a b=>a+b):=Classical.choose_spec (di (α:=Nat→Nat→Nat) (fun a b=>a+b))
theorem aM (a b):au a b=a+b:=by rw[HI]
def cq:Nat→Nat→Nat:=Classical.choose (di (α:=Nat→Nat→Nat) (fun a b=>a-b))
theorem JC:cq=(fun a b=>a-b):=Classical.choose_spec (di (α:=Nat→Nat→Nat) (fun a b=>a-b))
theorem dD (a b):cq a b=a-b:=by rw[JC]
def cG:Nat→Nat→Nat:=Classical.choose (di (α:=Nat→Nat→Nat) (fun a b=>a*b))
theorem IT:cG=(fun a b=>a*b):=Classical.choose_spec (di (α:=Nat→Nat→Nat) (fun a b=>a*b))
theorem rA (a b):cG a b=a*b:=by rw[IT]
def IL:Nat→Nat→Nat:=Classical.choose (di (α:=Nat→Nat→Nat) (fun a b=>min a b))
theorem IM:IL=(fun a b=>min a b):=Classical.choose_spec (di (α:=Nat→Nat→Nat) (fun a b=>min a b))
theorem CP (a b):IL a b=min a b:=by rw[IM]
def cK:Nat→Nat→Bool:=Classical.choose (di (α:=Nat→Nat→Bool) (fun a b=>decide (a<b)))
theorem Me:cK=(fun a b=>decide (a<b)):=Classical.choose_spec (di (α:=Nat→Nat→Bool) (fun a b=>decide (a<b)))
theorem ik (a b):cK a b=decide (a<b):=by rw[Me]
def fp:Nat→Nat→Bool:=Classical.choose (di (α:=Nat→Nat→Bool) (fun a b=>decide (a≤b)))
theorem Ma:fp=(fun a b=>decide (a≤b)):=Classical.choose_spec (di (α:=Nat→Nat→Bool) (fun a b=>decide (a≤b)))
theorem kV (a b):fp a b=decide (a≤b):=by rw[Ma]
def cg:Nat→Nat→Bool:=Classical.choose (di (α:=Nat→Nat→Bool) (fun a b=>decide (a=b)))
theorem LK:cg=(fun a b=>decide (a=b)):=Classical.choose_spec (di (α:=Nat→Nat→Bool) (fun a b=>decide (a=b)))
theorem ft (a b):cg a b=decide (a=b):=by rw[LK]
def eD:Nat→Nat→Nat→Nat→Bool:=Classical.choose (di (α:=Nat→Nat→Nat→Nat→Bool) (fun o m p n=>decide (p≤o∧o+m≤p+n)))
theorem L5:eD=(fun o m p n=>decide (p≤o∧o+m≤p+n)):=Classical.choose_spec (di (α:=Nat→Nat→Nat→Nat→Bool) (fun o m p n=>decide (p≤o∧o+m≤p+n)))
theorem jQ (o m p n):eD o m p n=decide (p≤o∧o+m≤p+n):=by rw[L5]
def Lm:(Nat→AV)→IntKind→Nat→Bool→Prop:=Classical.choose (di (α:=(Nat→AV)→IntKind→Nat→Bool→Prop) (fun f k sz full=>∀ j,∃ z n m,f j=AV.slcT none (Row.M [dj.arr k z n]) sz m full))
theorem HL:Lm=(fun f k sz full=>∀ j,∃ z n m,f j=AV.slcT none (Row.M [dj.arr k z n]) sz m full):=Classical.choose_spec (di (α:=(Nat→AV)→IntKind→Nat→Bool→Prop) (fun f k sz full=>∀ j,∃ z n m,f j=AV.slcT none (Row.M [dj.arr k z n]) sz m full))
theorem HK (f k sz full):Lm f k sz full=∀ j,∃ z n m,f j=AV.slcT none (Row.M [dj.arr k z n]) sz m full:=by rw[HL]
def MK:Bool→(Nat→Int)→(Nat→Int)→Nat→Int:=Classical.choose (di (α:=Bool→(Nat→Int)→(Nat→Int)→Nat→Int) (fun b x y=>cond b x y))
theorem Jt:MK=(fun b x y=>cond b x y):=Classical.choose_spec (di (α:=Bool→(Nat→Int)→(Nat→Int)→Nat→Int) (fun b x y=>cond b x y))
theorem Js (b x y):MK b x y=cond b x y:=by rw[Jt]
def Jp:Bool→Nat→Nat→Nat:=Classical.choose (di (α:=Bool→Nat→Nat→Nat) (fun b x y=>cond b x y))
theorem Jr:Jp=(fun b x y=>cond b x y):=Classical.choose_spec (di (α:=Bool→Nat→Nat→Nat) (fun b x y=>cond b x y))
theorem Jq (b x y):Jp b x y=cond b x y:=by rw[Jr]
def ji:Nat→Nat→Nat→Bool:=Classical.choose (di (α:=Nat→Nat→Nat→Bool) (fun m n b=>decide ((m+n)*b≤room∧m+n≤room)))
theorem G3:ji=(fun m n b=>decide ((m+n)*b≤room∧m+n≤room)):=Classical.choose_spec (di (α:=Nat→Nat→Nat→Bool) (fun m n b=>decide ((m+n)*b≤room∧m+n≤room)))
theorem zd (m n b):ji m n b=decide ((m+n)*b≤room∧m+n≤room):=by rw[G3]
def dc:(Nat→Int)→Nat→Int→Nat→Int:=Classical.choose (di (α:=(Nat→Int)→Nat→Int→Nat→Int) (fun z i x=>fun j=>if j=i then x else z j))
theorem rO:dc=(fun z i x=>fun j=>if j=i then x else z j):=Classical.choose_spec (di (α:=(Nat→Int)→Nat→Int→Nat→Int) (fun z i x=>fun j=>if j=i then x else z j))
theorem gh (z i x):dc z i x=fun j=>if j=i then x else z j:=by rw[rO]
def rJ:(Nat→Int)→Nat→Nat→Int:=Classical.choose (di (α:=(Nat→Int)→Nat→Nat→Int) (fun z o=>fun j=>z (o+j)))
theorem mG:rJ=(fun z o=>fun j=>z (o+j)):=Classical.choose_spec (di (α:=(Nat→Int)→Nat→Nat→Int) (fun z o=>fun j=>z (o+j)))
def oE:(Nat→Int)→Nat→(Nat→Int)→Nat→Nat→Int:=Classical.choose (di (α:=(Nat→Int)→Nat→(Nat→Int)→Nat→Nat→Int) (fun z o z' n=>xK z o z' n))
theorem Ig:oE=(fun z o z' n=>xK z o z' n):=Classical.choose_spec (di (α:=(Nat→Int)→Nat→(Nat→Int)→Nat→Nat→Int) (fun z o z' n=>xK z o z' n))
theorem v7 (z o z' n):oE z o z' n=xK z o z' n:=by rw[Ig]
def rV:(Nat→Int)→Nat→(Nat→Int)→Nat→Int:=Classical.choose (di (α:=(Nat→Int)→Nat→(Nat→Int)→Nat→Int) (fun z n z'=>fun i=>if i<n then z i else z' (i-n)))
theorem q9:rV=(fun z n z'=>fun i=>if i<n then z i else z' (i-n)):=Classical.choose_spec (di (α:=(Nat→Int)→Nat→(Nat→Int)→Nat→Int) (fun z n z'=>fun i=>if i<n then z i else z' (i-n)))
def Gh:List Int→Nat:=Classical.choose (di (α:=List Int→Nat) (fun l=>l.length))
theorem ID:Gh=(fun l=>l.length):=Classical.choose_spec (di (α:=List Int→Nat) (fun l=>l.length))
theorem ru (l):Gh l=l.length:=by rw[ID]
def aI:List Int→Nat→Int:=Classical.choose (di (α:=List Int→Nat→Int) (fun l=>fun j=>l.getD j 0))
theorem kX:aI=(fun l=>fun j=>l.getD j 0):=Classical.choose_spec (di (α:=List Int→Nat→Int) (fun l=>fun j=>l.getD j 0))
theorem fq (l):aI l=fun j=>l.getD j 0:=by rw[kX]
def lP:(Nat→Int)→(Nat→Int)→Nat→Bool:=Classical.choose (di (α:=(Nat→Int)→(Nat→Int)→Nat→Bool) (fun z z' n=>allEq z z' n))
theorem DI:lP=(fun z z' n=>allEq z z' n):=Classical.choose_spec (di (α:=(Nat→Int)→(Nat→Int)→Nat→Bool) (fun z z' n=>allEq z z' n))
theorem uZ (z z' n):lP z z' n=allEq z z' n:=by rw[DI]
def mE:(List Int→Bool)→List Int→Bool→List Int→Bool:=Classical.choose (di (α:=(List Int→Bool)→List Int→Bool→List Int→Bool) (fun h n b=>fB h n b))
theorem Hd:mE=(fun h n b=>fB h n b):=Classical.choose_spec (di (α:=(List Int→Bool)→List Int→Bool→List Int→Bool) (fun h n b=>fB h n b))
theorem gY (h n b):mE h n b=fB h n b:=by rw[Hd]
def mF:(List Int→Int)→List Int→Int→List Int→Int:=Classical.choose (di (α:=(List Int→Int)→List Int→Int→List Int→Int) (fun g n x=>iJ g n x))
theorem He:mF=(fun g n x=>iJ g n x):=Classical.choose_spec (di (α:=(List Int→Int)→List Int→Int→List Int→Int) (fun g n x=>iJ g n x))
theorem gZ (g n x):mF g n x=iJ g n x:=by rw[He]
def qn:Bool→Nat→Nat:=Classical.choose (di (α:=Bool→Nat→Nat) (fun b c=>ux b c))
theorem Fy:qn=(fun b c=>ux b c):=Classical.choose_spec (di (α:=Bool→Nat→Nat) (fun b c=>ux b c))
theorem lU (b c):qn b c=ux b c:=by rw[Fy]
def xJ:Bool→Nat→Nat:=Classical.choose (di (α:=Bool→Nat→Nat) (fun b c=>xI b c))
theorem Fz:xJ=(fun b c=>xI b c):=Classical.choose_spec (di (α:=Bool→Nat→Nat) (fun b c=>xI b c))
theorem se (b c):xJ b c=xI b c:=by rw[Fz]

end
end Go.Eng
