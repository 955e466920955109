/- The engine as a tree: runs over values that are not known, as trees of tests. Operations that the kernel does not look into. -/
import Derived.Test.YtjmjkhpfipglcaaV7EngXx4
namespace Go.Eng
set_option linter.unusedVariables false
set_option linter.unusedSimpArgs false
noncomputable section

inductive Tr (α:Type) where
 | ok (a:α)
 | bad
 | ite (c:Bool) (t e:Tr α)
 | req (c:Bool) (t:Tr α)
 | reqP (p:Prop) (t:Tr α)
open Classical in
def Tr.run {α:Type}:Tr α→Option α
 | .ok a=>some a
 | .bad=>none
 | .ite c t e=>cond c t.run e.run
 | .req c t=>cond c t.run none
 | .reqP p t=>if p then t.run else none
def Tr.bind {α β:Type} (t:Tr α) (f:α→Tr β):Tr β:=Tr.rec (motive:=fun _=>Tr β) f .bad (fun c _ _ a b=>.ite c a b) (fun c _ a=>.req c a) (fun p _ a=>.reqP p a) t
theorem Tr.BQ {α β:Type} (t:Tr α) (f:α→Tr β):(t.bind f).run=t.run.bind fun a=>(f a).run:=by
 induction t with
 | ok a=>rfl
 | bad=>rfl
 | ite c a b iha ihb =>
   have e:(Tr.ite c a b).bind f=.ite c (a.bind f) (b.bind f):=rfl
   rw[e];simp only[Tr.run,iha,ihb];cases c<;>rfl
 | req c a ih =>
   have e:(Tr.req c a).bind f=.req c (a.bind f):=rfl
   rw[e];simp only[Tr.run,ih];cases c<;>rfl
 | reqP p a ih =>
   have e:(Tr.reqP p a).bind f=.reqP p (a.bind f):=rfl
   rw[e];simp only[Tr.run,ih]
   by_cases hp:p
   · rw[if_pos hp,if_pos hp]
   · rw[if_neg hp,if_neg hp];rfl
theorem Tr.fX {α:Type} {p:Prop} {t:Tr α} {x:α} (h:(Tr.reqP p t).run=some x):p∧t.run=some x:=by
 simp only[Tr.run] at h
 by_cases hp:p
 · rw[if_pos hp] at h;exact ⟨hp,h⟩
 · rw[if_neg hp] at h;cases h
theorem Tr.run_ite {α:Type} {c:Bool} {a b:Tr α}:(Tr.ite c a b).run=cond c a.run b.run:=rfl
theorem Tr.b8 {α:Type} {c:Bool} {a:Tr α}:(Tr.req c a).run=cond c a.run none:=rfl
theorem Tr.gp {α:Type} {a:α}:(Tr.ok a).run=some a:=rfl
theorem Tr.bc {α:Type} {p:Prop} {a:Tr α} (h:p):(Tr.reqP p a).run=a.run:=by simp only[Tr.run];rw[if_pos h]
theorem Tr.bind_some {α β:Type} {t:Tr α} {f:α→Tr β} {y:β} (h:(t.bind f).run=some y):∃ x,t.run=some x∧(f x).run=some y:=by
 rw[Tr.BQ] at h
 exact Option.bind_eq_some_iff.1 h
theorem Tr.aZ {α:Type} {c:Bool} {t:Tr α} {x:α} (h:(Tr.req c t).run=some x):c=true∧t.run=some x:=by
 cases c with
 | true=>exact ⟨rfl,h⟩
 | false=>simp[Tr.run] at h
theorem Tr.bH {α:Type} {c:Bool} {t e:Tr α} {x:α} (h:(Tr.ite c t e).run=some x):(c=true∧t.run=some x)∨(c=false∧e.run=some x):=by
 cases c with
 | true=>exact .inl ⟨rfl,h⟩
 | false=>exact .inr ⟨rfl,h⟩
theorem Tr.ab {α:Type} {a x:α} (h:(Tr.ok a).run=some x):a=x:=Option.some.inj h
theorem Tr.ag {α:Type} {x:α} (h:(Tr.bad:Tr α).run=some x):False:=by simp[Tr.run] at h
def uW {α:Type} (o:Option α):Tr α:=Option.rec (motive:=fun _=>Tr α) .bad .ok o
theorem dw {α:Type} (o:Option α):(uW o).run=o:=by cases o<;>rfl
theorem dj {α:Type} (f:α):∃ g,g=f:=⟨f,rfl⟩

def ay:IntKind→Int→Int→Int:=Classical.choose (dj (α:=IntKind→Int→Int→Int) (fun k x y=>k.wrap (x+y)))
theorem DB:ay=(fun k x y=>k.wrap (x+y)):=Classical.choose_spec (dj (α:=IntKind→Int→Int→Int) (fun k x y=>k.wrap (x+y)))
theorem aR (k x y):ay k x y=k.wrap (x+y):=by rw[DB]
def az:IntKind→Int→Int→Int:=Classical.choose (dj (α:=IntKind→Int→Int→Int) (fun k x y=>k.wrap (x-y)))
theorem FG:az=(fun k x y=>k.wrap (x-y)):=Classical.choose_spec (dj (α:=IntKind→Int→Int→Int) (fun k x y=>k.wrap (x-y)))
theorem aQ (k x y):az k x y=k.wrap (x-y):=by rw[FG]
def bS:IntKind→Int→Int→Int:=Classical.choose (dj (α:=IntKind→Int→Int→Int) (fun k x y=>k.wrap (x*y)))
theorem EK:bS=(fun k x y=>k.wrap (x*y)):=Classical.choose_spec (dj (α:=IntKind→Int→Int→Int) (fun k x y=>k.wrap (x*y)))
theorem bu (k x y):bS k x y=k.wrap (x*y):=by rw[EK]
def HL:IntKind→Int→Int→Int:=Classical.choose (dj (α:=IntKind→Int→Int→Int) (fun k x y=>k.wrap (x.tdiv y)))
theorem Fh:HL=(fun k x y=>k.wrap (x.tdiv y)):=Classical.choose_spec (dj (α:=IntKind→Int→Int→Int) (fun k x y=>k.wrap (x.tdiv y)))
theorem Fg (k x y):HL k x y=k.wrap (x.tdiv y):=by rw[Fh]
def gn:IntKind→Int→Int→Int:=Classical.choose (dj (α:=IntKind→Int→Int→Int) (fun k x y=>x.tmod y))
theorem Fo:gn=(fun k x y=>x.tmod y):=Classical.choose_spec (dj (α:=IntKind→Int→Int→Int) (fun k x y=>x.tmod y))
theorem Ad (k x y):gn k x y=x.tmod y:=by rw[Fo]
def Gx:IntKind→Int→Int→Int:=Classical.choose (dj (α:=IntKind→Int→Int→Int) (fun k x y=>k.wrap (BitVec.ofInt k.bits x &&& BitVec.ofInt k.bits y).toNat))
theorem DG:Gx=(fun k x y=>k.wrap (BitVec.ofInt k.bits x &&& BitVec.ofInt k.bits y).toNat):=Classical.choose_spec (dj (α:=IntKind→Int→Int→Int) (fun k x y=>k.wrap (BitVec.ofInt k.bits x &&& BitVec.ofInt k.bits y).toNat))
theorem ur (k x y):Gx k x y=k.wrap (BitVec.ofInt k.bits x &&& BitVec.ofInt k.bits y).toNat:=by rw[DG]
def NR:IntKind→Int→Int→Int:=Classical.choose (dj (α:=IntKind→Int→Int→Int) (fun k x y=>k.wrap (BitVec.ofInt k.bits x ||| BitVec.ofInt k.bits y).toNat))
theorem HH:NR=(fun k x y=>k.wrap (BitVec.ofInt k.bits x ||| BitVec.ofInt k.bits y).toNat):=Classical.choose_spec (dj (α:=IntKind→Int→Int→Int) (fun k x y=>k.wrap (BitVec.ofInt k.bits x ||| BitVec.ofInt k.bits y).toNat))
theorem yy (k x y):NR k x y=k.wrap (BitVec.ofInt k.bits x ||| BitVec.ofInt k.bits y).toNat:=by rw[HH]
def Iy:IntKind→Int→Int→Int:=Classical.choose (dj (α:=IntKind→Int→Int→Int) (fun k x y=>k.wrap (BitVec.ofInt k.bits x ^^^ BitVec.ofInt k.bits y).toNat))
theorem FX:Iy=(fun k x y=>k.wrap (BitVec.ofInt k.bits x ^^^ BitVec.ofInt k.bits y).toNat):=Classical.choose_spec (dj (α:=IntKind→Int→Int→Int) (fun k x y=>k.wrap (BitVec.ofInt k.bits x ^^^ BitVec.ofInt k.bits y).toNat))
theorem vz (k x y):Iy k x y=k.wrap (BitVec.ofInt k.bits x ^^^ BitVec.ofInt k.bits y).toNat:=by rw[FX]
def Ly:IntKind→Int→Int→Int:=Classical.choose (dj (α:=IntKind→Int→Int→Int) (fun k x y=>k.wrap (BitVec.ofInt k.bits x &&& ~~~(BitVec.ofInt k.bits y)).toNat))
theorem Gu:Ly=(fun k x y=>k.wrap (BitVec.ofInt k.bits x &&& ~~~(BitVec.ofInt k.bits y)).toNat):=Classical.choose_spec (dj (α:=IntKind→Int→Int→Int) (fun k x y=>k.wrap (BitVec.ofInt k.bits x &&& ~~~(BitVec.ofInt k.bits y)).toNat))
theorem xZ (k x y):Ly k x y=k.wrap (BitVec.ofInt k.bits x &&& ~~~(BitVec.ofInt k.bits y)).toNat:=by rw[Gu]
def H3:IntKind→Int→Int→Int:=Classical.choose (dj (α:=IntKind→Int→Int→Int) (fun k x y=>k.wrap (x*2 ^ (min y.toNat k.bits))))
theorem FB:H3=(fun k x y=>k.wrap (x*2 ^ (min y.toNat k.bits))):=Classical.choose_spec (dj (α:=IntKind→Int→Int→Int) (fun k x y=>k.wrap (x*2 ^ (min y.toNat k.bits))))
theorem FA (k x y):H3 k x y=k.wrap (x*2 ^ (min y.toNat k.bits)):=by rw[FB]
def H4:IntKind→Int→Int→Int:=Classical.choose (dj (α:=IntKind→Int→Int→Int) (fun k x y=>x.fdiv (2 ^ (min y.toNat k.bits))))
theorem FD:H4=(fun k x y=>x.fdiv (2 ^ (min y.toNat k.bits))):=Classical.choose_spec (dj (α:=IntKind→Int→Int→Int) (fun k x y=>x.fdiv (2 ^ (min y.toNat k.bits))))
theorem FC (k x y):H4 k x y=x.fdiv (2 ^ (min y.toNat k.bits)):=by rw[FD]
def qH:IntKind→Int→Int:=Classical.choose (dj (α:=IntKind→Int→Int) (fun k x=>k.wrap x))
theorem Ix:qH=(fun k x=>k.wrap x):=Classical.choose_spec (dj (α:=IntKind→Int→Int) (fun k x=>k.wrap x))
theorem sH (k x):qH k x=k.wrap x:=by rw[Ix]
def HC:IntKind→Int→Int:=Classical.choose (dj (α:=IntKind→Int→Int) (fun k x=>k.wrap (0-x)))
theorem ES:HC=(fun k x=>k.wrap (0-x)):=Classical.choose_spec (dj (α:=IntKind→Int→Int) (fun k x=>k.wrap (0-x)))
theorem ER (k x):HC k x=k.wrap (0-x):=by rw[ES]
def aF:Int→Int→Bool:=Classical.choose (dj (α:=Int→Int→Bool) (fun x y=>(x == y)))
theorem G0:aF=(fun x y=>(x == y)):=Classical.choose_spec (dj (α:=Int→Int→Bool) (fun x y=>(x == y)))
theorem bY (x y):aF x y=(x == y):=by rw[G0]
def bA:Int→Int→Bool:=Classical.choose (dj (α:=Int→Int→Bool) (fun x y=>decide (x<y)))
theorem Hw:bA=(fun x y=>decide (x<y)):=Classical.choose_spec (dj (α:=Int→Int→Bool) (fun x y=>decide (x<y)))
theorem cj (x y):bA x y=decide (x<y):=by rw[Hw]
def dA:Int→Int→Bool:=Classical.choose (dj (α:=Int→Int→Bool) (fun x y=>decide (x≤y)))
theorem Ht:dA=(fun x y=>decide (x≤y)):=Classical.choose_spec (dj (α:=Int→Int→Bool) (fun x y=>decide (x≤y)))
theorem er (x y):dA x y=decide (x≤y):=by rw[Ht]
def aD:Bool→Bool:=Classical.choose (dj (α:=Bool→Bool) (fun b=>(!b)))
theorem EU:aD=(fun b=>(!b)):=Classical.choose_spec (dj (α:=Bool→Bool) (fun b=>(!b)))
theorem cL (b):aD b=(!b):=by rw[EU]
def cX:Bool→Bool→Bool:=Classical.choose (dj (α:=Bool→Bool→Bool) (fun a b=>(a && b)))
theorem DF:cX=(fun a b=>(a && b)):=Classical.choose_spec (dj (α:=Bool→Bool→Bool) (fun a b=>(a && b)))
theorem kf (a b):cX a b=(a && b):=by rw[DF]
def Mm:Bool→Bool→Bool:=Classical.choose (dj (α:=Bool→Bool→Bool) (fun a b=>(a == b)))
theorem GZ:Mm=(fun a b=>(a == b)):=Classical.choose_spec (dj (α:=Bool→Bool→Bool) (fun a b=>(a == b)))
theorem GY (a b):Mm a b=(a == b):=by rw[GZ]
def Cz:Int→Int→Int:=Classical.choose (dj (α:=Int→Int→Int) (fun x y=>if y<x then y else x))
theorem EJ:Cz=(fun x y=>if y<x then y else x):=Classical.choose_spec (dj (α:=Int→Int→Int) (fun x y=>if y<x then y else x))
theorem zS (x y):Cz x y=if y<x then y else x:=by rw[EJ]
def Cw:Int→Int→Int:=Classical.choose (dj (α:=Int→Int→Int) (fun x y=>if y > x then y else x))
theorem EH:Cw=(fun x y=>if y > x then y else x):=Classical.choose_spec (dj (α:=Int→Int→Int) (fun x y=>if y > x then y else x))
theorem zR (x y):Cw x y=if y > x then y else x:=by rw[EH]
def br:Int→Nat→Bool:=Classical.choose (dj (α:=Int→Nat→Bool) (fun (i:Int) (n:Nat)=>decide (0≤i∧i<(n:Int))))
theorem Hn:br=(fun (i:Int) (n:Nat)=>decide (0≤i∧i<(n:Int))):=Classical.choose_spec (dj (α:=Int→Nat→Bool) (fun (i:Int) (n:Nat)=>decide (0≤i∧i<(n:Int))))
theorem dW (i n):br i n=decide (0≤i∧i<(n:Int)):=by rw[Hn]
def mN:Int→Nat→Bool:=Classical.choose (dj (α:=Int→Nat→Bool) (fun (i:Int) (n:Nat)=>decide (0≤i∧i≤(n:Int))))
theorem DZ:mN=(fun (i:Int) (n:Nat)=>decide (0≤i∧i≤(n:Int))):=Classical.choose_spec (dj (α:=Int→Nat→Bool) (fun (i:Int) (n:Nat)=>decide (0≤i∧i≤(n:Int))))
theorem uw (i n):mN i n=decide (0≤i∧i≤(n:Int)):=by rw[DZ]
def Gj:Int→Int→Nat→Bool:=Classical.choose (dj (α:=Int→Int→Nat→Bool) (fun l c b=>decide (0≤l∧l≤c∧c.toNat*b≤room∧c.toNat≤room)))
theorem Hz:Gj=(fun l c b=>decide (0≤l∧l≤c∧c.toNat*b≤room∧c.toNat≤room)):=Classical.choose_spec (dj (α:=Int→Int→Nat→Bool) (fun l c b=>decide (0≤l∧l≤c∧c.toNat*b≤room∧c.toNat≤room)))
theorem yu (l c b):Gj l c b=decide (0≤l∧l≤c∧c.toNat*b≤room∧c.toNat≤room):=by rw[Hz]
def fi:Int→Nat:=Classical.choose (dj (α:=Int→Nat) (fun i=>i.toNat))
theorem Is:fi=(fun i=>i.toNat):=Classical.choose_spec (dj (α:=Int→Nat) (fun i=>i.toNat))
theorem ir (i):fi i=i.toNat:=by rw[Is]
def al:Nat→Int→Nat→Nat:=Classical.choose (dj (α:=Nat→Int→Nat→Nat) (fun o i s=>o+i.toNat*s))
theorem Hk:al=(fun o i s=>o+i.toNat*s):=Classical.choose_spec (dj (α:=Nat→Int→Nat→Nat) (fun o i s=>o+i.toNat*s))
theorem bT (o i s):al o i s=o+i.toNat*s:=by rw[Hk]
def au:Nat→Nat→Nat:=Classical.choose (dj (α:=Nat→Nat→Nat) (fun a b=>a+b))
theorem DC:au=(fun a b=>a+b):=Classical.choose_spec (dj (α:=Nat→Nat→Nat) (fun a b=>a+b))
theorem bP (a b):au a b=a+b:=by rw[DC]
def fM:Nat→Nat→Nat:=Classical.choose (dj (α:=Nat→Nat→Nat) (fun a b=>a-b))
theorem FJ:fM=(fun a b=>a-b):=Classical.choose_spec (dj (α:=Nat→Nat→Nat) (fun a b=>a-b))
theorem fh (a b):fM a b=a-b:=by rw[FJ]
def aI:Nat→Nat→Nat:=Classical.choose (dj (α:=Nat→Nat→Nat) (fun a b=>a*b))
theorem EL:aI=(fun a b=>a*b):=Classical.choose_spec (dj (α:=Nat→Nat→Nat) (fun a b=>a*b))
theorem gl (a b):aI a b=a*b:=by rw[EL]
def uS:Nat→Nat→Nat:=Classical.choose (dj (α:=Nat→Nat→Nat) (fun a b=>min a b))
theorem EI:uS=(fun a b=>min a b):=Classical.choose_spec (dj (α:=Nat→Nat→Nat) (fun a b=>min a b))
theorem uT (a b):uS a b=min a b:=by rw[EI]
def bt:Nat→Nat→Bool:=Classical.choose (dj (α:=Nat→Nat→Bool) (fun a b=>decide (a<b)))
theorem Hx:bt=(fun a b=>decide (a<b)):=Classical.choose_spec (dj (α:=Nat→Nat→Bool) (fun a b=>decide (a<b)))
theorem dJ (a b):bt a b=decide (a<b):=by rw[Hx]
def cB:Nat→Nat→Bool:=Classical.choose (dj (α:=Nat→Nat→Bool) (fun a b=>decide (a≤b)))
theorem Hu:cB=(fun a b=>decide (a≤b)):=Classical.choose_spec (dj (α:=Nat→Nat→Bool) (fun a b=>decide (a≤b)))
theorem eB (a b):cB a b=decide (a≤b):=by rw[Hu]
def dH:Nat→Nat→Bool:=Classical.choose (dj (α:=Nat→Nat→Bool) (fun a b=>decide (a=b)))
theorem G2:dH=(fun a b=>decide (a=b)):=Classical.choose_spec (dj (α:=Nat→Nat→Bool) (fun a b=>decide (a=b)))
theorem cu (a b):dH a b=decide (a=b):=by rw[G2]
def kO:Nat→Nat→Nat→Nat→Bool:=Classical.choose (dj (α:=Nat→Nat→Nat→Nat→Bool) (fun o m p n=>decide (p≤o∧o+m≤p+n)))
theorem Hp:kO=(fun o m p n=>decide (p≤o∧o+m≤p+n)):=Classical.choose_spec (dj (α:=Nat→Nat→Nat→Nat→Bool) (fun o m p n=>decide (p≤o∧o+m≤p+n)))
theorem fH (o m p n):kO o m p n=decide (p≤o∧o+m≤p+n):=by rw[Hp]
def Gt:(Nat→AV)→IntKind→Nat→Bool→Prop:=Classical.choose (dj (α:=(Nat→AV)→IntKind→Nat→Bool→Prop) (fun f k sz full=>∀ j,∃ z n m,f j=AV.slcT none (Row.M [aC.arr k z n]) sz m full))
theorem DE:Gt=(fun f k sz full=>∀ j,∃ z n m,f j=AV.slcT none (Row.M [aC.arr k z n]) sz m full):=Classical.choose_spec (dj (α:=(Nat→AV)→IntKind→Nat→Bool→Prop) (fun f k sz full=>∀ j,∃ z n m,f j=AV.slcT none (Row.M [aC.arr k z n]) sz m full))
theorem DD (f k sz full):Gt f k sz full=∀ j,∃ z n m,f j=AV.slcT none (Row.M [aC.arr k z n]) sz m full:=by rw[DE]
def HY:Bool→(Nat→Int)→(Nat→Int)→Nat→Int:=Classical.choose (dj (α:=Bool→(Nat→Int)→(Nat→Int)→Nat→Int) (fun b x y=>cond b x y))
theorem Fy:HY=(fun b x y=>cond b x y):=Classical.choose_spec (dj (α:=Bool→(Nat→Int)→(Nat→Int)→Nat→Int) (fun b x y=>cond b x y))
theorem Fx (b x y):HY b x y=cond b x y:=by rw[Fy]
def Fu:Bool→Nat→Nat→Nat:=Classical.choose (dj (α:=Bool→Nat→Nat→Nat) (fun b x y=>cond b x y))
theorem Fw:Fu=(fun b x y=>cond b x y):=Classical.choose_spec (dj (α:=Bool→Nat→Nat→Nat) (fun b x y=>cond b x y))
theorem Fv (b x y):Fu b x y=cond b x y:=by rw[Fw]
def gx:Nat→Nat→Nat→Bool:=Classical.choose (dj (α:=Nat→Nat→Nat→Bool) (fun m n b=>decide ((m+n)*b≤room∧m+n≤room)))
theorem C0:gx=(fun m n b=>decide ((m+n)*b≤room∧m+n≤room)):=Classical.choose_spec (dj (α:=Nat→Nat→Nat→Bool) (fun m n b=>decide ((m+n)*b≤room∧m+n≤room)))
theorem xu (m n b):gx m n b=decide ((m+n)*b≤room∧m+n≤room):=by rw[C0]
def fO:(Nat→Int)→Nat→Int→Nat→Int:=Classical.choose (dj (α:=(Nat→Int)→Nat→Int→Nat→Int) (fun z i x=>fun j=>if j=i then x else z j))
theorem eF:fO=(fun z i x=>fun j=>if j=i then x else z j):=Classical.choose_spec (dj (α:=(Nat→Int)→Nat→Int→Nat→Int) (fun z i x=>fun j=>if j=i then x else z j))
def nv:(Nat→Int)→Nat→Nat→Int:=Classical.choose (dj (α:=(Nat→Int)→Nat→Nat→Int) (fun z o=>fun j=>z (o+j)))
theorem jF:nv=(fun z o=>fun j=>z (o+j)):=Classical.choose_spec (dj (α:=(Nat→Int)→Nat→Nat→Int) (fun z o=>fun j=>z (o+j)))
def uy:(Nat→Int)→Nat→(Nat→Int)→Nat→Nat→Int:=Classical.choose (dj (α:=(Nat→Int)→Nat→(Nat→Int)→Nat→Nat→Int) (fun z o z' n=>vR z o z' n))
theorem ze:uy=(fun z o z' n=>vR z o z' n):=Classical.choose_spec (dj (α:=(Nat→Int)→Nat→(Nat→Int)→Nat→Nat→Int) (fun z o z' n=>vR z o z' n))
theorem zc (z o z' n):uy z o z' n=vR z o z' n:=by rw[ze]
def qe:(Nat→Int)→Nat→(Nat→Int)→Nat→Int:=Classical.choose (dj (α:=(Nat→Int)→Nat→(Nat→Int)→Nat→Int) (fun z n z'=>fun i=>if i<n then z i else z' (i-n)))
theorem qm:qe=(fun z n z'=>fun i=>if i<n then z i else z' (i-n)):=Classical.choose_spec (dj (α:=(Nat→Int)→Nat→(Nat→Int)→Nat→Int) (fun z n z'=>fun i=>if i<n then z i else z' (i-n)))
def A7:List Int→Nat:=Classical.choose (dj (α:=List Int→Nat) (fun l=>l.length))
theorem EB:A7=(fun l=>l.length):=Classical.choose_spec (dj (α:=List Int→Nat) (fun l=>l.length))
theorem zL (l):A7 l=l.length:=by rw[EB]
def bE:List Int→Nat→Int:=Classical.choose (dj (α:=List Int→Nat→Int) (fun l=>fun j=>l.getD j 0))
theorem gL:bE=(fun l=>fun j=>l.getD j 0):=Classical.choose_spec (dj (α:=List Int→Nat→Int) (fun l=>fun j=>l.getD j 0))
theorem EF (l):bE l=fun j=>l.getD j 0:=by rw[gL]
def oN:(Nat→Int)→(Nat→Int)→Nat→Bool:=Classical.choose (dj (α:=(Nat→Int)→(Nat→Int)→Nat→Bool) (fun z z' n=>allEq z z' n))
theorem tx:oN=(fun z z' n=>allEq z z' n):=Classical.choose_spec (dj (α:=(Nat→Int)→(Nat→Int)→Nat→Bool) (fun z z' n=>allEq z z' n))
theorem AA (z z' n):oN z z' n=allEq z z' n:=by rw[tx]
def df:(Int→Bool)→Int→Bool→Int→Bool:=Classical.choose (dj (α:=(Int→Bool)→Int→Bool→Int→Bool) (fun h n b=>di h n b))
theorem Da:df=(fun h n b=>di h n b):=Classical.choose_spec (dj (α:=(Int→Bool)→Int→Bool→Int→Bool) (fun h n b=>di h n b))
theorem g9 (h n b):df h n b=di h n b:=by rw[Da]
def dF:(Int→Int)→Int→Int→Int→Int:=Classical.choose (dj (α:=(Int→Int)→Int→Int→Int→Int) (fun g n x=>gq g n x))
theorem Db:dF=(fun g n x=>gq g n x):=Classical.choose_spec (dj (α:=(Int→Int)→Int→Int→Int→Int) (fun g n x=>gq g n x))
theorem j7 (g n x):dF g n x=gq g n x:=by rw[Db]
def fP:Bool→Nat→Nat:=Classical.choose (dj (α:=Bool→Nat→Nat) (fun b c=>qh b c))
theorem BU:fP=(fun b c=>qh b c):=Classical.choose_spec (dj (α:=Bool→Nat→Nat) (fun b c=>qh b c))
theorem nE (b c):fP b c=qh b c:=by rw[BU]
def lf:Bool→Nat→Nat:=Classical.choose (dj (α:=Bool→Nat→Nat) (fun b c=>sR b c))
theorem BV:lf=(fun b c=>sR b c):=Classical.choose_spec (dj (α:=Bool→Nat→Nat) (fun b c=>sR b c))
theorem vP (b c):lf b c=sR b c:=by rw[BV]

end
end Go.Eng
