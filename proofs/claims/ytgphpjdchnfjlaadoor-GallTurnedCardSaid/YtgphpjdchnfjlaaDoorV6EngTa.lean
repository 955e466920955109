/- The engine as a tree: runs over values that are not known, as trees of tests. Operations that the kernel does not look into. -/
import Derived.Test.YtgphpjdchnfjlaaDoorV6EngXx4
set_option linter.unusedVariables false
set_option linter.unusedSimpArgs false
namespace Go.Eng
noncomputable section

inductive Tr (α:Type) where
 | ok (a:α)
 | bad
 | ite (c:Bool) (t e:Tr α)
 | req (c:Bool) (t:Tr α)
 | reqP (p:Prop) (t:Tr α)
open Classical in
def Tr.run {α:Type}:Tr α→Option α
 | .ok a=>some a
 | .bad=>none
 | .ite c t e=>cond c t.run e.run
 | .req c t=>cond c t.run none
 | .reqP p t=>if p then t.run else none
def Tr.bind {α β:Type} (t:Tr α) (f:α→Tr β):Tr β:=Tr.rec (motive:=fun _=>Tr β) f .bad (fun c _ _ a b=>.ite c a b) (fun c _ a=>.req c a) (fun p _ a=>.reqP p a) t
theorem Tr.F4 {α β:Type} (t:Tr α) (f:α→Tr β):(t.bind f).run=t.run.bind fun a=>(f a).run:=by
 induction t with
 | ok a=>rfl
 | bad=>rfl
 | ite c a b iha ihb =>
   have e:(Tr.ite c a b).bind f=.ite c (a.bind f) (b.bind f):=rfl;rw[e];simp only[Tr.run,iha,ihb];cases c<;>rfl
 | req c a ih =>
   have e:(Tr.req c a).bind f=.req c (a.bind f):=rfl;rw[e];simp only[Tr.run,ih];cases c<;>rfl
 | reqP p a ih =>
   have e:(Tr.reqP p a).bind f=.reqP p (a.bind f):=rfl;rw[e];simp only[Tr.run,ih];by_cases hp:p
   · rw[if_pos hp,if_pos hp]
   · rw[if_neg hp,if_neg hp];rfl
theorem Tr.gL {α:Type} {p:Prop} {t:Tr α} {x:α} (h:(Tr.reqP p t).run=some x):p∧t.run=some x:=by
 simp only[Tr.run] at h;by_cases hp:p
 · rw[if_pos hp] at h;exact ⟨hp,h⟩
 · rw[if_neg hp] at h;cases h
theorem Tr.HW {α:Type} {p:Prop} {a:Tr α} (h:p):(Tr.reqP p a).run=a.run:=by simp only[Tr.run];rw[if_pos h]
theorem Tr.bind_some {α β:Type} {t:Tr α} {f:α→Tr β} {y:β} (h:(t.bind f).run=some y):∃ x,t.run=some x∧(f x).run=some y:=by
 rw[Tr.F4] at h;exact Option.bind_eq_some_iff.1 h
theorem Tr.aW {α:Type} {c:Bool} {t:Tr α} {x:α} (h:(Tr.req c t).run=some x):c=true∧t.run=some x:=by
 cases c with
 | true=>exact ⟨rfl,h⟩
 | false=>simp[Tr.run] at h
theorem Tr.kL {α:Type} {c:Bool} {t e:Tr α} {x:α} (h:(Tr.ite c t e).run=some x):(c=true∧t.run=some x)∨(c=false∧e.run=some x):=by
 cases c with
 | true=>exact .inl ⟨rfl,h⟩
 | false=>exact .inr ⟨rfl,h⟩
theorem Tr.ae {α:Type} {a x:α} (h:(Tr.ok a).run=some x):a=x:=Option.some.inj h
theorem Tr.ah {α:Type} {x:α} (h:(Tr.bad:Tr α).run=some x):False:=by simp[Tr.run] at h
def wB {α:Type} (o:Option α):Tr α:=Option.rec (motive:=fun _=>Tr α) .bad .ok o
theorem di {α:Type} (o:Option α):(wB o).run=o:=by cases o<;>rfl
theorem dm {α:Type} (f:α):∃ g,g=f:=⟨f,rfl⟩

def bm:IntKind→Int→Int→Int:=Classical.choose (dm (α:=IntKind→Int→Int→Int) (fun k x y=>k.wrap (x+y)))
theorem IL:bm=(fun k x y=>k.wrap (x+y)):=Classical.choose_spec (dm (α:=IntKind→Int→Int→Int) (fun k x y=>k.wrap (x+y)))
theorem fX (k x y):bm k x y=k.wrap (x+y):=by rw[IL]
def aV:IntKind→Int→Int→Int:=Classical.choose (dm (α:=IntKind→Int→Int→Int) (fun k x y=>k.wrap (x-y)))
theorem KF:aV=(fun k x y=>k.wrap (x-y)):=Classical.choose_spec (dm (α:=IntKind→Int→Int→Int) (fun k x y=>k.wrap (x-y)))
theorem eI (k x y):aV k x y=k.wrap (x-y):=by rw[KF]
def qJ:IntKind→Int→Int→Int:=Classical.choose (dm (α:=IntKind→Int→Int→Int) (fun k x y=>k.wrap (x*y)))
theorem JS:qJ=(fun k x y=>k.wrap (x*y)):=Classical.choose_spec (dm (α:=IntKind→Int→Int→Int) (fun k x y=>k.wrap (x*y)))
theorem pH (k x y):qJ k x y=k.wrap (x*y):=by rw[JS]
def Fi:IntKind→Int→Int→Int:=Classical.choose (dm (α:=IntKind→Int→Int→Int) (fun k x y=>k.wrap (x.tdiv y)))
theorem Kg:Fi=(fun k x y=>k.wrap (x.tdiv y)):=Classical.choose_spec (dm (α:=IntKind→Int→Int→Int) (fun k x y=>k.wrap (x.tdiv y)))
theorem DZ (k x y):Fi k x y=k.wrap (x.tdiv y):=by rw[Kg]
def lQ:IntKind→Int→Int→Int:=Classical.choose (dm (α:=IntKind→Int→Int→Int) (fun k x y=>x.tmod y))
theorem Kk:lQ=(fun k x y=>x.tmod y):=Classical.choose_spec (dm (α:=IntKind→Int→Int→Int) (fun k x y=>x.tmod y))
theorem sj (k x y):lQ k x y=x.tmod y:=by rw[Kk]
def qd:IntKind→Int→Int→Int:=Classical.choose (dm (α:=IntKind→Int→Int→Int) (fun k x y=>k.wrap (BitVec.ofInt k.bits x &&& BitVec.ofInt k.bits y).toNat))
theorem IT:qd=(fun k x y=>k.wrap (BitVec.ofInt k.bits x &&& BitVec.ofInt k.bits y).toNat):=Classical.choose_spec (dm (α:=IntKind→Int→Int→Int) (fun k x y=>k.wrap (BitVec.ofInt k.bits x &&& BitVec.ofInt k.bits y).toNat))
theorem rN (k x y):qd k x y=k.wrap (BitVec.ofInt k.bits x &&& BitVec.ofInt k.bits y).toNat:=by rw[IT]
def wC:IntKind→Int→Int→Int:=Classical.choose (dm (α:=IntKind→Int→Int→Int) (fun k x y=>k.wrap (BitVec.ofInt k.bits x ||| BitVec.ofInt k.bits y).toNat))
theorem NV:wC=(fun k x y=>k.wrap (BitVec.ofInt k.bits x ||| BitVec.ofInt k.bits y).toNat):=Classical.choose_spec (dm (α:=IntKind→Int→Int→Int) (fun k x y=>k.wrap (BitVec.ofInt k.bits x ||| BitVec.ofInt k.bits y).toNat))
theorem ui (k x y):wC k x y=k.wrap (BitVec.ofInt k.bits x ||| BitVec.ofInt k.bits y).toNat:=by rw[NV]
def OP:IntKind→Int→Int→Int:=Classical.choose (dm (α:=IntKind→Int→Int→Int) (fun k x y=>k.wrap (BitVec.ofInt k.bits x ^^^ BitVec.ofInt k.bits y).toNat))
theorem KR:OP=(fun k x y=>k.wrap (BitVec.ofInt k.bits x ^^^ BitVec.ofInt k.bits y).toNat):=Classical.choose_spec (dm (α:=IntKind→Int→Int→Int) (fun k x y=>k.wrap (BitVec.ofInt k.bits x ^^^ BitVec.ofInt k.bits y).toNat))
theorem ya (k x y):OP k x y=k.wrap (BitVec.ofInt k.bits x ^^^ BitVec.ofInt k.bits y).toNat:=by rw[KR]
def FQ:IntKind→Int→Int→Int:=Classical.choose (dm (α:=IntKind→Int→Int→Int) (fun k x y=>k.wrap (BitVec.ofInt k.bits x &&& ~~~(BitVec.ofInt k.bits y)).toNat))
theorem MH:FQ=(fun k x y=>k.wrap (BitVec.ofInt k.bits x &&& ~~~(BitVec.ofInt k.bits y)).toNat):=Classical.choose_spec (dm (α:=IntKind→Int→Int→Int) (fun k x y=>k.wrap (BitVec.ofInt k.bits x &&& ~~~(BitVec.ofInt k.bits y)).toNat))
theorem sw (k x y):FQ k x y=k.wrap (BitVec.ofInt k.bits x &&& ~~~(BitVec.ofInt k.bits y)).toNat:=by rw[MH]
def fU:IntKind→Int→Int→Int:=Classical.choose (dm (α:=IntKind→Int→Int→Int) (fun k x y=>k.wrap (x*2 ^ (min y.toNat k.bits))))
theorem KA:fU=(fun k x y=>k.wrap (x*2 ^ (min y.toNat k.bits))):=Classical.choose_spec (dm (α:=IntKind→Int→Int→Int) (fun k x y=>k.wrap (x*2 ^ (min y.toNat k.bits))))
theorem xZ (k x y):fU k x y=k.wrap (x*2 ^ (min y.toNat k.bits)):=by rw[KA]
def Of:IntKind→Int→Int→Int:=Classical.choose (dm (α:=IntKind→Int→Int→Int) (fun k x y=>x.fdiv (2 ^ (min y.toNat k.bits))))
theorem KC:Of=(fun k x y=>x.fdiv (2 ^ (min y.toNat k.bits))):=Classical.choose_spec (dm (α:=IntKind→Int→Int→Int) (fun k x y=>x.fdiv (2 ^ (min y.toNat k.bits))))
theorem KB (k x y):Of k x y=x.fdiv (2 ^ (min y.toNat k.bits)):=by rw[KC]
def FE:IntKind→Int→Int:=Classical.choose (dm (α:=IntKind→Int→Int) (fun k x=>k.wrap x))
theorem OM:FE=(fun k x=>k.wrap x):=Classical.choose_spec (dm (α:=IntKind→Int→Int) (fun k x=>k.wrap x))
theorem Iu (k x):FE k x=k.wrap x:=by rw[OM]
def Hg:IntKind→Int→Int:=Classical.choose (dm (α:=IntKind→Int→Int) (fun k x=>k.wrap (0-x)))
theorem JX:Hg=(fun k x=>k.wrap (0-x)):=Classical.choose_spec (dm (α:=IntKind→Int→Int) (fun k x=>k.wrap (0-x)))
theorem DC (k x):Hg k x=k.wrap (0-x):=by rw[JX]
def bV:Int→Int→Bool:=Classical.choose (dm (α:=Int→Int→Bool) (fun x y=>(x == y)))
theorem Na:bV=(fun x y=>(x == y)):=Classical.choose_spec (dm (α:=Int→Int→Bool) (fun x y=>(x == y)))
theorem bg (x y):bV x y=(x == y):=by rw[Na]
def bE:Int→Int→Bool:=Classical.choose (dm (α:=Int→Int→Bool) (fun x y=>decide (x<y)))
theorem NG:bE=(fun x y=>decide (x<y)):=Classical.choose_spec (dm (α:=Int→Int→Bool) (fun x y=>decide (x<y)))
theorem bS (x y):bE x y=decide (x<y):=by rw[NG]
def dQ:Int→Int→Bool:=Classical.choose (dm (α:=Int→Int→Bool) (fun x y=>decide (x≤y)))
theorem NA:dQ=(fun x y=>decide (x≤y)):=Classical.choose_spec (dm (α:=Int→Int→Bool) (fun x y=>decide (x≤y)))
theorem bu (x y):dQ x y=decide (x≤y):=by rw[NA]
def aQ:Bool→Bool:=Classical.choose (dm (α:=Bool→Bool) (fun b=>(!b)))
theorem J1:aQ=(fun b=>(!b)):=Classical.choose_spec (dm (α:=Bool→Bool) (fun b=>(!b)))
theorem aH (b):aQ b=(!b):=by rw[J1]
def cr:Bool→Bool→Bool:=Classical.choose (dm (α:=Bool→Bool→Bool) (fun a b=>(a && b)))
theorem IS:cr=(fun a b=>(a && b)):=Classical.choose_spec (dm (α:=Bool→Bool→Bool) (fun a b=>(a && b)))
theorem ct (a b):cr a b=(a && b):=by rw[IS]
def Sa:Bool→Bool→Bool:=Classical.choose (dm (α:=Bool→Bool→Bool) (fun a b=>(a == b)))
theorem M9:Sa=(fun a b=>(a == b)):=Classical.choose_spec (dm (α:=Bool→Bool→Bool) (fun a b=>(a == b)))
theorem M8 (a b):Sa a b=(a == b):=by rw[M9]
def zw:Int→Int→Int:=Classical.choose (dm (α:=Int→Int→Int) (fun x y=>if y<x then y else x))
theorem JQ:zw=(fun x y=>if y<x then y else x):=Classical.choose_spec (dm (α:=Int→Int→Int) (fun x y=>if y<x then y else x))
theorem sc (x y):zw x y=if y<x then y else x:=by rw[JQ]
def vA:Int→Int→Int:=Classical.choose (dm (α:=Int→Int→Int) (fun x y=>if y > x then y else x))
theorem JN:vA=(fun x y=>if y > x then y else x):=Classical.choose_spec (dm (α:=Int→Int→Int) (fun x y=>if y > x then y else x))
theorem sb (x y):vA x y=if y > x then y else x:=by rw[JN]
def cQ:Int→Nat→Bool:=Classical.choose (dm (α:=Int→Nat→Bool) (fun (i:Int) (n:Nat)=>decide (0≤i∧i<(n:Int))))
theorem Ns:cQ=(fun (i:Int) (n:Nat)=>decide (0≤i∧i<(n:Int))):=Classical.choose_spec (dm (α:=Int→Nat→Bool) (fun (i:Int) (n:Nat)=>decide (0≤i∧i<(n:Int))))
theorem qv (i n):cQ i n=decide (0≤i∧i<(n:Int)):=by rw[Ns]
def lh:Int→Nat→Bool:=Classical.choose (dm (α:=Int→Nat→Bool) (fun (i:Int) (n:Nat)=>decide (0≤i∧i≤(n:Int))))
theorem I2:lh=(fun (i:Int) (n:Nat)=>decide (0≤i∧i≤(n:Int))):=Classical.choose_spec (dm (α:=Int→Nat→Bool) (fun (i:Int) (n:Nat)=>decide (0≤i∧i≤(n:Int))))
theorem CQ (i n):lh i n=decide (0≤i∧i≤(n:Int)):=by rw[I2]
def FL:Int→Int→Nat→Bool:=Classical.choose (dm (α:=Int→Int→Nat→Bool) (fun l c b=>decide (0≤l∧l≤c∧c.toNat*b≤room∧c.toNat≤room)))
theorem NL:FL=(fun l c b=>decide (0≤l∧l≤c∧c.toNat*b≤room∧c.toNat≤room)):=Classical.choose_spec (dm (α:=Int→Int→Nat→Bool) (fun l c b=>decide (0≤l∧l≤c∧c.toNat*b≤room∧c.toNat≤room)))
theorem B6 (l c b):FL l c b=decide (0≤l∧l≤c∧c.toNat*b≤room∧c.toNat≤room):=by rw[NL]
def cC:Int→Nat:=Classical.choose (dm (α:=Int→Nat) (fun i=>i.toNat))
theorem Ox:cC=(fun i=>i.toNat):=Classical.choose_spec (dm (α:=Int→Nat) (fun i=>i.toNat))
theorem lX (i):cC i=i.toNat:=by rw[Ox]
def au:Nat→Int→Nat→Nat:=Classical.choose (dm (α:=Nat→Int→Nat→Nat) (fun o i s=>o+i.toNat*s))
theorem Nq:au=(fun o i s=>o+i.toNat*s):=Classical.choose_spec (dm (α:=Nat→Int→Nat→Nat) (fun o i s=>o+i.toNat*s))
theorem bt (o i s):au o i s=o+i.toNat*s:=by rw[Nq]
def ar:Nat→Nat→Nat:=Classical.choose (dm (α:=Nat→Nat→Nat) (fun a b=>a+b))
theorem IM:ar=(fun a b=>a+b):=Classical.choose_spec (dm (α:=Nat→Nat→Nat) (fun a b=>a+b))
theorem aI (a b):ar a b=a+b:=by rw[IM]
def c9:Nat→Nat→Nat:=Classical.choose (dm (α:=Nat→Nat→Nat) (fun a b=>a-b))
theorem KH:c9=(fun a b=>a-b):=Classical.choose_spec (dm (α:=Nat→Nat→Nat) (fun a b=>a-b))
theorem dj (a b):c9 a b=a-b:=by rw[KH]
def bR:Nat→Nat→Nat:=Classical.choose (dm (α:=Nat→Nat→Nat) (fun a b=>a*b))
theorem JT:bR=(fun a b=>a*b):=Classical.choose_spec (dm (α:=Nat→Nat→Nat) (fun a b=>a*b))
theorem nq (a b):bR a b=a*b:=by rw[JT]
def JO:Nat→Nat→Nat:=Classical.choose (dm (α:=Nat→Nat→Nat) (fun a b=>min a b))
theorem JP:JO=(fun a b=>min a b):=Classical.choose_spec (dm (α:=Nat→Nat→Nat) (fun a b=>min a b))
theorem DA (a b):JO a b=min a b:=by rw[JP]
def cK:Nat→Nat→Bool:=Classical.choose (dm (α:=Nat→Nat→Bool) (fun a b=>decide (a<b)))
theorem NH:cK=(fun a b=>decide (a<b)):=Classical.choose_spec (dm (α:=Nat→Nat→Bool) (fun a b=>decide (a<b)))
theorem iK (a b):cK a b=decide (a<b):=by rw[NH]
def eU:Nat→Nat→Bool:=Classical.choose (dm (α:=Nat→Nat→Bool) (fun a b=>decide (a≤b)))
theorem NB:eU=(fun a b=>decide (a≤b)):=Classical.choose_spec (dm (α:=Nat→Nat→Bool) (fun a b=>decide (a≤b)))
theorem lD (a b):eU a b=decide (a≤b):=by rw[NB]
def cg:Nat→Nat→Bool:=Classical.choose (dm (α:=Nat→Nat→Bool) (fun a b=>decide (a=b)))
theorem Nb:cg=(fun a b=>decide (a=b)):=Classical.choose_spec (dm (α:=Nat→Nat→Bool) (fun a b=>decide (a=b)))
theorem fZ (a b):cg a b=decide (a=b):=by rw[Nb]
def dN:Nat→Nat→Nat→Nat→Bool:=Classical.choose (dm (α:=Nat→Nat→Nat→Nat→Bool) (fun o m p n=>decide (p≤o∧o+m≤p+n)))
theorem Nu:dN=(fun o m p n=>decide (p≤o∧o+m≤p+n)):=Classical.choose_spec (dm (α:=Nat→Nat→Nat→Nat→Bool) (fun o m p n=>decide (p≤o∧o+m≤p+n)))
theorem kh (o m p n):dN o m p n=decide (p≤o∧o+m≤p+n):=by rw[Nu]
def MG:(Nat→AV)→IntKind→Nat→Bool→Prop:=Classical.choose (dm (α:=(Nat→AV)→IntKind→Nat→Bool→Prop) (fun f k sz full=>∀ j,∃ z n m,f j=AV.slcT none (Row.M [dp.arr k z n]) sz m full))
theorem IQ:MG=(fun f k sz full=>∀ j,∃ z n m,f j=AV.slcT none (Row.M [dp.arr k z n]) sz m full):=Classical.choose_spec (dm (α:=(Nat→AV)→IntKind→Nat→Bool→Prop) (fun f k sz full=>∀ j,∃ z n m,f j=AV.slcT none (Row.M [dp.arr k z n]) sz m full))
theorem IP (f k sz full):MG f k sz full=∀ j,∃ z n m,f j=AV.slcT none (Row.M [dp.arr k z n]) sz m full:=by rw[IQ]
def Oc:Bool→(Nat→Int)→(Nat→Int)→Nat→Int:=Classical.choose (dm (α:=Bool→(Nat→Int)→(Nat→Int)→Nat→Int) (fun b x y=>cond b x y))
theorem Kx:Oc=(fun b x y=>cond b x y):=Classical.choose_spec (dm (α:=Bool→(Nat→Int)→(Nat→Int)→Nat→Int) (fun b x y=>cond b x y))
theorem Kw (b x y):Oc b x y=cond b x y:=by rw[Kx]
def Kt:Bool→Nat→Nat→Nat:=Classical.choose (dm (α:=Bool→Nat→Nat→Nat) (fun b x y=>cond b x y))
theorem Kv:Kt=(fun b x y=>cond b x y):=Classical.choose_spec (dm (α:=Bool→Nat→Nat→Nat) (fun b x y=>cond b x y))
theorem Ku (b x y):Kt b x y=cond b x y:=by rw[Kv]
def eT:Nat→Nat→Nat→Bool:=Classical.choose (dm (α:=Nat→Nat→Nat→Bool) (fun m n b=>decide ((m+n)*b≤room∧m+n≤room)))
theorem HQ:eT=(fun m n b=>decide ((m+n)*b≤room∧m+n≤room)):=Classical.choose_spec (dm (α:=Nat→Nat→Nat→Bool) (fun m n b=>decide ((m+n)*b≤room∧m+n≤room)))
theorem zY (m n b):eT m n b=decide ((m+n)*b≤room∧m+n≤room):=by rw[HQ]
def eB:(Nat→Int)→Nat→Int→Nat→Int:=Classical.choose (dm (α:=(Nat→Int)→Nat→Int→Nat→Int) (fun z i x=>fun j=>if j=i then x else z j))
theorem so:eB=(fun z i x=>fun j=>if j=i then x else z j):=Classical.choose_spec (dm (α:=(Nat→Int)→Nat→Int→Nat→Int) (fun z i x=>fun j=>if j=i then x else z j))
theorem j8 (z i x):eB z i x=fun j=>if j=i then x else z j:=by rw[so]
def jI:(Nat→Int)→Nat→Nat→Int:=Classical.choose (dm (α:=(Nat→Int)→Nat→Nat→Int) (fun z o=>fun j=>z (o+j)))
theorem m5:jI=(fun z o=>fun j=>z (o+j)):=Classical.choose_spec (dm (α:=(Nat→Int)→Nat→Nat→Int) (fun z o=>fun j=>z (o+j)))
def o5:(Nat→Int)→Nat→(Nat→Int)→Nat→Nat→Int:=Classical.choose (dm (α:=(Nat→Int)→Nat→(Nat→Int)→Nat→Nat→Int) (fun z o z' n=>yr z o z' n))
theorem Ji:o5=(fun z o z' n=>yr z o z' n):=Classical.choose_spec (dm (α:=(Nat→Int)→Nat→(Nat→Int)→Nat→Nat→Int) (fun z o z' n=>yr z o z' n))
theorem w7 (z o z' n):o5 z o z' n=yr z o z' n:=by rw[Ji]
def mb:(Nat→Int)→Nat→(Nat→Int)→Nat→Int:=Classical.choose (dm (α:=(Nat→Int)→Nat→(Nat→Int)→Nat→Int) (fun z n z'=>fun i=>if i<n then z i else z' (i-n)))
theorem gS:mb=(fun z n z'=>fun i=>if i<n then z i else z' (i-n)):=Classical.choose_spec (dm (α:=(Nat→Int)→Nat→(Nat→Int)→Nat→Int) (fun z n z'=>fun i=>if i<n then z i else z' (i-n)))
def JG:List Int→Nat:=Classical.choose (dm (α:=List Int→Nat) (fun l=>l.length))
theorem JH:JG=(fun l=>l.length):=Classical.choose_spec (dm (α:=List Int→Nat) (fun l=>l.length))
theorem Du (l):JG l=l.length:=by rw[JH]
def aC:List Int→Nat→Int:=Classical.choose (dm (α:=List Int→Nat→Int) (fun l=>fun j=>l.getD j 0))
theorem lG:aC=(fun l=>fun j=>l.getD j 0):=Classical.choose_spec (dm (α:=List Int→Nat→Int) (fun l=>fun j=>l.getD j 0))
theorem fz (l):aC l=fun j=>l.getD j 0:=by rw[lG]
def ml:(Nat→Int)→(Nat→Int)→Nat→Bool:=Classical.choose (dm (α:=(Nat→Int)→(Nat→Int)→Nat→Bool) (fun z z' n=>allEq z z' n))
theorem Es:ml=(fun z z' n=>allEq z z' n):=Classical.choose_spec (dm (α:=(Nat→Int)→(Nat→Int)→Nat→Bool) (fun z z' n=>allEq z z' n))
theorem vO (z z' n):ml z z' n=allEq z z' n:=by rw[Es]
def mZ:(List Int→Bool)→List Int→Bool→List Int→Bool:=Classical.choose (dm (α:=(List Int→Bool)→List Int→Bool→List Int→Bool) (fun h n b=>fG h n b))
theorem H7:mZ=(fun h n b=>fG h n b):=Classical.choose_spec (dm (α:=(List Int→Bool)→List Int→Bool→List Int→Bool) (fun h n b=>fG h n b))
theorem iA (h n b):mZ h n b=fG h n b:=by rw[H7]
def m4:(List Int→Int)→List Int→Int→List Int→Int:=Classical.choose (dm (α:=(List Int→Int)→List Int→Int→List Int→Int) (fun g n x=>jd g n x))
theorem H8:m4=(fun g n x=>jd g n x):=Classical.choose_spec (dm (α:=(List Int→Int)→List Int→Int→List Int→Int) (fun g n x=>jd g n x))
theorem iB (g n x):m4 g n x=jd g n x:=by rw[H8]
def qZ:Bool→Nat→Nat:=Classical.choose (dm (α:=Bool→Nat→Nat) (fun b c=>vi b c))
theorem Gi:qZ=(fun b c=>vi b c):=Classical.choose_spec (dm (α:=Bool→Nat→Nat) (fun b c=>vi b c))
theorem mw (b c):qZ b c=vi b c:=by rw[Gi]
def yq:Bool→Nat→Nat:=Classical.choose (dm (α:=Bool→Nat→Nat) (fun b c=>yp b c))
theorem Gj:yq=(fun b c=>yp b c):=Classical.choose_spec (dm (α:=Bool→Nat→Nat) (fun b c=>yp b c))
theorem sL (b c):yq b c=yp b c:=by rw[Gj]

end
end Go.Eng
