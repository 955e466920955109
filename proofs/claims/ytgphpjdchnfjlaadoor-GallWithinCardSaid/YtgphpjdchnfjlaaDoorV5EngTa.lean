/- The engine as a tree: runs over values that are not known, as trees of tests. Operations that the kernel does not look into. -/
import Derived.Test.YtgphpjdchnfjlaaDoorV5EngXx4
set_option linter.unusedVariables false
set_option linter.unusedSimpArgs false
namespace Go.Eng
noncomputable section

inductive Tr (α:Type) where
 | ok (a:α)
 | bad
 | ite (c:Bool) (t e:Tr α)
 | req (c:Bool) (t:Tr α)
 | reqP (p:Prop) (t:Tr α)
open Classical in
def Tr.run {α:Type}:Tr α→Option α
 | .ok a=>some a
 | .bad=>none
 | .ite c t e=>cond c t.run e.run
 | .req c t=>cond c t.run none
 | .reqP p t=>if p then t.run else none
def Tr.bind {α β:Type} (t:Tr α) (f:α→Tr β):Tr β:=Tr.rec (motive:=fun _=>Tr β) f .bad (fun c _ _ a b=>.ite c a b) (fun c _ a=>.req c a) (fun p _ a=>.reqP p a) t
theorem Tr.FO {α β:Type} (t:Tr α) (f:α→Tr β):(t.bind f).run=t.run.bind fun a=>(f a).run:=by
 induction t with
 | ok a=>rfl
 | bad=>rfl
 | ite c a b iha ihb =>
   have e:(Tr.ite c a b).bind f=.ite c (a.bind f) (b.bind f):=rfl;rw[e];simp only[Tr.run,iha,ihb];cases c<;>rfl
 | req c a ih =>
   have e:(Tr.req c a).bind f=.req c (a.bind f):=rfl;rw[e];simp only[Tr.run,ih];cases c<;>rfl
 | reqP p a ih =>
   have e:(Tr.reqP p a).bind f=.reqP p (a.bind f):=rfl;rw[e];simp only[Tr.run,ih];by_cases hp:p
   · rw[if_pos hp,if_pos hp]
   · rw[if_neg hp,if_neg hp];rfl
theorem Tr.gM {α:Type} {p:Prop} {t:Tr α} {x:α} (h:(Tr.reqP p t).run=some x):p∧t.run=some x:=by
 simp only[Tr.run] at h;by_cases hp:p
 · rw[if_pos hp] at h;exact ⟨hp,h⟩
 · rw[if_neg hp] at h;cases h
theorem Tr.Hz {α:Type} {p:Prop} {a:Tr α} (h:p):(Tr.reqP p a).run=a.run:=by simp only[Tr.run];rw[if_pos h]
theorem Tr.bind_some {α β:Type} {t:Tr α} {f:α→Tr β} {y:β} (h:(t.bind f).run=some y):∃ x,t.run=some x∧(f x).run=some y:=by
 rw[Tr.FO] at h;exact Option.bind_eq_some_iff.1 h
theorem Tr.aX {α:Type} {c:Bool} {t:Tr α} {x:α} (h:(Tr.req c t).run=some x):c=true∧t.run=some x:=by
 cases c with
 | true=>exact ⟨rfl,h⟩
 | false=>simp[Tr.run] at h
theorem Tr.kD {α:Type} {c:Bool} {t e:Tr α} {x:α} (h:(Tr.ite c t e).run=some x):(c=true∧t.run=some x)∨(c=false∧e.run=some x):=by
 cases c with
 | true=>exact .inl ⟨rfl,h⟩
 | false=>exact .inr ⟨rfl,h⟩
theorem Tr.af {α:Type} {a x:α} (h:(Tr.ok a).run=some x):a=x:=Option.some.inj h
theorem Tr.ai {α:Type} {x:α} (h:(Tr.bad:Tr α).run=some x):False:=by simp[Tr.run] at h
def wj {α:Type} (o:Option α):Tr α:=Option.rec (motive:=fun _=>Tr α) .bad .ok o
theorem dp {α:Type} (o:Option α):(wj o).run=o:=by cases o<;>rfl
theorem dw {α:Type} (f:α):∃ g,g=f:=⟨f,rfl⟩

def bj:IntKind→Int→Int→Int:=Classical.choose (dw (α:=IntKind→Int→Int→Int) (fun k x y=>k.wrap (x+y)))
theorem Im:bj=(fun k x y=>k.wrap (x+y)):=Classical.choose_spec (dw (α:=IntKind→Int→Int→Int) (fun k x y=>k.wrap (x+y)))
theorem fT (k x y):bj k x y=k.wrap (x+y):=by rw[Im]
def bL:IntKind→Int→Int→Int:=Classical.choose (dw (α:=IntKind→Int→Int→Int) (fun k x y=>k.wrap (x-y)))
theorem J1:bL=(fun k x y=>k.wrap (x-y)):=Classical.choose_spec (dw (α:=IntKind→Int→Int→Int) (fun k x y=>k.wrap (x-y)))
theorem eJ (k x y):bL k x y=k.wrap (x-y):=by rw[J1]
def ly:IntKind→Int→Int→Int:=Classical.choose (dw (α:=IntKind→Int→Int→Int) (fun k x y=>k.wrap (x*y)))
theorem Jk:ly=(fun k x y=>k.wrap (x*y)):=Classical.choose_spec (dw (α:=IntKind→Int→Int→Int) (fun k x y=>k.wrap (x*y)))
theorem lz (k x y):ly k x y=k.wrap (x*y):=by rw[Jk]
def ET:IntKind→Int→Int→Int:=Classical.choose (dw (α:=IntKind→Int→Int→Int) (fun k x y=>k.wrap (x.tdiv y)))
theorem JE:ET=(fun k x y=>k.wrap (x.tdiv y)):=Classical.choose_spec (dw (α:=IntKind→Int→Int→Int) (fun k x y=>k.wrap (x.tdiv y)))
theorem DI (k x y):ET k x y=k.wrap (x.tdiv y):=by rw[JE]
def iT:IntKind→Int→Int→Int:=Classical.choose (dw (α:=IntKind→Int→Int→Int) (fun k x y=>x.tmod y))
theorem JI:iT=(fun k x y=>x.tmod y):=Classical.choose_spec (dw (α:=IntKind→Int→Int→Int) (fun k x y=>x.tmod y))
theorem pN (k x y):iT k x y=x.tmod y:=by rw[JI]
def mj:IntKind→Int→Int→Int:=Classical.choose (dw (α:=IntKind→Int→Int→Int) (fun k x y=>k.wrap (BitVec.ofInt k.bits x &&& BitVec.ofInt k.bits y).toNat))
theorem It:mj=(fun k x y=>k.wrap (BitVec.ofInt k.bits x &&& BitVec.ofInt k.bits y).toNat):=Classical.choose_spec (dw (α:=IntKind→Int→Int→Int) (fun k x y=>k.wrap (BitVec.ofInt k.bits x &&& BitVec.ofInt k.bits y).toNat))
theorem rG (k x y):mj k x y=k.wrap (BitVec.ofInt k.bits x &&& BitVec.ofInt k.bits y).toNat:=by rw[It]
def sf:IntKind→Int→Int→Int:=Classical.choose (dw (α:=IntKind→Int→Int→Int) (fun k x y=>k.wrap (BitVec.ofInt k.bits x ||| BitVec.ofInt k.bits y).toNat))
theorem MY:sf=(fun k x y=>k.wrap (BitVec.ofInt k.bits x ||| BitVec.ofInt k.bits y).toNat):=Classical.choose_spec (dw (α:=IntKind→Int→Int→Int) (fun k x y=>k.wrap (BitVec.ofInt k.bits x ||| BitVec.ofInt k.bits y).toNat))
theorem tW (k x y):sf k x y=k.wrap (BitVec.ofInt k.bits x ||| BitVec.ofInt k.bits y).toNat:=by rw[MY]
def NO:IntKind→Int→Int→Int:=Classical.choose (dw (α:=IntKind→Int→Int→Int) (fun k x y=>k.wrap (BitVec.ofInt k.bits x ^^^ BitVec.ofInt k.bits y).toNat))
theorem Kd:NO=(fun k x y=>k.wrap (BitVec.ofInt k.bits x ^^^ BitVec.ofInt k.bits y).toNat):=Classical.choose_spec (dw (α:=IntKind→Int→Int→Int) (fun k x y=>k.wrap (BitVec.ofInt k.bits x ^^^ BitVec.ofInt k.bits y).toNat))
theorem x3 (k x y):NO k x y=k.wrap (BitVec.ofInt k.bits x ^^^ BitVec.ofInt k.bits y).toNat:=by rw[Kd]
def A3:IntKind→Int→Int→Int:=Classical.choose (dw (α:=IntKind→Int→Int→Int) (fun k x y=>k.wrap (BitVec.ofInt k.bits x &&& ~~~(BitVec.ofInt k.bits y)).toNat))
theorem LP:A3=(fun k x y=>k.wrap (BitVec.ofInt k.bits x &&& ~~~(BitVec.ofInt k.bits y)).toNat):=Classical.choose_spec (dw (α:=IntKind→Int→Int→Int) (fun k x y=>k.wrap (BitVec.ofInt k.bits x &&& ~~~(BitVec.ofInt k.bits y)).toNat))
theorem so (k x y):A3 k x y=k.wrap (BitVec.ofInt k.bits x &&& ~~~(BitVec.ofInt k.bits y)).toNat:=by rw[LP]
def eC:IntKind→Int→Int→Int:=Classical.choose (dw (α:=IntKind→Int→Int→Int) (fun k x y=>k.wrap (x*2 ^ (min y.toNat k.bits))))
theorem JW:eC=(fun k x y=>k.wrap (x*2 ^ (min y.toNat k.bits))):=Classical.choose_spec (dw (α:=IntKind→Int→Int→Int) (fun k x y=>k.wrap (x*2 ^ (min y.toNat k.bits))))
theorem xU (k x y):eC k x y=k.wrap (x*2 ^ (min y.toNat k.bits)):=by rw[JW]
def Ns:IntKind→Int→Int→Int:=Classical.choose (dw (α:=IntKind→Int→Int→Int) (fun k x y=>x.fdiv (2 ^ (min y.toNat k.bits))))
theorem JY:Ns=(fun k x y=>x.fdiv (2 ^ (min y.toNat k.bits))):=Classical.choose_spec (dw (α:=IntKind→Int→Int→Int) (fun k x y=>x.fdiv (2 ^ (min y.toNat k.bits))))
theorem JX (k x y):Ns k x y=x.fdiv (2 ^ (min y.toNat k.bits)):=by rw[JY]
def Kc:IntKind→Int→Int:=Classical.choose (dw (α:=IntKind→Int→Int) (fun k x=>k.wrap x))
theorem NL:Kc=(fun k x=>k.wrap x):=Classical.choose_spec (dw (α:=IntKind→Int→Int) (fun k x=>k.wrap x))
theorem H8 (k x):Kc k x=k.wrap x:=by rw[NL]
def GX:IntKind→Int→Int:=Classical.choose (dw (α:=IntKind→Int→Int) (fun k x=>k.wrap (0-x)))
theorem Jp:GX=(fun k x=>k.wrap (0-x)):=Classical.choose_spec (dw (α:=IntKind→Int→Int) (fun k x=>k.wrap (0-x)))
theorem Dn (k x):GX k x=k.wrap (0-x):=by rw[Jp]
def cq:Int→Int→Bool:=Classical.choose (dw (α:=Int→Int→Bool) (fun x y=>(x == y)))
theorem Mb:cq=(fun x y=>(x == y)):=Classical.choose_spec (dw (α:=Int→Int→Bool) (fun x y=>(x == y)))
theorem aQ (x y):cq x y=(x == y):=by rw[Mb]
def bF:Int→Int→Bool:=Classical.choose (dw (α:=Int→Int→Bool) (fun x y=>decide (x<y)))
theorem MJ:bF=(fun x y=>decide (x<y)):=Classical.choose_spec (dw (α:=Int→Int→Bool) (fun x y=>decide (x<y)))
theorem bD (x y):bF x y=decide (x<y):=by rw[MJ]
def di:Int→Int→Bool:=Classical.choose (dw (α:=Int→Int→Bool) (fun x y=>decide (x≤y)))
theorem MD:di=(fun x y=>decide (x≤y)):=Classical.choose_spec (dw (α:=Int→Int→Bool) (fun x y=>decide (x≤y)))
theorem bk (x y):di x y=decide (x≤y):=by rw[MD]
def bf:Bool→Bool:=Classical.choose (dw (α:=Bool→Bool) (fun b=>(!b)))
theorem Jr:bf=(fun b=>(!b)):=Classical.choose_spec (dw (α:=Bool→Bool) (fun b=>(!b)))
theorem av (b):bf b=(!b):=by rw[Jr]
def bT:Bool→Bool→Bool:=Classical.choose (dw (α:=Bool→Bool→Bool) (fun a b=>(a && b)))
theorem Is:bT=(fun a b=>(a && b)):=Classical.choose_spec (dw (α:=Bool→Bool→Bool) (fun a b=>(a && b)))
theorem ct (a b):bT a b=(a && b):=by rw[Is]
def Rm:Bool→Bool→Bool:=Classical.choose (dw (α:=Bool→Bool→Bool) (fun a b=>(a == b)))
theorem Ma:Rm=(fun a b=>(a == b)):=Classical.choose_spec (dw (α:=Bool→Bool→Bool) (fun a b=>(a == b)))
theorem L9 (a b):Rm a b=(a == b):=by rw[Ma]
def zp:Int→Int→Int:=Classical.choose (dw (α:=Int→Int→Int) (fun x y=>if y<x then y else x))
theorem Ji:zp=(fun x y=>if y<x then y else x):=Classical.choose_spec (dw (α:=Int→Int→Int) (fun x y=>if y<x then y else x))
theorem r8 (x y):zp x y=if y<x then y else x:=by rw[Ji]
def vp:Int→Int→Int:=Classical.choose (dw (α:=Int→Int→Int) (fun x y=>if y > x then y else x))
theorem Jg:vp=(fun x y=>if y > x then y else x):=Classical.choose_spec (dw (α:=Int→Int→Int) (fun x y=>if y > x then y else x))
theorem r7 (x y):vp x y=if y > x then y else x:=by rw[Jg]
def cu:Int→Nat→Bool:=Classical.choose (dw (α:=Int→Nat→Bool) (fun (i:Int) (n:Nat)=>decide (0≤i∧i<(n:Int))))
theorem Mw:cu=(fun (i:Int) (n:Nat)=>decide (0≤i∧i<(n:Int))):=Classical.choose_spec (dw (α:=Int→Nat→Bool) (fun (i:Int) (n:Nat)=>decide (0≤i∧i<(n:Int))))
theorem qt (i n):cu i n=decide (0≤i∧i<(n:Int)):=by rw[Mw]
def kT:Int→Nat→Bool:=Classical.choose (dw (α:=Int→Nat→Bool) (fun (i:Int) (n:Nat)=>decide (0≤i∧i≤(n:Int))))
theorem IC:kT=(fun (i:Int) (n:Nat)=>decide (0≤i∧i≤(n:Int))):=Classical.choose_spec (dw (α:=Int→Nat→Bool) (fun (i:Int) (n:Nat)=>decide (0≤i∧i≤(n:Int))))
theorem CD (i n):kT i n=decide (0≤i∧i≤(n:Int)):=by rw[IC]
def Dl:Int→Int→Nat→Bool:=Classical.choose (dw (α:=Int→Int→Nat→Bool) (fun l c b=>decide (0≤l∧l≤c∧c.toNat*b≤room∧c.toNat≤room)))
theorem MN:Dl=(fun l c b=>decide (0≤l∧l≤c∧c.toNat*b≤room∧c.toNat≤room)):=Classical.choose_spec (dw (α:=Int→Int→Nat→Bool) (fun l c b=>decide (0≤l∧l≤c∧c.toNat*b≤room∧c.toNat≤room)))
theorem BQ (l c b):Dl l c b=decide (0≤l∧l≤c∧c.toNat*b≤room∧c.toNat≤room):=by rw[MN]
def b8:Int→Nat:=Classical.choose (dw (α:=Int→Nat) (fun i=>i.toNat))
theorem NI:b8=(fun i=>i.toNat):=Classical.choose_spec (dw (α:=Int→Nat) (fun i=>i.toNat))
theorem kd (i):b8 i=i.toNat:=by rw[NI]
def aq:Nat→Int→Nat→Nat:=Classical.choose (dw (α:=Nat→Int→Nat→Nat) (fun o i s=>o+i.toNat*s))
theorem Mt:aq=(fun o i s=>o+i.toNat*s):=Classical.choose_spec (dw (α:=Nat→Int→Nat→Nat) (fun o i s=>o+i.toNat*s))
theorem bo (o i s):aq o i s=o+i.toNat*s:=by rw[Mt]
def au:Nat→Nat→Nat:=Classical.choose (dw (α:=Nat→Nat→Nat) (fun a b=>a+b))
theorem Io:au=(fun a b=>a+b):=Classical.choose_spec (dw (α:=Nat→Nat→Nat) (fun a b=>a+b))
theorem aH (a b):au a b=a+b:=by rw[Io]
def bQ:Nat→Nat→Nat:=Classical.choose (dw (α:=Nat→Nat→Nat) (fun a b=>a-b))
theorem J3:bQ=(fun a b=>a-b):=Classical.choose_spec (dw (α:=Nat→Nat→Nat) (fun a b=>a-b))
theorem cw (a b):bQ a b=a-b:=by rw[J3]
def cr:Nat→Nat→Nat:=Classical.choose (dw (α:=Nat→Nat→Nat) (fun a b=>a*b))
theorem Jl:cr=(fun a b=>a*b):=Classical.choose_spec (dw (α:=Nat→Nat→Nat) (fun a b=>a*b))
theorem r9 (a b):cr a b=a*b:=by rw[Jl]
def xt:Nat→Nat→Nat:=Classical.choose (dw (α:=Nat→Nat→Nat) (fun a b=>min a b))
theorem Jh:xt=(fun a b=>min a b):=Classical.choose_spec (dw (α:=Nat→Nat→Nat) (fun a b=>min a b))
theorem xu (a b):xt a b=min a b:=by rw[Jh]
def bX:Nat→Nat→Bool:=Classical.choose (dw (α:=Nat→Nat→Bool) (fun a b=>decide (a<b)))
theorem MK:bX=(fun a b=>decide (a<b)):=Classical.choose_spec (dw (α:=Nat→Nat→Bool) (fun a b=>decide (a<b)))
theorem iG (a b):bX a b=decide (a<b):=by rw[MK]
def dW:Nat→Nat→Bool:=Classical.choose (dw (α:=Nat→Nat→Bool) (fun a b=>decide (a≤b)))
theorem ME:dW=(fun a b=>decide (a≤b)):=Classical.choose_spec (dw (α:=Nat→Nat→Bool) (fun a b=>decide (a≤b)))
theorem ln (a b):dW a b=decide (a≤b):=by rw[ME]
def cH:Nat→Nat→Bool:=Classical.choose (dw (α:=Nat→Nat→Bool) (fun a b=>decide (a=b)))
theorem Mc:cH=(fun a b=>decide (a=b)):=Classical.choose_spec (dw (α:=Nat→Nat→Bool) (fun a b=>decide (a=b)))
theorem fV (a b):cH a b=decide (a=b):=by rw[Mc]
def dP:Nat→Nat→Nat→Nat→Bool:=Classical.choose (dw (α:=Nat→Nat→Nat→Nat→Bool) (fun o m p n=>decide (p≤o∧o+m≤p+n)))
theorem My:dP=(fun o m p n=>decide (p≤o∧o+m≤p+n)):=Classical.choose_spec (dw (α:=Nat→Nat→Nat→Nat→Bool) (fun o m p n=>decide (p≤o∧o+m≤p+n)))
theorem j6 (o m p n):dP o m p n=decide (p≤o∧o+m≤p+n):=by rw[My]
def LO:(Nat→AV)→IntKind→Nat→Bool→Prop:=Classical.choose (dw (α:=(Nat→AV)→IntKind→Nat→Bool→Prop) (fun f k sz full=>∀ j,∃ z n m,f j=AV.slcT none (Row.M [da.arr k z n]) sz m full))
theorem Ir:LO=(fun f k sz full=>∀ j,∃ z n m,f j=AV.slcT none (Row.M [da.arr k z n]) sz m full):=Classical.choose_spec (dw (α:=(Nat→AV)→IntKind→Nat→Bool→Prop) (fun f k sz full=>∀ j,∃ z n m,f j=AV.slcT none (Row.M [da.arr k z n]) sz m full))
theorem Iq (f k sz full):LO f k sz full=∀ j,∃ z n m,f j=AV.slcT none (Row.M [da.arr k z n]) sz m full:=by rw[Ir]
def Np:Bool→(Nat→Int)→(Nat→Int)→Nat→Int:=Classical.choose (dw (α:=Bool→(Nat→Int)→(Nat→Int)→Nat→Int) (fun b x y=>cond b x y))
theorem JT:Np=(fun b x y=>cond b x y):=Classical.choose_spec (dw (α:=Bool→(Nat→Int)→(Nat→Int)→Nat→Int) (fun b x y=>cond b x y))
theorem JS (b x y):Np b x y=cond b x y:=by rw[JT]
def JP:Bool→Nat→Nat→Nat:=Classical.choose (dw (α:=Bool→Nat→Nat→Nat) (fun b x y=>cond b x y))
theorem JR:JP=(fun b x y=>cond b x y):=Classical.choose_spec (dw (α:=Bool→Nat→Nat→Nat) (fun b x y=>cond b x y))
theorem JQ (b x y):JP b x y=cond b x y:=by rw[JR]
def iv:Nat→Nat→Nat→Bool:=Classical.choose (dw (α:=Nat→Nat→Nat→Bool) (fun m n b=>decide ((m+n)*b≤room∧m+n≤room)))
theorem Hu:iv=(fun m n b=>decide ((m+n)*b≤room∧m+n≤room)):=Classical.choose_spec (dw (α:=Nat→Nat→Nat→Bool) (fun m n b=>decide ((m+n)*b≤room∧m+n≤room)))
theorem zS (m n b):iv m n b=decide ((m+n)*b≤room∧m+n≤room):=by rw[Hu]
def dh:(Nat→Int)→Nat→Int→Nat→Int:=Classical.choose (dw (α:=(Nat→Int)→Nat→Int→Nat→Int) (fun z i x=>fun j=>if j=i then x else z j))
theorem sj:dh=(fun z i x=>fun j=>if j=i then x else z j):=Classical.choose_spec (dw (α:=(Nat→Int)→Nat→Int→Nat→Int) (fun z i x=>fun j=>if j=i then x else z j))
theorem hJ (z i x):dh z i x=fun j=>if j=i then x else z j:=by rw[sj]
def qO:(Nat→Int)→Nat→Nat→Int:=Classical.choose (dw (α:=(Nat→Int)→Nat→Nat→Int) (fun z o=>fun j=>z (o+j)))
theorem m5:qO=(fun z o=>fun j=>z (o+j)):=Classical.choose_spec (dw (α:=(Nat→Int)→Nat→Nat→Int) (fun z o=>fun j=>z (o+j)))
def nz:(Nat→Int)→Nat→(Nat→Int)→Nat→Nat→Int:=Classical.choose (dw (α:=(Nat→Int)→Nat→(Nat→Int)→Nat→Nat→Int) (fun z o z' n=>wR z o z' n))
theorem IK:nz=(fun z o z' n=>wR z o z' n):=Classical.choose_spec (dw (α:=(Nat→Int)→Nat→(Nat→Int)→Nat→Nat→Int) (fun z o z' n=>wR z o z' n))
theorem rL (z o z' n):nz z o z' n=wR z o z' n:=by rw[IK]
def qb:(Nat→Int)→Nat→(Nat→Int)→Nat→Int:=Classical.choose (dw (α:=(Nat→Int)→Nat→(Nat→Int)→Nat→Int) (fun z n z'=>fun i=>if i<n then z i else z' (i-n)))
theorem rI:qb=(fun z n z'=>fun i=>if i<n then z i else z' (i-n)):=Classical.choose_spec (dw (α:=(Nat→Int)→Nat→(Nat→Int)→Nat→Int) (fun z n z'=>fun i=>if i<n then z i else z' (i-n)))
def EF:List Int→Nat:=Classical.choose (dw (α:=List Int→Nat) (fun l=>l.length))
theorem Ja:EF=(fun l=>l.length):=Classical.choose_spec (dw (α:=List Int→Nat) (fun l=>l.length))
theorem xo (l):EF l=l.length:=by rw[Ja]
def az:List Int→Nat→Int:=Classical.choose (dw (α:=List Int→Nat→Int) (fun l=>fun j=>l.getD j 0))
theorem lr:az=(fun l=>fun j=>l.getD j 0):=Classical.choose_spec (dw (α:=List Int→Nat→Int) (fun l=>fun j=>l.getD j 0))
theorem fa (l):az l=fun j=>l.getD j 0:=by rw[lr]
def mi:(Nat→Int)→(Nat→Int)→Nat→Bool:=Classical.choose (dw (α:=(Nat→Int)→(Nat→Int)→Nat→Bool) (fun z z' n=>allEq z z' n))
theorem D9:mi=(fun z z' n=>allEq z z' n):=Classical.choose_spec (dw (α:=(Nat→Int)→(Nat→Int)→Nat→Bool) (fun z z' n=>allEq z z' n))
theorem vG (z z' n):mi z z' n=allEq z z' n:=by rw[D9]
def mZ:(List Int→Bool)→List Int→Bool→List Int→Bool:=Classical.choose (dw (α:=(List Int→Bool)→List Int→Bool→List Int→Bool) (fun h n b=>fH h n b))
theorem HJ:mZ=(fun h n b=>fH h n b):=Classical.choose_spec (dw (α:=(List Int→Bool)→List Int→Bool→List Int→Bool) (fun h n b=>fH h n b))
theorem iw (h n b):mZ h n b=fH h n b:=by rw[HJ]
def m4:(List Int→Int)→List Int→Int→List Int→Int:=Classical.choose (dw (α:=(List Int→Int)→List Int→Int→List Int→Int) (fun g n x=>iX g n x))
theorem HK:m4=(fun g n x=>iX g n x):=Classical.choose_spec (dw (α:=(List Int→Int)→List Int→Int→List Int→Int) (fun g n x=>iX g n x))
theorem iy (g n x):m4 g n x=iX g n x:=by rw[HK]
def qU:Bool→Nat→Nat:=Classical.choose (dw (α:=Bool→Nat→Nat) (fun b c=>uZ b c))
theorem FZ:qU=(fun b c=>uZ b c):=Classical.choose_spec (dw (α:=Bool→Nat→Nat) (fun b c=>uZ b c))
theorem mr (b c):qU b c=uZ b c:=by rw[FZ]
def yk:Bool→Nat→Nat:=Classical.choose (dw (α:=Bool→Nat→Nat) (fun b c=>yj b c))
theorem F0:yk=(fun b c=>yj b c):=Classical.choose_spec (dw (α:=Bool→Nat→Nat) (fun b c=>yj b c))
theorem sG (b c):yk b c=yj b c:=by rw[F0]

end
end Go.Eng
