/- The engine as a tree: runs over values that are not known, as trees of tests. Operations that the kernel does not look into. -/
import Derived.Test.YtgphpjdchnfjlaaDoorV3EngXx4
set_option linter.unusedVariables false
set_option linter.unusedSimpArgs false
namespace Go.Eng
noncomputable section

inductive Tr (α:Type) where
 | ok (a:α)
 | bad
 | ite (c:Bool) (t e:Tr α)
 | req (c:Bool) (t:Tr α)
 | reqP (p:Prop) (t:Tr α)
open Classical in
def Tr.run {α:Type}:Tr α→Option α
 | .ok a=>some a
 | .bad=>none
 | .ite c t e=>cond c t.run e.run
 | .req c t=>cond c t.run none
 | .reqP p t=>if p then t.run else none
def Tr.bind {α β:Type} (t:Tr α) (f:α→Tr β):Tr β:=Tr.rec (motive:=fun _=>Tr β) f .bad (fun c _ _ a b=>.ite c a b) (fun c _ a=>.req c a) (fun p _ a=>.reqP p a) t
theorem Tr.FC {α β:Type} (t:Tr α) (f:α→Tr β):(t.bind f).run=t.run.bind fun a=>(f a).run:=by
 induction t with
 | ok a=>rfl
 | bad=>rfl
 | ite c a b iha ihb =>
   have e:(Tr.ite c a b).bind f=.ite c (a.bind f) (b.bind f):=rfl;rw[e];simp only[Tr.run,iha,ihb];cases c<;>rfl
 | req c a ih =>
   have e:(Tr.req c a).bind f=.req c (a.bind f):=rfl;rw[e];simp only[Tr.run,ih];cases c<;>rfl
 | reqP p a ih =>
   have e:(Tr.reqP p a).bind f=.reqP p (a.bind f):=rfl;rw[e];simp only[Tr.run,ih];by_cases hp:p
   · rw[if_pos hp,if_pos hp]
   · rw[if_neg hp,if_neg hp];rfl
theorem Tr.gz {α:Type} {p:Prop} {t:Tr α} {x:α} (h:(Tr.reqP p t).run=some x):p∧t.run=some x:=by
 simp only[Tr.run] at h;by_cases hp:p
 · rw[if_pos hp] at h;exact ⟨hp,h⟩
 · rw[if_neg hp] at h;cases h
theorem Tr.Hs {α:Type} {p:Prop} {a:Tr α} (h:p):(Tr.reqP p a).run=a.run:=by simp only[Tr.run];rw[if_pos h]
theorem Tr.bind_some {α β:Type} {t:Tr α} {f:α→Tr β} {y:β} (h:(t.bind f).run=some y):∃ x,t.run=some x∧(f x).run=some y:=by
 rw[Tr.FC] at h;exact Option.bind_eq_some_iff.1 h
theorem Tr.aX {α:Type} {c:Bool} {t:Tr α} {x:α} (h:(Tr.req c t).run=some x):c=true∧t.run=some x:=by
 cases c with
 | true=>exact ⟨rfl,h⟩
 | false=>simp[Tr.run] at h
theorem Tr.kx {α:Type} {c:Bool} {t e:Tr α} {x:α} (h:(Tr.ite c t e).run=some x):(c=true∧t.run=some x)∨(c=false∧e.run=some x):=by
 cases c with
 | true=>exact .inl ⟨rfl,h⟩
 | false=>exact .inr ⟨rfl,h⟩
theorem Tr.af {α:Type} {a x:α} (h:(Tr.ok a).run=some x):a=x:=Option.some.inj h
theorem Tr.ah {α:Type} {x:α} (h:(Tr.bad:Tr α).run=some x):False:=by simp[Tr.run] at h
def wb {α:Type} (o:Option α):Tr α:=Option.rec (motive:=fun _=>Tr α) .bad .ok o
theorem da {α:Type} (o:Option α):(wb o).run=o:=by cases o<;>rfl
theorem dc {α:Type} (f:α):∃ g,g=f:=⟨f,rfl⟩

def bh:IntKind→Int→Int→Int:=Classical.choose (dc (α:=IntKind→Int→Int→Int) (fun k x y=>k.wrap (x+y)))
theorem Ic:bh=(fun k x y=>k.wrap (x+y)):=Classical.choose_spec (dc (α:=IntKind→Int→Int→Int) (fun k x y=>k.wrap (x+y)))
theorem fS (k x y):bh k x y=k.wrap (x+y):=by rw[Ic]
def bN:IntKind→Int→Int→Int:=Classical.choose (dc (α:=IntKind→Int→Int→Int) (fun k x y=>k.wrap (x-y)))
theorem JR:bN=(fun k x y=>k.wrap (x-y)):=Classical.choose_spec (dc (α:=IntKind→Int→Int→Int) (fun k x y=>k.wrap (x-y)))
theorem eG (k x y):bN k x y=k.wrap (x-y):=by rw[JR]
def xm:IntKind→Int→Int→Int:=Classical.choose (dc (α:=IntKind→Int→Int→Int) (fun k x y=>k.wrap (x*y)))
theorem Jb:xm=(fun k x y=>k.wrap (x*y)):=Classical.choose_spec (dc (α:=IntKind→Int→Int→Int) (fun k x y=>k.wrap (x*y)))
theorem np (k x y):xm k x y=k.wrap (x*y):=by rw[Jb]
def vk:IntKind→Int→Int→Int:=Classical.choose (dc (α:=IntKind→Int→Int→Int) (fun k x y=>k.wrap (x.tdiv y)))
theorem Ju:vk=(fun k x y=>k.wrap (x.tdiv y)):=Classical.choose_spec (dc (α:=IntKind→Int→Int→Int) (fun k x y=>k.wrap (x.tdiv y)))
theorem xE (k x y):vk k x y=k.wrap (x.tdiv y):=by rw[Ju]
def vm:IntKind→Int→Int→Int:=Classical.choose (dc (α:=IntKind→Int→Int→Int) (fun k x y=>x.tmod y))
theorem Jy:vm=(fun k x y=>x.tmod y):=Classical.choose_spec (dc (α:=IntKind→Int→Int→Int) (fun k x y=>x.tmod y))
theorem xG (k x y):vm k x y=x.tmod y:=by rw[Jy]
def l9:IntKind→Int→Int→Int:=Classical.choose (dc (α:=IntKind→Int→Int→Int) (fun k x y=>k.wrap (BitVec.ofInt k.bits x &&& BitVec.ofInt k.bits y).toNat))
theorem Ik:l9=(fun k x y=>k.wrap (BitVec.ofInt k.bits x &&& BitVec.ofInt k.bits y).toNat):=Classical.choose_spec (dc (α:=IntKind→Int→Int→Int) (fun k x y=>k.wrap (BitVec.ofInt k.bits x &&& BitVec.ofInt k.bits y).toNat))
theorem rL (k x y):l9 k x y=k.wrap (BitVec.ofInt k.bits x &&& BitVec.ofInt k.bits y).toNat:=by rw[Ik]
def sa:IntKind→Int→Int→Int:=Classical.choose (dc (α:=IntKind→Int→Int→Int) (fun k x y=>k.wrap (BitVec.ofInt k.bits x ||| BitVec.ofInt k.bits y).toNat))
theorem MO:sa=(fun k x y=>k.wrap (BitVec.ofInt k.bits x ||| BitVec.ofInt k.bits y).toNat):=Classical.choose_spec (dc (α:=IntKind→Int→Int→Int) (fun k x y=>k.wrap (BitVec.ofInt k.bits x ||| BitVec.ofInt k.bits y).toNat))
theorem tL (k x y):sa k x y=k.wrap (BitVec.ofInt k.bits x ||| BitVec.ofInt k.bits y).toNat:=by rw[MO]
def Nx:IntKind→Int→Int→Int:=Classical.choose (dc (α:=IntKind→Int→Int→Int) (fun k x y=>k.wrap (BitVec.ofInt k.bits x ^^^ BitVec.ofInt k.bits y).toNat))
theorem J1:Nx=(fun k x y=>k.wrap (BitVec.ofInt k.bits x ^^^ BitVec.ofInt k.bits y).toNat):=Classical.choose_spec (dc (α:=IntKind→Int→Int→Int) (fun k x y=>k.wrap (BitVec.ofInt k.bits x ^^^ BitVec.ofInt k.bits y).toNat))
theorem xZ (k x y):Nx k x y=k.wrap (BitVec.ofInt k.bits x ^^^ BitVec.ofInt k.bits y).toNat:=by rw[J1]
def AY:IntKind→Int→Int→Int:=Classical.choose (dc (α:=IntKind→Int→Int→Int) (fun k x y=>k.wrap (BitVec.ofInt k.bits x &&& ~~~(BitVec.ofInt k.bits y)).toNat))
theorem LC:AY=(fun k x y=>k.wrap (BitVec.ofInt k.bits x &&& ~~~(BitVec.ofInt k.bits y)).toNat):=Classical.choose_spec (dc (α:=IntKind→Int→Int→Int) (fun k x y=>k.wrap (BitVec.ofInt k.bits x &&& ~~~(BitVec.ofInt k.bits y)).toNat))
theorem sj (k x y):AY k x y=k.wrap (BitVec.ofInt k.bits x &&& ~~~(BitVec.ofInt k.bits y)).toNat:=by rw[LC]
def eh:IntKind→Int→Int→Int:=Classical.choose (dc (α:=IntKind→Int→Int→Int) (fun k x y=>k.wrap (x*2 ^ (min y.toNat k.bits))))
theorem JM:eh=(fun k x y=>k.wrap (x*2 ^ (min y.toNat k.bits))):=Classical.choose_spec (dc (α:=IntKind→Int→Int→Int) (fun k x y=>k.wrap (x*2 ^ (min y.toNat k.bits))))
theorem xS (k x y):eh k x y=k.wrap (x*2 ^ (min y.toNat k.bits)):=by rw[JM]
def Nc:IntKind→Int→Int→Int:=Classical.choose (dc (α:=IntKind→Int→Int→Int) (fun k x y=>x.fdiv (2 ^ (min y.toNat k.bits))))
theorem JO:Nc=(fun k x y=>x.fdiv (2 ^ (min y.toNat k.bits))):=Classical.choose_spec (dc (α:=IntKind→Int→Int→Int) (fun k x y=>x.fdiv (2 ^ (min y.toNat k.bits))))
theorem JN (k x y):Nc k x y=x.fdiv (2 ^ (min y.toNat k.bits)):=by rw[JO]
def T7:IntKind→Int→Int:=Classical.choose (dc (α:=IntKind→Int→Int) (fun k x=>k.wrap x))
theorem Nv:T7=(fun k x=>k.wrap x):=Classical.choose_spec (dc (α:=IntKind→Int→Int) (fun k x=>k.wrap x))
theorem Nu (k x):T7 k x=k.wrap x:=by rw[Nv]
def BQ:IntKind→Int→Int:=Classical.choose (dc (α:=IntKind→Int→Int) (fun k x=>k.wrap (0-x)))
theorem Jg:BQ=(fun k x=>k.wrap (0-x)):=Classical.choose_spec (dc (α:=IntKind→Int→Int) (fun k x=>k.wrap (0-x)))
theorem xp (k x):BQ k x=k.wrap (0-x):=by rw[Jg]
def cw:Int→Int→Bool:=Classical.choose (dc (α:=Int→Int→Bool) (fun x y=>(x == y)))
theorem L1:cw=(fun x y=>(x == y)):=Classical.choose_spec (dc (α:=Int→Int→Bool) (fun x y=>(x == y)))
theorem aQ (x y):cw x y=(x == y):=by rw[L1]
def bD:Int→Int→Bool:=Classical.choose (dc (α:=Int→Int→Bool) (fun x y=>decide (x<y)))
theorem MA:bD=(fun x y=>decide (x<y)):=Classical.choose_spec (dc (α:=Int→Int→Bool) (fun x y=>decide (x<y)))
theorem bw (x y):bD x y=decide (x<y):=by rw[MA]
def c8:Int→Int→Bool:=Classical.choose (dc (α:=Int→Int→Bool) (fun x y=>decide (x≤y)))
theorem Ms:c8=(fun x y=>decide (x≤y)):=Classical.choose_spec (dc (α:=Int→Int→Bool) (fun x y=>decide (x≤y)))
theorem bf (x y):c8 x y=decide (x≤y):=by rw[Ms]
def bx:Bool→Bool:=Classical.choose (dc (α:=Bool→Bool) (fun b=>(!b)))
theorem Ji:bx=(fun b=>(!b)):=Classical.choose_spec (dc (α:=Bool→Bool) (fun b=>(!b)))
theorem aB (b):bx b=(!b):=by rw[Ji]
def bO:Bool→Bool→Bool:=Classical.choose (dc (α:=Bool→Bool→Bool) (fun a b=>(a && b)))
theorem Ij:bO=(fun a b=>(a && b)):=Classical.choose_spec (dc (α:=Bool→Bool→Bool) (fun a b=>(a && b)))
theorem bT (a b):bO a b=(a && b):=by rw[Ij]
def Qs:Bool→Bool→Bool:=Classical.choose (dc (α:=Bool→Bool→Bool) (fun a b=>(a == b)))
theorem LZ:Qs=(fun a b=>(a == b)):=Classical.choose_spec (dc (α:=Bool→Bool→Bool) (fun a b=>(a == b)))
theorem F1 (a b):Qs a b=(a == b):=by rw[LZ]
def rG:Int→Int→Int:=Classical.choose (dc (α:=Int→Int→Int) (fun x y=>if y<x then y else x))
theorem I9:rG=(fun x y=>if y<x then y else x):=Classical.choose_spec (dc (α:=Int→Int→Int) (fun x y=>if y<x then y else x))
theorem nm (x y):rG x y=if y<x then y else x:=by rw[I9]
def nH:Int→Int→Int:=Classical.choose (dc (α:=Int→Int→Int) (fun x y=>if y > x then y else x))
theorem I7:nH=(fun x y=>if y > x then y else x):=Classical.choose_spec (dc (α:=Int→Int→Int) (fun x y=>if y > x then y else x))
theorem nk (x y):nH x y=if y > x then y else x:=by rw[I7]
def cj:Int→Nat→Bool:=Classical.choose (dc (α:=Int→Nat→Bool) (fun (i:Int) (n:Nat)=>decide (0≤i∧i<(n:Int))))
theorem Ml:cj=(fun (i:Int) (n:Nat)=>decide (0≤i∧i<(n:Int))):=Classical.choose_spec (dc (α:=Int→Nat→Bool) (fun (i:Int) (n:Nat)=>decide (0≤i∧i<(n:Int))))
theorem qu (i n):cj i n=decide (0≤i∧i<(n:Int)):=by rw[Ml]
def kP:Int→Nat→Bool:=Classical.choose (dc (α:=Int→Nat→Bool) (fun (i:Int) (n:Nat)=>decide (0≤i∧i≤(n:Int))))
theorem Is:kP=(fun (i:Int) (n:Nat)=>decide (0≤i∧i≤(n:Int))):=Classical.choose_spec (dc (α:=Int→Nat→Bool) (fun (i:Int) (n:Nat)=>decide (0≤i∧i≤(n:Int))))
theorem CB (i n):kP i n=decide (0≤i∧i≤(n:Int)):=by rw[Is]
def Dm:Int→Int→Nat→Bool:=Classical.choose (dc (α:=Int→Int→Nat→Bool) (fun l c b=>decide (0≤l∧l≤c∧c.toNat*b≤room∧c.toNat≤room)))
theorem ME:Dm=(fun l c b=>decide (0≤l∧l≤c∧c.toNat*b≤room∧c.toNat≤room)):=Classical.choose_spec (dc (α:=Int→Int→Nat→Bool) (fun l c b=>decide (0≤l∧l≤c∧c.toNat*b≤room∧c.toNat≤room)))
theorem BN (l c b):Dm l c b=decide (0≤l∧l≤c∧c.toNat*b≤room∧c.toNat≤room):=by rw[ME]
def b5:Int→Nat:=Classical.choose (dc (α:=Int→Nat) (fun i=>i.toNat))
theorem Np:b5=(fun i=>i.toNat):=Classical.choose_spec (dc (α:=Int→Nat) (fun i=>i.toNat))
theorem j6 (i):b5 i=i.toNat:=by rw[Np]
def aq:Nat→Int→Nat→Nat:=Classical.choose (dc (α:=Nat→Int→Nat→Nat) (fun o i s=>o+i.toNat*s))
theorem Mj:aq=(fun o i s=>o+i.toNat*s):=Classical.choose_spec (dc (α:=Nat→Int→Nat→Nat) (fun o i s=>o+i.toNat*s))
theorem bG (o i s):aq o i s=o+i.toNat*s:=by rw[Mj]
def ar:Nat→Nat→Nat:=Classical.choose (dc (α:=Nat→Nat→Nat) (fun a b=>a+b))
theorem Ie:ar=(fun a b=>a+b):=Classical.choose_spec (dc (α:=Nat→Nat→Nat) (fun a b=>a+b))
theorem aI (a b):ar a b=a+b:=by rw[Ie]
def dC:Nat→Nat→Nat:=Classical.choose (dc (α:=Nat→Nat→Nat) (fun a b=>a-b))
theorem JT:dC=(fun a b=>a-b):=Classical.choose_spec (dc (α:=Nat→Nat→Nat) (fun a b=>a-b))
theorem dv (a b):dC a b=a-b:=by rw[JT]
def bU:Nat→Nat→Nat:=Classical.choose (dc (α:=Nat→Nat→Nat) (fun a b=>a*b))
theorem Jc:bU=(fun a b=>a*b):=Classical.choose_spec (dc (α:=Nat→Nat→Nat) (fun a b=>a*b))
theorem jI (a b):bU a b=a*b:=by rw[Jc]
def xk:Nat→Nat→Nat:=Classical.choose (dc (α:=Nat→Nat→Nat) (fun a b=>min a b))
theorem I8:xk=(fun a b=>min a b):=Classical.choose_spec (dc (α:=Nat→Nat→Nat) (fun a b=>min a b))
theorem xl (a b):xk a b=min a b:=by rw[I8]
def bW:Nat→Nat→Bool:=Classical.choose (dc (α:=Nat→Nat→Bool) (fun a b=>decide (a<b)))
theorem MB:bW=(fun a b=>decide (a<b)):=Classical.choose_spec (dc (α:=Nat→Nat→Bool) (fun a b=>decide (a<b)))
theorem iy (a b):bW a b=decide (a<b):=by rw[MB]
def eR:Nat→Nat→Bool:=Classical.choose (dc (α:=Nat→Nat→Bool) (fun a b=>decide (a≤b)))
theorem Mt:eR=(fun a b=>decide (a≤b)):=Classical.choose_spec (dc (α:=Nat→Nat→Bool) (fun a b=>decide (a≤b)))
theorem jj (a b):eR a b=decide (a≤b):=by rw[Mt]
def cD:Nat→Nat→Bool:=Classical.choose (dc (α:=Nat→Nat→Bool) (fun a b=>decide (a=b)))
theorem L2:cD=(fun a b=>decide (a=b)):=Classical.choose_spec (dc (α:=Nat→Nat→Bool) (fun a b=>decide (a=b)))
theorem fz (a b):cD a b=decide (a=b):=by rw[L2]
def eD:Nat→Nat→Nat→Nat→Bool:=Classical.choose (dc (α:=Nat→Nat→Nat→Nat→Bool) (fun o m p n=>decide (p≤o∧o+m≤p+n)))
theorem Mn:eD=(fun o m p n=>decide (p≤o∧o+m≤p+n)):=Classical.choose_spec (dc (α:=Nat→Nat→Nat→Nat→Bool) (fun o m p n=>decide (p≤o∧o+m≤p+n)))
theorem jg (o m p n):eD o m p n=decide (p≤o∧o+m≤p+n):=by rw[Mn]
def LB:(Nat→AV)→IntKind→Nat→Bool→Prop:=Classical.choose (dc (α:=(Nat→AV)→IntKind→Nat→Bool→Prop) (fun f k sz full=>∀ j,∃ z n m,f j=AV.slcT none (Row.M [df.arr k z n]) sz m full))
theorem Ii:LB=(fun f k sz full=>∀ j,∃ z n m,f j=AV.slcT none (Row.M [df.arr k z n]) sz m full):=Classical.choose_spec (dc (α:=(Nat→AV)→IntKind→Nat→Bool→Prop) (fun f k sz full=>∀ j,∃ z n m,f j=AV.slcT none (Row.M [df.arr k z n]) sz m full))
theorem Ih (f k sz full):LB f k sz full=∀ j,∃ z n m,f j=AV.slcT none (Row.M [df.arr k z n]) sz m full:=by rw[Ii]
def M9:Bool→(Nat→Int)→(Nat→Int)→Nat→Int:=Classical.choose (dc (α:=Bool→(Nat→Int)→(Nat→Int)→Nat→Int) (fun b x y=>cond b x y))
theorem JJ:M9=(fun b x y=>cond b x y):=Classical.choose_spec (dc (α:=Bool→(Nat→Int)→(Nat→Int)→Nat→Int) (fun b x y=>cond b x y))
theorem JI (b x y):M9 b x y=cond b x y:=by rw[JJ]
def JF:Bool→Nat→Nat→Nat:=Classical.choose (dc (α:=Bool→Nat→Nat→Nat) (fun b x y=>cond b x y))
theorem JH:JF=(fun b x y=>cond b x y):=Classical.choose_spec (dc (α:=Bool→Nat→Nat→Nat) (fun b x y=>cond b x y))
theorem JG (b x y):JF b x y=cond b x y:=by rw[JH]
def ie:Nat→Nat→Nat→Bool:=Classical.choose (dc (α:=Nat→Nat→Nat→Bool) (fun m n b=>decide ((m+n)*b≤room∧m+n≤room)))
theorem Ho:ie=(fun m n b=>decide ((m+n)*b≤room∧m+n≤room)):=Classical.choose_spec (dc (α:=Nat→Nat→Nat→Bool) (fun m n b=>decide ((m+n)*b≤room∧m+n≤room)))
theorem zM (m n b):ie m n b=decide ((m+n)*b≤room∧m+n≤room):=by rw[Ho]
def dQ:(Nat→Int)→Nat→Int→Nat→Int:=Classical.choose (dc (α:=(Nat→Int)→Nat→Int→Nat→Int) (fun z i x=>fun j=>if j=i then x else z j))
theorem se:dQ=(fun z i x=>fun j=>if j=i then x else z j):=Classical.choose_spec (dc (α:=(Nat→Int)→Nat→Int→Nat→Int) (fun z i x=>fun j=>if j=i then x else z j))
theorem jR (z i x):dQ z i x=fun j=>if j=i then x else z j:=by rw[se]
def pZ:(Nat→Int)→Nat→Nat→Int:=Classical.choose (dc (α:=(Nat→Int)→Nat→Nat→Int) (fun z o=>fun j=>z (o+j)))
theorem mT:pZ=(fun z o=>fun j=>z (o+j)):=Classical.choose_spec (dc (α:=(Nat→Int)→Nat→Nat→Int) (fun z o=>fun j=>z (o+j)))
def kT:(Nat→Int)→Nat→(Nat→Int)→Nat→Nat→Int:=Classical.choose (dc (α:=(Nat→Int)→Nat→(Nat→Int)→Nat→Nat→Int) (fun z o z' n=>wL z o z' n))
theorem IA:kT=(fun z o z' n=>wL z o z' n):=Classical.choose_spec (dc (α:=(Nat→Int)→Nat→(Nat→Int)→Nat→Nat→Int) (fun z o z' n=>wL z o z' n))
theorem rP (z o z' n):kT z o z' n=wL z o z' n:=by rw[IA]
def nZ:(Nat→Int)→Nat→(Nat→Int)→Nat→Int:=Classical.choose (dc (α:=(Nat→Int)→Nat→(Nat→Int)→Nat→Int) (fun z n z'=>fun i=>if i<n then z i else z' (i-n)))
theorem mX:nZ=(fun z n z'=>fun i=>if i<n then z i else z' (i-n)):=Classical.choose_spec (dc (α:=(Nat→Int)→Nat→(Nat→Int)→Nat→Int) (fun z n z'=>fun i=>if i<n then z i else z' (i-n)))
def Mv:List Int→Nat:=Classical.choose (dc (α:=List Int→Nat) (fun l=>l.length))
theorem I0:Mv=(fun l=>l.length):=Classical.choose_spec (dc (α:=List Int→Nat) (fun l=>l.length))
theorem IZ (l):Mv l=l.length:=by rw[I0]
def az:List Int→Nat→Int:=Classical.choose (dc (α:=List Int→Nat→Int) (fun l=>fun j=>l.getD j 0))
theorem jE:az=(fun l=>fun j=>l.getD j 0):=Classical.choose_spec (dc (α:=List Int→Nat→Int) (fun l=>fun j=>l.getD j 0))
theorem gN (l):az l=fun j=>l.getD j 0:=by rw[jE]
def l8:(Nat→Int)→(Nat→Int)→Nat→Bool:=Classical.choose (dc (α:=(Nat→Int)→(Nat→Int)→Nat→Bool) (fun z z' n=>allEq z z' n))
theorem D4:l8=(fun z z' n=>allEq z z' n):=Classical.choose_spec (dc (α:=(Nat→Int)→(Nat→Int)→Nat→Bool) (fun z z' n=>allEq z z' n))
theorem vw (z z' n):l8 z z' n=allEq z z' n:=by rw[D4]
def mR:(List Int→Bool)→List Int→Bool→List Int→Bool:=Classical.choose (dc (α:=(List Int→Bool)→List Int→Bool→List Int→Bool) (fun h n b=>fE h n b))
theorem Hx:mR=(fun h n b=>fE h n b):=Classical.choose_spec (dc (α:=(List Int→Bool)→List Int→Bool→List Int→Bool) (fun h n b=>fE h n b))
theorem ig (h n b):mR h n b=fE h n b:=by rw[Hx]
def mS:(List Int→Int)→List Int→Int→List Int→Int:=Classical.choose (dc (α:=(List Int→Int)→List Int→Int→List Int→Int) (fun g n x=>iP g n x))
theorem Hy:mS=(fun g n x=>iP g n x):=Classical.choose_spec (dc (α:=(List Int→Int)→List Int→Int→List Int→Int) (fun g n x=>iP g n x))
theorem ij (g n x):mS g n x=iP g n x:=by rw[Hy]
def qU:Bool→Nat→Nat:=Classical.choose (dc (α:=Bool→Nat→Nat) (fun b c=>uP b c))
theorem FO:qU=(fun b c=>uP b c):=Classical.choose_spec (dc (α:=Bool→Nat→Nat) (fun b c=>uP b c))
theorem me (b c):qU b c=uP b c:=by rw[FO]
def yi:Bool→Nat→Nat:=Classical.choose (dc (α:=Bool→Nat→Nat) (fun b c=>yh b c))
theorem FP:yi=(fun b c=>yh b c):=Classical.choose_spec (dc (α:=Bool→Nat→Nat) (fun b c=>yh b c))
theorem sA (b c):yi b c=yh b c:=by rw[FP]

end
end Go.Eng
