/- The engine as a tree: runs over values that are not known, as trees of tests. Operations that the kernel does not look into. -/
import Derived.Test.YtgphpjdchnfjlaaDoorV6EngXx4
set_option linter.unusedVariables false
set_option linter.unusedSimpArgs false
namespace Go.Eng
noncomputable section

inductive Tr (α:Type) where
 | ok (a:α)
 | bad
 | ite (c:Bool) (t e:Tr α)
 | req (c:Bool) (t:Tr α)
 | reqP (p:Prop) (t:Tr α)
open Classical in
def Tr.run {α:Type}:Tr α→Option α
 | .ok a=>some a
 | .bad=>none
 | .ite c t e=>cond c t.run e.run
 | .req c t=>cond c t.run none
 | .reqP p t=>if p then t.run else none
def Tr.bind {α β:Type} (t:Tr α) (f:α→Tr β):Tr β:=Tr.rec (motive:=fun _=>Tr β) f .bad (fun c _ _ a b=>.ite c a b) (fun c _ a=>.req c a) (fun p _ a=>.reqP p a) t
theorem Tr.Fe {α β:Type} (t:Tr α) (f:α→Tr β):(t.bind f).run=t.run.bind fun a=>(f a).run:=by
 induction t with
 | ok a=>rfl
 | bad=>rfl
 | ite c a b iha ihb =>
   have e:(Tr.ite c a b).bind f=.ite c (a.bind f) (b.bind f):=rfl;rw[e];simp only[Tr.run,iha,ihb];cases c<;>rfl
 | req c a ih =>
   have e:(Tr.req c a).bind f=.req c (a.bind f):=rfl;rw[e];simp only[Tr.run,ih];cases c<;>rfl
 | reqP p a ih =>
   have e:(Tr.reqP p a).bind f=.reqP p (a.bind f):=rfl;rw[e];simp only[Tr.run,ih];by_cases hp:p
   · rw[if_pos hp,if_pos hp]
   · rw[if_neg hp,if_neg hp];rfl
theorem Tr.gl {α:Type} {p:Prop} {t:Tr α} {x:α} (h:(Tr.reqP p t).run=some x):p∧t.run=some x:=by
 simp only[Tr.run] at h;by_cases hp:p
 · rw[if_pos hp] at h;exact ⟨hp,h⟩
 · rw[if_neg hp] at h;cases h
theorem Tr.GR {α:Type} {p:Prop} {a:Tr α} (h:p):(Tr.reqP p a).run=a.run:=by simp only[Tr.run];rw[if_pos h]
theorem Tr.bind_some {α β:Type} {t:Tr α} {f:α→Tr β} {y:β} (h:(t.bind f).run=some y):∃ x,t.run=some x∧(f x).run=some y:=by
 rw[Tr.Fe] at h;exact Option.bind_eq_some_iff.1 h
theorem Tr.aT {α:Type} {c:Bool} {t:Tr α} {x:α} (h:(Tr.req c t).run=some x):c=true∧t.run=some x:=by
 cases c with
 | true=>exact ⟨rfl,h⟩
 | false=>simp[Tr.run] at h
theorem Tr.jZ {α:Type} {c:Bool} {t e:Tr α} {x:α} (h:(Tr.ite c t e).run=some x):(c=true∧t.run=some x)∨(c=false∧e.run=some x):=by
 cases c with
 | true=>exact .inl ⟨rfl,h⟩
 | false=>exact .inr ⟨rfl,h⟩
theorem Tr.af {α:Type} {a x:α} (h:(Tr.ok a).run=some x):a=x:=Option.some.inj h
theorem Tr.ah {α:Type} {x:α} (h:(Tr.bad:Tr α).run=some x):False:=by simp[Tr.run] at h
def vI {α:Type} (o:Option α):Tr α:=Option.rec (motive:=fun _=>Tr α) .bad .ok o
theorem c9 {α:Type} (o:Option α):(vI o).run=o:=by cases o<;>rfl
theorem da {α:Type} (f:α):∃ g,g=f:=⟨f,rfl⟩

def aQ:IntKind→Int→Int→Int:=Classical.choose (da (α:=IntKind→Int→Int→Int) (fun k x y=>k.wrap (x+y)))
theorem Hr:aQ=(fun k x y=>k.wrap (x+y)):=Classical.choose_spec (da (α:=IntKind→Int→Int→Int) (fun k x y=>k.wrap (x+y)))
theorem fG (k x y):aQ k x y=k.wrap (x+y):=by rw[Hr]
def bH:IntKind→Int→Int→Int:=Classical.choose (da (α:=IntKind→Int→Int→Int) (fun k x y=>k.wrap (x-y)))
theorem Jk:bH=(fun k x y=>k.wrap (x-y)):=Classical.choose_spec (da (α:=IntKind→Int→Int→Int) (fun k x y=>k.wrap (x-y)))
theorem eA (k x y):bH k x y=k.wrap (x-y):=by rw[Jk]
def wM:IntKind→Int→Int→Int:=Classical.choose (da (α:=IntKind→Int→Int→Int) (fun k x y=>k.wrap (x*y)))
theorem IC:wM=(fun k x y=>k.wrap (x*y)):=Classical.choose_spec (da (α:=IntKind→Int→Int→Int) (fun k x y=>k.wrap (x*y)))
theorem mO (k x y):wM k x y=k.wrap (x*y):=by rw[IC]
def ra:IntKind→Int→Int→Int:=Classical.choose (da (α:=IntKind→Int→Int→Int) (fun k x y=>k.wrap (x.tdiv y)))
theorem IY:ra=(fun k x y=>k.wrap (x.tdiv y)):=Classical.choose_spec (da (α:=IntKind→Int→Int→Int) (fun k x y=>k.wrap (x.tdiv y)))
theorem rG (k x y):ra k x y=k.wrap (x.tdiv y):=by rw[IY]
def rb:IntKind→Int→Int→Int:=Classical.choose (da (α:=IntKind→Int→Int→Int) (fun k x y=>x.tmod y))
theorem I2:rb=(fun k x y=>x.tmod y):=Classical.choose_spec (da (α:=IntKind→Int→Int→Int) (fun k x y=>x.tmod y))
theorem rH (k x y):rb k x y=x.tmod y:=by rw[I2]
def lB:IntKind→Int→Int→Int:=Classical.choose (da (α:=IntKind→Int→Int→Int) (fun k x y=>k.wrap (BitVec.ofInt k.bits x &&& BitVec.ofInt k.bits y).toNat))
theorem Hy:lB=(fun k x y=>k.wrap (BitVec.ofInt k.bits x &&& BitVec.ofInt k.bits y).toNat):=Classical.choose_spec (da (α:=IntKind→Int→Int→Int) (fun k x y=>k.wrap (BitVec.ofInt k.bits x &&& BitVec.ofInt k.bits y).toNat))
theorem ov (k x y):lB k x y=k.wrap (BitVec.ofInt k.bits x &&& BitVec.ofInt k.bits y).toNat:=by rw[Hy]
def xD:IntKind→Int→Int→Int:=Classical.choose (da (α:=IntKind→Int→Int→Int) (fun k x y=>k.wrap (BitVec.ofInt k.bits x ||| BitVec.ofInt k.bits y).toNat))
theorem Mh:xD=(fun k x y=>k.wrap (BitVec.ofInt k.bits x ||| BitVec.ofInt k.bits y).toNat):=Classical.choose_spec (da (α:=IntKind→Int→Int→Int) (fun k x y=>k.wrap (BitVec.ofInt k.bits x ||| BitVec.ofInt k.bits y).toNat))
theorem tm (k x y):xD k x y=k.wrap (BitVec.ofInt k.bits x ||| BitVec.ofInt k.bits y).toNat:=by rw[Mh]
def MW:IntKind→Int→Int→Int:=Classical.choose (da (α:=IntKind→Int→Int→Int) (fun k x y=>k.wrap (BitVec.ofInt k.bits x ^^^ BitVec.ofInt k.bits y).toNat))
theorem Jx:MW=(fun k x y=>k.wrap (BitVec.ofInt k.bits x ^^^ BitVec.ofInt k.bits y).toNat):=Classical.choose_spec (da (α:=IntKind→Int→Int→Int) (fun k x y=>k.wrap (BitVec.ofInt k.bits x ^^^ BitVec.ofInt k.bits y).toNat))
theorem xx (k x y):MW k x y=k.wrap (BitVec.ofInt k.bits x ^^^ BitVec.ofInt k.bits y).toNat:=by rw[Jx]
def Hw:IntKind→Int→Int→Int:=Classical.choose (da (α:=IntKind→Int→Int→Int) (fun k x y=>k.wrap (BitVec.ofInt k.bits x &&& ~~~(BitVec.ofInt k.bits y)).toNat))
theorem K4:Hw=(fun k x y=>k.wrap (BitVec.ofInt k.bits x &&& ~~~(BitVec.ofInt k.bits y)).toNat):=Classical.choose_spec (da (α:=IntKind→Int→Int→Int) (fun k x y=>k.wrap (BitVec.ofInt k.bits x &&& ~~~(BitVec.ofInt k.bits y)).toNat))
theorem rS (k x y):Hw k x y=k.wrap (BitVec.ofInt k.bits x &&& ~~~(BitVec.ofInt k.bits y)).toNat:=by rw[K4]
def dc:IntKind→Int→Int→Int:=Classical.choose (da (α:=IntKind→Int→Int→Int) (fun k x y=>k.wrap (x*2 ^ (min y.toNat k.bits))))
theorem Je:dc=(fun k x y=>k.wrap (x*2 ^ (min y.toNat k.bits))):=Classical.choose_spec (da (α:=IntKind→Int→Int→Int) (fun k x y=>k.wrap (x*2 ^ (min y.toNat k.bits))))
theorem rJ (k x y):dc k x y=k.wrap (x*2 ^ (min y.toNat k.bits)):=by rw[Je]
def zq:IntKind→Int→Int→Int:=Classical.choose (da (α:=IntKind→Int→Int→Int) (fun k x y=>x.fdiv (2 ^ (min y.toNat k.bits))))
theorem Jg:zq=(fun k x y=>x.fdiv (2 ^ (min y.toNat k.bits))):=Classical.choose_spec (da (α:=IntKind→Int→Int→Int) (fun k x y=>x.fdiv (2 ^ (min y.toNat k.bits))))
theorem Dh (k x y):zq k x y=x.fdiv (2 ^ (min y.toNat k.bits)):=by rw[Jg]
def Tb:IntKind→Int→Int:=Classical.choose (da (α:=IntKind→Int→Int) (fun k x=>k.wrap x))
theorem MV:Tb=(fun k x=>k.wrap x):=Classical.choose_spec (da (α:=IntKind→Int→Int) (fun k x=>k.wrap x))
theorem MU (k x):Tb k x=k.wrap x:=by rw[MV]
def Bq:IntKind→Int→Int:=Classical.choose (da (α:=IntKind→Int→Int) (fun k x=>k.wrap (0-x)))
theorem IH:Bq=(fun k x=>k.wrap (0-x)):=Classical.choose_spec (da (α:=IntKind→Int→Int) (fun k x=>k.wrap (0-x)))
theorem wQ (k x):Bq k x=k.wrap (0-x):=by rw[IH]
def cK:Int→Int→Bool:=Classical.choose (da (α:=Int→Int→Bool) (fun x y=>(x == y)))
theorem Lv:cK=(fun x y=>(x == y)):=Classical.choose_spec (da (α:=Int→Int→Bool) (fun x y=>(x == y)))
theorem bf (x y):cK x y=(x == y):=by rw[Lv]
def bw:Int→Int→Bool:=Classical.choose (da (α:=Int→Int→Bool) (fun x y=>decide (x<y)))
theorem L4:bw=(fun x y=>decide (x<y)):=Classical.choose_spec (da (α:=Int→Int→Bool) (fun x y=>decide (x<y)))
theorem bn (x y):bw x y=decide (x<y):=by rw[L4]
def cU:Int→Int→Bool:=Classical.choose (da (α:=Int→Int→Bool) (fun x y=>decide (x≤y)))
theorem LW:cU=(fun x y=>decide (x≤y)):=Classical.choose_spec (da (α:=Int→Int→Bool) (fun x y=>decide (x≤y)))
theorem a7 (x y):cU x y=decide (x≤y):=by rw[LW]
def bU:Bool→Bool:=Classical.choose (da (α:=Bool→Bool) (fun b=>(!b)))
theorem IL:bU=(fun b=>(!b)):=Classical.choose_spec (da (α:=Bool→Bool) (fun b=>(!b)))
theorem aO (b):bU b=(!b):=by rw[IL]
def bL:Bool→Bool→Bool:=Classical.choose (da (α:=Bool→Bool→Bool) (fun a b=>(a && b)))
theorem Hx:bL=(fun a b=>(a && b)):=Classical.choose_spec (da (α:=Bool→Bool→Bool) (fun a b=>(a && b)))
theorem bW (a b):bL a b=(a && b):=by rw[Hx]
def Qq:Bool→Bool→Bool:=Classical.choose (da (α:=Bool→Bool→Bool) (fun a b=>(a == b)))
theorem Lu:Qq=(fun a b=>(a == b)):=Classical.choose_spec (da (α:=Bool→Bool→Bool) (fun a b=>(a == b)))
theorem Lt (a b):Qq a b=(a == b):=by rw[Lu]
def qY:Int→Int→Int:=Classical.choose (da (α:=Int→Int→Int) (fun x y=>if y<x then y else x))
theorem IA:qY=(fun x y=>if y<x then y else x):=Classical.choose_spec (da (α:=Int→Int→Int) (fun x y=>if y<x then y else x))
theorem mN (x y):qY x y=if y<x then y else x:=by rw[IA]
def nb:Int→Int→Int:=Classical.choose (da (α:=Int→Int→Int) (fun x y=>if y > x then y else x))
theorem Ix:nb=(fun x y=>if y > x then y else x):=Classical.choose_spec (da (α:=Int→Int→Int) (fun x y=>if y > x then y else x))
theorem mM (x y):nb x y=if y > x then y else x:=by rw[Ix]
def b8:Int→Nat→Bool:=Classical.choose (da (α:=Int→Nat→Bool) (fun (i:Int) (n:Nat)=>decide (0≤i∧i<(n:Int))))
theorem LP:b8=(fun (i:Int) (n:Nat)=>decide (0≤i∧i<(n:Int))):=Classical.choose_spec (da (α:=Int→Nat→Bool) (fun (i:Int) (n:Nat)=>decide (0≤i∧i<(n:Int))))
theorem pU (i n):b8 i n=decide (0≤i∧i<(n:Int)):=by rw[LP]
def ki:Int→Nat→Bool:=Classical.choose (da (α:=Int→Nat→Bool) (fun (i:Int) (n:Nat)=>decide (0≤i∧i≤(n:Int))))
theorem HL:ki=(fun (i:Int) (n:Nat)=>decide (0≤i∧i≤(n:Int))):=Classical.choose_spec (da (α:=Int→Nat→Bool) (fun (i:Int) (n:Nat)=>decide (0≤i∧i≤(n:Int))))
theorem B9 (i n):ki i n=decide (0≤i∧i≤(n:Int)):=by rw[HL]
def Ec:Int→Int→Nat→Bool:=Classical.choose (da (α:=Int→Int→Nat→Bool) (fun l c b=>decide (0≤l∧l≤c∧c.toNat*b≤room∧c.toNat≤room)))
theorem L8:Ec=(fun l c b=>decide (0≤l∧l≤c∧c.toNat*b≤room∧c.toNat≤room)):=Classical.choose_spec (da (α:=Int→Int→Nat→Bool) (fun l c b=>decide (0≤l∧l≤c∧c.toNat*b≤room∧c.toNat≤room)))
theorem wL (l c b):Ec l c b=decide (0≤l∧l≤c∧c.toNat*b≤room∧c.toNat≤room):=by rw[L8]
def cg:Int→Nat:=Classical.choose (da (α:=Int→Nat) (fun i=>i.toNat))
theorem MQ:cg=(fun i=>i.toNat):=Classical.choose_spec (da (α:=Int→Nat) (fun i=>i.toNat))
theorem jK (i):cg i=i.toNat:=by rw[MQ]
def aq:Nat→Int→Nat→Nat:=Classical.choose (da (α:=Nat→Int→Nat→Nat) (fun o i s=>o+i.toNat*s))
theorem LN:aq=(fun o i s=>o+i.toNat*s):=Classical.choose_spec (da (α:=Nat→Int→Nat→Nat) (fun o i s=>o+i.toNat*s))
theorem bP (o i s):aq o i s=o+i.toNat*s:=by rw[LN]
def ar:Nat→Nat→Nat:=Classical.choose (da (α:=Nat→Nat→Nat) (fun a b=>a+b))
theorem Hs:ar=(fun a b=>a+b):=Classical.choose_spec (da (α:=Nat→Nat→Nat) (fun a b=>a+b))
theorem aC (a b):ar a b=a+b:=by rw[Hs]
def jh:Nat→Nat→Nat:=Classical.choose (da (α:=Nat→Nat→Nat) (fun a b=>a-b))
theorem Jm:jh=(fun a b=>a-b):=Classical.choose_spec (da (α:=Nat→Nat→Nat) (fun a b=>a-b))
theorem gx (a b):jh a b=a-b:=by rw[Jm]
def bD:Nat→Nat→Nat:=Classical.choose (da (α:=Nat→Nat→Nat) (fun a b=>a*b))
theorem ID:bD=(fun a b=>a*b):=Classical.choose_spec (da (α:=Nat→Nat→Nat) (fun a b=>a*b))
theorem jt (a b):bD a b=a*b:=by rw[ID]
def Iy:Nat→Nat→Nat:=Classical.choose (da (α:=Nat→Nat→Nat) (fun a b=>min a b))
theorem Iz:Iy=(fun a b=>min a b):=Classical.choose_spec (da (α:=Nat→Nat→Nat) (fun a b=>min a b))
theorem CP (a b):Iy a b=min a b:=by rw[Iz]
def bR:Nat→Nat→Bool:=Classical.choose (da (α:=Nat→Nat→Bool) (fun a b=>decide (a<b)))
theorem L5:bR=(fun a b=>decide (a<b)):=Classical.choose_spec (da (α:=Nat→Nat→Bool) (fun a b=>decide (a<b)))
theorem gV (a b):bR a b=decide (a<b):=by rw[L5]
def dO:Nat→Nat→Bool:=Classical.choose (da (α:=Nat→Nat→Bool) (fun a b=>decide (a≤b)))
theorem LX:dO=(fun a b=>decide (a≤b)):=Classical.choose_spec (da (α:=Nat→Nat→Bool) (fun a b=>decide (a≤b)))
theorem iS (a b):dO a b=decide (a≤b):=by rw[LX]
def cu:Nat→Nat→Bool:=Classical.choose (da (α:=Nat→Nat→Bool) (fun a b=>decide (a=b)))
theorem Lw:cu=(fun a b=>decide (a=b)):=Classical.choose_spec (da (α:=Nat→Nat→Bool) (fun a b=>decide (a=b)))
theorem eQ (a b):cu a b=decide (a=b):=by rw[Lw]
def fF:Nat→Nat→Nat→Nat→Bool:=Classical.choose (da (α:=Nat→Nat→Nat→Nat→Bool) (fun o m p n=>decide (p≤o∧o+m≤p+n)))
theorem LR:fF=(fun o m p n=>decide (p≤o∧o+m≤p+n)):=Classical.choose_spec (da (α:=Nat→Nat→Nat→Nat→Bool) (fun o m p n=>decide (p≤o∧o+m≤p+n)))
theorem iP (o m p n):fF o m p n=decide (p≤o∧o+m≤p+n):=by rw[LR]
def K3:(Nat→AV)→IntKind→Nat→Bool→Prop:=Classical.choose (da (α:=(Nat→AV)→IntKind→Nat→Bool→Prop) (fun f k sz full=>∀ j,∃ z n m,f j=AV.slcT none (Row.M [db.arr k z n]) sz m full))
theorem Hv:K3=(fun f k sz full=>∀ j,∃ z n m,f j=AV.slcT none (Row.M [db.arr k z n]) sz m full):=Classical.choose_spec (da (α:=(Nat→AV)→IntKind→Nat→Bool→Prop) (fun f k sz full=>∀ j,∃ z n m,f j=AV.slcT none (Row.M [db.arr k z n]) sz m full))
theorem Hu (f k sz full):K3 f k sz full=∀ j,∃ z n m,f j=AV.slcT none (Row.M [db.arr k z n]) sz m full:=by rw[Hv]
def My:Bool→(Nat→Int)→(Nat→Int)→Nat→Int:=Classical.choose (da (α:=Bool→(Nat→Int)→(Nat→Int)→Nat→Int) (fun b x y=>cond b x y))
theorem Jb:My=(fun b x y=>cond b x y):=Classical.choose_spec (da (α:=Bool→(Nat→Int)→(Nat→Int)→Nat→Int) (fun b x y=>cond b x y))
theorem Ja (b x y):My b x y=cond b x y:=by rw[Jb]
def I7:Bool→Nat→Nat→Nat:=Classical.choose (da (α:=Bool→Nat→Nat→Nat) (fun b x y=>cond b x y))
theorem I9:I7=(fun b x y=>cond b x y):=Classical.choose_spec (da (α:=Bool→Nat→Nat→Nat) (fun b x y=>cond b x y))
theorem I8 (b x y):I7 b x y=cond b x y:=by rw[I9]
def ig:Nat→Nat→Nat→Bool:=Classical.choose (da (α:=Nat→Nat→Nat→Bool) (fun m n b=>decide ((m+n)*b≤room∧m+n≤room)))
theorem GP:ig=(fun m n b=>decide ((m+n)*b≤room∧m+n≤room)):=Classical.choose_spec (da (α:=Nat→Nat→Nat→Bool) (fun m n b=>decide ((m+n)*b≤room∧m+n≤room)))
theorem zi (m n b):ig m n b=decide ((m+n)*b≤room∧m+n≤room):=by rw[GP]
def ft:(Nat→Int)→Nat→Int→Nat→Int:=Classical.choose (da (α:=(Nat→Int)→Nat→Int→Nat→Int) (fun z i x=>fun j=>if j=i then x else z j))
theorem rN:ft=(fun z i x=>fun j=>if j=i then x else z j):=Classical.choose_spec (da (α:=(Nat→Int)→Nat→Int→Nat→Int) (fun z i x=>fun j=>if j=i then x else z j))
theorem jB (z i x):ft z i x=fun j=>if j=i then x else z j:=by rw[rN]
def qj:(Nat→Int)→Nat→Nat→Int:=Classical.choose (da (α:=(Nat→Int)→Nat→Nat→Int) (fun z o=>fun j=>z (o+j)))
theorem mn:qj=(fun z o=>fun j=>z (o+j)):=Classical.choose_spec (da (α:=(Nat→Int)→Nat→Nat→Int) (fun z o=>fun j=>z (o+j)))
def lI:(Nat→Int)→Nat→(Nat→Int)→Nat→Nat→Int:=Classical.choose (da (α:=(Nat→Int)→Nat→(Nat→Int)→Nat→Nat→Int) (fun z o z' n=>xO z o z' n))
theorem HU:lI=(fun z o z' n=>xO z o z' n):=Classical.choose_spec (da (α:=(Nat→Int)→Nat→(Nat→Int)→Nat→Nat→Int) (fun z o z' n=>xO z o z' n))
theorem wc (z o z' n):lI z o z' n=xO z o z' n:=by rw[HU]
def oz:(Nat→Int)→Nat→(Nat→Int)→Nat→Int:=Classical.choose (da (α:=(Nat→Int)→Nat→(Nat→Int)→Nat→Int) (fun z n z'=>fun i=>if i<n then z i else z' (i-n)))
theorem mr:oz=(fun z n z'=>fun i=>if i<n then z i else z' (i-n)):=Classical.choose_spec (da (α:=(Nat→Int)→Nat→(Nat→Int)→Nat→Int) (fun z n z'=>fun i=>if i<n then z i else z' (i-n)))
def LY:List Int→Nat:=Classical.choose (da (α:=List Int→Nat) (fun l=>l.length))
theorem Iq:LY=(fun l=>l.length):=Classical.choose_spec (da (α:=List Int→Nat) (fun l=>l.length))
theorem Ip (l):LY l=l.length:=by rw[Iq]
def aI:List Int→Nat→Int:=Classical.choose (da (α:=List Int→Nat→Int) (fun l=>fun j=>l.getD j 0))
theorem jq:aI=(fun l=>fun j=>l.getD j 0):=Classical.choose_spec (da (α:=List Int→Nat→Int) (fun l=>fun j=>l.getD j 0))
theorem gw (l):aI l=fun j=>l.getD j 0:=by rw[jq]
def lA:(Nat→Int)→(Nat→Int)→Nat→Bool:=Classical.choose (da (α:=(Nat→Int)→(Nat→Int)→Nat→Bool) (fun z z' n=>allEq z z' n))
theorem DG:lA=(fun z z' n=>allEq z z' n):=Classical.choose_spec (da (α:=(Nat→Int)→(Nat→Int)→Nat→Bool) (fun z z' n=>allEq z z' n))
theorem uZ (z z' n):lA z z' n=allEq z z' n:=by rw[DG]
def mj:(List Int→Bool)→List Int→Bool→List Int→Bool:=Classical.choose (da (α:=(List Int→Bool)→List Int→Bool→List Int→Bool) (fun h n b=>fp h n b))
theorem GX:mj=(fun h n b=>fp h n b):=Classical.choose_spec (da (α:=(List Int→Bool)→List Int→Bool→List Int→Bool) (fun h n b=>fp h n b))
theorem gO (h n b):mj h n b=fp h n b:=by rw[GX]
def ml:(List Int→Int)→List Int→Int→List Int→Int:=Classical.choose (da (α:=(List Int→Int)→List Int→Int→List Int→Int) (fun g n x=>iy g n x))
theorem GY:ml=(fun g n x=>iy g n x):=Classical.choose_spec (da (α:=(List Int→Int)→List Int→Int→List Int→Int) (fun g n x=>iy g n x))
theorem gP (g n x):ml g n x=iy g n x:=by rw[GY]
def qp:Bool→Nat→Nat:=Classical.choose (da (α:=Bool→Nat→Nat) (fun b c=>uu b c))
theorem Fs:qp=(fun b c=>uu b c):=Classical.choose_spec (da (α:=Bool→Nat→Nat) (fun b c=>uu b c))
theorem lG (b c):qp b c=uu b c:=by rw[Fs]
def xN:Bool→Nat→Nat:=Classical.choose (da (α:=Bool→Nat→Nat) (fun b c=>xM b c))
theorem Ft:xN=(fun b c=>xM b c):=Classical.choose_spec (da (α:=Bool→Nat→Nat) (fun b c=>xM b c))
theorem sa (b c):xN b c=xM b c:=by rw[Ft]

end
end Go.Eng
