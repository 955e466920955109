/- The engine as a tree: runs over values that are not known, as trees of tests. Operations that the kernel does not look into. -/
import Derived.Test.YtgphpjdchnfjlaaDoorV4EngXx4
set_option linter.unusedVariables false
set_option linter.unusedSimpArgs false
namespace Go.Eng
noncomputable section

inductive Tr (α:Type) where
 | ok (a:α)
 | bad
 | ite (c:Bool) (t e:Tr α)
 | req (c:Bool) (t:Tr α)
 | reqP (p:Prop) (t:Tr α)
open Classical in
def Tr.run {α:Type}:Tr α→Option α
 | .ok a=>some a
 | .bad=>none
 | .ite c t e=>cond c t.run e.run
 | .req c t=>cond c t.run none
 | .reqP p t=>if p then t.run else none
def Tr.bind {α β:Type} (t:Tr α) (f:α→Tr β):Tr β:=Tr.rec (motive:=fun _=>Tr β) f .bad (fun c _ _ a b=>.ite c a b) (fun c _ a=>.req c a) (fun p _ a=>.reqP p a) t
theorem Tr.EO {α β:Type} (t:Tr α) (f:α→Tr β):(t.bind f).run=t.run.bind fun a=>(f a).run:=by
 induction t with
 | ok a=>rfl
 | bad=>rfl
 | ite c a b iha ihb =>
   have e:(Tr.ite c a b).bind f=.ite c (a.bind f) (b.bind f):=rfl;rw[e];simp only[Tr.run,iha,ihb];cases c<;>rfl
 | req c a ih =>
   have e:(Tr.req c a).bind f=.req c (a.bind f):=rfl;rw[e];simp only[Tr.run,ih];cases c<;>rfl
 | reqP p a ih =>
   have e:(Tr.reqP p a).bind f=.reqP p (a.bind f):=rfl;rw[e];simp only[Tr.run,ih];by_cases hp:p
   · rw[if_pos hp,if_pos hp]
   · rw[if_neg hp,if_neg hp];rfl
theorem Tr.gp {α:Type} {p:Prop} {t:Tr α} {x:α} (h:(Tr.reqP p t).run=some x):p∧t.run=some x:=by
 simp only[Tr.run] at h;by_cases hp:p
 · rw[if_pos hp] at h;exact ⟨hp,h⟩
 · rw[if_neg hp] at h;cases h
theorem Tr.GM {α:Type} {p:Prop} {a:Tr α} (h:p):(Tr.reqP p a).run=a.run:=by simp only[Tr.run];rw[if_pos h]
theorem Tr.bind_some {α β:Type} {t:Tr α} {f:α→Tr β} {y:β} (h:(t.bind f).run=some y):∃ x,t.run=some x∧(f x).run=some y:=by
 rw[Tr.EO] at h;exact Option.bind_eq_some_iff.1 h
theorem Tr.aT {α:Type} {c:Bool} {t:Tr α} {x:α} (h:(Tr.req c t).run=some x):c=true∧t.run=some x:=by
 cases c with
 | true=>exact ⟨rfl,h⟩
 | false=>simp[Tr.run] at h
theorem Tr.kh {α:Type} {c:Bool} {t e:Tr α} {x:α} (h:(Tr.ite c t e).run=some x):(c=true∧t.run=some x)∨(c=false∧e.run=some x):=by
 cases c with
 | true=>exact .inl ⟨rfl,h⟩
 | false=>exact .inr ⟨rfl,h⟩
theorem Tr.ab {α:Type} {a x:α} (h:(Tr.ok a).run=some x):a=x:=Option.some.inj h
theorem Tr.ag {α:Type} {x:α} (h:(Tr.bad:Tr α).run=some x):False:=by simp[Tr.run] at h
def vz {α:Type} (o:Option α):Tr α:=Option.rec (motive:=fun _=>Tr α) .bad .ok o
theorem c5 {α:Type} (o:Option α):(vz o).run=o:=by cases o<;>rfl
theorem c7 {α:Type} (f:α):∃ g,g=f:=⟨f,rfl⟩

def a6:IntKind→Int→Int→Int:=Classical.choose (c7 (α:=IntKind→Int→Int→Int) (fun k x y=>k.wrap (x+y)))
theorem Hq:a6=(fun k x y=>k.wrap (x+y)):=Classical.choose_spec (c7 (α:=IntKind→Int→Int→Int) (fun k x y=>k.wrap (x+y)))
theorem fH (k x y):a6 k x y=k.wrap (x+y):=by rw[Hq]
def ct:IntKind→Int→Int→Int:=Classical.choose (c7 (α:=IntKind→Int→Int→Int) (fun k x y=>k.wrap (x-y)))
theorem Ji:ct=(fun k x y=>k.wrap (x-y)):=Classical.choose_spec (c7 (α:=IntKind→Int→Int→Int) (fun k x y=>k.wrap (x-y)))
theorem ew (k x y):ct k x y=k.wrap (x-y):=by rw[Ji]
def gk:IntKind→Int→Int→Int:=Classical.choose (c7 (α:=IntKind→Int→Int→Int) (fun k x y=>k.wrap (x*y)))
theorem Iy:gk=(fun k x y=>k.wrap (x*y)):=Classical.choose_spec (c7 (α:=IntKind→Int→Int→Int) (fun k x y=>k.wrap (x*y)))
theorem kY (k x y):gk k x y=k.wrap (x*y):=by rw[Iy]
def D7:IntKind→Int→Int→Int:=Classical.choose (c7 (α:=IntKind→Int→Int→Int) (fun k x y=>k.wrap (x.tdiv y)))
theorem IV:D7=(fun k x y=>k.wrap (x.tdiv y)):=Classical.choose_spec (c7 (α:=IntKind→Int→Int→Int) (fun k x y=>k.wrap (x.tdiv y)))
theorem CW (k x y):D7 k x y=k.wrap (x.tdiv y):=by rw[IV]
def jo:IntKind→Int→Int→Int:=Classical.choose (c7 (α:=IntKind→Int→Int→Int) (fun k x y=>x.tmod y))
theorem IZ:jo=(fun k x y=>x.tmod y):=Classical.choose_spec (c7 (α:=IntKind→Int→Int→Int) (fun k x y=>x.tmod y))
theorem iD (k x y):jo k x y=x.tmod y:=by rw[IZ]
def m5:IntKind→Int→Int→Int:=Classical.choose (c7 (α:=IntKind→Int→Int→Int) (fun k x y=>k.wrap (BitVec.ofInt k.bits x &&& BitVec.ofInt k.bits y).toNat))
theorem Hw:m5=(fun k x y=>k.wrap (BitVec.ofInt k.bits x &&& BitVec.ofInt k.bits y).toNat):=Classical.choose_spec (c7 (α:=IntKind→Int→Int→Int) (fun k x y=>k.wrap (BitVec.ofInt k.bits x &&& BitVec.ofInt k.bits y).toNat))
theorem rb (k x y):m5 k x y=k.wrap (BitVec.ofInt k.bits x &&& BitVec.ofInt k.bits y).toNat:=by rw[Hw]
def rH:IntKind→Int→Int→Int:=Classical.choose (c7 (α:=IntKind→Int→Int→Int) (fun k x y=>k.wrap (BitVec.ofInt k.bits x ||| BitVec.ofInt k.bits y).toNat))
theorem Mf:rH=(fun k x y=>k.wrap (BitVec.ofInt k.bits x ||| BitVec.ofInt k.bits y).toNat):=Classical.choose_spec (c7 (α:=IntKind→Int→Int→Int) (fun k x y=>k.wrap (BitVec.ofInt k.bits x ||| BitVec.ofInt k.bits y).toNat))
theorem th (k x y):rH k x y=k.wrap (BitVec.ofInt k.bits x ||| BitVec.ofInt k.bits y).toNat:=by rw[Mf]
def MS:IntKind→Int→Int→Int:=Classical.choose (c7 (α:=IntKind→Int→Int→Int) (fun k x y=>k.wrap (BitVec.ofInt k.bits x ^^^ BitVec.ofInt k.bits y).toNat))
theorem Jt:MS=(fun k x y=>k.wrap (BitVec.ofInt k.bits x ^^^ BitVec.ofInt k.bits y).toNat):=Classical.choose_spec (c7 (α:=IntKind→Int→Int→Int) (fun k x y=>k.wrap (BitVec.ofInt k.bits x ^^^ BitVec.ofInt k.bits y).toNat))
theorem xt (k x y):MS k x y=k.wrap (BitVec.ofInt k.bits x ^^^ BitVec.ofInt k.bits y).toNat:=by rw[Jt]
def Ah:IntKind→Int→Int→Int:=Classical.choose (c7 (α:=IntKind→Int→Int→Int) (fun k x y=>k.wrap (BitVec.ofInt k.bits x &&& ~~~(BitVec.ofInt k.bits y)).toNat))
theorem K6:Ah=(fun k x y=>k.wrap (BitVec.ofInt k.bits x &&& ~~~(BitVec.ofInt k.bits y)).toNat):=Classical.choose_spec (c7 (α:=IntKind→Int→Int→Int) (fun k x y=>k.wrap (BitVec.ofInt k.bits x &&& ~~~(BitVec.ofInt k.bits y)).toNat))
theorem rU (k x y):Ah k x y=k.wrap (BitVec.ofInt k.bits x &&& ~~~(BitVec.ofInt k.bits y)).toNat:=by rw[K6]
def ef:IntKind→Int→Int→Int:=Classical.choose (c7 (α:=IntKind→Int→Int→Int) (fun k x y=>k.wrap (x*2 ^ (min y.toNat k.bits))))
theorem Jd:ef=(fun k x y=>k.wrap (x*2 ^ (min y.toNat k.bits))):=Classical.choose_spec (c7 (α:=IntKind→Int→Int→Int) (fun k x y=>k.wrap (x*2 ^ (min y.toNat k.bits))))
theorem xk (k x y):ef k x y=k.wrap (x*2 ^ (min y.toNat k.bits)):=by rw[Jd]
def Mz:IntKind→Int→Int→Int:=Classical.choose (c7 (α:=IntKind→Int→Int→Int) (fun k x y=>x.fdiv (2 ^ (min y.toNat k.bits))))
theorem Jf:Mz=(fun k x y=>x.fdiv (2 ^ (min y.toNat k.bits))):=Classical.choose_spec (c7 (α:=IntKind→Int→Int→Int) (fun k x y=>x.fdiv (2 ^ (min y.toNat k.bits))))
theorem Je (k x y):Mz k x y=x.fdiv (2 ^ (min y.toNat k.bits)):=by rw[Jf]
def nh:IntKind→Int→Int:=Classical.choose (c7 (α:=IntKind→Int→Int) (fun k x=>k.wrap x))
theorem MQ:nh=(fun k x=>k.wrap x):=Classical.choose_spec (c7 (α:=IntKind→Int→Int) (fun k x=>k.wrap x))
theorem Hc (k x):nh k x=k.wrap x:=by rw[MQ]
def Ga:IntKind→Int→Int:=Classical.choose (c7 (α:=IntKind→Int→Int) (fun k x=>k.wrap (0-x)))
theorem ID:Ga=(fun k x=>k.wrap (0-x)):=Classical.choose_spec (c7 (α:=IntKind→Int→Int) (fun k x=>k.wrap (0-x)))
theorem CE (k x):Ga k x=k.wrap (0-x):=by rw[ID]
def bw:Int→Int→Bool:=Classical.choose (c7 (α:=Int→Int→Bool) (fun x y=>(x == y)))
theorem Lu:bw=(fun x y=>(x == y)):=Classical.choose_spec (c7 (α:=Int→Int→Bool) (fun x y=>(x == y)))
theorem bm (x y):bw x y=(x == y):=by rw[Lu]
def bH:Int→Int→Bool:=Classical.choose (c7 (α:=Int→Int→Bool) (fun x y=>decide (x<y)))
theorem L1:bH=(fun x y=>decide (x<y)):=Classical.choose_spec (c7 (α:=Int→Int→Bool) (fun x y=>decide (x<y)))
theorem bK (x y):bH x y=decide (x<y):=by rw[L1]
def dJ:Int→Int→Bool:=Classical.choose (c7 (α:=Int→Int→Bool) (fun x y=>decide (x≤y)))
theorem LV:dJ=(fun x y=>decide (x≤y)):=Classical.choose_spec (c7 (α:=Int→Int→Bool) (fun x y=>decide (x≤y)))
theorem bn (x y):dJ x y=decide (x≤y):=by rw[LV]
def aE:Bool→Bool:=Classical.choose (c7 (α:=Bool→Bool) (fun b=>(!b)))
theorem IF:aE=(fun b=>(!b)):=Classical.choose_spec (c7 (α:=Bool→Bool) (fun b=>(!b)))
theorem aM (b):aE b=(!b):=by rw[IF]
def bJ:Bool→Bool→Bool:=Classical.choose (c7 (α:=Bool→Bool→Bool) (fun a b=>(a && b)))
theorem Hv:bJ=(fun a b=>(a && b)):=Classical.choose_spec (c7 (α:=Bool→Bool→Bool) (fun a b=>(a && b)))
theorem cg (a b):bJ a b=(a && b):=by rw[Hv]
def P7:Bool→Bool→Bool:=Classical.choose (c7 (α:=Bool→Bool→Bool) (fun a b=>(a == b)))
theorem Lt:P7=(fun a b=>(a == b)):=Classical.choose_spec (c7 (α:=Bool→Bool→Bool) (fun a b=>(a == b)))
theorem Ls (a b):P7 a b=(a == b):=by rw[Lt]
def yw:Int→Int→Int:=Classical.choose (c7 (α:=Int→Int→Int) (fun x y=>if y<x then y else x))
theorem Iw:yw=(fun x y=>if y<x then y else x):=Classical.choose_spec (c7 (α:=Int→Int→Int) (fun x y=>if y<x then y else x))
theorem rB (x y):yw x y=if y<x then y else x:=by rw[Iw]
def uG:Int→Int→Int:=Classical.choose (c7 (α:=Int→Int→Int) (fun x y=>if y > x then y else x))
theorem Iu:uG=(fun x y=>if y > x then y else x):=Classical.choose_spec (c7 (α:=Int→Int→Int) (fun x y=>if y > x then y else x))
theorem rA (x y):uG x y=if y > x then y else x:=by rw[Iu]
def bR:Int→Nat→Bool:=Classical.choose (c7 (α:=Int→Nat→Bool) (fun (i:Int) (n:Nat)=>decide (0≤i∧i<(n:Int))))
theorem LN:bR=(fun (i:Int) (n:Nat)=>decide (0≤i∧i<(n:Int))):=Classical.choose_spec (c7 (α:=Int→Nat→Bool) (fun (i:Int) (n:Nat)=>decide (0≤i∧i<(n:Int))))
theorem pZ (i n):bR i n=decide (0≤i∧i<(n:Int)):=by rw[LN]
def kG:Int→Nat→Bool:=Classical.choose (c7 (α:=Int→Nat→Bool) (fun (i:Int) (n:Nat)=>decide (0≤i∧i≤(n:Int))))
theorem HJ:kG=(fun (i:Int) (n:Nat)=>decide (0≤i∧i≤(n:Int))):=Classical.choose_spec (c7 (α:=Int→Nat→Bool) (fun (i:Int) (n:Nat)=>decide (0≤i∧i≤(n:Int))))
theorem BT (i n):kG i n=decide (0≤i∧i≤(n:Int)):=by rw[HJ]
def CC:Int→Int→Nat→Bool:=Classical.choose (c7 (α:=Int→Int→Nat→Bool) (fun l c b=>decide (0≤l∧l≤c∧c.toNat*b≤room∧c.toNat≤room)))
theorem L5:CC=(fun l c b=>decide (0≤l∧l≤c∧c.toNat*b≤room∧c.toNat≤room)):=Classical.choose_spec (c7 (α:=Int→Int→Nat→Bool) (fun l c b=>decide (0≤l∧l≤c∧c.toNat*b≤room∧c.toNat≤room)))
theorem A8 (l c b):CC l c b=decide (0≤l∧l≤c∧c.toNat*b≤room∧c.toNat≤room):=by rw[L5]
def bX:Int→Nat:=Classical.choose (c7 (α:=Int→Nat) (fun i=>i.toNat))
theorem ML:bX=(fun i=>i.toNat):=Classical.choose_spec (c7 (α:=Int→Nat) (fun i=>i.toNat))
theorem jU (i):bX i=i.toNat:=by rw[ML]
def av:Nat→Int→Nat→Nat:=Classical.choose (c7 (α:=Nat→Int→Nat→Nat) (fun o i s=>o+i.toNat*s))
theorem LK:av=(fun o i s=>o+i.toNat*s):=Classical.choose_spec (c7 (α:=Nat→Int→Nat→Nat) (fun o i s=>o+i.toNat*s))
theorem bE (o i s):av o i s=o+i.toNat*s:=by rw[LK]
def aq:Nat→Nat→Nat:=Classical.choose (c7 (α:=Nat→Nat→Nat) (fun a b=>a+b))
theorem Hr:aq=(fun a b=>a+b):=Classical.choose_spec (c7 (α:=Nat→Nat→Nat) (fun a b=>a+b))
theorem aK (a b):aq a b=a+b:=by rw[Hr]
def cY:Nat→Nat→Nat:=Classical.choose (c7 (α:=Nat→Nat→Nat) (fun a b=>a-b))
theorem Jk:cY=(fun a b=>a-b):=Classical.choose_spec (c7 (α:=Nat→Nat→Nat) (fun a b=>a-b))
theorem cQ (a b):cY a b=a-b:=by rw[Jk]
def bU:Nat→Nat→Nat:=Classical.choose (c7 (α:=Nat→Nat→Nat) (fun a b=>a*b))
theorem Iz:bU=(fun a b=>a*b):=Classical.choose_spec (c7 (α:=Nat→Nat→Nat) (fun a b=>a*b))
theorem pg (a b):bU a b=a*b:=by rw[Iz]
def wN:Nat→Nat→Nat:=Classical.choose (c7 (α:=Nat→Nat→Nat) (fun a b=>min a b))
theorem Iv:wN=(fun a b=>min a b):=Classical.choose_spec (c7 (α:=Nat→Nat→Nat) (fun a b=>min a b))
theorem wO (a b):wN a b=min a b:=by rw[Iv]
def cH:Nat→Nat→Bool:=Classical.choose (c7 (α:=Nat→Nat→Bool) (fun a b=>decide (a<b)))
theorem L2:cH=(fun a b=>decide (a<b)):=Classical.choose_spec (c7 (α:=Nat→Nat→Bool) (fun a b=>decide (a<b)))
theorem ie (a b):cH a b=decide (a<b):=by rw[L2]
def dD:Nat→Nat→Bool:=Classical.choose (c7 (α:=Nat→Nat→Bool) (fun a b=>decide (a≤b)))
theorem LW:dD=(fun a b=>decide (a≤b)):=Classical.choose_spec (c7 (α:=Nat→Nat→Bool) (fun a b=>decide (a≤b)))
theorem kU (a b):dD a b=decide (a≤b):=by rw[LW]
def cj:Nat→Nat→Bool:=Classical.choose (c7 (α:=Nat→Nat→Bool) (fun a b=>decide (a=b)))
theorem Lv:cj=(fun a b=>decide (a=b)):=Classical.choose_spec (c7 (α:=Nat→Nat→Bool) (fun a b=>decide (a=b)))
theorem fJ (a b):cj a b=decide (a=b):=by rw[Lv]
def dT:Nat→Nat→Nat→Nat→Bool:=Classical.choose (c7 (α:=Nat→Nat→Nat→Nat→Bool) (fun o m p n=>decide (p≤o∧o+m≤p+n)))
theorem LP:dT=(fun o m p n=>decide (p≤o∧o+m≤p+n)):=Classical.choose_spec (c7 (α:=Nat→Nat→Nat→Nat→Bool) (fun o m p n=>decide (p≤o∧o+m≤p+n)))
theorem jP (o m p n):dT o m p n=decide (p≤o∧o+m≤p+n):=by rw[LP]
def K5:(Nat→AV)→IntKind→Nat→Bool→Prop:=Classical.choose (c7 (α:=(Nat→AV)→IntKind→Nat→Bool→Prop) (fun f k sz full=>∀ j,∃ z n m,f j=AV.slcT none (Row.M [c8.arr k z n]) sz m full))
theorem Hu:K5=(fun f k sz full=>∀ j,∃ z n m,f j=AV.slcT none (Row.M [c8.arr k z n]) sz m full):=Classical.choose_spec (c7 (α:=(Nat→AV)→IntKind→Nat→Bool→Prop) (fun f k sz full=>∀ j,∃ z n m,f j=AV.slcT none (Row.M [c8.arr k z n]) sz m full))
theorem Ht (f k sz full):K5 f k sz full=∀ j,∃ z n m,f j=AV.slcT none (Row.M [c8.arr k z n]) sz m full:=by rw[Hu]
def Mv:Bool→(Nat→Int)→(Nat→Int)→Nat→Int:=Classical.choose (c7 (α:=Bool→(Nat→Int)→(Nat→Int)→Nat→Int) (fun b x y=>cond b x y))
theorem Ja:Mv=(fun b x y=>cond b x y):=Classical.choose_spec (c7 (α:=Bool→(Nat→Int)→(Nat→Int)→Nat→Int) (fun b x y=>cond b x y))
theorem I9 (b x y):Mv b x y=cond b x y:=by rw[Ja]
def I6:Bool→Nat→Nat→Nat:=Classical.choose (c7 (α:=Bool→Nat→Nat→Nat) (fun b x y=>cond b x y))
theorem I8:I6=(fun b x y=>cond b x y):=Classical.choose_spec (c7 (α:=Bool→Nat→Nat→Nat) (fun b x y=>cond b x y))
theorem I7 (b x y):I6 b x y=cond b x y:=by rw[I8]
def fU:Nat→Nat→Nat→Bool:=Classical.choose (c7 (α:=Nat→Nat→Nat→Bool) (fun m n b=>decide ((m+n)*b≤room∧m+n≤room)))
theorem GI:fU=(fun m n b=>decide ((m+n)*b≤room∧m+n≤room)):=Classical.choose_spec (c7 (α:=Nat→Nat→Nat→Bool) (fun m n b=>decide ((m+n)*b≤room∧m+n≤room)))
theorem yS (m n b):fU m n b=decide ((m+n)*b≤room∧m+n≤room):=by rw[GI]
def eg:(Nat→Int)→Nat→Int→Nat→Int:=Classical.choose (c7 (α:=(Nat→Int)→Nat→Int→Nat→Int) (fun z i x=>fun j=>if j=i then x else z j))
theorem rO:eg=(fun z i x=>fun j=>if j=i then x else z j):=Classical.choose_spec (c7 (α:=(Nat→Int)→Nat→Int→Nat→Int) (fun z i x=>fun j=>if j=i then x else z j))
theorem jH (z i x):eg z i x=fun j=>if j=i then x else z j:=by rw[rO]
def dZ:(Nat→Int)→Nat→Nat→Int:=Classical.choose (c7 (α:=(Nat→Int)→Nat→Nat→Int) (fun z o=>fun j=>z (o+j)))
theorem mD:dZ=(fun z o=>fun j=>z (o+j)):=Classical.choose_spec (c7 (α:=(Nat→Int)→Nat→Nat→Int) (fun z o=>fun j=>z (o+j)))
def m6:(Nat→Int)→Nat→(Nat→Int)→Nat→Nat→Int:=Classical.choose (c7 (α:=(Nat→Int)→Nat→(Nat→Int)→Nat→Nat→Int) (fun z o z' n=>vX z o z' n))
theorem HR:m6=(fun z o z' n=>vX z o z' n):=Classical.choose_spec (c7 (α:=(Nat→Int)→Nat→(Nat→Int)→Nat→Nat→Int) (fun z o z' n=>vX z o z' n))
theorem ri (z o z' n):m6 z o z' n=vX z o z' n:=by rw[HR]
def oD:(Nat→Int)→Nat→(Nat→Int)→Nat→Int:=Classical.choose (c7 (α:=(Nat→Int)→Nat→(Nat→Int)→Nat→Int) (fun z n z'=>fun i=>if i<n then z i else z' (i-n)))
theorem mG:oD=(fun z n z'=>fun i=>if i<n then z i else z' (i-n)):=Classical.choose_spec (c7 (α:=(Nat→Int)→Nat→(Nat→Int)→Nat→Int) (fun z n z'=>fun i=>if i<n then z i else z' (i-n)))
def FX:List Int→Nat:=Classical.choose (c7 (α:=List Int→Nat) (fun l=>l.length))
theorem Io:FX=(fun l=>l.length):=Classical.choose_spec (c7 (α:=List Int→Nat) (fun l=>l.length))
theorem Cv (l):FX l=l.length:=by rw[Io]
def az:List Int→Nat→Int:=Classical.choose (c7 (α:=List Int→Nat→Int) (fun l=>fun j=>l.getD j 0))
theorem kW:az=(fun l=>fun j=>l.getD j 0):=Classical.choose_spec (c7 (α:=List Int→Nat→Int) (fun l=>fun j=>l.getD j 0))
theorem fT (l):az l=fun j=>l.getD j 0:=by rw[kW]
def lP:(Nat→Int)→(Nat→Int)→Nat→Bool:=Classical.choose (c7 (α:=(Nat→Int)→(Nat→Int)→Nat→Bool) (fun z z' n=>allEq z z' n))
theorem Dr:lP=(fun z z' n=>allEq z z' n):=Classical.choose_spec (c7 (α:=(Nat→Int)→(Nat→Int)→Nat→Bool) (fun z z' n=>allEq z z' n))
theorem uS (z z' n):lP z z' n=allEq z z' n:=by rw[Dr]
def mB:(List Int→Bool)→List Int→Bool→List Int→Bool:=Classical.choose (c7 (α:=(List Int→Bool)→List Int→Bool→List Int→Bool) (fun h n b=>fv h n b))
theorem GR:mB=(fun h n b=>fv h n b):=Classical.choose_spec (c7 (α:=(List Int→Bool)→List Int→Bool→List Int→Bool) (fun h n b=>fv h n b))
theorem gQ (h n b):mB h n b=fv h n b:=by rw[GR]
def mC:(List Int→Int)→List Int→Int→List Int→Int:=Classical.choose (c7 (α:=(List Int→Int)→List Int→Int→List Int→Int) (fun g n x=>iH g n x))
theorem GS:mC=(fun g n x=>iH g n x):=Classical.choose_spec (c7 (α:=(List Int→Int)→List Int→Int→List Int→Int) (fun g n x=>iH g n x))
theorem gS (g n x):mC g n x=iH g n x:=by rw[GS]
def qv:Bool→Nat→Nat:=Classical.choose (c7 (α:=Bool→Nat→Nat) (fun b c=>ur b c))
theorem Fa:qv=(fun b c=>ur b c):=Classical.choose_spec (c7 (α:=Bool→Nat→Nat) (fun b c=>ur b c))
theorem lT (b c):qv b c=ur b c:=by rw[Fa]
def xH:Bool→Nat→Nat:=Classical.choose (c7 (α:=Bool→Nat→Nat) (fun b c=>xG b c))
theorem Fb:xH=(fun b c=>xG b c):=Classical.choose_spec (c7 (α:=Bool→Nat→Nat) (fun b c=>xG b c))
theorem sb (b c):xH b c=xG b c:=by rw[Fb]

end
end Go.Eng
