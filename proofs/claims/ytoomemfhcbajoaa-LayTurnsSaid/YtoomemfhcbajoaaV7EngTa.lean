/- The engine as a tree: runs over values that are not known, as trees of tests. Operations that the kernel does not look into. -/
import Derived.Test.YtoomemfhcbajoaaV7EngZx2
namespace Go.Eng
set_option linter.unusedVariables false
set_option linter.unusedSimpArgs false
noncomputable section

inductive Tr (α:Type) where
 | ok (a:α)
 | bad
 | ite (c:Bool) (t e:Tr α)
 | req (c:Bool) (t:Tr α)
 | reqP (p:Prop) (t:Tr α)
open Classical in
def Tr.run {α:Type}:Tr α→Option α
 | .ok a=>some a
 | .bad=>none
 | .ite c t e=>cond c t.run e.run
 | .req c t=>cond c t.run none
 | .reqP p t=>if p then t.run else none
def Tr.bind {α β:Type} (t:Tr α) (f:α→Tr β):Tr β:=Tr.rec (motive:=fun _=>Tr β) f .bad (fun c _ _ a b=>.ite c a b) (fun c _ a=>.req c a) (fun p _ a=>.reqP p a) t
theorem Tr.bind_run {α β:Type} (t:Tr α) (f:α→Tr β):(t.bind f).run=t.run.bind fun a=>(f a).run:=by
 induction t with
 | ok a=>rfl
 | bad=>rfl
 | ite c a b iha ihb =>
   have e:(Tr.ite c a b).bind f=.ite c (a.bind f) (b.bind f):=rfl
   rw[e];simp only[Tr.run,iha,ihb];cases c<;>rfl
 | req c a ih =>
   have e:(Tr.req c a).bind f=.req c (a.bind f):=rfl
   rw[e];simp only[Tr.run,ih];cases c<;>rfl
 | reqP p a ih =>
   have e:(Tr.reqP p a).bind f=.reqP p (a.bind f):=rfl
   rw[e];simp only[Tr.run,ih]
   by_cases hp:p
   · rw[if_pos hp,if_pos hp]
   · rw[if_neg hp,if_neg hp];rfl
theorem Tr.reqP_some {α:Type} {p:Prop} {t:Tr α} {x:α} (h:(Tr.reqP p t).run=some x):p∧t.run=some x:=by
 simp only[Tr.run] at h
 by_cases hp:p
 · rw[if_pos hp] at h;exact ⟨hp,h⟩
 · rw[if_neg hp] at h;cases h
theorem Tr.run_reqP {α:Type} {p:Prop} {a:Tr α} (h:p):(Tr.reqP p a).run=a.run:=by simp only[Tr.run];rw[if_pos h]
theorem Tr.bind_some {α β:Type} {t:Tr α} {f:α→Tr β} {y:β} (h:(t.bind f).run=some y):∃ x,t.run=some x∧(f x).run=some y:=by
 rw[Tr.bind_run] at h
 exact Option.bind_eq_some_iff.1 h
theorem Tr.req_some {α:Type} {c:Bool} {t:Tr α} {x:α} (h:(Tr.req c t).run=some x):c=true∧t.run=some x:=by
 cases c with
 | true=>exact ⟨rfl,h⟩
 | false=>simp[Tr.run] at h
theorem Tr.ite_some {α:Type} {c:Bool} {t e:Tr α} {x:α} (h:(Tr.ite c t e).run=some x):(c=true∧t.run=some x)∨(c=false∧e.run=some x):=by
 cases c with
 | true=>exact .inl ⟨rfl,h⟩
 | false=>exact .inr ⟨rfl,h⟩
theorem Tr.ok_some {α:Type} {a x:α} (h:(Tr.ok a).run=some x):a=x:=Option.some.inj h
theorem Tr.bad_some {α:Type} {x:α} (h:(Tr.bad:Tr α).run=some x):False:=by simp[Tr.run] at h
def ofO {α:Type} (o:Option α):Tr α:=Option.rec (motive:=fun _=>Tr α) .bad .ok o
theorem ofO_run {α:Type} (o:Option α):(ofO o).run=o:=by cases o<;>rfl
theorem opq {α:Type} (f:α):∃ g,g=f:=⟨f,rfl⟩

def addI:IntKind→Int→Int→Int:=Classical.choose (opq (α:=IntKind→Int→Int→Int) (fun k x y=>k.wrap (x+y)))
theorem addI_fn:addI=(fun k x y=>k.wrap (x+y)):=Classical.choose_spec (opq (α:=IntKind→Int→Int→Int) (fun k x y=>k.wrap (x+y)))
theorem addI_eq (k x y):addI k x y=k.wrap (x+y):=by rw[addI_fn]
def subI:IntKind→Int→Int→Int:=Classical.choose (opq (α:=IntKind→Int→Int→Int) (fun k x y=>k.wrap (x-y)))
theorem subI_fn:subI=(fun k x y=>k.wrap (x-y)):=Classical.choose_spec (opq (α:=IntKind→Int→Int→Int) (fun k x y=>k.wrap (x-y)))
theorem subI_eq (k x y):subI k x y=k.wrap (x-y):=by rw[subI_fn]
def mulI:IntKind→Int→Int→Int:=Classical.choose (opq (α:=IntKind→Int→Int→Int) (fun k x y=>k.wrap (x*y)))
theorem mulI_fn:mulI=(fun k x y=>k.wrap (x*y)):=Classical.choose_spec (opq (α:=IntKind→Int→Int→Int) (fun k x y=>k.wrap (x*y)))
theorem mulI_eq (k x y):mulI k x y=k.wrap (x*y):=by rw[mulI_fn]
def quoI:IntKind→Int→Int→Int:=Classical.choose (opq (α:=IntKind→Int→Int→Int) (fun k x y=>k.wrap (x.tdiv y)))
theorem quoI_fn:quoI=(fun k x y=>k.wrap (x.tdiv y)):=Classical.choose_spec (opq (α:=IntKind→Int→Int→Int) (fun k x y=>k.wrap (x.tdiv y)))
theorem quoI_eq (k x y):quoI k x y=k.wrap (x.tdiv y):=by rw[quoI_fn]
def remI:IntKind→Int→Int→Int:=Classical.choose (opq (α:=IntKind→Int→Int→Int) (fun k x y=>x.tmod y))
theorem remI_fn:remI=(fun k x y=>x.tmod y):=Classical.choose_spec (opq (α:=IntKind→Int→Int→Int) (fun k x y=>x.tmod y))
theorem remI_eq (k x y):remI k x y=x.tmod y:=by rw[remI_fn]
def andI:IntKind→Int→Int→Int:=Classical.choose (opq (α:=IntKind→Int→Int→Int) (fun k x y=>k.wrap (BitVec.ofInt k.bits x &&& BitVec.ofInt k.bits y).toNat))
theorem andI_fn:andI=(fun k x y=>k.wrap (BitVec.ofInt k.bits x &&& BitVec.ofInt k.bits y).toNat):=Classical.choose_spec (opq (α:=IntKind→Int→Int→Int) (fun k x y=>k.wrap (BitVec.ofInt k.bits x &&& BitVec.ofInt k.bits y).toNat))
theorem andI_eq (k x y):andI k x y=k.wrap (BitVec.ofInt k.bits x &&& BitVec.ofInt k.bits y).toNat:=by rw[andI_fn]
def orI:IntKind→Int→Int→Int:=Classical.choose (opq (α:=IntKind→Int→Int→Int) (fun k x y=>k.wrap (BitVec.ofInt k.bits x ||| BitVec.ofInt k.bits y).toNat))
theorem orI_fn:orI=(fun k x y=>k.wrap (BitVec.ofInt k.bits x ||| BitVec.ofInt k.bits y).toNat):=Classical.choose_spec (opq (α:=IntKind→Int→Int→Int) (fun k x y=>k.wrap (BitVec.ofInt k.bits x ||| BitVec.ofInt k.bits y).toNat))
theorem orI_eq (k x y):orI k x y=k.wrap (BitVec.ofInt k.bits x ||| BitVec.ofInt k.bits y).toNat:=by rw[orI_fn]
def xorI:IntKind→Int→Int→Int:=Classical.choose (opq (α:=IntKind→Int→Int→Int) (fun k x y=>k.wrap (BitVec.ofInt k.bits x ^^^ BitVec.ofInt k.bits y).toNat))
theorem xorI_fn:xorI=(fun k x y=>k.wrap (BitVec.ofInt k.bits x ^^^ BitVec.ofInt k.bits y).toNat):=Classical.choose_spec (opq (α:=IntKind→Int→Int→Int) (fun k x y=>k.wrap (BitVec.ofInt k.bits x ^^^ BitVec.ofInt k.bits y).toNat))
theorem xorI_eq (k x y):xorI k x y=k.wrap (BitVec.ofInt k.bits x ^^^ BitVec.ofInt k.bits y).toNat:=by rw[xorI_fn]
def anI:IntKind→Int→Int→Int:=Classical.choose (opq (α:=IntKind→Int→Int→Int) (fun k x y=>k.wrap (BitVec.ofInt k.bits x &&& ~~~(BitVec.ofInt k.bits y)).toNat))
theorem anI_fn:anI=(fun k x y=>k.wrap (BitVec.ofInt k.bits x &&& ~~~(BitVec.ofInt k.bits y)).toNat):=Classical.choose_spec (opq (α:=IntKind→Int→Int→Int) (fun k x y=>k.wrap (BitVec.ofInt k.bits x &&& ~~~(BitVec.ofInt k.bits y)).toNat))
theorem anI_eq (k x y):anI k x y=k.wrap (BitVec.ofInt k.bits x &&& ~~~(BitVec.ofInt k.bits y)).toNat:=by rw[anI_fn]
def shlI:IntKind→Int→Int→Int:=Classical.choose (opq (α:=IntKind→Int→Int→Int) (fun k x y=>k.wrap (x*2 ^ (min y.toNat k.bits))))
theorem shlI_fn:shlI=(fun k x y=>k.wrap (x*2 ^ (min y.toNat k.bits))):=Classical.choose_spec (opq (α:=IntKind→Int→Int→Int) (fun k x y=>k.wrap (x*2 ^ (min y.toNat k.bits))))
theorem shlI_eq (k x y):shlI k x y=k.wrap (x*2 ^ (min y.toNat k.bits)):=by rw[shlI_fn]
def shrI:IntKind→Int→Int→Int:=Classical.choose (opq (α:=IntKind→Int→Int→Int) (fun k x y=>x.fdiv (2 ^ (min y.toNat k.bits))))
theorem shrI_fn:shrI=(fun k x y=>x.fdiv (2 ^ (min y.toNat k.bits))):=Classical.choose_spec (opq (α:=IntKind→Int→Int→Int) (fun k x y=>x.fdiv (2 ^ (min y.toNat k.bits))))
theorem shrI_eq (k x y):shrI k x y=x.fdiv (2 ^ (min y.toNat k.bits)):=by rw[shrI_fn]
def wrI:IntKind→Int→Int:=Classical.choose (opq (α:=IntKind→Int→Int) (fun k x=>k.wrap x))
theorem wrI_fn:wrI=(fun k x=>k.wrap x):=Classical.choose_spec (opq (α:=IntKind→Int→Int) (fun k x=>k.wrap x))
theorem wrI_eq (k x):wrI k x=k.wrap x:=by rw[wrI_fn]
def negI:IntKind→Int→Int:=Classical.choose (opq (α:=IntKind→Int→Int) (fun k x=>k.wrap (0-x)))
theorem negI_fn:negI=(fun k x=>k.wrap (0-x)):=Classical.choose_spec (opq (α:=IntKind→Int→Int) (fun k x=>k.wrap (0-x)))
theorem negI_eq (k x):negI k x=k.wrap (0-x):=by rw[negI_fn]
def eqI:Int→Int→Bool:=Classical.choose (opq (α:=Int→Int→Bool) (fun x y=>(x == y)))
theorem eqI_fn:eqI=(fun x y=>(x == y)):=Classical.choose_spec (opq (α:=Int→Int→Bool) (fun x y=>(x == y)))
theorem eqI_eq (x y):eqI x y=(x == y):=by rw[eqI_fn]
def ltI:Int→Int→Bool:=Classical.choose (opq (α:=Int→Int→Bool) (fun x y=>decide (x<y)))
theorem ltI_fn:ltI=(fun x y=>decide (x<y)):=Classical.choose_spec (opq (α:=Int→Int→Bool) (fun x y=>decide (x<y)))
theorem ltI_eq (x y):ltI x y=decide (x<y):=by rw[ltI_fn]
def leI:Int→Int→Bool:=Classical.choose (opq (α:=Int→Int→Bool) (fun x y=>decide (x≤y)))
theorem leI_fn:leI=(fun x y=>decide (x≤y)):=Classical.choose_spec (opq (α:=Int→Int→Bool) (fun x y=>decide (x≤y)))
theorem leI_eq (x y):leI x y=decide (x≤y):=by rw[leI_fn]
def notB:Bool→Bool:=Classical.choose (opq (α:=Bool→Bool) (fun b=>(!b)))
theorem notB_fn:notB=(fun b=>(!b)):=Classical.choose_spec (opq (α:=Bool→Bool) (fun b=>(!b)))
theorem notB_eq (b):notB b=(!b):=by rw[notB_fn]
def andB:Bool→Bool→Bool:=Classical.choose (opq (α:=Bool→Bool→Bool) (fun a b=>(a && b)))
theorem andB_fn:andB=(fun a b=>(a && b)):=Classical.choose_spec (opq (α:=Bool→Bool→Bool) (fun a b=>(a && b)))
theorem andB_eq (a b):andB a b=(a && b):=by rw[andB_fn]
def eqB:Bool→Bool→Bool:=Classical.choose (opq (α:=Bool→Bool→Bool) (fun a b=>(a == b)))
theorem eqB_fn:eqB=(fun a b=>(a == b)):=Classical.choose_spec (opq (α:=Bool→Bool→Bool) (fun a b=>(a == b)))
theorem eqB_eq (a b):eqB a b=(a == b):=by rw[eqB_fn]
def minO:Int→Int→Int:=Classical.choose (opq (α:=Int→Int→Int) (fun x y=>if y<x then y else x))
theorem minO_fn:minO=(fun x y=>if y<x then y else x):=Classical.choose_spec (opq (α:=Int→Int→Int) (fun x y=>if y<x then y else x))
theorem minO_eq (x y):minO x y=if y<x then y else x:=by rw[minO_fn]
def maxO:Int→Int→Int:=Classical.choose (opq (α:=Int→Int→Int) (fun x y=>if y > x then y else x))
theorem maxO_fn:maxO=(fun x y=>if y > x then y else x):=Classical.choose_spec (opq (α:=Int→Int→Int) (fun x y=>if y > x then y else x))
theorem maxO_eq (x y):maxO x y=if y > x then y else x:=by rw[maxO_fn]
def inI:Int→Nat→Bool:=Classical.choose (opq (α:=Int→Nat→Bool) (fun (i:Int) (n:Nat)=>decide (0≤i∧i<(n:Int))))
theorem inI_fn:inI=(fun (i:Int) (n:Nat)=>decide (0≤i∧i<(n:Int))):=Classical.choose_spec (opq (α:=Int→Nat→Bool) (fun (i:Int) (n:Nat)=>decide (0≤i∧i<(n:Int))))
theorem inI_eq (i n):inI i n=decide (0≤i∧i<(n:Int)):=by rw[inI_fn]
def bndI:Int→Nat→Bool:=Classical.choose (opq (α:=Int→Nat→Bool) (fun (i:Int) (n:Nat)=>decide (0≤i∧i≤(n:Int))))
theorem bndI_fn:bndI=(fun (i:Int) (n:Nat)=>decide (0≤i∧i≤(n:Int))):=Classical.choose_spec (opq (α:=Int→Nat→Bool) (fun (i:Int) (n:Nat)=>decide (0≤i∧i≤(n:Int))))
theorem bndI_eq (i n):bndI i n=decide (0≤i∧i≤(n:Int)):=by rw[bndI_fn]
def mkO:Int→Int→Nat→Bool:=Classical.choose (opq (α:=Int→Int→Nat→Bool) (fun l c b=>decide (0≤l∧l≤c∧c.toNat*b≤room∧c.toNat≤room)))
theorem mkO_fn:mkO=(fun l c b=>decide (0≤l∧l≤c∧c.toNat*b≤room∧c.toNat≤room)):=Classical.choose_spec (opq (α:=Int→Int→Nat→Bool) (fun l c b=>decide (0≤l∧l≤c∧c.toNat*b≤room∧c.toNat≤room)))
theorem mkO_eq (l c b):mkO l c b=decide (0≤l∧l≤c∧c.toNat*b≤room∧c.toNat≤room):=by rw[mkO_fn]
def toN:Int→Nat:=Classical.choose (opq (α:=Int→Nat) (fun i=>i.toNat))
theorem toN_fn:toN=(fun i=>i.toNat):=Classical.choose_spec (opq (α:=Int→Nat) (fun i=>i.toNat))
theorem toN_eq (i):toN i=i.toNat:=by rw[toN_fn]
def idO:Nat→Int→Nat→Nat:=Classical.choose (opq (α:=Nat→Int→Nat→Nat) (fun o i s=>o+i.toNat*s))
theorem idO_fn:idO=(fun o i s=>o+i.toNat*s):=Classical.choose_spec (opq (α:=Nat→Int→Nat→Nat) (fun o i s=>o+i.toNat*s))
theorem idO_eq (o i s):idO o i s=o+i.toNat*s:=by rw[idO_fn]
def addO:Nat→Nat→Nat:=Classical.choose (opq (α:=Nat→Nat→Nat) (fun a b=>a+b))
theorem addO_fn:addO=(fun a b=>a+b):=Classical.choose_spec (opq (α:=Nat→Nat→Nat) (fun a b=>a+b))
theorem addO_eq (a b):addO a b=a+b:=by rw[addO_fn]
def subO:Nat→Nat→Nat:=Classical.choose (opq (α:=Nat→Nat→Nat) (fun a b=>a-b))
theorem subO_fn:subO=(fun a b=>a-b):=Classical.choose_spec (opq (α:=Nat→Nat→Nat) (fun a b=>a-b))
theorem subO_eq (a b):subO a b=a-b:=by rw[subO_fn]
def mulO:Nat→Nat→Nat:=Classical.choose (opq (α:=Nat→Nat→Nat) (fun a b=>a*b))
theorem mulO_fn:mulO=(fun a b=>a*b):=Classical.choose_spec (opq (α:=Nat→Nat→Nat) (fun a b=>a*b))
theorem mulO_eq (a b):mulO a b=a*b:=by rw[mulO_fn]
def minN:Nat→Nat→Nat:=Classical.choose (opq (α:=Nat→Nat→Nat) (fun a b=>min a b))
theorem minN_fn:minN=(fun a b=>min a b):=Classical.choose_spec (opq (α:=Nat→Nat→Nat) (fun a b=>min a b))
theorem minN_eq (a b):minN a b=min a b:=by rw[minN_fn]
def ltN:Nat→Nat→Bool:=Classical.choose (opq (α:=Nat→Nat→Bool) (fun a b=>decide (a<b)))
theorem ltN_fn:ltN=(fun a b=>decide (a<b)):=Classical.choose_spec (opq (α:=Nat→Nat→Bool) (fun a b=>decide (a<b)))
theorem ltN_eq (a b):ltN a b=decide (a<b):=by rw[ltN_fn]
def leN:Nat→Nat→Bool:=Classical.choose (opq (α:=Nat→Nat→Bool) (fun a b=>decide (a≤b)))
theorem leN_fn:leN=(fun a b=>decide (a≤b)):=Classical.choose_spec (opq (α:=Nat→Nat→Bool) (fun a b=>decide (a≤b)))
theorem leN_eq (a b):leN a b=decide (a≤b):=by rw[leN_fn]
def eqN:Nat→Nat→Bool:=Classical.choose (opq (α:=Nat→Nat→Bool) (fun a b=>decide (a=b)))
theorem eqN_fn:eqN=(fun a b=>decide (a=b)):=Classical.choose_spec (opq (α:=Nat→Nat→Bool) (fun a b=>decide (a=b)))
theorem eqN_eq (a b):eqN a b=decide (a=b):=by rw[eqN_fn]
def inO:Nat→Nat→Nat→Nat→Bool:=Classical.choose (opq (α:=Nat→Nat→Nat→Nat→Bool) (fun o m p n=>decide (p≤o∧o+m≤p+n)))
theorem inO_fn:inO=(fun o m p n=>decide (p≤o∧o+m≤p+n)):=Classical.choose_spec (opq (α:=Nat→Nat→Nat→Nat→Bool) (fun o m p n=>decide (p≤o∧o+m≤p+n)))
theorem inO_eq (o m p n):inO o m p n=decide (p≤o∧o+m≤p+n):=by rw[inO_fn]
def allS:(Nat→AV)→IntKind→Nat→Bool→Prop:=Classical.choose (opq (α:=(Nat→AV)→IntKind→Nat→Bool→Prop) (fun f k sz full=>∀ j,∃ z n m,f j=AV.slcT none (Row.M [Seg.arr k z n]) sz m full))
theorem allS_fn:allS=(fun f k sz full=>∀ j,∃ z n m,f j=AV.slcT none (Row.M [Seg.arr k z n]) sz m full):=Classical.choose_spec (opq (α:=(Nat→AV)→IntKind→Nat→Bool→Prop) (fun f k sz full=>∀ j,∃ z n m,f j=AV.slcT none (Row.M [Seg.arr k z n]) sz m full))
theorem allS_eq (f k sz full):allS f k sz full=∀ j,∃ z n m,f j=AV.slcT none (Row.M [Seg.arr k z n]) sz m full:=by rw[allS_fn]
def selZ:Bool→(Nat→Int)→(Nat→Int)→Nat→Int:=Classical.choose (opq (α:=Bool→(Nat→Int)→(Nat→Int)→Nat→Int) (fun b x y=>cond b x y))
theorem selZ_fn:selZ=(fun b x y=>cond b x y):=Classical.choose_spec (opq (α:=Bool→(Nat→Int)→(Nat→Int)→Nat→Int) (fun b x y=>cond b x y))
theorem selZ_eq (b x y):selZ b x y=cond b x y:=by rw[selZ_fn]
def selN:Bool→Nat→Nat→Nat:=Classical.choose (opq (α:=Bool→Nat→Nat→Nat) (fun b x y=>cond b x y))
theorem selN_fn:selN=(fun b x y=>cond b x y):=Classical.choose_spec (opq (α:=Bool→Nat→Nat→Nat) (fun b x y=>cond b x y))
theorem selN_eq (b x y):selN b x y=cond b x y:=by rw[selN_fn]
def roomO:Nat→Nat→Nat→Bool:=Classical.choose (opq (α:=Nat→Nat→Nat→Bool) (fun m n b=>decide ((m+n)*b≤room∧m+n≤room)))
theorem roomO_fn:roomO=(fun m n b=>decide ((m+n)*b≤room∧m+n≤room)):=Classical.choose_spec (opq (α:=Nat→Nat→Nat→Bool) (fun m n b=>decide ((m+n)*b≤room∧m+n≤room)))
theorem roomO_eq (m n b):roomO m n b=decide ((m+n)*b≤room∧m+n≤room):=by rw[roomO_fn]
def updO:(Nat→Int)→Nat→Int→Nat→Int:=Classical.choose (opq (α:=(Nat→Int)→Nat→Int→Nat→Int) (fun z i x=>fun j=>if j=i then x else z j))
theorem updO_fn:updO=(fun z i x=>fun j=>if j=i then x else z j):=Classical.choose_spec (opq (α:=(Nat→Int)→Nat→Int→Nat→Int) (fun z i x=>fun j=>if j=i then x else z j))
def shO:(Nat→Int)→Nat→Nat→Int:=Classical.choose (opq (α:=(Nat→Int)→Nat→Nat→Int) (fun z o=>fun j=>z (o+j)))
theorem shO_fn:shO=(fun z o=>fun j=>z (o+j)):=Classical.choose_spec (opq (α:=(Nat→Int)→Nat→Nat→Int) (fun z o=>fun j=>z (o+j)))
def copO:(Nat→Int)→Nat→(Nat→Int)→Nat→Nat→Int:=Classical.choose (opq (α:=(Nat→Int)→Nat→(Nat→Int)→Nat→Nat→Int) (fun z o z' n=>copZ z o z' n))
theorem copO_fn:copO=(fun z o z' n=>copZ z o z' n):=Classical.choose_spec (opq (α:=(Nat→Int)→Nat→(Nat→Int)→Nat→Nat→Int) (fun z o z' n=>copZ z o z' n))
theorem copO_eq (z o z' n):copO z o z' n=copZ z o z' n:=by rw[copO_fn]
def appO:(Nat→Int)→Nat→(Nat→Int)→Nat→Int:=Classical.choose (opq (α:=(Nat→Int)→Nat→(Nat→Int)→Nat→Int) (fun z n z'=>fun i=>if i<n then z i else z' (i-n)))
theorem appO_fn:appO=(fun z n z'=>fun i=>if i<n then z i else z' (i-n)):=Classical.choose_spec (opq (α:=(Nat→Int)→Nat→(Nat→Int)→Nat→Int) (fun z n z'=>fun i=>if i<n then z i else z' (i-n)))
def lenL:List Int→Nat:=Classical.choose (opq (α:=List Int→Nat) (fun l=>l.length))
theorem lenL_fn:lenL=(fun l=>l.length):=Classical.choose_spec (opq (α:=List Int→Nat) (fun l=>l.length))
theorem lenL_eq (l):lenL l=l.length:=by rw[lenL_fn]
def lstO:List Int→Nat→Int:=Classical.choose (opq (α:=List Int→Nat→Int) (fun l=>fun j=>l.getD j 0))
theorem lstO_fn:lstO=(fun l=>fun j=>l.getD j 0):=Classical.choose_spec (opq (α:=List Int→Nat→Int) (fun l=>fun j=>l.getD j 0))
theorem lstO_eq (l):lstO l=fun j=>l.getD j 0:=by rw[lstO_fn]
def alleqO:(Nat→Int)→(Nat→Int)→Nat→Bool:=Classical.choose (opq (α:=(Nat→Int)→(Nat→Int)→Nat→Bool) (fun z z' n=>allEq z z' n))
theorem alleqO_fn:alleqO=(fun z z' n=>allEq z z' n):=Classical.choose_spec (opq (α:=(Nat→Int)→(Nat→Int)→Nat→Bool) (fun z z' n=>allEq z z' n))
theorem alleqO_eq (z z' n):alleqO z z' n=allEq z z' n:=by rw[alleqO_fn]
def setBO:(List Int→Bool)→List Int→Bool→List Int→Bool:=Classical.choose (opq (α:=(List Int→Bool)→List Int→Bool→List Int→Bool) (fun h n b=>setB h n b))
theorem setBO_fn:setBO=(fun h n b=>setB h n b):=Classical.choose_spec (opq (α:=(List Int→Bool)→List Int→Bool→List Int→Bool) (fun h n b=>setB h n b))
theorem setBO_eq (h n b):setBO h n b=setB h n b:=by rw[setBO_fn]
def setIO:(List Int→Int)→List Int→Int→List Int→Int:=Classical.choose (opq (α:=(List Int→Int)→List Int→Int→List Int→Int) (fun g n x=>setI g n x))
theorem setIO_fn:setIO=(fun g n x=>setI g n x):=Classical.choose_spec (opq (α:=(List Int→Int)→List Int→Int→List Int→Int) (fun g n x=>setI g n x))
theorem setIO_eq (g n x):setIO g n x=setI g n x:=by rw[setIO_fn]
def cntAO:Bool→Nat→Nat:=Classical.choose (opq (α:=Bool→Nat→Nat) (fun b c=>cntA b c))
theorem cntAO_fn:cntAO=(fun b c=>cntA b c):=Classical.choose_spec (opq (α:=Bool→Nat→Nat) (fun b c=>cntA b c))
theorem cntAO_eq (b c):cntAO b c=cntA b c:=by rw[cntAO_fn]
def cntDO:Bool→Nat→Nat:=Classical.choose (opq (α:=Bool→Nat→Nat) (fun b c=>cntD b c))
theorem cntDO_fn:cntDO=(fun b c=>cntD b c):=Classical.choose_spec (opq (α:=Bool→Nat→Nat) (fun b c=>cntD b c))
theorem cntDO_eq (b c):cntDO b c=cntD b c:=by rw[cntDO_fn]

end
end Go.Eng
