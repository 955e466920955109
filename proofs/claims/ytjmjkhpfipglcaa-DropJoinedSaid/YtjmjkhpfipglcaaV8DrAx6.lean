/- Drop: a bath as an abstract value; the table of calls. -/
import Derived.Test.YtjmjkhpfipglcaaV8EngTgx4
import Derived.Test.YtjmjkhpfipglcaaV8EngArgx3
import Derived.Test.YtjmjkhpfipglcaaProg
import Derived.KernelRfl
section
namespace Go.Eng
open Go.Proofs Go.ChangeShapes
set_option linter.unusedVariables false
set_option maxRecDepth 100000

noncomputable def slA (n len:Nat) (z:Nat→Int):AV:=.slcT none (.M [.arr .i64 z (mulS len n)]) n len false
noncomputable def bathA (w:Int) (ls:Nat) (zs:Nat→Int) (ld:Nat) (zd:Nat→Int):AV:=.agg (.G [.int .i64 w,slA 2 ls zs,slA 3 ld zd])
noncomputable def oraD:CallT→FuncId→List AV→Heap→Option (AV×Heap):=oraS [⟨16,[],.bool true⟩]
def noD (f:FuncId):Bool:=Nat.beq f 16 || Nat.beq f 1000000
noncomputable def cd (n:Nat):CallT:=callN Try.prog oraD Kt.kt 100000 n
noncomputable def il (tab:Ctr) (n k:Nat):CallTr:=inlT Try.prog oraD Kt.kt 100000 noD tab n k
noncomputable def cxD (n:Nat) (f nt:Nat):Cx:=⟨Try.prog,cd n,100000,f,nt,Kt.kt f,none⟩

def nav:List Nat→Code→Code
 | [],c=>c
 | x :: p,c=>match c with
   | .seq a b=>match x with
     | 0=>nav p a
     | _=>nav p b
   | .cond _ a b=>match x with
     | 0=>nav p a
     | _=>nav p b
   | .block _ b=>nav p b
   | .loop b=>nav p b
   | .scope b=>nav p b
   | .rangeFunc _ _ a b=>match x with
     | 0=>nav p a
     | _=>nav p b
   | c=>c
noncomputable def part (f:Func) (p:List Nat):Code:=nav p (bodyOf f)
theorem noD_ok (g:FuncId) (h:noD g=false) (c:CallT) (args:List AV) (H:Heap):oraD c g args H=none:=by
 unfold noD at h
 rw[Bool.or_eq_false_iff] at h
 unfold oraD oraS
 rw[h.2,cond_false]
 simp only[oraT]
 have:Nat.beq 16 g=false:=by
  cases hb:Nat.beq 16 g with
  | false=>rfl
  | true=>have:=Nat.eq_of_beq_eq_true hb;subst this;simp at h
 rw[this];rfl
theorem il_ok (tab:Ctr) (n k:Nat) (ht:∀ k,tab.Ok (cd (n+k))):(il tab n k).Ok (cd (n+k)):=inlT_ok _ _ _ _ _ _ _ noD_ok (fun k=>oraS_mode _ _ _ _ _) ht k
theorem il_no (n k:Nat):(il noCt n k).Ok (cd (n+k)):=il_ok _ _ _ (fun k=>noCt_ok _)
theorem il_no0 (n:Nat):(il noCt n 0).Ok (cd n):=il_no n 0
theorem fn_ok {f:FuncId} {fn:Func} {n:Nat} (hf:Try.prog.funcs[f]?=some fn) (hb:fn.body.isSome=true) (hn:noD f=false) {args:List HV} (hle:Nat.ble args.length fn.ntmps=true) {H:Heap} {callR:CallTr} (hC:callR.Ok (cd n)) {bl:BlkT} (hB:bl.Ok (cxD n f fn.ntmps) (bodyOf fn)) {rg:RgT} (hR:rg.Ok (cxD n f fn.ntmps) (bodyOf fn)) {y:HV×Heap}
 (h:(bodyT Try.prog (cd n) 100000 f fn (Kt.kt f) callR bl rg args H).run=some y):cd (n+1) (.fn f) (avs args) H=some (y.1.1,y.2) :=
 bodyT_ok hf hb (noD_ok f hn _ _ _) hle hC hB hR h
theorem fn_of {f:FuncId} {fn:Func} {n:Nat} (hf:Try.prog.funcs[f]?=some fn) (hb:fn.body.isSome=true) (hn:noD f=false) {args:List HV} (hle:Nat.ble args.length fn.ntmps=true) {H:Heap} {callR:CallTr} {bl:BlkT} {rg:RgT} {T:Tr (HV×Heap)}
 (e:bodyT Try.prog (cd n) 100000 f fn (Kt.kt f) callR bl rg args H=T) (hC:callR.Ok (cd n)) (hB:bl.Ok (cxD n f fn.ntmps) (bodyOf fn)) (hR:rg.Ok (cxD n f fn.ntmps) (bodyOf fn)) {y:HV×Heap} (hr:T.run=some y):cd (n+1) (.fn f) (avs args) H=some (y.1.1,y.2) :=
 fn_ok hf hb hn hle hC hB hR (by rw[e];exact hr)
theorem ex_ok {n f nt:Nat} {c:Code} {callR:CallTr} (hC:callR.Ok (cd n)) {bl:BlkT} (hB:bl.Ok (cxD n f nt) c) {rg:RgT} (hR:rg.Ok (cxD n f nt) c) {fr:Frm} {H:Heap} {x:Res} (h:(execT (cxD n f nt) callR bl rg c (hints fr) H).run=some x):exec (cxD n f nt) c fr H=some x.st:=by
 have:=execT_ok hC c hB hR _ _ _ h
 rw[hints_eq] at this
 exact this

def stopB (bl:BlkT) (id0:Nat):BlkT:=fun id fr H=>cond (Nat.beq id id0) (some .bad) (bl id fr H)
theorem stopB_ok {bl:BlkT} {cx:Cx} {c:Code} (h:bl.Ok cx c) (id0:Nat):(stopB bl id0).Ok cx c:=by
 intro id b hm fr H t y ht hy
 unfold stopB at ht
 cases hb:Nat.beq id id0 with
 | true =>
   rw[hb,cond_true,Option.some.injEq] at ht
   subst ht
   exact (Tr.bad_some hy).elim
 | false =>
   rw[hb,cond_false] at ht
   exact h id b hm fr H t y ht hy
theorem ex_of {n f nt:Nat} {c:Code} {callR:CallTr} {bl:BlkT} {rg:RgT} {fr:Frm} {H:Heap} {T:Tr Res} (e:execT (cxD n f nt) callR bl rg c (hints fr) H=T) (hC:callR.Ok (cd n)) (hB:bl.Ok (cxD n f nt) c) (hR:rg.Ok (cxD n f nt) c) {x:Res} (hr:T.run=some x):exec (cxD n f nt) c fr H=some x.st :=
 ex_ok hC hB hR (by rw[e];exact hr)
section
variable {n f nt:Nat} {c:Code} {callR:CallTr} {bl:BlkT} {rg:RgT}
theorem findE (id:Nat) (F:Nat→Frm) (G:Nat→Heap) (N:Nat) (p:Nat→Bool) (X:Nat→Res) (hN:N<99999)
 (hs:∀ j,j<N→p j=false→∃ f' g,exec (cxD n f nt) c (F j) (G j)=some (.normal,f',g)∧f'=F (j+1)∧tidy (hNext (G 0)) (F (j+1)) g=(F (j+1),G (j+1)))
 (hh:∀ j,j<N→p j=true→exec (cxD n f nt) c (F j) (G j)=some (X j).st∧(X j).1=.ret)
 (he:exec (cxD n f nt) c (F N) (G N)=some (X N).st∧(X N).1=.exit id) (x:Res)
 (hx:(fN p N 0<N∧x.st=(X (fN p N 0)).st)∨(fN p N 0=N∧x.st=(.normal,(X N).st.2))):exec (cxD n f nt) (.block id (.loop c)) (F 0) (G 0)=some x.st:=by
 have st:∀ r:Res,r.st.1=r.1:=fun r=>rfl
 have key:=iter_find (body:=exec (cxD n f nt) c) (n:=hNext (G 0)) F G N p (fun j=>(X j).st)
  (fun j hj hp=>by
    obtain ⟨f',g,h1,h2,h3⟩:=hs j hj hp
    exact ⟨f',g,h1,by rw[h2];exact h3⟩)
  (fun j hj hp=>by
    obtain ⟨h1,h2⟩:=hh j hj hp
    exact ⟨h1,by rw[st,h2];simp⟩)
  (by
    obtain ⟨h1,h2⟩:=he
    exact ⟨h1,by rw[st,h2];simp⟩) N 0 100000 (by omega) (by omega)
 rcases hx with ⟨h1,h2⟩ | ⟨h1,h2⟩
 · have hq:=(fN_spec p N 0).2.2.2 (by omega)
   obtain ⟨_,hr⟩:=hh _ h1 hq
   rw[h2]
   generalize X (fN p N 0)=y at key hr
   obtain ⟨e,f1,g1⟩:=y
   dsimp only at hr
   subst hr
   exact exec_block_loop_other (fun id' h=>by cases h) key
 · rw[h1] at key
   rw[h2]
   have hr:=he.2
   generalize X N=y at key hr
   obtain ⟨e,f1,g1⟩:=y
   dsimp only at hr
   subst hr
   exact exec_block_loop key
theorem findB (hC:callR.Ok (cd n)) (hB:bl.Ok (cxD n f nt) c) (hR:rg.Ok (cxD n f nt) c) (id:Nat) (F:Nat→Frm) (G:Nat→Heap) (N:Nat) (p:Nat→Bool) (X:Nat→Res) (hN:N<99999)
 (hs:∀ j,j<N→p j=false→∃ f' g,(execT (cxD n f nt) callR bl rg c (hints (F j)) (G j)).run=some (.normal,f',g)∧strip f'=F (j+1)∧tidy (hNext (G 0)) (F (j+1)) g=(F (j+1),G (j+1)))
 (hh:∀ j,j<N→p j=true→(execT (cxD n f nt) callR bl rg c (hints (F j)) (G j)).run=some (X j)∧(X j).1=.ret)
 (he:(execT (cxD n f nt) callR bl rg c (hints (F N)) (G N)).run=some (X N)∧(X N).1=.exit id) (x:Res)
 (hx:(fN p N 0<N∧x.st=(X (fN p N 0)).st)∨(fN p N 0=N∧x.st=(.normal,(X N).st.2))):exec (cxD n f nt) (.block id (.loop c)) (F 0) (G 0)=some x.st:=by
 have st:∀ r:Res,r.st.1=r.1:=fun r=>rfl
 have key:=iter_find (body:=exec (cxD n f nt) c) (n:=hNext (G 0)) F G N p (fun j=>(X j).st)
  (fun j hj hp=>by
    obtain ⟨f',g,h1,h2,h3⟩:=hs j hj hp
    refine ⟨strip f',g,ex_ok hC hB hR h1,?_⟩
    rw[h2];exact h3)
  (fun j hj hp=>by
    obtain ⟨h1,h2⟩:=hh j hj hp
    exact ⟨ex_ok hC hB hR h1,by rw[st,h2];simp⟩)
  (by
    obtain ⟨h1,h2⟩:=he
    exact ⟨ex_ok hC hB hR h1,by rw[st,h2];simp⟩) N 0 100000 (by omega) (by omega)
 rcases hx with ⟨h1,h2⟩ | ⟨h1,h2⟩
 · have hq:=(fN_spec p N 0).2.2.2 (by omega)
   obtain ⟨_,hr⟩:=hh _ h1 hq
   rw[h2]
   generalize X (fN p N 0)=y at key hr
   obtain ⟨e,f1,g1⟩:=y
   dsimp only at hr
   subst hr
   exact exec_block_loop_other (fun id' h=>by cases h) key
 · rw[h1] at key
   rw[h2]
   have hr:=he.2
   generalize X N=y at key hr
   obtain ⟨e,f1,g1⟩:=y
   dsimp only at hr
   subst hr
   exact exec_block_loop key
theorem forB (hC:callR.Ok (cd n)) (hB:bl.Ok (cxD n f nt) c) (hR:rg.Ok (cxD n f nt) c) (id:Nat) (F:Nat→Frm) (G:Nat→Heap) (N:Nat) (y:Res) (hN:N<99999)
 (hs:∀ j,j<N→∃ f' g,(execT (cxD n f nt) callR bl rg c (hints (F j)) (G j)).run=some (.normal,f',g)∧strip f'=F (j+1)∧tidy (hNext (G 0)) (F (j+1)) g=(F (j+1),G (j+1)))
 (he:(execT (cxD n f nt) callR bl rg c (hints (F N)) (G N)).run=some y∧y.1=.exit id):exec (cxD n f nt) (.block id (.loop c)) (F 0) (G 0)=some (.normal,y.st.2):=by
 have key:=iter_for (body:=exec (cxD n f nt) c) (n:=hNext (G 0)) F G N y.st
  (fun j hj=>by
    obtain ⟨f',g,h1,h2,h3⟩:=hs j hj
    refine ⟨strip f',g,ex_ok hC hB hR h1,?_⟩
    rw[h2];exact h3)
  (by
    obtain ⟨h1,h2⟩:=he
    exact ⟨ex_ok hC hB hR h1,by rw[show y.st.1=y.1 from rfl,h2];simp⟩) 100000 (by omega)
 have hr:=he.2
 obtain ⟨e,f1,g1⟩:=y
 dsimp only at hr
 subst hr
 exact exec_block_loop key
end
theorem wrap_j (j:Nat) (h:j<2 ^ 31):IntKind.i64.wrap ((j:Int)+1)=((j+1:Nat):Int):=by
 rw[show ((j:Int)+1)=((j+1:Nat):Int) by omega]
 exact Go.IntWalk.i64_in _ (by omega)

def exN (p:Nat→Bool) (N:Nat):Bool:=decide (fN p N 0<N)
theorem exN_true {p:Nat→Bool} {N:Nat} (h:exN p N=true):fN p N 0<N:=by simpa[exN] using h
theorem exN_false {p:Nat→Bool} {N:Nat} (h:exN p N=false):fN p N 0=N:=by
 have h1:=(fN_spec p N 0).2.1
 have:¬ fN p N 0<N:=by simpa[exN] using h
 omega
theorem exN_iff (p:Nat→Bool) (N:Nat):exN p N=true↔∃ i,i<N∧p i=true:=by
 obtain ⟨h1,h2,h3,h4⟩:=fN_spec p N 0
 constructor
 · intro h
   have:=exN_true h
   exact ⟨_,this,h4 (by omega)⟩
 · rintro ⟨i,hi,hp⟩
   unfold exN
   rw[decide_eq_true_eq]
   apply Nat.lt_of_not_le
   intro hc
   have:=h3 i (by omega) (by omega)
   rw[this] at hp;cases hp
theorem lt_mulO (a b c:Nat):(a<mulO b c)=(a<b*c):=by rw[mulO_eq]
theorem le_mulO (a b c:Nat):(a≤mulO b c)=(a≤b*c):=by rw[mulO_eq]

theorem nX:(∀ {α:Type} (c:Bool) (a b:Tr α),(Tr.ite c a b).run=cond c a.run b.run)∧(∀ {α:Type} (c:Bool) (a:Tr α),(Tr.req c a).run=cond c a.run none)∧(∀ {α:Type} (a:α),(Tr.ok a).run=some a)∧(∀ {α:Type} (a b:α),cond true a b=a)∧(∀ {α:Type} (a b:α),cond false a b=b)∧(∀ n:Nat,Int.ofNat n=(n:Int))∧(∀ j:Nat,j<2 ^ 31→IntKind.i64.wrap ((j:Int)+1)=((j+1:Nat):Int))∧andB (leN 0 0) (leN 0 1)=true∧(∀ (p:Prop) [Decidable p],p→decide p=true)∧(∀ (p:Prop) [Decidable p],¬ p→decide p=false):=⟨fun _ _ _=>rfl,fun _ _=>rfl,fun _=>rfl,fun _ _=>rfl,fun _ _=>rfl,fun _=>rfl,wrap_j,ver0,fun _ _ h=>decide_eq_true h,fun _ _ h=>decide_eq_false h⟩
theorem nS:(∀ x y:Int,ltI x y=decide (x<y)) ∧
 (∀ x y:Int,leI x y=decide (x≤y)) ∧
 (∀ b:Bool,notB b=(!b)) ∧
 (∀ a b:Bool,andB a b=(a && b)) ∧
 (∀ (i:Int) (n:Nat),inI i n=decide (0≤i∧i<(n:Int))) ∧
 (∀ x y:Nat,ltN x y=decide (x<y)) ∧
 (∀ x y:Nat,leN x y=decide (x≤y)) ∧
 (∀ a b c:Nat,(a<mulO b c)=(a<b*c)) ∧
 (∀ a b c:Nat,(a≤mulO b c)=(a≤b*c)) ∧
 (∀ (o:Nat) (i:Int) (s:Nat),idO o i s=o+i.toNat*s) ∧
 (∀ a b:Nat,addO a b=a+b) ∧
 (∀ (k:IntKind) (x y:Int),addI k x y=k.wrap (x+y)) ∧
 (∀ n:Nat,(n:Int).toNat=n) ∧
 (∀ n:Nat,0+n=n) ∧
 (((1:Nat):Int)=1) ∧
 ((!true)=false) ∧
 ((!false)=true) ∧
 (∀ b:Bool,(b && true)=b) ∧
 (∀ b:Bool,(b && false)=false) ∧
 (∀ b:Bool,(true && b)=b) ∧
 (∀ b:Bool,(false && b)=false) :=
 ⟨ltI_eq,leI_eq,notB_eq,andB_eq,inI_eq,ltN_eq,leN_eq,lt_mulO,le_mulO,idO_eq,addO_eq,addI_eq,Int.toNat_natCast,Nat.zero_add,Int.natCast_one,Bool.not_true,Bool.not_false,Bool.and_true,Bool.and_false,Bool.true_and,Bool.false_and⟩
end Go.Eng
end
section
namespace Go.Eng
open Go.Proofs
set_option linter.unusedVariables false
set_option linter.unusedSimpArgs false
set_option maxRecDepth 100000

def sumS (zd tr:Nat→Int) (s:Int):Nat→Int
 | 0=>0
 | j+1=>if zd (j*3)=s then IntKind.i64.wrap (sumS zd tr s j+tr j) else sumS zd tr s j
noncomputable def lvB (w:Int) (ls ld:Nat) (zs zd:Nat→Int):Lvl:=⟨false,[(0,.row (.G [.int .i64 w,slA 2 ls zs,slA 3 ld zd]))]⟩
section
variable (n:Nat) (w:Int) (ls ld lt:Nat) (zs zd tr:Nat→Int) (H:Heap) (s:Int)
end
end Go.Eng
end
section
namespace Go.Eng
open Go.Proofs
set_option linter.unusedVariables false
theorem fn_all {f:FuncId} {fn:Func} {n:Nat} (hf:Try.prog.funcs[f]?=some fn) (hb:fn.body.isSome=true) (hn:noD f=false) {args:List HV} (hle:Nat.ble args.length fn.ntmps=true) {H:Heap} {callR:CallTr} {bl:BlkT} {rg:RgT} {T:Tr (HV×Heap)}
 (e:bodyT Try.prog (cd n) 100000 f fn (Kt.kt f) callR bl rg args H=T) (hC:callR.Ok (cd n)) (hB:bl.Ok (cxD n f fn.ntmps) (bodyOf fn)) (hR:rg.Ok (cxD n f fn.ntmps) (bodyOf fn)) {v:AV} {H':Heap} (h:T.all fun y=>y.1.1=v∧y.2=H'):cd (n+1) (.fn f) (avs args) H=some (v,H'):=by
 obtain ⟨y,h1,h2,h3⟩:=h
 have:=fn_of hf hb hn hle e hC hB hR h1
 rw[this,h2,h3]
theorem ex_all {n f nt:Nat} {c:Code} {callR:CallTr} {bl:BlkT} {rg:RgT} {fr:Frm} {H:Heap} {T:Tr Res} (e:execT (cxD n f nt) callR bl rg c (hints fr) H=T) (hC:callR.Ok (cd n)) (hB:bl.Ok (cxD n f nt) c) (hR:rg.Ok (cxD n f nt) c) {Q:Ex×Frm×Heap→Prop} (h:T.all fun x=>Q x.st):∃ x,exec (cxD n f nt) c fr H=some x∧Q x:=by
 obtain ⟨x,h1,h2⟩:=h
 exact ⟨_,ex_of e hC hB hR h1,h2⟩
section
variable {n f nt:Nat} {c:Code} {callR:CallTr} {bl:BlkT} {rg:RgT}
theorem loopI (id:Nat) (I:Nat→Frm→Heap→Prop) (Q:Frm×Heap→Prop) (N:Nat) (hN:N<99999) {fr0:Frm} {H0:Heap} (h0:I 0 fr0 H0)
 (hr:∀ j fr H,I j fr H→∃ x,exec (cxD n f nt) c fr H=some x∧((x.1=.normal∧j<N∧I (j+1) (tidy (hNext H0) x.2.1 x.2.2).1 (tidy (hNext H0) x.2.1 x.2.2).2)∨(x.1=.exit id∧Q x.2))) :
 ∃ y,exec (cxD n f nt) (.block id (.loop c)) fr0 H0=some (.normal,y)∧Q y:=by
 obtain ⟨x,h1,h2⟩:=iter_inv (body:=exec (cxD n f nt) c) (n:=hNext H0) I (fun x=>x.1=.exit id∧Q x.2) N (fun j fr H h=>by
  obtain ⟨x,h1,h2⟩:=hr j fr H h
  obtain ⟨e,f1,g1⟩:=x
  refine ⟨e,f1,g1,h1,?_⟩
  rcases h2 with h2 | ⟨h2,h3⟩
  · exact .inl h2
  · exact .inr ⟨by dsimp only at h2;rw[h2];simp,h2,h3⟩) 100000 0 fr0 H0 h0 (by omega)
 obtain ⟨e,f1,g1⟩:=x
 obtain ⟨h2,h3⟩:=h2
 dsimp only at h2 h3
 subst h2
 exact ⟨(f1,g1),exec_block_loop h1,h3⟩
theorem findX (id:Nat) (F:Nat→Frm) (G:Nat→Heap) (N:Nat) (p:Nat→Bool) (X:Nat→Frm×Heap) (Y:Frm×Heap) (hN:N<99999)
 (hs:∀ j,j<N→∃ x,exec (cxD n f nt) c (F j) (G j)=some x∧if p j=true then x=(.ret,X j) else x.1=.normal∧tidy (hNext (G 0)) x.2.1 x.2.2=(F (j+1),G (j+1)))
 (he:exec (cxD n f nt) c (F N) (G N)=some (.exit id,Y)):exec (cxD n f nt) (.block id (.loop c)) (F 0) (G 0)=some (cond (exN p N) (.ret,X (fN p N 0)) (.normal,Y)):=by
 have key:=iter_find (body:=exec (cxD n f nt) c) (n:=hNext (G 0)) F G N p (fun j=>if j<N then (.ret,X j) else (.exit id,Y))
  (fun j hj hp=>by
    obtain ⟨x,h1,h2⟩:=hs j hj
    rw[if_neg (by rw[hp];simp)] at h2
    obtain ⟨e,f1,g1⟩:=x
    obtain ⟨rfl,h3⟩:=h2
    exact ⟨_,_,h1,h3⟩)
  (fun j hj hp=>by
    obtain ⟨x,h1,h2⟩:=hs j hj
    rw[if_pos hp] at h2
    subst h2
    rw[if_pos hj]
    exact ⟨h1,by simp⟩)
  (by
    rw[if_neg (by omega)]
    exact ⟨he,by simp⟩) N 0 100000 (by omega) (by omega)
 cases hc:exN p N with
 | true =>
   have:=exN_true hc
   rw[if_pos this] at key
   exact exec_block_loop_other (fun id' h=>by cases h) key
 | false =>
   have:=exN_false hc
   rw[if_neg (by omega)] at key
   exact exec_block_loop key
end
end Go.Eng
end
section
namespace Go.Eng
open Go.Proofs
set_option linter.unusedVariables false
set_option linter.unusedSimpArgs false
set_option maxRecDepth 100000
def upto (e:Nat→Int) (n:Nat):Nat→Int:=fun i=>if i<n then e i else 0
def endS (h:Bool) (zd:Nat→Int) (i:Nat):Int:=cond h (zd (i*3+1+1)) (zd (i*3+1))
section
variable (n:Nat) (w:Int) (ls ld:Nat) (zs zd:Nat→Int) (H:Heap) (h:Bool)
end
end Go.Eng
end
section
namespace Go.Eng
open Go.Proofs
set_option linter.unusedVariables false
set_option linter.unusedSimpArgs false
set_option maxRecDepth 100000
def badS (w:Int) (zs:Nat→Int) (j:Nat):Bool:=decide (zs (j*2)<1) || (decide (w≤zs (j*2)) || (decide (zs (j*2+1)<0) || decide (1000<zs (j*2+1))))
def eqS (zs:Nat→Int) (i j:Nat):Bool:=(zs (i*2) == zs (j*2)) && (zs (i*2+1) == zs (j*2+1))
def badD (ls:Nat) (zd:Nat→Int) (j:Nat):Bool:=decide (zd (j*3)<0) || (decide ((ls:Int)≤zd (j*3)) || (decide (zd (j*3+1)<1) || (decide (zd (j*3+2)<zd (j*3+1)) || decide (10000<zd (j*3+2)))))
def chkB (w:Int) (ls ld:Nat) (zs zd:Nat→Int):Int :=
 cond (decide (w<2)) 2 (cond (decide (1000<w)) 2 (cond (decide (10<ls)) 6 (cond (decide (40<ld)) 6 (cond (exN (badS w zs) ls) 3 (cond (exN (fun i=>exN (eqS zs i) i) ls) 15 (cond (exN (badD ls zd) ld) 16 0))))))
noncomputable def lvD (w:Int) (ls ld:Nat) (zs zd:Nat→Int) (x y z:Int):Lvl:=⟨false,[(0,.row (.G [.int .i64 w,slA 2 ls zs,slA 3 ld zd])),(0,.row (.I .i64 [x,y,z]))]⟩
theorem t20a (n:Nat) (w:Int) (ls ld:Nat) (zs zd:Nat→Int) (H:Heap) (j:Int):execT (cxD n 20 130) (il noCt n 0) noBT noRT (part Try.f20 [1,1,1,0,1,0,0]) (hints [(1,AV.ptr 0 0 0 0),(3,AV.int IntKind.i64 j)]) (lvB w ls ld zs zd::H) =
 (fun (Z0:HFrm)=>Tr.ite (ltI j (Int.ofNat ls)) (Tr.req (inI j ls) (Tr.req (ltN (idO 0 j 2) (mulO ls 2)) (Tr.ite (ltI (zs (idO 0 j 2)) (Int.ofNat 1)) (Tr.ok (Ex.ret,Z0,lvB w ls ld zs zd::H)) (Tr.req (inI j ls) (Tr.req (ltN (idO 0 j 2) (mulO ls 2)) (Tr.ite (leI w (zs (idO 0 j 2))) (Tr.ok (Ex.ret,Z0,lvB w ls ld zs zd::H)) (Tr.req (inI j ls) (Tr.req (ltN (addO (idO 0 j 2) 1) (mulO ls 2)) (Tr.ite (ltI (zs (addO (idO 0 j 2) 1)) (Int.ofNat 0)) (Tr.ok (Ex.ret,Z0,lvB w ls ld zs zd::H)) (Tr.req (inI j ls) (Tr.req (ltN (addO (idO 0 j 2) 1) (mulO ls 2)) (Tr.ite (ltI (Int.ofNat 1000) (zs (addO (idO 0 j 2) 1))) (Tr.ok (Ex.ret,Z0,lvB w ls ld zs zd::H)) (Tr.ok (Ex.normal,[(1,AV.ptr 0 0 0 0,none),(3,AV.int .i64 (addI .i64 j (Int.ofNat 1)),none)],lvB w ls ld zs zd::H)))))))))))))) (Tr.ok (Ex.exit 0,[(1,AV.ptr 0 0 0 0,none),(3,AV.int .i64 j,none),(30,AV.bool false,some 1)],lvB w ls ld zs zd::H))) [(2,AV.int .i64 (Int.ofNat 3),some 1)]:=by kernel_rfl
theorem t20c (n:Nat) (w:Int) (ls ld:Nat) (zs zd:Nat→Int) (H:Heap) (j i:Int):execT (cxD n 20 130) (il noCt n 0) noBT noRT (part Try.f20 [1,1,1,1,0,1,0,0,1,0,0,1,0,0]) (hints [(1,AV.ptr 0 0 0 0),(4,AV.int IntKind.i64 i),(5,AV.int IntKind.i64 j)]) (lvB w ls ld zs zd::H) =
 Tr.ite (ltI j i) (Tr.req (inI i ls) (Tr.req (ltN (idO 0 i 2) (mulO ls 2)) (Tr.req (ltN (addO (idO 0 i 2) 1) (mulO ls 2)) (Tr.req (inI j ls) (Tr.req (ltN (idO 0 j 2) (mulO ls 2)) (Tr.req (ltN (addO (idO 0 j 2) 1) (mulO ls 2)) (Tr.ite (andB (eqI (zs (idO 0 i 2)) (zs (idO 0 j 2))) (eqI (zs (addO (idO 0 i 2) 1)) (zs (addO (idO 0 j 2) 1)))) (Tr.ok (Ex.ret,[(2,AV.int .i64 (Int.ofNat 15),some 1)],lvB w ls ld zs zd::H)) (Tr.ok (Ex.normal,[(1,AV.ptr 0 0 0 0,none),(4,AV.int .i64 i,none),(5,AV.int .i64 (addI .i64 j (Int.ofNat 1)),none)],lvB w ls ld zs zd::H))))))))) (Tr.ok (Ex.exit 4,[(1,AV.ptr 0 0 0 0,none),(4,AV.int .i64 i,none),(5,AV.int .i64 j,none),(78,AV.bool false,some 1)],lvB w ls ld zs zd::H)):=by kernel_rfl
theorem t20b (n:Nat) (w:Int) (ls ld:Nat) (zs zd:Nat→Int) (H:Heap) (i:Int) (q:Bool):execT (cxD n 20 130) (il noCt n 0) (blkE noBT 4 [(1,AV.ptr 0 0 0 0),(4,AV.int IntKind.i64 i),(5,AV.int IntKind.i64 (Int.ofNat 0))] (lvB w ls ld zs zd::H) (.ite q (.ok (.ret,[(2,AV.int IntKind.i64 15,none)],lvB w ls ld zs zd::H)) (.ok (.normal,hints [(1,AV.ptr 0 0 0 0),(4,AV.int IntKind.i64 i),(5,AV.int IntKind.i64 i),(78,AV.bool false)],lvB w ls ld zs zd::H)))) noRT (part Try.f20 [1,1,1,1,0,1,0,0]) (hints [(1,AV.ptr 0 0 0 0),(4,AV.int IntKind.i64 i)]) (lvB w ls ld zs zd::H) =
 Tr.ite (ltI i (Int.ofNat ls)) (Tr.reqP ([(1,AV.ptr 0 0 0 0),(4,AV.int .i64 i),(5,AV.int .i64 (Int.ofNat 0))]=[(1,AV.ptr 0 0 0 0),(4,AV.int .i64 i),(5,AV.int .i64 (Int.ofNat 0))]∧lvB w ls ld zs zd::H=lvB w ls ld zs zd::H) (Tr.ite q (Tr.ok (Ex.ret,[(2,AV.int .i64 (Int.ofNat 15),none)],lvB w ls ld zs zd::H)) (Tr.ok (Ex.normal,[(1,AV.ptr 0 0 0 0,none),(4,AV.int .i64 (addI .i64 i (Int.ofNat 1)),none)],lvB w ls ld zs zd::H)))) (Tr.ok (Ex.exit 2,[(1,AV.ptr 0 0 0 0,none),(4,AV.int .i64 i,none),(73,AV.bool false,some 1)],lvB w ls ld zs zd::H)):=by kernel_rfl
theorem t20e (n:Nat) (w:Int) (ls ld:Nat) (zs zd:Nat→Int) (H:Heap) (i:Int):execT (cxD n 20 130) (il noCt n 0) (stopB noBT 4) noRT (part Try.f20 [1,1,1,1,0,1,0,0]) (hints [(1,AV.ptr 0 0 0 0),(4,AV.int IntKind.i64 i)]) (lvB w ls ld zs zd::H) =
 Tr.ite (ltI i (Int.ofNat ls)) Tr.bad (Tr.ok (Ex.exit 2,[(1,AV.ptr 0 0 0 0,none),(4,AV.int .i64 i,none),(73,AV.bool false,some 1)],lvB w ls ld zs zd::H)):=by kernel_rfl
theorem t20d (n:Nat) (w:Int) (ls ld:Nat) (zs zd:Nat→Int) (H:Heap) (j:Int):execT (cxD (n+1) 20 130) (il noCt n 1) noBT noRT (part Try.f20 [1,1,1,1,1,0,1,0,0]) (hints [(1,AV.ptr 0 0 0 0),(6,AV.int IntKind.i64 j)]) (lvB w ls ld zs zd::H) =
 (fun (Z0:Lvl)=>((fun (Z1:HFrm)=>Tr.ite (ltI j (Int.ofNat ld)) (Tr.req (inI j ld) (Tr.req (ltN (idO 0 j 3) (mulO ld 3)) (Tr.req (ltN (addO (idO 0 j 3) 1) (mulO ld 3)) (Tr.req (ltN (addO (idO 0 j 3) 2) (mulO ld 3)) (Tr.ite (leI (Int.ofNat 0) (zd (idO 0 j 3))) (Tr.ite (notB (ltI (zd (idO 0 j 3)) (Int.ofNat ls))) (Tr.ok (Ex.ret,Z1,Z0::H)) (Tr.ite (ltI (zd (addO (idO 0 j 3) 1)) (Int.ofNat 1)) (Tr.ok (Ex.ret,Z1,Z0::H)) (Tr.ite (ltI (zd (addO (idO 0 j 3) 2)) (zd (addO (idO 0 j 3) 1))) (Tr.ok (Ex.ret,Z1,Z0::H)) (Tr.ite (ltI (Int.ofNat 10000) (zd (addO (idO 0 j 3) 2))) (Tr.ok (Ex.ret,Z1,Z0::H)) (Tr.ok (Ex.normal,[(1,AV.ptr 0 0 0 0,none),(6,AV.int .i64 (addI .i64 j (Int.ofNat 1)),none)],Z0::H)))))) (Tr.ok (Ex.ret,Z1,Z0::H))))))) (Tr.ok (Ex.exit 6,[(1,AV.ptr 0 0 0 0,none),(6,AV.int .i64 j,none),(96,AV.bool false,some 1)],lvB w ls ld zs zd::H))) [(2,AV.int .i64 (Int.ofNat 16),some 1)])) { lock:=false,bs:=[(0,Blk.row (Row.G [AV.int .i64 w,slA 2 ls zs,slA 3 ld zd])),(0,Blk.row (Row.I .i64 [zd (idO 0 j 3),zd (addO (idO 0 j 3) 1),zd (addO (idO 0 j 3) 2)]))] }:=by kernel_rfl
theorem b20:blocksOf (bodyOf Try.f20)=[(0,.loop (part Try.f20 [1,1,1,0,1,0,0])),(1,part Try.f20 [1,1,1,0,1,0,0,1,0,0]),(2,.loop (part Try.f20 [1,1,1,1,0,1,0,0])),(3,part Try.f20 [1,1,1,1,0,1,0,0,1,0,0]),(4,.loop (part Try.f20 [1,1,1,1,0,1,0,0,1,0,0,1,0,0])),(5,part Try.f20 [1,1,1,1,0,1,0,0,1,0,0,1,0,0,1,0,0]),(6,.loop (part Try.f20 [1,1,1,1,1,0,1,0,0])),(7,part Try.f20 [1,1,1,1,1,0,1,0,0,1,0,0])]:=by kernel_rfl
theorem b20b:blocksOf (part Try.f20 [1,1,1,1,0,1,0,0])=[(3,part Try.f20 [1,1,1,1,0,1,0,0,1,0,0]),(4,.loop (part Try.f20 [1,1,1,1,0,1,0,0,1,0,0,1,0,0])),(5,part Try.f20 [1,1,1,1,0,1,0,0,1,0,0,1,0,0,1,0,0])]:=by kernel_rfl
section
variable (n:Nat) (w:Int) (ls ld:Nat) (zs zd:Nat→Int) (H:Heap)
theorem l20a (h1:ls≤10) (x:Res) (hx:(Tr.ite (exN (badS w zs) ls) (Tr.ok (.ret,[(2,AV.int IntKind.i64 3,none)],lvB w ls ld zs zd::H)) (Tr.ok (.normal,hints [(1,AV.ptr 0 0 0 0),(3,AV.int IntKind.i64 (Int.ofNat ls)),(30,AV.bool false)],lvB w ls ld zs zd::H))).run=some x) :
 exec (cxD n 20 130) (.block 0 (.loop (part Try.f20 [1,1,1,0,1,0,0]))) [(1,AV.ptr 0 0 0 0),(3,AV.int IntKind.i64 (Int.ofNat 0))] (lvB w ls ld zs zd::H)=some x.st:=by
 refine findB (il_no0 n) (noBT_ok _ _) (noRT_ok _ _) 0 (fun j=>[(1,AV.ptr 0 0 0 0),(3,AV.int IntKind.i64 (Int.ofNat j))]) (fun _=>lvB w ls ld zs zd::H) ls (badS w zs)
  (fun j=>if j<ls then (.ret,[(2,AV.int IntKind.i64 3,some 1)],lvB w ls ld zs zd::H) else (.exit 0,hints [(1,AV.ptr 0 0 0 0),(3,AV.int IntKind.i64 (Int.ofNat ls))]++[(30,AV.bool false,some 1)],lvB w ls ld zs zd::H)) (by omega) (fun j hj hp=>?_) (fun j hj hp=>?_) ⟨?_,?_⟩ x ?_
 · refine ⟨hints [(1,AV.ptr 0 0 0 0),(3,AV.int IntKind.i64 (Int.ofNat (j+1)))],lvB w ls ld zs zd::H,?_,hints_eq _,rfl⟩
   simp only[badS,Bool.or_eq_false_iff,decide_eq_false_iff_not] at hp
   rw[t20a]
   simp (disch:=omega) only[Tr.run_ite,Tr.run_req,Tr.run_ok,ltI_eq,leI_eq,inI_eq,ltN_eq,lt_mulO,idO_eq,addO_eq,addI_eq,decide_eq_true,decide_eq_false,cond_true,cond_false,Int.ofNat_eq_natCast,Int.toNat_natCast,Nat.zero_add,Int.natCast_one,wrap_j]
   rfl
 · rw[if_pos hj]
   refine ⟨?_,rfl⟩
   simp only[badS,Bool.or_eq_true,decide_eq_true_eq] at hp
   rw[t20a]
   by_cases e1:zs (j*2)<1
   · simp (disch:=omega) only[Tr.run_ite,Tr.run_req,Tr.run_ok,ltI_eq,leI_eq,inI_eq,ltN_eq,lt_mulO,idO_eq,addO_eq,addI_eq,decide_eq_true,decide_eq_false,cond_true,cond_false,Int.ofNat_eq_natCast,Int.toNat_natCast,Nat.zero_add];rfl
   · by_cases e2:w≤zs (j*2)
     · simp (disch:=omega) only[Tr.run_ite,Tr.run_req,Tr.run_ok,ltI_eq,leI_eq,inI_eq,ltN_eq,lt_mulO,idO_eq,addO_eq,addI_eq,decide_eq_true,decide_eq_false,cond_true,cond_false,Int.ofNat_eq_natCast,Int.toNat_natCast,Nat.zero_add];rfl
     · by_cases e3:zs (j*2+1)<0
       · simp (disch:=omega) only[Tr.run_ite,Tr.run_req,Tr.run_ok,ltI_eq,leI_eq,inI_eq,ltN_eq,lt_mulO,idO_eq,addO_eq,addI_eq,decide_eq_true,decide_eq_false,cond_true,cond_false,Int.ofNat_eq_natCast,Int.toNat_natCast,Nat.zero_add];rfl
       · simp (disch:=omega) only[Tr.run_ite,Tr.run_req,Tr.run_ok,ltI_eq,leI_eq,inI_eq,ltN_eq,lt_mulO,idO_eq,addO_eq,addI_eq,decide_eq_true,decide_eq_false,cond_true,cond_false,Int.ofNat_eq_natCast,Int.toNat_natCast,Nat.zero_add];rfl
 · rw[if_neg (by omega),t20a]
   simp (disch:=omega) only[Tr.run_ite,ltI_eq,Int.ofNat_eq_natCast,decide_eq_false,cond_false,Tr.run_ok]
   rfl
 · rw[if_neg (by omega)]
 · rcases Tr.ite_some hx with ⟨hc,hx⟩ | ⟨hc,hx⟩
   · have:=exN_true hc
     exact .inl ⟨this,by rw[if_pos this,← Tr.ok_some hx];rfl⟩
   · exact .inr ⟨exN_false hc,by rw[if_neg (by omega),← Tr.ok_some hx];rfl⟩
theorem l20c (h1:ls≤10) (i:Nat) (hi:i<ls) (x:Res) (hx:(Tr.ite (exN (eqS zs i) i) (Tr.ok (.ret,[(2,AV.int IntKind.i64 15,none)],lvB w ls ld zs zd::H)) (Tr.ok (.normal,hints [(1,AV.ptr 0 0 0 0),(4,AV.int IntKind.i64 (Int.ofNat i)),(5,AV.int IntKind.i64 (Int.ofNat i)),(78,AV.bool false)],lvB w ls ld zs zd::H))).run=some x) :
 exec (cxD n 20 130) (.block 4 (.loop (part Try.f20 [1,1,1,1,0,1,0,0,1,0,0,1,0,0]))) [(1,AV.ptr 0 0 0 0),(4,AV.int IntKind.i64 (Int.ofNat i)),(5,AV.int IntKind.i64 (Int.ofNat 0))] (lvB w ls ld zs zd::H)=some x.st:=by
 refine findB (il_no0 n) (noBT_ok _ _) (noRT_ok _ _) 4 (fun j=>[(1,AV.ptr 0 0 0 0),(4,AV.int IntKind.i64 (Int.ofNat i)),(5,AV.int IntKind.i64 (Int.ofNat j))]) (fun _=>lvB w ls ld zs zd::H) i (eqS zs i)
  (fun j=>if j<i then (.ret,[(2,AV.int IntKind.i64 15,some 1)],lvB w ls ld zs zd::H) else (.exit 4,hints [(1,AV.ptr 0 0 0 0),(4,AV.int IntKind.i64 (Int.ofNat i)),(5,AV.int IntKind.i64 (Int.ofNat i))]++[(78,AV.bool false,some 1)],lvB w ls ld zs zd::H)) (by omega) (fun j hj hp=>?_) (fun j hj hp=>?_) ⟨?_,?_⟩ x ?_
 · refine ⟨hints [(1,AV.ptr 0 0 0 0),(4,AV.int IntKind.i64 (Int.ofNat i)),(5,AV.int IntKind.i64 (Int.ofNat (j+1)))],lvB w ls ld zs zd::H,?_,hints_eq _,rfl⟩
   rw[t20c]
   simp (disch:=omega) only[nX,nS,eqI_eq]
   simp only[eqS] at hp
   rw[hp]
   rfl
 · rw[if_pos hj]
   refine ⟨?_,rfl⟩
   rw[t20c]
   simp (disch:=omega) only[nX,nS,eqI_eq]
   simp only[eqS] at hp
   rw[hp]
   rfl
 · rw[if_neg (by omega),t20c]
   simp (disch:=omega) only[nX,nS,eqI_eq]
   rfl
 · rw[if_neg (by omega)]
 · rcases Tr.ite_some hx with ⟨hc,hx⟩ | ⟨hc,hx⟩
   · have:=exN_true hc
     exact .inl ⟨this,by rw[if_pos this,← Tr.ok_some hx];rfl⟩
   · exact .inr ⟨exN_false hc,by rw[if_neg (by omega),← Tr.ok_some hx];rfl⟩
theorem l20b (h1:ls≤10) (x:Res) (hx:(Tr.ite (exN (fun i=>exN (eqS zs i) i) ls) (Tr.ok (.ret,[(2,AV.int IntKind.i64 15,none)],lvB w ls ld zs zd::H)) (Tr.ok (.normal,hints [(1,AV.ptr 0 0 0 0),(4,AV.int IntKind.i64 (Int.ofNat ls)),(73,AV.bool false)],lvB w ls ld zs zd::H))).run=some x) :
 exec (cxD n 20 130) (.block 2 (.loop (part Try.f20 [1,1,1,1,0,1,0,0]))) [(1,AV.ptr 0 0 0 0),(4,AV.int IntKind.i64 (Int.ofNat 0))] (lvB w ls ld zs zd::H)=some x.st:=by
 have hB:∀ i:Nat,i<ls→BlkT.Ok _ (cxD n 20 130) (part Try.f20 [1,1,1,1,0,1,0,0]):=fun i hi=>blkE_ok (noBT_ok _ _) (id0:=4) (B:=.loop (part Try.f20 [1,1,1,1,0,1,0,0,1,0,0,1,0,0])) (fun b hb=>by rw[b20b] at hb;simpa using hb) (fun x hx=>l20c n w ls ld zs zd H h1 i hi x hx)
 have step:∀ j,j<ls→∀ y,_→exec (cxD n 20 130) (part Try.f20 [1,1,1,1,0,1,0,0]) [(1,AV.ptr 0 0 0 0),(4,AV.int IntKind.i64 (Int.ofNat j))] (lvB w ls ld zs zd::H)=some (Res.st y):=fun j hj y hy=>ex_of (t20b n w ls ld zs zd H (Int.ofNat j) (exN (eqS zs j) j)) (il_no0 n) (hB j hj) (noRT_ok _ _) (x:=y) hy
 refine findE 2 (fun j=>[(1,AV.ptr 0 0 0 0),(4,AV.int IntKind.i64 (Int.ofNat j))]) (fun _=>lvB w ls ld zs zd::H) ls (fun i=>exN (eqS zs i) i)
  (fun j=>if j<ls then (.ret,[(2,AV.int IntKind.i64 15,none)],lvB w ls ld zs zd::H) else (.exit 2,hints [(1,AV.ptr 0 0 0 0),(4,AV.int IntKind.i64 (Int.ofNat ls))]++[(73,AV.bool false,some 1)],lvB w ls ld zs zd::H)) (by omega) (fun j hj hp=>?_) (fun j hj hp=>?_) ⟨?_,?_⟩ x ?_
 · refine ⟨_,_,step j hj (.normal,hints [(1,AV.ptr 0 0 0 0),(4,AV.int IntKind.i64 (Int.ofNat (j+1)))],lvB w ls ld zs zd::H) ?_,rfl,rfl⟩
   rw[Tr.run_ite,ltI_eq,decide_eq_true (by simpa using hj),cond_true,Tr.run_reqP ⟨rfl,rfl⟩,hp]
   simp (disch:=omega) only[nX,nS,eqI_eq]
   rfl
 · rw[if_pos hj]
   refine ⟨step j hj (.ret,[(2,AV.int IntKind.i64 15,none)],lvB w ls ld zs zd::H) ?_,rfl⟩
   rw[Tr.run_ite,ltI_eq,decide_eq_true (by simpa using hj),cond_true,Tr.run_reqP ⟨rfl,rfl⟩,hp]
   rfl
 · rw[if_neg (by omega)]
   refine ex_of (t20e n w ls ld zs zd H (Int.ofNat ls)) (il_no0 n) (stopB_ok (noBT_ok _ _) 4) (noRT_ok _ _) ?_
   simp (disch:=omega) only[nX,nS,eqI_eq]
   rfl
 · rw[if_neg (by omega)]
 · rcases Tr.ite_some hx with ⟨hc,hx⟩ | ⟨hc,hx⟩
   · have:=exN_true hc
     exact .inl ⟨this,by rw[if_pos this,← Tr.ok_some hx]⟩
   · exact .inr ⟨exN_false hc,by rw[if_neg (by omega),← Tr.ok_some hx];rfl⟩
theorem l20d (h1:ld≤40) (x:Res) (hx:(Tr.ite (exN (badD ls zd) ld) (Tr.ok (.ret,[(2,AV.int IntKind.i64 16,none)],lvD w ls ld zs zd (zd (fN (badD ls zd) ld 0*3)) (zd (fN (badD ls zd) ld 0*3+1)) (zd (fN (badD ls zd) ld 0*3+2))::H)) (Tr.ok (.normal,hints [(1,AV.ptr 0 0 0 0),(6,AV.int IntKind.i64 (Int.ofNat ld)),(96,AV.bool false)],lvB w ls ld zs zd::H))).run=some x) :
 exec (cxD (n+1) 20 130) (.block 6 (.loop (part Try.f20 [1,1,1,1,1,0,1,0,0]))) [(1,AV.ptr 0 0 0 0),(6,AV.int IntKind.i64 (Int.ofNat 0))] (lvB w ls ld zs zd::H)=some x.st:=by
 refine findB (il_no n 1) (noBT_ok _ _) (noRT_ok _ _) 6 (fun j=>[(1,AV.ptr 0 0 0 0),(6,AV.int IntKind.i64 (Int.ofNat j))]) (fun _=>lvB w ls ld zs zd::H) ld (badD ls zd)
  (fun j=>if j<ld then (.ret,[(2,AV.int IntKind.i64 16,some 1)],lvD w ls ld zs zd (zd (j*3)) (zd (j*3+1)) (zd (j*3+2))::H) else (.exit 6,hints [(1,AV.ptr 0 0 0 0),(6,AV.int IntKind.i64 (Int.ofNat ld))]++[(96,AV.bool false,some 1)],lvB w ls ld zs zd::H)) (by omega) (fun j hj hp=>?_) (fun j hj hp=>?_) ⟨?_,?_⟩ x ?_
 · refine ⟨hints [(1,AV.ptr 0 0 0 0),(6,AV.int IntKind.i64 (Int.ofNat (j+1)))],lvD w ls ld zs zd (zd (j*3)) (zd (j*3+1)) (zd (j*3+2))::H,?_,hints_eq _,rfl⟩
   simp only[badD,Bool.or_eq_false_iff,decide_eq_false_iff_not] at hp
   rw[t20d]
   simp (disch:=omega) only[nX,nS,eqI_eq]
   rfl
 · rw[if_pos hj]
   refine ⟨?_,rfl⟩
   simp only[badD,Bool.or_eq_true,decide_eq_true_eq] at hp
   rw[t20d]
   by_cases e1:zd (j*3)<0<;>by_cases e2:(ls:Int)≤zd (j*3)<;>by_cases e3:zd (j*3+1)<1<;>by_cases e4:zd (j*3+2)<zd (j*3+1)<;>by_cases e5:10000<zd (j*3+2)<;>first
    | (exfalso;omega)
    | (simp (disch:=omega) only[nX,nS,eqI_eq];rfl)
 · rw[if_neg (by omega),t20d]
   simp (disch:=omega) only[nX,nS,eqI_eq]
   rfl
 · rw[if_neg (by omega)]
 · rcases Tr.ite_some hx with ⟨hc,hx⟩ | ⟨hc,hx⟩
   · have:=exN_true hc
     exact .inl ⟨this,by rw[if_pos this,← Tr.ok_some hx];rfl⟩
   · exact .inr ⟨exN_false hc,by rw[if_neg (by omega),← Tr.ok_some hx];rfl⟩
theorem u20 (n:Nat) (w:Int) (ls ld:Nat) (zs zd:Nat→Int) (H:Heap) (q1 q2 q3:Bool) (x y z:Int):bodyT Try.prog (cd (n+1)) 100000 20 Try.f20 (Kt.kt 20) (il noCt n 1) (blkE (blkE (blkE noBT 6 [(1,AV.ptr 0 0 0 0),(6,AV.int IntKind.i64 (Int.ofNat 0))] (lvB w ls ld zs zd::H) (Tr.ite q3 (Tr.ok (.ret,[(2,AV.int IntKind.i64 16,none)],lvD w ls ld zs zd x y z::H)) (Tr.ok (.normal,hints [(1,AV.ptr 0 0 0 0),(6,AV.int IntKind.i64 (Int.ofNat ld)),(96,AV.bool false)],lvB w ls ld zs zd::H)))) 2 [(1,AV.ptr 0 0 0 0),(4,AV.int IntKind.i64 (Int.ofNat 0))] (lvB w ls ld zs zd::H) (Tr.ite q2 (Tr.ok (.ret,[(2,AV.int IntKind.i64 15,none)],lvB w ls ld zs zd::H)) (Tr.ok (.normal,hints [(1,AV.ptr 0 0 0 0),(4,AV.int IntKind.i64 (Int.ofNat ls)),(73,AV.bool false)],lvB w ls ld zs zd::H)))) 0 [(1,AV.ptr 0 0 0 0),(3,AV.int IntKind.i64 (Int.ofNat 0))] (lvB w ls ld zs zd::H) (Tr.ite q1 (Tr.ok (.ret,[(2,AV.int IntKind.i64 3,none)],lvB w ls ld zs zd::H)) (Tr.ok (.normal,hints [(1,AV.ptr 0 0 0 0),(3,AV.int IntKind.i64 (Int.ofNat ls)),(30,AV.bool false)],lvB w ls ld zs zd::H)))) noRT [(bathA w ls zs ld zd,none)] H =
 Tr.ite (ltI w (Int.ofNat 2)) (Tr.ok ((AV.int .i64 (Int.ofNat 2),some 1),H)) (Tr.ite (ltI (Int.ofNat 1000) w) (Tr.ok ((AV.int .i64 (Int.ofNat 2),some 1),H)) (Tr.ite (ltI (Int.ofNat 10) (Int.ofNat ls)) (Tr.ok ((AV.int .i64 (Int.ofNat 6),some 1),H)) (Tr.ite (ltI (Int.ofNat 40) (Int.ofNat ld)) (Tr.ok ((AV.int .i64 (Int.ofNat 6),some 1),H)) (Tr.reqP ([(1,AV.ptr 0 0 0 0),(3,AV.int .i64 (Int.ofNat 0))]=[(1,AV.ptr 0 0 0 0),(3,AV.int .i64 (Int.ofNat 0))]∧lvB w ls ld zs zd::H=lvB w ls ld zs zd::H) (Tr.ite q1 (Tr.ok ((AV.int .i64 (Int.ofNat 3),none),H)) (Tr.reqP ([(1,AV.ptr 0 0 0 0),(4,AV.int .i64 (Int.ofNat 0))]=[(1,AV.ptr 0 0 0 0),(4,AV.int .i64 (Int.ofNat 0))]∧lvB w ls ld zs zd::H=lvB w ls ld zs zd::H) (Tr.ite q2 (Tr.ok ((AV.int .i64 (Int.ofNat 15),none),H)) (Tr.reqP ([(1,AV.ptr 0 0 0 0),(6,AV.int .i64 (Int.ofNat 0))]=[(1,AV.ptr 0 0 0 0),(6,AV.int .i64 (Int.ofNat 0))]∧lvB w ls ld zs zd::H=lvB w ls ld zs zd::H) (Tr.ite q3 (Tr.ok ((AV.int .i64 (Int.ofNat 16),none),H)) (Tr.ok ((AV.int .i64 (Int.ofNat 0),some 1),H))))))))))):=by kernel_rfl
theorem s20:∀ id b,(id,b) ∈ blocksOf (bodyOf Try.f20)→(id=0→b=.loop (part Try.f20 [1,1,1,0,1,0,0]))∧(id=2→b=.loop (part Try.f20 [1,1,1,1,0,1,0,0]))∧(id=6→b=.loop (part Try.f20 [1,1,1,1,1,0,1,0,0])):=by
 intro id b hb
 rw[b20] at hb
 simp only[List.mem_cons,Prod.mk.injEq,List.not_mem_nil,or_false] at hb
 rcases hb with ⟨rfl,rfl⟩ | ⟨rfl,rfl⟩ | ⟨rfl,rfl⟩ | ⟨rfl,rfl⟩ | ⟨rfl,rfl⟩ | ⟨rfl,rfl⟩ | ⟨rfl,rfl⟩ | ⟨rfl,rfl⟩<;>refine ⟨fun h=>?_,fun h=>?_,fun h=>?_⟩<;>first | rfl | exact absurd h (by decide)
theorem v20 (n:Nat) (w:Int) (ls ld:Nat) (zs zd:Nat→Int) (H:Heap):bodyT Try.prog (cd (n+1)) 100000 20 Try.f20 (Kt.kt 20) (il noCt n 1) (stopB (stopB (stopB noBT 6) 2) 0) noRT [(bathA w ls zs ld zd,none)] H =
 Tr.ite (ltI w (Int.ofNat 2)) (Tr.ok ((AV.int .i64 (Int.ofNat 2),some 1),H)) (Tr.ite (ltI (Int.ofNat 1000) w) (Tr.ok ((AV.int .i64 (Int.ofNat 2),some 1),H)) (Tr.ite (ltI (Int.ofNat 10) (Int.ofNat ls)) (Tr.ok ((AV.int .i64 (Int.ofNat 6),some 1),H)) (Tr.ite (ltI (Int.ofNat 40) (Int.ofNat ld)) (Tr.ok ((AV.int .i64 (Int.ofNat 6),some 1),H)) Tr.bad))):=by kernel_rfl
theorem c20:cd (n+2) (.fn 20) [bathA w ls zs ld zd] H=some (.int .i64 (chkB w ls ld zs zd),H):=by
 have out:(¬ ls≤10∨¬ ld≤40)→cd (n+2) (.fn 20) [bathA w ls zs ld zd] H=some (.int .i64 (chkB w ls ld zs zd),H):=by
  intro ho
  refine fn_of (n:=n+1) Try.func20 rfl rfl rfl (v20 n w ls ld zs zd H) (il_no n 1) (stopB_ok (stopB_ok (stopB_ok (noBT_ok _ _) 6) 2) 0) (noRT_ok _ _) (y:=((.int .i64 (chkB w ls ld zs zd),some 1),H)) ?_
  by_cases e1:w<2<;>by_cases e2:1000<w<;>by_cases e3:10<ls<;>by_cases e4:40<ld<;>first
   | (exfalso;omega)
   | (simp (disch:=omega) only[nX,nS,eqI_eq,chkB,e1,e2,e3,e4,decide_true,decide_false];rfl)
 by_cases hls:ls≤10
 · by_cases hld:ld≤40
   · refine fn_of (n:=n+1) Try.func20 rfl rfl rfl (u20 n w ls ld zs zd H (exN (badS w zs) ls) (exN (fun i=>exN (eqS zs i) i) ls) (exN (badD ls zd) ld) (zd (fN (badD ls zd) ld 0*3)) (zd (fN (badD ls zd) ld 0*3+1)) (zd (fN (badD ls zd) ld 0*3+2))) (il_no n 1)
      (blkE_ok (blkE_ok (blkE_ok (noBT_ok _ _) (fun b hb=>(s20 _ b hb).2.2 rfl) (fun x hx=>l20d n w ls ld zs zd H hld x hx)) (fun b hb=>(s20 _ b hb).2.1 rfl) (fun x hx=>l20b (n+1) w ls ld zs zd H hls x hx)) (fun b hb=>(s20 _ b hb).1 rfl) (fun x hx=>l20a (n+1) w ls ld zs zd H hls x hx)) (noRT_ok _ _) (y:=((.int .i64 (chkB w ls ld zs zd),if w<2 then some 1 else if 1000<w then some 1 else if exN (badS w zs) ls then none else if exN (fun i=>exN (eqS zs i) i) ls then none else if exN (badD ls zd) ld then none else some 1),H)) ?_
     have e3:¬ 10<ls:=by omega
     have e4:¬ 40<ld:=by omega
     by_cases e1:w<2
     · simp (disch:=omega) only[nX,nS,eqI_eq,chkB,e1,decide_true,if_true]
       rfl
     · by_cases e2:1000<w
       · simp (disch:=omega) only[nX,nS,eqI_eq,chkB,e1,e2,decide_true,decide_false,if_true,if_false]
         rfl
       · rw[Tr.run_ite,ltI_eq,decide_eq_false (by simpa using e1),cond_false,Tr.run_ite,ltI_eq,decide_eq_false (by simpa using e2),cond_false,Tr.run_ite,ltI_eq,decide_eq_false (by simp;omega),cond_false,Tr.run_ite,ltI_eq,decide_eq_false (by simp;omega),cond_false,Tr.run_reqP ⟨rfl,rfl⟩]
         simp only[chkB,e1,e2,e3,e4,decide_false,cond_false,if_false]
         cases exN (badS w zs) ls with
         | true=>rfl
         | false =>
           rw[Tr.run_ite,cond_false,Tr.run_reqP (by simp)]
           cases exN (fun i=>exN (eqS zs i) i) ls with
           | true=>rfl
           | false =>
             rw[Tr.run_ite,cond_false,Tr.run_reqP (by simp)]
             cases exN (badD ls zd) ld<;>rfl
   · exact out (.inr hld)
 · exact out (.inl hls)
end
end Go.Eng
end
section
namespace Go.Eng
open Go.Proofs
set_option linter.unusedVariables false
set_option linter.unusedSimpArgs false
set_option maxRecDepth 100000
def g61 (B:AV) (side:Prop) (ev:Bool→AV):List AV→Option (Prop×AV)
 | [b,.bool h]=>some (b=B∧side,ev h)
 | _=>none
def g20 (B:AV) (e:Int):List AV→Option (Prop×AV)
 | [b]=>some (b=B,.int .i64 e)
 | _=>none
section
variable (n:Nat) (w:Int) (ls ld:Nat) (zs zd:Nat→Int) (H:Heap) (s:Int)
def szE (h:Bool) (zd:Nat→Int) (ld:Nat) (s:Int):Int:=sumS zd (upto (endS h zd) ld) s ld
theorem chk_len (h:chkB w ls ld zs zd=0):ls≤10∧ld≤40:=by
 unfold chkB at h
 by_cases e1:w<2<;>by_cases e2:1000<w<;>by_cases e3:10<ls<;>by_cases e4:40<ld<;>simp only[e1,e2,e3,e4,decide_true,decide_false,cond_true,cond_false] at h<;>first | omega | (simp at h)
theorem ct20 (k:Nat) (t:Ctr) (ht:t.Ok (cd (n+2+k))):(ctG t 20 (g20 (bathA w ls zs ld zd) (chkB w ls ld zs zd))).Ok (cd (n+2+k)):=by
 refine ctG_ok ht (fun args p v h hp H=>?_)
 unfold g20 at h
 split at h
 · simp only[nP] at h
   obtain ⟨rfl,rfl⟩:=h
   rw[hp,show n+2+k=n+k+2 by omega]
   exact c20 (n+k) w ls ld zs zd H
 · cases h
end
end Go.Eng
end
