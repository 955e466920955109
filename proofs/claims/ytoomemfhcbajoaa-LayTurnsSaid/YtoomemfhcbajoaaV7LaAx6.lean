/- Lay: the table of calls. -/
import Derived.Test.YtoomemfhcbajoaaV7EngTgx4
import Derived.Test.YtoomemfhcbajoaaV7EngRn4x5
import Derived.Test.YtoomemfhcbajoaaV7EngTix5
import Derived.Test.YtoomemfhcbajoaaV7EngArg
import Derived.Test.YtoomemfhcbajoaaProg
import Derived.KernelRfl
section
namespace Go.Eng
open Go.Proofs Go.ChangeShapes
set_option linter.unusedVariables false
set_option maxRecDepth 100000

noncomputable def slA (n len:Nat) (z:Nat→Int):AV:=.slcT none (.M [.arr .i64 z (mulS len n)]) n len false
noncomputable def oraD:CallT→FuncId→List AV→Heap→Option (AV×Heap):=fun call f args H=>cond (Nat.beq f 54) (oCall Try.prog KtL.kt 100000 54 call args H) (oraS [⟨16,[],.bool true⟩] call f args H)
def noD (f:FuncId):Bool:=Nat.beq f 16 || Nat.beq f 1000000 || Nat.beq f 54
noncomputable def cd (n:Nat):CallT:=callN Try.prog oraD KtL.kt 100000 n
noncomputable def il (tab:Ctr) (n k:Nat):CallTr:=inlT Try.prog oraD KtL.kt 100000 noD tab n k
noncomputable def cxD (n:Nat) (f nt:Nat):Cx:=⟨Try.prog,cd n,100000,f,nt,KtL.kt f,none⟩

def nav:List Nat→Code→Code
 | [],c=>c
 | x :: p,c=>match c with
   | .seq a b=>match x with
     | 0=>nav p a
     | _=>nav p b
   | .cond _ a b=>match x with
     | 0=>nav p a
     | _=>nav p b
   | .block _ b=>nav p b
   | .loop b=>nav p b
   | .scope b=>nav p b
   | .rangeFunc _ _ a b=>match x with
     | 0=>nav p a
     | _=>nav p b
   | c=>c
noncomputable def part (f:Func) (p:List Nat):Code:=nav p (bodyOf f)
theorem noD_ok (g:FuncId) (h:noD g=false) (c:CallT) (args:List AV) (H:Heap):oraD c g args H=none:=by
 unfold noD at h
 rw[Bool.or_eq_false_iff,Bool.or_eq_false_iff] at h
 obtain ⟨⟨h0,h1⟩,h2⟩:=h
 unfold oraD oraS
 rw[h2,h1,cond_false,cond_false]
 simp only[oraT]
 have:Nat.beq 16 g=false:=by
  cases hb:Nat.beq 16 g with
  | false=>rfl
  | true=>have:=Nat.eq_of_beq_eq_true hb;subst this;simp at h0
 rw[this];rfl
theorem oraD_mode (n:Nat):∃ x,callN Try.prog oraD KtL.kt 100000 n .mode [] []=some x:=by
 cases n<;>exact ⟨_,rfl⟩
theorem oraD_ok (hN:Named Try.prog) (hD:DrawOk Try.prog) (hW:OneOk Try.prog ⟨16,[],.bool true⟩):OraOk Try.prog oraD :=
 fun call hC f args H v H' h hne p M w cargs hH hA=>by
  unfold oraD at h
  cases hb:Nat.beq f 54 with
  | true =>
    rw[hb,cond_true] at h
    have:=Nat.eq_of_beq_eq_true hb
    subst this
    exact oCall_ok hN hD KtL.kt 100000 hC h hH hA
  | false =>
    rw[hb,cond_false] at h
    exact oraS_ok _ (fun e he=>by
     simp only[List.mem_singleton] at he
     subst he
     exact hW) call hC f args H v H' h hne p M w cargs hH hA
theorem il_ok (tab:Ctr) (n k:Nat) (ht:∀ k,tab.Ok (cd (n+k))):(il tab n k).Ok (cd (n+k)):=inlT_ok _ _ _ _ _ _ _ noD_ok (fun k=>oraD_mode _) ht k
theorem il_no (n k:Nat):(il noCt n k).Ok (cd (n+k)):=il_ok _ _ _ (fun k=>noCt_ok _)
theorem il_no0 (n:Nat):(il noCt n 0).Ok (cd n):=il_no n 0
theorem fn_ok {f:FuncId} {fn:Func} {n:Nat} (hf:Try.prog.funcs[f]?=some fn) (hb:fn.body.isSome=true) (hn:noD f=false) {args:List HV} (hle:Nat.ble args.length fn.ntmps=true) {H:Heap} {callR:CallTr} (hC:callR.Ok (cd n)) {bl:BlkT} (hB:bl.Ok (cxD n f fn.ntmps) (bodyOf fn)) {rg:RgT} (hR:rg.Ok (cxD n f fn.ntmps) (bodyOf fn)) {y:HV×Heap}
 (h:(bodyT Try.prog (cd n) 100000 f fn (KtL.kt f) callR bl rg args H).run=some y):cd (n+1) (.fn f) (avs args) H=some (y.1.1,y.2) :=
 bodyT_ok hf hb (noD_ok f hn _ _ _) hle hC hB hR h
theorem fn_of {f:FuncId} {fn:Func} {n:Nat} (hf:Try.prog.funcs[f]?=some fn) (hb:fn.body.isSome=true) (hn:noD f=false) {args:List HV} (hle:Nat.ble args.length fn.ntmps=true) {H:Heap} {callR:CallTr} {bl:BlkT} {rg:RgT} {T:Tr (HV×Heap)}
 (e:bodyT Try.prog (cd n) 100000 f fn (KtL.kt f) callR bl rg args H=T) (hC:callR.Ok (cd n)) (hB:bl.Ok (cxD n f fn.ntmps) (bodyOf fn)) (hR:rg.Ok (cxD n f fn.ntmps) (bodyOf fn)) {y:HV×Heap} (hr:T.run=some y):cd (n+1) (.fn f) (avs args) H=some (y.1.1,y.2) :=
 fn_ok hf hb hn hle hC hB hR (by rw[e];exact hr)
theorem ex_ok {n f nt:Nat} {c:Code} {callR:CallTr} (hC:callR.Ok (cd n)) {bl:BlkT} (hB:bl.Ok (cxD n f nt) c) {rg:RgT} (hR:rg.Ok (cxD n f nt) c) {fr:Frm} {H:Heap} {x:Res} (h:(execT (cxD n f nt) callR bl rg c (hints fr) H).run=some x):exec (cxD n f nt) c fr H=some x.st:=by
 have:=execT_ok hC c hB hR _ _ _ h
 rw[hints_eq] at this
 exact this

def stopB (bl:BlkT) (id0:Nat):BlkT:=fun id fr H=>cond (Nat.beq id id0) (some .bad) (bl id fr H)
theorem stopB_ok {bl:BlkT} {cx:Cx} {c:Code} (h:bl.Ok cx c) (id0:Nat):(stopB bl id0).Ok cx c:=by
 intro id b hm fr H t y ht hy
 unfold stopB at ht
 cases hb:Nat.beq id id0 with
 | true =>
   rw[hb,cond_true,Option.some.injEq] at ht
   subst ht
   exact (Tr.bad_some hy).elim
 | false =>
   rw[hb,cond_false] at ht
   exact h id b hm fr H t y ht hy
theorem ex_of {n f nt:Nat} {c:Code} {callR:CallTr} {bl:BlkT} {rg:RgT} {fr:Frm} {H:Heap} {T:Tr Res} (e:execT (cxD n f nt) callR bl rg c (hints fr) H=T) (hC:callR.Ok (cd n)) (hB:bl.Ok (cxD n f nt) c) (hR:rg.Ok (cxD n f nt) c) {x:Res} (hr:T.run=some x):exec (cxD n f nt) c fr H=some x.st :=
 ex_ok hC hB hR (by rw[e];exact hr)
section
variable {n f nt:Nat} {c:Code} {callR:CallTr} {bl:BlkT} {rg:RgT}
end
def exN (p:Nat→Bool) (N:Nat):Bool:=decide (fN p N 0<N)
theorem exN_true {p:Nat→Bool} {N:Nat} (h:exN p N=true):fN p N 0<N:=by simpa[exN] using h
theorem exN_false {p:Nat→Bool} {N:Nat} (h:exN p N=false):fN p N 0=N:=by
 have h1:=(fN_spec p N 0).2.1
 have:¬ fN p N 0<N:=by simpa[exN] using h
 omega
theorem exN_iff (p:Nat→Bool) (N:Nat):exN p N=true↔∃ i,i<N∧p i=true:=by
 obtain ⟨h1,h2,h3,h4⟩:=fN_spec p N 0
 constructor
 · intro h
   have:=exN_true h
   exact ⟨_,this,h4 (by omega)⟩
 · rintro ⟨i,hi,hp⟩
   unfold exN
   rw[decide_eq_true_eq]
   apply Nat.lt_of_not_le
   intro hc
   have:=h3 i (by omega) (by omega)
   rw[this] at hp;cases hp
end Go.Eng
end
section
namespace Go.Eng
open Go.Proofs
set_option linter.unusedVariables false
theorem fn_all {f:FuncId} {fn:Func} {n:Nat} (hf:Try.prog.funcs[f]?=some fn) (hb:fn.body.isSome=true) (hn:noD f=false) {args:List HV} (hle:Nat.ble args.length fn.ntmps=true) {H:Heap} {callR:CallTr} {bl:BlkT} {rg:RgT} {T:Tr (HV×Heap)}
 (e:bodyT Try.prog (cd n) 100000 f fn (KtL.kt f) callR bl rg args H=T) (hC:callR.Ok (cd n)) (hB:bl.Ok (cxD n f fn.ntmps) (bodyOf fn)) (hR:rg.Ok (cxD n f fn.ntmps) (bodyOf fn)) {v:AV} {H':Heap} (h:T.all fun y=>y.1.1=v∧y.2=H'):cd (n+1) (.fn f) (avs args) H=some (v,H'):=by
 obtain ⟨y,h1,h2,h3⟩:=h
 have:=fn_of hf hb hn hle e hC hB hR h1
 rw[this,h2,h3]
theorem ex_all {n f nt:Nat} {c:Code} {callR:CallTr} {bl:BlkT} {rg:RgT} {fr:Frm} {H:Heap} {T:Tr Res} (e:execT (cxD n f nt) callR bl rg c (hints fr) H=T) (hC:callR.Ok (cd n)) (hB:bl.Ok (cxD n f nt) c) (hR:rg.Ok (cxD n f nt) c) {Q:Ex×Frm×Heap→Prop} (h:T.all fun x=>Q x.st):∃ x,exec (cxD n f nt) c fr H=some x∧Q x:=by
 obtain ⟨x,h1,h2⟩:=h
 exact ⟨_,ex_of e hC hB hR h1,h2⟩
section
variable {n f nt:Nat} {c:Code} {callR:CallTr} {bl:BlkT} {rg:RgT}
theorem loopI (id:Nat) (I:Nat→Frm→Heap→Prop) (Q:Frm×Heap→Prop) (N:Nat) (hN:N<99999) {fr0:Frm} {H0:Heap} (h0:I 0 fr0 H0)
 (hr:∀ j fr H,I j fr H→∃ x,exec (cxD n f nt) c fr H=some x∧((x.1=.normal∧j<N∧I (j+1) (tidy (hNext H0) x.2.1 x.2.2).1 (tidy (hNext H0) x.2.1 x.2.2).2)∨(x.1=.exit id∧Q x.2))) :
 ∃ y,exec (cxD n f nt) (.block id (.loop c)) fr0 H0=some (.normal,y)∧Q y:=by
 obtain ⟨x,h1,h2⟩:=iter_inv (body:=exec (cxD n f nt) c) (n:=hNext H0) I (fun x=>x.1=.exit id∧Q x.2) N (fun j fr H h=>by
  obtain ⟨x,h1,h2⟩:=hr j fr H h
  obtain ⟨e,f1,g1⟩:=x
  refine ⟨e,f1,g1,h1,?_⟩
  rcases h2 with h2 | ⟨h2,h3⟩
  · exact .inl h2
  · exact .inr ⟨by dsimp only at h2;rw[h2];simp,h2,h3⟩) 100000 0 fr0 H0 h0 (by omega)
 obtain ⟨e,f1,g1⟩:=x
 obtain ⟨h2,h3⟩:=h2
 dsimp only at h2 h3
 subst h2
 exact ⟨(f1,g1),exec_block_loop h1,h3⟩
theorem findX (id:Nat) (F:Nat→Frm) (G:Nat→Heap) (N:Nat) (p:Nat→Bool) (X:Nat→Frm×Heap) (Y:Frm×Heap) (hN:N<99999)
 (hs:∀ j,j<N→∃ x,exec (cxD n f nt) c (F j) (G j)=some x∧if p j=true then x=(.ret,X j) else x.1=.normal∧tidy (hNext (G 0)) x.2.1 x.2.2=(F (j+1),G (j+1)))
 (he:exec (cxD n f nt) c (F N) (G N)=some (.exit id,Y)):exec (cxD n f nt) (.block id (.loop c)) (F 0) (G 0)=some (cond (exN p N) (.ret,X (fN p N 0)) (.normal,Y)):=by
 have key:=iter_find (body:=exec (cxD n f nt) c) (n:=hNext (G 0)) F G N p (fun j=>if j<N then (.ret,X j) else (.exit id,Y))
  (fun j hj hp=>by
    obtain ⟨x,h1,h2⟩:=hs j hj
    rw[if_neg (by rw[hp];simp)] at h2
    obtain ⟨e,f1,g1⟩:=x
    obtain ⟨rfl,h3⟩:=h2
    exact ⟨_,_,h1,h3⟩)
  (fun j hj hp=>by
    obtain ⟨x,h1,h2⟩:=hs j hj
    rw[if_pos hp] at h2
    subst h2
    rw[if_pos hj]
    exact ⟨h1,by simp⟩)
  (by
    rw[if_neg (by omega)]
    exact ⟨he,by simp⟩) N 0 100000 (by omega) (by omega)
 cases hc:exN p N with
 | true =>
   have:=exN_true hc
   rw[if_pos this] at key
   exact exec_block_loop_other (fun id' h=>by cases h) key
 | false =>
   have:=exN_false hc
   rw[if_neg (by omega)] at key
   exact exec_block_loop key
end
theorem forX {n f nt:Nat} {c:Code} (id:Nat) (F:Nat→Frm) (G:Nat→Heap) (N:Nat) (Y:Frm×Heap) (hN:N<99999)
 (hs:∀ j,j<N→∃ x,exec (cxD n f nt) c (F j) (G j)=some x∧(x.1=.normal∧tidy (hNext (G 0)) x.2.1 x.2.2=(F (j+1),G (j+1))))
 (he:exec (cxD n f nt) c (F N) (G N)=some (.exit id,Y)):exec (cxD n f nt) (.block id (.loop c)) (F 0) (G 0)=some (.normal,Y):=by
 have:=findX id F G N (fun _=>false) (fun _=>Y) Y hN (fun j hj=>by
  obtain ⟨x,h1,h2⟩:=hs j hj
  exact ⟨x,h1,by rw[if_neg (by simp)];exact h2⟩) he
 have h0:exN (fun _=>false) N=false:=by
  cases h:exN (fun _=>false) N with
  | false=>rfl
  | true=>obtain ⟨i,_,h2⟩:=(exN_iff _ _).1 h;cases h2
 rw[h0] at this
 exact this
end Go.Eng
end
section
namespace Go.Eng
open Go.Proofs
set_option linter.unusedVariables false
set_option linter.unusedSimpArgs false
set_option maxRecDepth 100000
noncomputable def lvE:Lvl:=⟨false,[]⟩
noncomputable def sl1 (k:Nat) (b:Nat→Int) (full:Bool):AV:=.slcT none (.M [.arr .i64 b k]) 1 k full
noncomputable def lvO (v k:Nat) (y:Nat→Int):Lvl:=⟨false,[(v,.row (.M [.arr .i64 y k]))]⟩
theorem il_ok0 (tab:Ctr) (n:Nat) (ht:tab.Ok (cd n)):(il tab n 0).Ok (cd n) :=
 ⟨oraD_mode _,fun tgt args H x h=>by
   unfold il inlT at h
   split at h
   · split at h
     · rename_i c hc
       exact ht _ _ hc _ _ _ h
     · exact (Tr.bad_some h).elim
   · exact (Tr.bad_some h).elim⟩
theorem blk_ite {cx:Cx} {id:Nat} {B:Code} {fr:Frm} {H:Heap} {e:Bool} {X Y x:Res} (h:(Tr.ite e (Tr.ok X) (Tr.ok Y)).run=some x) (hx:exec cx (.block id B) fr H=some (cond e X.st Y.st)):exec cx (.block id B) fr H=some x.st:=by
 rw[hx]
 rcases Tr.ite_some h with ⟨hc,h⟩ | ⟨hc,h⟩
 · rw[hc,← Tr.ok_some h];rfl
 · rw[hc,← Tr.ok_some h];rfl
theorem blk_ok {cx:Cx} {id:Nat} {B:Code} {fr:Frm} {H:Heap} {X x:Res} (h:(Tr.ok X).run=some x) (hx:exec cx (.block id B) fr H=some X.st):exec cx (.block id B) fr H=some x.st:=by
 rw[hx,← Tr.ok_some h]
theorem cs64 {j:Nat} (h:j<2 ^ 31):addI .i64 (j:Int) (Int.ofNat 1)=((j+1:Nat):Int):=by rw[addI_eq,show Int.ofNat 1=1 from rfl];exact wr_64 (by omega) (by omega)
theorem id1 (j:Nat):idO 0 (j:Int) 1=j:=by rw[idO_eq];omega
theorem idI {x:Int} (h:0≤x):idO 0 x 1=x.toNat:=by rw[idO_eq];omega
theorem wr_64' {x:Int} (h0:-9223372036854775808≤x) (h1:x≤9223372036854775807):wrI .i64 x=x:=by rw[wrI_eq,wr_64 h0 h1]
theorem ad64 {x y:Int} (h0:-9223372036854775808≤x+y) (h1:x+y≤9223372036854775807):addI .i64 x y=x+y:=by rw[addI_eq,wr_64 h0 h1]
theorem sb64 {x y:Int} (h0:-9223372036854775808≤x-y) (h1:x-y≤9223372036854775807):subI .i64 x y=x-y:=by rw[subI_eq,wr_64 h0 h1]
theorem lst_at (L:List Int) (j:Nat):lstO L j=L.getD j 0:=congrFun (lstO_eq L) j
theorem lst_app (L:List Int) (v:Int):appO (shO (lstO L) 0) L.length (lstO [v])=lstO (L++[v]):=by
 rw[shO_zero,appO_fn,lstO_fn];funext i
 by_cases h:i<L.length
 · simp[h,List.getElem?_append]
 · by_cases h2:i=L.length
   · subst h2;simp
   · have e1:[v][i-L.length]?=none:=List.getElem?_eq_none (by simp;omega)
     have e2:(L++[v])[i]?=none:=List.getElem?_eq_none (by simp;omega)
     simp only[h,if_false,List.getD_eq_getElem?_getD,e1,e2]
theorem lst_el (S:List Int) (j:Nat) (hj:j<S.length):lstO S j=S[j]:=by
 rw[lst_at,List.getD_eq_getElem?_getD,List.getElem?_eq_getElem hj];rfl
noncomputable def dA:List Int→AV
 | []=>.nils
 | a::r=>.slcT none (.M [.arr .i64 (lstO (a::r)) (r.length+1)]) 1 (r.length+1) false
theorem dA_sl (L:List Int) (k:Nat) (h:L.length=k+1):dA L=sl1 (k+1) (lstO L) false:=by
 cases L with
 | nil=>simp at h
 | cons a r =>
   simp only[List.length_cons] at h
   have:r.length=k:=by omega
   subst this;rfl
noncomputable def gX (A:List AV) (V:AV):List AV→Option (Prop×AV):=fun x=>some (x=A,V)
noncomputable def tX (t:Ctr) (f:FuncId) (A:List AV) (V:AV):Ctr:=ctG t f (gX A V)
theorem tX_ok {c f:Nat} {t:Ctr} {A:List AV} {V:AV} (ht:t.Ok (cd c)) (h:∀ H,cd c (.fn f) A H=some (V,H)):(tX t f A V).Ok (cd c):=by
 refine ctG_ok ht (fun args p v hg hp H=>?_)
 unfold gX at hg
 simp only[nP] at hg
 obtain ⟨rfl,rfl⟩:=hg
 rw[hp];exact h H
noncomputable def tN (t:Ctr) (f:FuncId):Ctr:=ctG t f (fun _=>none)
theorem tN_ok {c f:Nat} {t:Ctr} (ht:t.Ok (cd c)):(tN t f).Ok (cd c):=ctG_ok ht (fun args p v hg hp H=>by cases hg)
noncomputable def gC (P:Int→Bool) (Q:Int→List AV→Heap→Prop) (args:List AV) (H:Heap):Tr (AV×Heap) :=
 match args with
 | .int .i64 x::C=>.reqP (Q x C H) (.ok (.bool (P x),H))
 | _=>.bad
noncomputable def ctC (f:FuncId) (P:Int→Bool) (Q:Int→List AV→Heap→Prop):Ctr:=addCt noCt f (gC P Q)
theorem ctC_ok {k:Nat} {f:FuncId} {P:Int→Bool} {Q:Int→List AV→Heap→Prop} (h:∀ x C H,Q x C H→cd k (.fn f) (.int .i64 x::C) H=some (.bool (P x),H)):(ctC f P Q).Ok (cd k):=by
 refine addCt_ok (noCt_ok _) (fun args H x hx=>?_)
 unfold gC at hx
 split at hx
 · obtain ⟨h1,h2⟩:=Tr.reqP_some hx
   rw[h _ _ _ h1,← Tr.ok_some h2]
 · exact (Tr.bad_some hx).elim
def ixF (p:Nat→Bool) (m:Nat):Int:=if exN p m=true then (fN p m 0:Int) else -1
theorem ix_leI (p:Nat→Bool) (k:Nat):leI (Int.ofNat 0) (ixF p k)=exN p k:=by
 rw[leI_eq];unfold ixF
 cases h:exN p k with
 | true =>
   rw[if_pos rfl]
   simp only[Int.ofNat_eq_natCast,decide_eq_true_eq];omega
 | false=>rw[if_neg (by decide)];rfl
theorem exN_no {p:Nat→Bool} {k:Nat} (h:∀ j,j<k→p j=false):exN p k=false:=by
 cases e:exN p k with
 | false=>rfl
 | true =>
   obtain ⟨j,hj,e2⟩:=(exN_iff _ _).1 e
   rw[h j hj] at e2;cases e2
theorem exN_not {p:Nat→Bool} {k:Nat} (h:exN p k=false):∀ j,j<k→p j=false:=fun j hj=>by
 cases e:p j with
 | false=>rfl
 | true=>rw[(exN_iff _ _).2 ⟨j,hj,e⟩] at h;cases h
theorem exN_congr {p q:Nat→Bool} {k:Nat} (h:∀ j,j<k→p j=q j):exN p k=exN q k:=by
 rw[Bool.eq_iff_iff,exN_iff,exN_iff]
 constructor
 · rintro ⟨j,hj,e⟩;exact ⟨j,hj,by rw[← h j hj];exact e⟩
 · rintro ⟨j,hj,e⟩;exact ⟨j,hj,by rw[h j hj];exact e⟩
theorem loopR {n f nt:Nat} {c:Code} (id:Nat) (I:Nat→Frm→Heap→Prop) (Q:Frm×Heap→Prop) (N:Nat) (hN:N<99999) {fr0:Frm} {H0:Heap} (h0:I 0 fr0 H0)
 (hr:∀ j fr H,I j fr H→∃ x,exec (cxD n f nt) c fr H=some x∧((x.1=.normal∧j<N∧I (j+1) (tidy (hNext H0) x.2.1 x.2.2).1 (tidy (hNext H0) x.2.1 x.2.2).2)∨(x.1=.ret∧Q x.2))) :
 ∃ y,exec (cxD n f nt) (.block id (.loop c)) fr0 H0=some (.ret,y)∧Q y:=by
 obtain ⟨x,h1,h2⟩:=iter_inv (body:=exec (cxD n f nt) c) (n:=hNext H0) I (fun x=>x.1=.ret∧Q x.2) N (fun j fr H h=>by
  obtain ⟨x,h1,h2⟩:=hr j fr H h
  obtain ⟨e,f1,g1⟩:=x
  refine ⟨e,f1,g1,h1,?_⟩
  rcases h2 with h2 | ⟨h2,h3⟩
  · exact .inl h2
  · exact .inr ⟨by dsimp only at h2;rw[h2];simp,h2,h3⟩) 100000 0 fr0 H0 h0 (by omega)
 obtain ⟨e,f1,g1⟩:=x
 obtain ⟨h2,h3⟩:=h2
 dsimp only at h2 h3
 subst h2
 exact ⟨(f1,g1),exec_block_loop_other (fun id' h=>by cases h) h1,h3⟩
def g16:List AV→Option (Prop×AV)
 | []=>some (True,.bool true)
 | _=>none
theorem c16 (n:Nat) (H:Heap):cd (n+1) (.fn 16) [] H=some (.bool true,H):=by unfold cd callN;rfl
theorem ctW {c:Nat} {t:Ctr} (h:0<c) (ht:t.Ok (cd c)):(ctG t 16 g16).Ok (cd c):=by
 obtain ⟨m,rfl⟩:∃ m,c=m+1:=⟨c-1,by omega⟩
 refine ctG_ok ht (fun args p v hg hp H=>?_)
 unfold g16 at hg
 split at hg
 · simp only[nP] at hg
   obtain ⟨_,rfl⟩:=hg
   exact c16 _ H
 · cases hg
noncomputable def shA (l:Nat) (t:Nat→Int) (k:Nat) (d:Nat→Int):AV:=.agg (.G [sl1 l t false,sl1 k d false])
end Go.Eng
end
section
namespace Go.Eng
open Go.Proofs
set_option linter.unusedVariables false
set_option linter.unusedSimpArgs false
set_option maxRecDepth 100000
noncomputable def lvW (lo hi:Int):Lvl:=⟨false,[(0,.row (.I .i64 [lo])),(0,.row (.I .i64 [hi]))]⟩
noncomputable def f83 (d:Nat):AV:=.fn (.func 83) [] [.ptr d 0 0 0,.ptr d 1 0 0]
noncomputable def fr94 (k:Nat) (b:Nat→Int) (full:Bool) (j:Int):Frm:=[(0,sl1 k b full),(1,f83 2),(7,.int .i64 (Int.ofNat k)),(8,.int .i64 j)]
theorem u83 (n:Nat) (lo hi:Int) (H:Heap) (x:Int):bodyT Try.prog (cd n) 100000 83 Try.f83 (KtL.kt 83) (il noCt n 0) noBT noRT [(.int .i64 x,none),(.ptr 2 0 0 0,none),(.ptr 2 1 0 0,none)] (lvE::lvE::lvW lo hi::H) =
 (fun (Z0:Lvl)=>Tr.ite (ltI x lo) (Tr.ok ((AV.bool true,some 1),lvE::lvE::Z0::H)) (Tr.ok ((AV.bool (ltI hi x),none),lvE::lvE::Z0::H))) { lock:=false,bs:=[(0,Blk.row (Row.I .i64 [lo])),(0,Blk.row (Row.I .i64 [hi]))] }:=by kernel_rfl
theorem t94 (n k:Nat) (b:Nat→Int) (full:Bool) (lo hi:Int) (P:Int→Bool) (Q:Int→List AV→Heap→Prop) (H:Heap) (j:Int):execT (cxD n 94 19) (il (ctC 83 P Q) n 0) noBT noRT (part Try.f94 [1,0,1,0,0]) (hints (fr94 k b full j)) (lvE::lvE::lvW lo hi::H) =
 (fun (Z0:Lvl)=>Tr.ite (ltI j (Int.ofNat k)) (Tr.req (inI j k) (Tr.req (ltN (idO 0 j 1) k) (Tr.reqP (Q (b (idO 0 j 1)) [AV.ptr 2 0 0 0,AV.ptr 2 1 0 0] (lvE::lvE::Z0::H)) (Tr.ite (P (b (idO 0 j 1))) (Tr.ok (Ex.ret,[(4,AV.int .i64 j,none)],lvE::lvE::Z0::H)) (Tr.ok (Ex.normal,[(0,AV.slcT none (Row.M [Seg.arr .i64 b k]) 1 k full,none),(1,AV.fn (Fn.func 83) [] [AV.ptr 2 0 0 0,AV.ptr 2 1 0 0],none),(7,AV.int .i64 (Int.ofNat k),none),(8,AV.int .i64 (addI .i64 j (Int.ofNat 1)),none)],lvE::lvE::Z0::H)))))) (Tr.ok (Ex.exit 0,[(0,AV.slcT none (Row.M [Seg.arr .i64 b k]) 1 k full,none),(1,AV.fn (Fn.func 83) [] [AV.ptr 2 0 0 0,AV.ptr 2 1 0 0],none),(7,AV.int .i64 (Int.ofNat k),none),(8,AV.int .i64 j,none),(9,AV.bool false,some 1)],lvE::lvE::Z0::H))) { lock:=false,bs:=[(0,Blk.row (Row.I .i64 [lo])),(0,Blk.row (Row.I .i64 [hi]))] }:=by kernel_rfl
theorem u94 (n k:Nat) (b:Nat→Int) (full:Bool) (lo hi:Int) (H:Heap) (x:Bool) (r:Nat):bodyT Try.prog (cd n) 100000 94 Try.f94 (KtL.kt 94) (il noCt n 0) (blkE noBT 0 (fr94 k b full 0) (lvE::lvE::lvW lo hi::H) (.ite x (.ok (.ret,[(4,.int .i64 (Int.ofNat r),none)],lvE::lvE::lvW lo hi::H)) (.ok (.normal,hints (fr94 k b full (Int.ofNat k)++[(9,.bool false)]),lvE::lvE::lvW lo hi::H)))) noRT [(sl1 k b full,none),(f83 1,none)] (lvE::lvW lo hi::H) =
 (fun (Z0:Lvl)=>((fun (Z1:Frm)=>Tr.reqP (Z1=Z1∧lvE::lvE::Z0::H=lvE::lvE::Z0::H) (Tr.ite x (Tr.ok ((AV.int .i64 (Int.ofNat r),none),lvE::Z0::H)) (Tr.ok ((AV.int .i64 (Int.negSucc 0),some 1),lvE::Z0::H)))) [(0,AV.slcT none (Row.M [Seg.arr .i64 b k]) 1 k full),(1,AV.fn (Fn.func 83) [] [AV.ptr 2 0 0 0,AV.ptr 2 1 0 0]),(7,AV.int .i64 (Int.ofNat k)),(8,AV.int .i64 (Int.ofNat 0))])) { lock:=false,bs:=[(0,Blk.row (Row.I .i64 [lo])),(0,Blk.row (Row.I .i64 [hi]))] }:=by kernel_rfl
theorem u82 (n k:Nat) (b:Nat→Int) (full:Bool) (lo hi:Int) (H:Heap) (r:Int):bodyT Try.prog (cd n) 100000 82 Try.f82 (KtL.kt 82) (il (ctE noCt 94 [sl1 k b full,f83 1] (lvE::lvW lo hi::H) (.ok (.int .i64 r,lvE::lvW lo hi::H))) n 0) noBT noRT [(sl1 k b full,none),(f83 0,none)] (lvW lo hi::H) =
 (fun (Z0:Lvl)=>((fun (Z1:List AV)=>Tr.reqP (Z1=Z1∧lvE::Z0::H=lvE::Z0::H) (Tr.ok ((AV.bool (leI (Int.ofNat 0) r),none),Z0::H))) [AV.slcT none (Row.M [Seg.arr .i64 b k]) 1 k full,AV.fn (Fn.func 83) [] [AV.ptr 1 0 0 0,AV.ptr 1 1 0 0]])) { lock:=false,bs:=[(0,Blk.row (Row.I .i64 [lo])),(0,Blk.row (Row.I .i64 [hi]))] }:=by kernel_rfl
theorem u56 (n k:Nat) (b:Nat→Int) (full:Bool) (lo hi:Int) (H:Heap) (e:Bool):bodyT Try.prog (cd n) 100000 56 Try.f56 (KtL.kt 56) (il (ctE noCt 82 [sl1 k b full,f83 0] (lvW lo hi::H) (.ok (.bool e,lvW lo hi::H))) n 0) noBT noRT [(.int .i64 lo,none),(.int .i64 hi,none),(sl1 k b full,none)] H =
 (fun (Z0:List AV)=>((fun (Z1:Lvl)=>Tr.reqP (Z0=Z0∧Z1::H=Z1::H) (Tr.ok ((AV.bool (notB e),none),H))) { lock:=false,bs:=[(0,Blk.row (Row.I .i64 [lo])),(0,Blk.row (Row.I .i64 [hi]))] })) [AV.slcT none (Row.M [Seg.arr .i64 b k]) 1 k full,AV.fn (Fn.func 83) [] [AV.ptr 0 0 0 0,AV.ptr 0 1 0 0]]:=by kernel_rfl
theorem b94:∀ b,(0,b) ∈ blocksOf (bodyOf Try.f94)→b=.loop (part Try.f94 [1,0,1,0,0]):=by
 have:((blocksOf (bodyOf Try.f94)).filter fun x=>Nat.beq x.1 0)=[(0,.loop (part Try.f94 [1,0,1,0,0]))]:=by kernel_rfl
 intro b hb
 have hm:(0,b) ∈ ((blocksOf (bodyOf Try.f94)).filter fun x=>Nat.beq x.1 0):=List.mem_filter.2 ⟨hb,rfl⟩
 rw[this] at hm;simpa using hm
def outB (lo hi x:Int):Bool:=decide (x<lo) || decide (hi<x)
section
variable (n k:Nat) (b:Nat→Int) (full:Bool) (lo hi:Int) (H:Heap)
theorem c83 (x:Int):cd (n+1) (.fn 83) [.int .i64 x,.ptr 2 0 0 0,.ptr 2 1 0 0] (lvE::lvE::lvW lo hi::H)=some (.bool (outB lo hi x),lvE::lvE::lvW lo hi::H):=by
 have hp:outB lo hi x=(decide (x<lo) || decide (hi<x)):=rfl
 rw[hp]
 refine fn_all (n:=n) Try.func83 rfl rfl rfl (u83 n lo hi H x) (il_no0 n) (noBT_ok _ _) (noRT_ok _ _) ?_
 rw[ltI_eq,ltI_eq]
 refine Tr.all_ite (fun hc=>Tr.all_ok ⟨?_,rfl⟩) (fun hc=>Tr.all_ok ⟨?_,rfl⟩)
 · rw[hc];rfl
 · rw[hc];rfl
theorem c82 (hk:k≤1000):cd (n+4) (.fn 82) [sl1 k b full,f83 0] (lvW lo hi::H)=some (.bool (exN (fun j=>outB lo hi (b j)) k),lvW lo hi::H):=by
 have hQ:∀ q x C H',(C=[.ptr 2 0 0 0,.ptr 2 1 0 0]∧H'=lvE::lvE::lvW lo hi::H)→cd (n+2+q) (.fn 83) (.int .i64 x::C) H'=some (.bool (outB lo hi x),H'):=by
  rintro q x C H' ⟨rfl,rfl⟩
  rw[show n+2+q=n+1+q+1 by omega]
  exact c83 _ lo hi H x
 have hx:=findX (n:=n+2) (f:=94) (nt:=19) (c:=part Try.f94 [1,0,1,0,0]) 0 (fun j=>fr94 k b full (j:Int)) (fun _=>lvE::lvE::lvW lo hi::H) k (fun j=>outB lo hi (b j)) (fun j=>([(4,.int .i64 (j:Nat))],lvE::lvE::lvW lo hi::H)) (fr94 k b full (Int.ofNat k)++[(9,.bool false)],lvE::lvE::lvW lo hi::H) (by omega) (fun j hj=>?_) ?_
 · have h94:cd (n+3) (.fn 94) [sl1 k b full,f83 1] (lvE::lvW lo hi::H)=some (.int .i64 (ixF (fun j=>outB lo hi (b j)) k),lvE::lvW lo hi::H):=by
    refine fn_all (n:=n+2) Try.func94 rfl rfl rfl (u94 (n+2) k b full lo hi H (exN (fun j=>outB lo hi (b j)) k) (fN (fun j=>outB lo hi (b j)) k 0)) (il_no0 _) (blkE_ok (noBT_ok _ _) b94 (fun x h=>blk_ite h hx)) (noRT_ok _ _) ?_
    refine Tr.all_reqP ⟨rfl,rfl⟩ (Tr.all_ite (fun hc=>Tr.all_ok ⟨?_,rfl⟩) (fun hc=>Tr.all_ok ⟨?_,rfl⟩))
    · unfold ixF;rw[if_pos hc];rfl
    · unfold ixF;rw[if_neg (by rw[hc];decide)];rfl
   refine fn_all (n:=n+3) Try.func82 rfl rfl rfl (u82 (n+3) k b full lo hi H (ixF (fun j=>outB lo hi (b j)) k)) (il_ok0 _ (n+3) (ctE_ok (noCt_ok _) (fun x hy=>by rw[← Tr.ok_some hy];exact h94))) (noBT_ok _ _) (noRT_ok _ _) ?_
   refine Tr.all_reqP ⟨rfl,rfl⟩ (Tr.all_ok ⟨?_,rfl⟩)
   rw[ix_leI]
 · refine ex_all (t94 (n+2) k b full lo hi (outB lo hi) _ H (j:Int)) (il_ok _ (n+2) 0 (fun q=>ctC_ok (hQ q))) (noBT_ok _ _) (noRT_ok _ _) ?_
   show Tr.all _ (fun x=>if outB lo hi (b j)=true then _ else _)
   rw[cs64 (by omega),id1]
   cases hp:outB lo hi (b j) with
   | true =>
     simp only[if_true]
     refine Tr.all_ite (fun hc=>?_) (fun hc=>?_)
     · repeat' first | (refine Tr.all_ite (fun hc=>?_) (fun hc=>?_)<;>(try simp (disch:=omega) only[nV,nW] at hc)<;>try omega) | (refine Tr.all_req ?_ ?_;· (try simp (disch:=omega) only[nV,nW]);try omega) | (refine Tr.all_reqP ?_ ?_;· first | exact trivial | rfl | exact ⟨rfl,rfl⟩ | exact ⟨rfl,rfl,rfl⟩ | (simp (disch:=omega) only[nV,nW];done) | ((try simp (disch:=omega) only[nV,nW]);omega)) | fail
       all_goals first
        | exact ⟨rfl,rfl⟩
        | (refine Tr.all_reqP ⟨trivial,rfl⟩ ?_
           repeat' first | (refine Tr.all_ite (fun hc=>?_) (fun hc=>?_)<;>(try simp (disch:=omega) only[nV,nW] at hc)<;>try omega) | (refine Tr.all_req ?_ ?_;· (try simp (disch:=omega) only[nV,nW]);try omega) | (refine Tr.all_reqP ?_ ?_;· first | exact trivial | rfl | exact ⟨rfl,rfl⟩ | exact ⟨rfl,rfl,rfl⟩ | (simp (disch:=omega) only[nV,nW];done) | ((try simp (disch:=omega) only[nV,nW]);omega)) | fail
           all_goals exact Tr.all_ok rfl)
        | exact Tr.all_ok rfl
        | fail
     · simp (disch:=omega) only[nV,nW] at hc;omega
   | false =>
     simp only[Bool.false_eq_true,if_false]
     refine Tr.all_ite (fun hc=>?_) (fun hc=>?_)
     · repeat' first | (refine Tr.all_ite (fun hc=>?_) (fun hc=>?_)<;>(try simp (disch:=omega) only[nV,nW] at hc)<;>try omega) | (refine Tr.all_req ?_ ?_;· (try simp (disch:=omega) only[nV,nW]);try omega) | (refine Tr.all_reqP ?_ ?_;· first | exact trivial | rfl | exact ⟨rfl,rfl⟩ | exact ⟨rfl,rfl,rfl⟩ | (simp (disch:=omega) only[nV,nW];done) | ((try simp (disch:=omega) only[nV,nW]);omega)) | fail
       all_goals first
        | exact ⟨rfl,rfl⟩
        | (refine Tr.all_reqP ⟨trivial,rfl⟩ ?_
           repeat' first | (refine Tr.all_ite (fun hc=>?_) (fun hc=>?_)<;>(try simp (disch:=omega) only[nV,nW] at hc)<;>try omega) | (refine Tr.all_req ?_ ?_;· (try simp (disch:=omega) only[nV,nW]);try omega) | (refine Tr.all_reqP ?_ ?_;· first | exact trivial | rfl | exact ⟨rfl,rfl⟩ | exact ⟨rfl,rfl,rfl⟩ | (simp (disch:=omega) only[nV,nW];done) | ((try simp (disch:=omega) only[nV,nW]);omega)) | fail
           all_goals exact Tr.all_ok ⟨rfl,rfl⟩)
        | exact Tr.all_ok ⟨rfl,rfl⟩
        | fail
     · simp (disch:=omega) only[nV,nW] at hc;omega
 · obtain ⟨x,h1,rfl⟩:=ex_all (Q:=fun x=>x=(.exit 0,fr94 k b full (Int.ofNat k)++[(9,.bool false)],lvE::lvE::lvW lo hi::H)) (t94 (n+2) k b full lo hi (outB lo hi) _ H (Int.ofNat k)) (il_ok _ (n+2) 0 (fun q=>ctC_ok (hQ q))) (noBT_ok _ _) (noRT_ok _ _) (by
    refine Tr.all_ite (fun hc=>?_) (fun hc=>Tr.all_ok rfl)
    simp (disch:=omega) only[nV,nW] at hc;omega)
   exact h1
theorem c56 (hk:k≤1000):cd (n+5) (.fn 56) [.int .i64 lo,.int .i64 hi,sl1 k b full] H=some (.bool (!exN (fun j=>outB lo hi (b j)) k),H):=by
 have h:=c82 n k b full lo hi H hk
 refine fn_all (n:=n+4) Try.func56 rfl rfl rfl (u56 (n+4) k b full lo hi H (exN (fun j=>outB lo hi (b j)) k)) (il_ok0 _ (n+4) (ctE_ok (noCt_ok _) (fun x hy=>by rw[← Tr.ok_some hy];exact h))) (noBT_ok _ _) (noRT_ok _ _) ?_
 rw[notB_eq]
 repeat' first | (refine Tr.all_ite (fun hc=>?_) (fun hc=>?_)<;>(try simp (disch:=omega) only[nV,nW] at hc)<;>try omega) | (refine Tr.all_req ?_ ?_;· (try simp (disch:=omega) only[nV,nW]);try omega) | (refine Tr.all_reqP ?_ ?_;· first | exact trivial | rfl | exact ⟨rfl,rfl⟩ | exact ⟨rfl,rfl,rfl⟩ | (simp (disch:=omega) only[nV,nW];done) | ((try simp (disch:=omega) only[nV,nW]);omega)) | fail
 all_goals first
  | exact Tr.all_ok ⟨rfl,rfl⟩
  | fail
end
end Go.Eng
end
section
namespace Go.Eng
set_option linter.unusedVariables false
set_option linter.unusedSimpArgs false
def cn (p:Nat→Bool):Nat→Nat
 | 0=>0
 | j+1=>cn p j+(p j).toNat
theorem cn_le (p:Nat→Bool):∀ n,cn p n≤n
 | 0=>Nat.le_refl _
 | n+1=>by
   have:=cn_le p n
   have:(p n).toNat≤1:=Bool.toNat_le _
   show cn p n+_≤_
   omega
theorem cn_congr {p q:Nat→Bool}:∀ {n:Nat},(∀ j,j<n→p j=q j)→cn p n=cn q n
 | 0,_=>rfl
 | n+1,h=>by
   show cn p n+_=cn q n+_
   rw[cn_congr (fun j hj=>h j (by omega)),h n (by omega)]
theorem cn_set {p q:Nat→Bool} {i:Nat} (h1:p i=false) (h2:q i=true):∀ {n:Nat},(∀ j,j<n→j≠i→q j=p j)→i<n→cn q n=cn p n+1
 | 0,_,hi=>by omega
 | n + 1,h,hi=>by
   show cn q n+_=cn p n+_+1
   by_cases e:i=n
   · subst e
     rw[h1,h2,cn_congr (p:=q) (q:=p) (fun j hj=>h j (by omega) (by omega))]
     rfl
   · rw[cn_set h1 h2 (fun j hj hne=>h j (by omega) hne) (by omega),h n (by omega) (fun x=>e x.symm)]
     omega
theorem cn_pos {p:Nat→Bool}:∀ {n:Nat},0<cn p n→∃ j,j<n∧p j=true
 | 0,h=>by simp[cn] at h
 | n + 1,h=>by
   have h:0<cn p n+(p n).toNat:=h
   cases e:p n with
   | true=>exact ⟨n,by omega,e⟩
   | false =>
     rw[e] at h
     obtain ⟨j,hj,e⟩:=cn_pos (n:=n) (by simpa using h)
     exact ⟨j,by omega,e⟩
theorem cn_zero {p:Nat→Bool} {n:Nat} (h:cn p n=0):∀ j,j<n→p j=false:=fun j hj=>by
 induction n with
 | zero=>omega
 | succ n ih =>
   have h:cn p n+(p n).toNat=0:=h
   by_cases e:j=n
   · subst e
     cases e:p j with
     | false=>rfl
     | true=>rw[e] at h;simp at h
   · exact ih (by omega) (by omega)
theorem cn_none {p:Nat→Bool} {n:Nat} (h:∀ j,j<n→p j=false):cn p n=0:=by
 induction n with
 | zero=>rfl
 | succ n ih =>
   show cn p n+_=0
   rw[ih (fun j hj=>h j (by omega)),h n (by omega)];rfl
theorem cn_full {p:Nat→Bool} {n:Nat} (h:cn p n=n):∀ j,j<n→p j=true:=fun j hj=>by
 induction n with
 | zero=>omega
 | succ n ih =>
   have h:cn p n+(p n).toNat=n+1:=h
   have h2:=cn_le p n
   have h3:(p n).toNat≤1:=Bool.toNat_le _
   by_cases e:j=n
   · subst e
     cases e:p j with
     | true=>rfl
     | false=>rw[e] at h;simp at h;omega
   · exact ih (by omega) (by omega)
theorem cn_less {p:Nat→Bool} {n:Nat} (h:cn p n<n):∃ j,j<n∧p j=false:=by
 apply Classical.byContradiction
 intro hc
 have:∀ j,j<n→p j=true:=fun j hj=>by
  cases e:p j with
  | true=>rfl
  | false=>exact absurd ⟨j,hj,e⟩ hc
 have e:∀ m,m≤n→cn p m=m:=by
  intro m
  induction m with
  | zero=>intro _;rfl
  | succ m ih =>
    intro hm
    show cn p m+_=_
    rw[ih (by omega),this m (by omega)];rfl
 have:=e n (Nat.le_refl _)
 omega
def stp (t:Nat→Int):Nat→Int→Int
 | 0,x=>x
 | m+1,x=>if 0≤stp t m x then t (stp t m x).toNat else stp t m x
theorem stp_add {t:Nat→Int} (m:Nat) (x:Int) (h:0≤x):stp t (m+1) x=stp t m (t x.toNat):=by
 induction m with
 | zero=>show (if 0≤x then _ else _)=_;rw[if_pos h];rfl
 | succ m ih =>
   show (if 0≤stp t (m+1) x then t (stp t (m+1) x).toNat else stp t (m+1) x)=_
   rw[ih];rfl
structure Peel (l:Nat) (t:Nat→Int) (f:Nat→Int) (a:Nat) (tk:Nat→Bool) (tm:Nat→Nat):Prop where
 cnt:cn tk l=a
 on:∀ i,i<l→tk i=true→f i=-1∧tm i<a
 off:∀ i,i<l→tk i=false→f i=(cn (fun j=>!tk j && decide (t j=(i:Int))) l:Nat)
 pre:∀ i j,i<l→j<l→tk i=true→t j=(i:Int)→tk j=true∧tm j<tm i
theorem peel_0 {l:Nat} {t f:Nat→Int} (h:∀ i,i<l→f i=(cn (fun j=>decide (t j=(i:Int))) l:Nat)):Peel l t f 0 (fun _=>false) (fun _=>0) where
 cnt:=cn_none (fun _ _=>rfl)
 on:=fun i hi h=>by cases h
 off:=fun i hi _=>by rw[h i hi];rfl
 pre:=fun i j _ _ h=>by cases h
def uI (f:Nat→Int) (i:Nat) (x:Int):Nat→Int:=fun j=>if j=i then x else f j
def pkF (t f:Nat→Int) (i:Nat):Nat→Int:=if 0≤t i then uI (uI f i (-1)) (t i).toNat (uI f i (-1) (t i).toNat-1) else uI f i (-1)
theorem Peel.zero {l:Nat} {t f:Nat→Int} {a:Nat} {tk:Nat→Bool} {tm:Nat→Nat} (h:Peel l t f a tk tm) {i:Nat} (hi:i<l) (hf:f i=0):tk i=false∧∀ j,j<l→t j=(i:Int)→tk j=true:=by
 have h1:tk i=false:=by
  cases e:tk i with
  | false=>rfl
  | true=>have:=(h.on i hi e).1;omega
 refine ⟨h1,fun j hj e=>?_⟩
 have h2:=h.off i hi h1
 rw[hf] at h2
 have:=cn_zero (p:=fun j=>!tk j && decide (t j=(i:Int))) (n:=l) (by omega) j hj
 simp only[e,decide_true,Bool.and_true,Bool.not_eq_false'] at this
 exact this
theorem Peel.take {l:Nat} {t f:Nat→Int} {a:Nat} {tk:Nat→Bool} {tm:Nat→Nat} (h:Peel l t f a tk tm) {i:Nat} (hi:i<l) (hf:f i=0) :
 Peel l t (pkF t f i) (a+1) (fun j=>if j=i then true else tk j) (fun j=>if j=i then a else tm j)∧pkF t f i i=-1∧∀ x,x<l→f x=-1→pkF t f i x=-1:=by
 obtain ⟨h1,h2⟩:=h.zero hi hf
 have hti:∀ x:Nat,x<l→t i=(x:Int)→tk x=false∧x≠i:=fun x hx e=>by
  have hne:x≠i:=fun c=>by
   subst c
   have:=h2 x hx e
   rw[h1] at this;cases this
  refine ⟨?_,hne⟩
  cases c:tk x with
  | false=>rfl
  | true =>
    have:=(h.pre x i hx hi c e).1
    rw[h1] at this;cases this
 have at_i:pkF t f i i=-1:=by
  unfold pkF
  by_cases c:0≤t i
  · rw[if_pos c]
    have hne:i≠(t i).toNat:=fun e=>by
     have:t i=(i:Int):=by omega
     exact (hti i hi this).2 rfl
    show (if i=(t i).toNat then _ else (if i=i then _ else _))=_
    rw[if_neg hne,if_pos rfl]
  · rw[if_neg c];show (if i=i then _ else _)=_;rw[if_pos rfl]
 have at_x:∀ x,x≠i→pkF t f i x=if t i=(x:Int) then f x-1 else f x:=fun x hx=>by
  unfold pkF
  by_cases c:0≤t i
  · rw[if_pos c]
    show (if x=(t i).toNat then (if (t i).toNat=i then _ else f (t i).toNat)-1 else (if x=i then _ else f x))=_
    by_cases e:x=(t i).toNat
    · rw[if_pos e,← e,if_neg hx,if_pos (by omega)]
    · rw[if_neg e,if_neg hx,if_neg (by omega)]
  · rw[if_neg c,if_neg (by omega)]
    show (if x=i then _ else f x)=_
    rw[if_neg hx]
 refine ⟨⟨?_,?_,?_,?_⟩,at_i,fun x hx e=>?_⟩
 rotate_left 4
 · have hne:x≠i:=fun c=>by subst c;omega
   rw[at_x x hne]
   by_cases c:t i=(x:Int)
   · have:=h.off x hx (hti x hx c).1
     omega
   · rw[if_neg c];exact e
 · rw[cn_set (p:=tk) (i:=i) h1 (by simp) (fun j _ hj=>by simp[hj]) hi,h.cnt]
 · intro x hx e
   by_cases c:x=i
   · subst c;exact ⟨at_i,by simp⟩
   · simp only[c,if_false] at e ⊢
     obtain ⟨g1,g2⟩:=h.on x hx e
     rw[at_x x c,if_neg (fun e2=>by have:=(hti x hx e2).1;rw[e] at this;cases this)]
     exact ⟨g1,by omega⟩
 · intro x hx e
   by_cases c:x=i
   · subst c;simp at e
   · simp only[c,if_false] at e
     rw[at_x x c,h.off x hx e]
     by_cases e2:t i=(x:Int)
     · rw[if_pos e2]
       have:=cn_set (p:=fun j=>!(if j=i then true else tk j) && decide (t j=(x:Int))) (q:=fun j=>!tk j && decide (t j=(x:Int))) (i:=i) (n:=l) (by simp) (by simp[h1,e2]) (fun j _ hj=>by simp[hj]) hi
       rw[this];omega
     · rw[if_neg e2]
       congr 1
       refine cn_congr (fun j hj=>?_)
       by_cases c2:j=i
       · subst c2;simp[e2]
       · simp[c2]
 · intro x j hx hj e ej
   by_cases c:x=i
   · subst c
     have:=h2 j hj ej
     have hne:j≠x:=fun c2=>by subst c2;rw[h1] at this;cases this
     simp only[hne,if_false,if_true,this,true_and]
     exact (h.on j hj this).2
   · simp only[c,if_false] at e
     obtain ⟨g1,g2⟩:=h.pre x j hx hj e ej
     have hne:j≠i:=fun c2=>by subst c2;rw[h1] at g1;cases g1
     simp only[hne,c,if_false]
     exact ⟨g1,g2⟩
theorem Peel.le {l:Nat} {t f:Nat→Int} {a:Nat} {tk:Nat→Bool} {tm:Nat→Nat} (h:Peel l t f a tk tm):a≤l:=by
 rw[← h.cnt];exact cn_le _ _
def cycB (l:Nat) (t:Nat→Int):Bool:=exN (fun i=>decide (0≤stp t l (i:Int))) l
theorem peel_all {l:Nat} {t f:Nat→Int} {tk:Nat→Bool} {tm:Nat→Nat} (h:Peel l t f l tk tm) (ht:∀ j,j<l→t j<l):cycB l t=false:=by
 have all:=cn_full h.cnt
 refine exN_no (fun i hi=>?_)
 have key:∀ m,0≤stp t m (i:Int)→(stp t m (i:Int)).toNat<l∧m≤tm (stp t m (i:Int)).toNat:=by
  intro m
  induction m with
  | zero=>intro _;exact ⟨by show ((i:Int)).toNat<l;omega,Nat.zero_le _⟩
  | succ m ih =>
    intro hp
    have e:stp t (m+1) (i:Int)=if 0≤stp t m (i:Int) then t (stp t m (i:Int)).toNat else stp t m (i:Int):=rfl
    by_cases c:0≤stp t m (i:Int)
    · rw[if_pos c] at e
      obtain ⟨g1,g2⟩:=ih c
      rw[e] at hp ⊢
      have g3:=ht _ g1
      obtain ⟨_,g4⟩:=h.pre (t (stp t m (i:Int)).toNat).toNat _ (by omega) g1 (all _ (by omega)) (by omega)
      exact ⟨by omega,by omega⟩
    · rw[if_neg c] at e;rw[e] at hp;exact absurd hp c
 refine decide_eq_false (fun hc=>?_)
 obtain ⟨g1,g2⟩:=key l hc
 have:=(h.on _ g1 (all _ g1)).2
 omega
theorem peel_some {l:Nat} {t f:Nat→Int} {a:Nat} {tk:Nat→Bool} {tm:Nat→Nat} (h:Peel l t f a tk tm) (ha:a<l) (hf:∀ i,i<l→f i≠0):cycB l t=true:=by
 obtain ⟨i0,hi0,e0⟩:=cn_less (p:=tk) (n:=l) (by rw[h.cnt];exact ha)
 have key:∀ m,∃ x,x<l∧tk x=false∧0≤stp t m (x:Int):=by
  intro m
  induction m with
  | zero=>exact ⟨i0,hi0,e0,by show (0:Int)≤(i0:Int);omega⟩
  | succ m ih =>
    obtain ⟨x,hx,e,hs⟩:=ih
    have h1:=h.off x hx e
    have h2:=hf x hx
    obtain ⟨j,hj,e2⟩:=cn_pos (p:=fun j=>!tk j && decide (t j=(x:Int))) (n:=l) (by omega)
    simp only[Bool.and_eq_true,Bool.not_eq_true',decide_eq_true_eq] at e2
    refine ⟨j,hj,e2.1,?_⟩
    rw[stp_add m _ (by omega),Int.toNat_natCast,e2.2]
    exact hs
 obtain ⟨x,hx,_,hs⟩:=key l
 exact (exN_iff _ _).2 ⟨x,hx,decide_eq_true hs⟩
end Go.Eng
end
section
namespace Go.Eng
open Go.Proofs
set_option linter.unusedVariables false
set_option linter.unusedSimpArgs false
set_option maxRecDepth 100000
noncomputable def fr57 (l:Nat) (t:Nat→Int) (j:Int):Frm:=[(3,.ptr 0 1 0 0),(14,sl1 l t false),(15,.int .i64 (Int.ofNat l)),(16,.int .i64 j)]
noncomputable def lv57 (l:Nat) (t:Nat→Int) (k:Nat) (d g:Nat→Int):Lvl:=⟨false,[(0,.row (.G [sl1 l t false,sl1 k d false])),(0,.row (.M [.one (sl1 l t false),.one (sl1 k d false),.arr .i64 g 30]))]⟩
noncomputable def tbA (s:Nat) (l:Nat) (t:Nat→Int) (k:Nat) (d g:Nat→Int):AV:=.ptrT (some s) (.M [.one (sl1 l t false),.one (sl1 k d false),.arr .i64 g 30]) 0
theorem t57 (n l k:Nat) (t d g:Nat→Int) (H:Heap) (j:Int):execT (cxD n 57 34) (il noCt n 0) noBT noRT (part Try.f57 [1,1,1,0,1,0,0]) (hints (fr57 l t j)) (lv57 l t k d g::H) =
 (fun (Z0:Lvl)=>((fun (Z1:HFrm)=>Tr.ite (ltI j (Int.ofNat l)) (Tr.req (inI j l) (Tr.req (ltN (idO 0 j 1) l) (Tr.ite (leI (Int.ofNat 0) (t (idO 0 j 1))) (Tr.req (inI (t (idO 0 j 1)) 30) (Tr.req (eqN 0 0) (Tr.req (inO (idO 2 (t (idO 0 j 1)) 1) 1 2 30) (Tr.req (inI (t (idO 0 j 1)) 30) (Tr.req (eqN 0 0) (Tr.req (inO (idO 2 (t (idO 0 j 1)) 1) 1 2 30) (Tr.req (andB (leN 0 0) (leN 0 1)) (Tr.ok (Ex.normal,Z1,{ lock:=false,bs:=[(0,Blk.row (Row.G [AV.slcT none (Row.M [Seg.arr .i64 t l]) 1 l false,AV.slcT none (Row.M [Seg.arr .i64 d k]) 1 k false])),(0,Blk.row (Row.M [Seg.one (AV.slcT none (Row.M [Seg.arr .i64 t l]) 1 l false),Seg.one (AV.slcT none (Row.M [Seg.arr .i64 d k]) 1 k false),Seg.arr .i64 (updO g (subO (idO 2 (t (idO 0 j 1)) 1) 2) (addI .i64 (g (subO (idO 2 (t (idO 0 j 1)) 1) 2)) (Int.ofNat 1))) 30]))] } :: H))))))))) (Tr.ok (Ex.normal,Z1,Z0::H))))) (Tr.ok (Ex.exit 0,[(3,AV.ptr 0 1 0 0,none),(14,AV.slcT none (Row.M [Seg.arr .i64 t l]) 1 l false,none),(15,AV.int .i64 (Int.ofNat l),none),(16,AV.int .i64 j,none),(17,AV.bool false,some 1)],Z0::H))) [(3,AV.ptr 0 1 0 0,none),(14,AV.slcT none (Row.M [Seg.arr .i64 t l]) 1 l false,none),(15,AV.int .i64 (Int.ofNat l),none),(16,AV.int .i64 (addI .i64 j (Int.ofNat 1)),none)])) { lock:=false,bs:=[(0,Blk.row (Row.G [AV.slcT none (Row.M [Seg.arr .i64 t l]) 1 l false,AV.slcT none (Row.M [Seg.arr .i64 d k]) 1 k false])),(0,Blk.row (Row.M [Seg.one (AV.slcT none (Row.M [Seg.arr .i64 t l]) 1 l false),Seg.one (AV.slcT none (Row.M [Seg.arr .i64 d k]) 1 k false),Seg.arr .i64 g 30]))] }:=by kernel_rfl
theorem u57 (n l k:Nat) (t d g:Nat→Int) (H:Heap):bodyT Try.prog (cd n) 100000 57 Try.f57 (KtL.kt 57) (il noCt n 0) (blkE noBT 0 (fr57 l t 0) (lv57 l t k d (fun _=>Int.ofNat 0)::H) (.ok (.normal,hints (fr57 l t (Int.ofNat l)++[(17,.bool false)]),lv57 l t k d g::H))) noRT [(shA l t k d,none)] H =
 (fun (Z0:Lvl)=>((fun (Z1:Frm)=>Tr.req (ltN 0 30) (Tr.req (eqN 0 0) (Tr.reqP (Z1=Z1∧Z0::H=Z0::H) (Tr.ok ((AV.ptrT (some 0) (Row.M [Seg.one (AV.slcT none (Row.M [Seg.arr .i64 t l]) 1 l false),Seg.one (AV.slcT none (Row.M [Seg.arr .i64 d k]) 1 k false),Seg.arr .i64 g 30]) 0,none),H))))) [(3,AV.ptr 0 1 0 0),(14,AV.slcT none (Row.M [Seg.arr .i64 t l]) 1 l false),(15,AV.int .i64 (Int.ofNat l)),(16,AV.int .i64 (Int.ofNat 0))])) { lock:=false,bs:=[(0,Blk.row (Row.G [AV.slcT none (Row.M [Seg.arr .i64 t l]) 1 l false,AV.slcT none (Row.M [Seg.arr .i64 d k]) 1 k false])),(0,Blk.row (Row.M [Seg.one (AV.slcT none (Row.M [Seg.arr .i64 t l]) 1 l false),Seg.one (AV.slcT none (Row.M [Seg.arr .i64 d k]) 1 k false),Seg.arr .i64 (fun x=>Int.ofNat 0) 30]))] }:=by kernel_rfl
theorem b57:∀ b,(0,b) ∈ blocksOf (bodyOf Try.f57)→b=.loop (part Try.f57 [1,1,1,0,1,0,0]):=by
 have:((blocksOf (bodyOf Try.f57)).filter fun x=>Nat.beq x.1 0)=[(0,.loop (part Try.f57 [1,1,1,0,1,0,0]))]:=by kernel_rfl
 intro b hb
 have hm:(0,b) ∈ ((blocksOf (bodyOf Try.f57)).filter fun x=>Nat.beq x.1 0):=List.mem_filter.2 ⟨hb,rfl⟩
 rw[this] at hm;simpa using hm
noncomputable def ldF (t:Nat→Int):Nat→Nat→Int
 | 0=>fun _=>0
 | j+1=>if 0≤t j then updO (ldF t j) (t j).toNat (ldF t j (t j).toNat+1) else ldF t j
theorem ld_cn (t:Nat→Int):∀ (j:Nat) (i:Nat),ldF t j i=(cn (fun x=>decide (t x=(i:Int))) j:Nat)
 | 0,i=>rfl
 | j + 1,i=>by
   have ih:=ld_cn t j i
   show (if 0≤t j then updO (ldF t j) (t j).toNat (ldF t j (t j).toNat+1) else ldF t j) i=((cn (fun x=>decide (t x=(i:Int))) j+(decide (t j=(i:Int))).toNat:Nat):Int)
   by_cases c:0≤t j
   · rw[if_pos c,updO_fn]
     show (if i=(t j).toNat then _ else _)=_
     by_cases e:i=(t j).toNat
     · rw[if_pos e,← e,ih,decide_eq_true (show t j=(i:Int) by omega)]
       simp
     · rw[if_neg e,ih,decide_eq_false (show ¬ t j=(i:Int) by omega)]
       simp
   · rw[if_neg c,ih,decide_eq_false (show ¬ t j=(i:Int) by omega)]
     simp
section
variable (n l k:Nat) (t d:Nat→Int) (H:Heap)
theorem l57 (hl:l≤30) (ht:∀ j,j<l→t j<l):exec (cxD n 57 34) (.block 0 (.loop (part Try.f57 [1,1,1,0,1,0,0]))) (fr57 l t 0) (lv57 l t k d (fun _=>Int.ofNat 0)::H)=some (.normal,fr57 l t (Int.ofNat l)++[(17,.bool false)],lv57 l t k d (ldF t l)::H):=by
 refine forX 0 (fun j=>fr57 l t (j:Int)) (fun j=>lv57 l t k d (ldF t j)::H) l (fr57 l t (Int.ofNat l)++[(17,.bool false)],lv57 l t k d (ldF t l)::H) (by omega) (fun j hj=>?_) ?_
 · have htj:=ht j hj
   have hld:ldF t (j+1)=if 0≤t j then updO (ldF t j) (t j).toNat (ldF t j (t j).toNat+1) else ldF t j:=rfl
   refine ex_all (t57 n l k t d (ldF t j) H (j:Int)) (il_no0 n) (noBT_ok _ _) (noRT_ok _ _) ?_
   rw[cs64 (by omega),id1]
   show Tr.all _ (fun x=>_∧tidy _ _ _=(_,lv57 l t k d (ldF t (j+1))::H))
   rw[hld]
   by_cases c:0≤t j
   · have hg:=ld_cn t j (t j).toNat
     have hb:=cn_le (fun x=>decide (t x=(((t j).toNat:Nat):Int))) j
     have es:subO (idO 2 (t j) 1) 2=(t j).toNat:=by rw[idO_eq,subO_eq];omega
     have ea:addI .i64 (ldF t j (t j).toNat) (Int.ofNat 1)=ldF t j (t j).toNat+1:=by
      rw[show Int.ofNat 1=1 from rfl];exact ad64 (by omega) (by omega)
     rw[if_pos c,es,ea]
     generalize updO (ldF t j) (t j).toNat (ldF t j (t j).toNat+1)=T
     generalize t j=q at *
     repeat' first | (refine Tr.all_ite (fun hc=>?_) (fun hc=>?_)<;>(try simp (disch:=omega) only[nV,nW] at hc)<;>try omega) | (refine Tr.all_req ?_ ?_;· (try simp (disch:=omega) only[nV,nW]);try omega) | (refine Tr.all_reqP ?_ ?_;· first | exact trivial | rfl | exact ⟨rfl,rfl⟩ | exact ⟨rfl,rfl,rfl⟩ | (simp (disch:=omega) only[nV,nW];done) | ((try simp (disch:=omega) only[nV,nW]);omega)) | fail
     all_goals first
      | exact Tr.all_ok ⟨rfl,rfl⟩
      | fail
   · rw[if_neg c]
     generalize t j=q at *
     repeat' first | (refine Tr.all_ite (fun hc=>?_) (fun hc=>?_)<;>(try simp (disch:=omega) only[nV,nW] at hc)<;>try omega) | (refine Tr.all_req ?_ ?_;· (try simp (disch:=omega) only[nV,nW]);try omega) | (refine Tr.all_reqP ?_ ?_;· first | exact trivial | rfl | exact ⟨rfl,rfl⟩ | exact ⟨rfl,rfl,rfl⟩ | (simp (disch:=omega) only[nV,nW];done) | ((try simp (disch:=omega) only[nV,nW]);omega)) | fail
     all_goals first
      | exact Tr.all_ok ⟨rfl,rfl⟩
      | fail
 · obtain ⟨x,h1,rfl⟩:=ex_all (Q:=fun x=>x=(.exit 0,fr57 l t (Int.ofNat l)++[(17,.bool false)],lv57 l t k d (ldF t l)::H)) (t57 n l k t d (ldF t l) H (Int.ofNat l)) (il_no0 n) (noBT_ok _ _) (noRT_ok _ _) (by
    refine Tr.all_ite (fun hc=>?_) (fun hc=>Tr.all_ok rfl)
    simp (disch:=omega) only[nV,nW] at hc;omega)
   exact h1
theorem c57 (hl:l≤30) (ht:∀ j,j<l→t j<l):cd (n+1) (.fn 57) [shA l t k d] H=some (tbA 0 l t k d (ldF t l),H):=by
 have hx:=l57 n l k t d H hl ht
 refine fn_all (n:=n) Try.func57 rfl rfl rfl (u57 n l k t d (ldF t l) H) (il_no0 _) (blkE_ok (noBT_ok _ _) b57 (fun x hy=>blk_ok hy hx)) (noRT_ok _ _) ?_
 generalize ldF t l=g at *
 repeat' first | (refine Tr.all_ite (fun hc=>?_) (fun hc=>?_)<;>(try simp (disch:=omega) only[nV,nW] at hc)<;>try omega) | (refine Tr.all_req ?_ ?_;· (try simp (disch:=omega) only[nV,nW]);try omega) | (refine Tr.all_reqP ?_ ?_;· first | exact trivial | rfl | exact ⟨rfl,rfl⟩ | exact ⟨rfl,rfl,rfl⟩ | (simp (disch:=omega) only[nV,nW];done) | ((try simp (disch:=omega) only[nV,nW]);omega)) | fail
 all_goals first
  | exact Tr.all_ok ⟨rfl,rfl⟩
  | fail
end
end Go.Eng
end
