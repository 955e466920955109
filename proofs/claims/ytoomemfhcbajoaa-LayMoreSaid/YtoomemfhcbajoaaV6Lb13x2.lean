/- Lay: hands, crowds. -/
import Derived.Test.YtoomemfhcbajoaaV6Lb9x4
section
namespace Go.Eng
open Go.Proofs
set_option linter.unusedVariables false
set_option linter.unusedSimpArgs false
set_option maxRecDepth 100000
theorem u66 (n l k:Nat) (t d g:Nat→Int) (W:Int→Int→Nat→(Nat→Int)→Bool) (h:Int) (H:Heap):bodyT Try.prog (cd n) 100000 66 Try.f66 (KtL.kt 66) (il (addCt (tX noCt 51 [shA l t k d] (.tup [tbA 0 l t k d g,.int .i64 0])) 56 (g56 W)) n 0) noBT noRT [(shA l t k d,none),(.int .i64 h,none)] H =
 (fun (Z0:AV×Option Nat)=>((fun (Z1:List AV)=>((fun (Z2:AV×Option Nat)=>Tr.reqP (Z1=Z1) (Tr.ite (notB (eqI (Int.ofNat 0) (Int.ofNat 0))) (Tr.ok ((AV.tup [AV.nilp,AV.int .i64 (Int.ofNat 0)],none),H)) (Tr.ite (ltI h (Int.ofNat 1)) (Tr.ite (notB false) (Tr.ok (Z2,H)) (Tr.ok (Z0,H))) (Tr.ite (ltI (Int.ofNat 10) h) (Tr.ite (notB false) (Tr.ok (Z2,H)) (Tr.ok (Z0,H))) (Tr.ite (notB true) (Tr.ok (Z2,H)) (Tr.ok (Z0,H))))))) (AV.tup [AV.nilp,AV.int .i64 (Int.ofNat 2)],none))) [AV.agg (Row.G [AV.slcT none (Row.M [Seg.arr .i64 t l]) 1 l false,AV.slcT none (Row.M [Seg.arr .i64 d k]) 1 k false])])) (AV.tup [AV.ptrT (some 0) (Row.M [Seg.one (AV.slcT none (Row.M [Seg.arr .i64 t l]) 1 l false),Seg.one (AV.slcT none (Row.M [Seg.arr .i64 d k]) 1 k false),Seg.arr .i64 g 30]) 0,AV.int .i64 (Int.ofNat 0)],none):=by kernel_rfl
theorem u66s (n l k:Nat) (t d:Nat→Int) (e h:Int) (H:Heap):bodyT Try.prog (cd n) 100000 66 Try.f66 (KtL.kt 66) (il (tX noCt 51 [shA l t k d] (.tup [.nilp,.int .i64 e])) n 0) noBT noRT [(shA l t k d,none),(.int .i64 h,none)] H =
 (fun (Z0:List AV)=>Tr.reqP (Z0=Z0) (Tr.ite (notB (eqI e (Int.ofNat 0))) (Tr.ok ((AV.tup [AV.nilp,AV.int .i64 e],none),H)) Tr.bad)) [AV.agg (Row.G [AV.slcT none (Row.M [Seg.arr .i64 t l]) 1 l false,AV.slcT none (Row.M [Seg.arr .i64 d k]) 1 k false])]:=by kernel_rfl
theorem u61 (n l k:Nat) (t d g:Nat→Int) (H:Heap) (h a c:Int):bodyT Try.prog (cd n) 100000 61 Try.f61 (KtL.kt 61) (il (tX (tX noCt 66 [shA l t k d,.int .i64 h] (.tup [tbA 0 l t k d g,.int .i64 0])) 69 [tbA 0 l t k d g,sl1 k d false,.int .i64 h] (.int .i64 c)) n 0) noBT noRT [(shA l t k d,none),(.int .i64 h,none),(.int .i64 a,none)] H =
 (fun (Z0:Row)=>((fun (Z1:List AV)=>((fun (Z2:List AV)=>Tr.reqP (Z1=Z1) (Tr.ite (notB (eqI (Int.ofNat 0) (Int.ofNat 0))) (Tr.ok ((AV.tup [AV.nilp,AV.int .i64 (Int.ofNat 0)],none),H)) (Tr.ite (notB (eqI a (Int.ofNat 0))) (Tr.ok ((AV.tup [AV.nilp,AV.int .i64 a],none),H)) (Tr.reqP (Z2=Z2) (Tr.ite (leI (Int.ofNat 0) c) (Tr.ok ((AV.tup [AV.nilp,AV.int .i64 (Int.ofNat 13)],none),H)) (Tr.ok ((AV.tup [AV.ptrT (some 0) Z0 0,AV.int .i64 (Int.ofNat 0)],none),H))))))) [AV.ptrT (some 0) Z0 0,AV.slcT none (Row.M [Seg.arr .i64 d k]) 1 k false,AV.int .i64 h])) [AV.agg (Row.G [AV.slcT none (Row.M [Seg.arr .i64 t l]) 1 l false,AV.slcT none (Row.M [Seg.arr .i64 d k]) 1 k false]),AV.int .i64 h])) (Row.M [Seg.one (AV.slcT none (Row.M [Seg.arr .i64 t l]) 1 l false),Seg.one (AV.slcT none (Row.M [Seg.arr .i64 d k]) 1 k false),Seg.arr .i64 g 30]):=by kernel_rfl
theorem u61s (n l k:Nat) (t d:Nat→Int) (H:Heap) (h a e:Int):bodyT Try.prog (cd n) 100000 61 Try.f61 (KtL.kt 61) (il (tX noCt 66 [shA l t k d,.int .i64 h] (.tup [.nilp,.int .i64 e])) n 0) noBT noRT [(shA l t k d,none),(.int .i64 h,none),(.int .i64 a,none)] H =
 (fun (Z0:List AV)=>Tr.reqP (Z0=Z0) (Tr.ite (notB (eqI e (Int.ofNat 0))) (Tr.ok ((AV.tup [AV.nilp,AV.int .i64 e],none),H)) (Tr.ite (notB (eqI a (Int.ofNat 0))) (Tr.ok ((AV.tup [AV.nilp,AV.int .i64 a],none),H)) Tr.bad))) [AV.agg (Row.G [AV.slcT none (Row.M [Seg.arr .i64 t l]) 1 l false,AV.slcT none (Row.M [Seg.arr .i64 d k]) 1 k false]),AV.int .i64 h]:=by kernel_rfl
theorem ex_off {n f nt:Nat} {c:Code} {callR:CallTr} {bl:BlkT} {rg:RgT} {fr:Frm} {H:Heap} {b:Bool} {A:Tr Res} {y:Res} (e:execT (cxD n f nt) callR bl rg c (hints fr) H=.ite b A (.ok y)) (hC:callR.Ok (cd n)) (hB:bl.Ok (cxD n f nt) c) (hR:rg.Ok (cxD n f nt) c) (hb:b=false):exec (cxD n f nt) c fr H=some y.st:=by
 obtain ⟨x,h1,rfl⟩:=ex_all (Q:=fun x=>x=y.st) e hC hB hR (Tr.all_ite (fun h=>by rw[hb] at h;cases h) (fun _=>Tr.all_ok rfl))
 exact h1
def askE (l:Nat) (t:Nat→Int) (k:Nat) (d:Nat→Int) (h:Int):Int:=if shE l t k d=0 then (if h<1∨10<h then 2 else 0) else shE l t k d
theorem ask_of {l k:Nat} {t d:Nat→Int} {h:Int} (e:askE l t k d h=0):Sh l t k d∧1≤h∧h≤10:=by
 unfold askE at e
 by_cases c:shE l t k d=0
 · rw[if_pos c] at e
   refine ⟨sh_of c,?_⟩
   by_cases c2:h<1∨10<h
   · rw[if_pos c2] at e;omega
   · omega
 · rw[if_neg c] at e;exact absurd e c
theorem ask_to {l k:Nat} {t d:Nat→Int} {h:Int} (e:Sh l t k d) (h1:1≤h) (h2:h≤10):askE l t k d h=0:=by
 unfold askE
 rw[if_pos (sh_to e),if_neg (by omega)]
def canB (l:Nat) (t e:Nat→Int) (h:Int):Bool:=!exN (fun T=>crB l t e h (T:Nat)) 41
theorem crT_can (l:Nat) (t e:Nat→Int) (h:Int):(crT l t e h<0↔canB l t e h=true)∧(0≤crT l t e h↔canB l t e h=false):=by
 unfold crT ixF canB
 cases exN (fun T:Nat=>crB l t e h (T:Nat)) 41 with
 | true=>rw[if_pos rfl];constructor<;>simp<;>omega
 | false=>rw[if_neg (by decide)];constructor<;>simp
section
variable (n l k:Nat) (t d:Nat→Int) (H:Heap) (h:Int)
theorem c66 (e:askE l t k d h=0):cd (n+10) (.fn 66) [shA l t k d,.int .i64 h] H=some (.tup [tbS 0 l t k d,.int .i64 0],H):=by
 obtain ⟨hs,h1,h2⟩:=ask_of e
 refine fn_all (n:=n+9) Try.func66 rfl rfl rfl (u66 (n+9) l k t d (ldF t l) W56 h H) (il_ok0 _ (n+9) (g56_ok (c:=n+3) (tX_ok (noCt_ok _) (fun H=>c51 (n+1) l k t d H hs)))) (noBT_ok _ _) (noRT_ok _ _) ?_
 unfold tbS
 generalize ldF t l=g at *
 repeat' first | (refine Tr.all_ite (fun hc=>?_) (fun hc=>?_)<;>(try simp (disch:=omega) only[nV,nW] at hc)<;>try omega) | (refine Tr.all_req ?_ ?_;· (try simp (disch:=omega) only[nV,nW]);try omega) | (refine Tr.all_reqP ?_ ?_;· first | exact trivial | rfl | exact ⟨rfl,rfl⟩ | exact ⟨rfl,rfl,rfl⟩ | (simp (disch:=omega) only[nV,nW];done) | ((try simp (disch:=omega) only[nV,nW]);omega)) | fail
 all_goals first
  | exact Tr.all_ok ⟨rfl,rfl⟩
  | fail
theorem c66e (e:askE l t k d h≠0):cd (n+10) (.fn 66) [shA l t k d,.int .i64 h] H=some (.tup [.nilp,.int .i64 (askE l t k d h)],H):=by
 by_cases c:shE l t k d=0
 · have hs:=sh_of c
   have ea:askE l t k d h=if h<1∨10<h then 2 else 0:=by unfold askE;rw[if_pos c]
   by_cases c2:h<1∨10<h
   · rw[ea,if_pos c2]
     refine fn_all (n:=n+9) Try.func66 rfl rfl rfl (u66 (n+9) l k t d (ldF t l) W56 h H) (il_ok0 _ (n+9) (g56_ok (c:=n+3) (tX_ok (noCt_ok _) (fun H=>c51 (n+1) l k t d H hs)))) (noBT_ok _ _) (noRT_ok _ _) ?_
     generalize ldF t l=g at *
     repeat' first | (refine Tr.all_ite (fun hc=>?_) (fun hc=>?_)<;>(try simp (disch:=omega) only[nV,nW] at hc)<;>try omega) | (refine Tr.all_req ?_ ?_;· (try simp (disch:=omega) only[nV,nW]);try omega) | (refine Tr.all_reqP ?_ ?_;· first | exact trivial | rfl | exact ⟨rfl,rfl⟩ | exact ⟨rfl,rfl,rfl⟩ | (simp (disch:=omega) only[nV,nW];done) | ((try simp (disch:=omega) only[nV,nW]);omega)) | fail
     all_goals first
      | exact Tr.all_ok ⟨rfl,rfl⟩
      | fail
   · rw[ea,if_neg c2] at e;exact absurd rfl e
 · have ea:askE l t k d h=shE l t k d:=by unfold askE;rw[if_neg c]
   rw[ea]
   refine fn_all (n:=n+9) Try.func66 rfl rfl rfl (u66s (n+9) l k t d (shE l t k d) h H) (il_ok0 _ (n+9) (tX_ok (noCt_ok _) (fun H=>c51e (n+1) l k t d H c))) (noBT_ok _ _) (noRT_ok _ _) ?_
   generalize shE l t k d=e at *
   repeat' first | (refine Tr.all_ite (fun hc=>?_) (fun hc=>?_)<;>(try simp (disch:=omega) only[nV,nW] at hc)<;>try omega) | (refine Tr.all_req ?_ ?_;· (try simp (disch:=omega) only[nV,nW]);try omega) | (refine Tr.all_reqP ?_ ?_;· first | exact trivial | rfl | exact ⟨rfl,rfl⟩ | exact ⟨rfl,rfl,rfl⟩ | (simp (disch:=omega) only[nV,nW];done) | ((try simp (disch:=omega) only[nV,nW]);omega)) | fail
   all_goals first
    | exact Tr.all_ok ⟨rfl,rfl⟩
    | fail
def needE:Int:=if askE l t k d h=0 then (if canB l t d h=true then 0 else 13) else askE l t k d h
theorem need_of {l k:Nat} {t d:Nat→Int} {h:Int} (e:needE l k t d h=0):askE l t k d h=0∧canB l t d h=true:=by
 unfold needE at e
 by_cases c:askE l t k d h=0
 · rw[if_pos c] at e
   refine ⟨c,?_⟩
   by_cases c2:canB l t d h=true
   · exact c2
   · rw[if_neg c2] at e;omega
 · rw[if_neg c] at e;exact absurd e c
theorem c61 (a:Int) (e:askE l t k d h=0):cd (n+11) (.fn 61) [shA l t k d,.int .i64 h,.int .i64 a] H=some (if a=0 then (if canB l t d h=true then .tup [tbS 0 l t k d,.int .i64 0] else .tup [.nilp,.int .i64 13]) else .tup [.nilp,.int .i64 a],H):=by
 obtain ⟨hs,h1,h2⟩:=ask_of e
 refine fn_all (n:=n+10) Try.func61 rfl rfl rfl (u61 (n+10) l k t d (ldF t l) H h a (crT l t d h)) (il_ok0 _ (n+10) (tX_ok (tX_ok (noCt_ok _) (fun H=>c66 n l k t d H h e)) (fun H=>c69 (n+6) 0 l k k t d _ d false H h hs.l30 hs.kl hs.tl hs.cyc hs.bd (by omega)))) (noBT_ok _ _) (noRT_ok _ _) ?_
 obtain ⟨q1,q2⟩:=crT_can l t d h
 unfold tbS
 generalize ldF t l=g at *
 generalize crT l t d h=C at *
 by_cases c:a=0
 · rw [if_pos c]
   cases hB:canB l t d h with
   | true =>
     have:=q1.2 hB
     simp only[if_true]
     repeat' first | (refine Tr.all_ite (fun hc=>?_) (fun hc=>?_)<;>(try simp (disch:=omega) only[nV,nW] at hc)<;>try omega) | (refine Tr.all_req ?_ ?_;· (try simp (disch:=omega) only[nV,nW]);try omega) | (refine Tr.all_reqP ?_ ?_;· first | exact trivial | rfl | exact ⟨rfl,rfl⟩ | exact ⟨rfl,rfl,rfl⟩ | (simp (disch:=omega) only[nV,nW];done) | ((try simp (disch:=omega) only[nV,nW]);omega)) | fail
     all_goals first
      | exact Tr.all_ok ⟨rfl,rfl⟩
      | fail
   | false =>
     have:=q2.2 hB
     simp only[Bool.false_eq_true,if_false]
     repeat' first | (refine Tr.all_ite (fun hc=>?_) (fun hc=>?_)<;>(try simp (disch:=omega) only[nV,nW] at hc)<;>try omega) | (refine Tr.all_req ?_ ?_;· (try simp (disch:=omega) only[nV,nW]);try omega) | (refine Tr.all_reqP ?_ ?_;· first | exact trivial | rfl | exact ⟨rfl,rfl⟩ | exact ⟨rfl,rfl,rfl⟩ | (simp (disch:=omega) only[nV,nW];done) | ((try simp (disch:=omega) only[nV,nW]);omega)) | fail
     all_goals first
      | exact Tr.all_ok ⟨rfl,rfl⟩
      | fail
 · rw[if_neg c]
   repeat' first | (refine Tr.all_ite (fun hc=>?_) (fun hc=>?_)<;>(try simp (disch:=omega) only[nV,nW] at hc)<;>try omega) | (refine Tr.all_req ?_ ?_;· (try simp (disch:=omega) only[nV,nW]);try omega) | (refine Tr.all_reqP ?_ ?_;· first | exact trivial | rfl | exact ⟨rfl,rfl⟩ | exact ⟨rfl,rfl,rfl⟩ | (simp (disch:=omega) only[nV,nW];done) | ((try simp (disch:=omega) only[nV,nW]);omega)) | fail
   all_goals first
    | exact Tr.all_ok ⟨rfl,rfl⟩
    | fail
theorem c61e (a:Int) (e:askE l t k d h≠0):cd (n+11) (.fn 61) [shA l t k d,.int .i64 h,.int .i64 a] H=some (.tup [.nilp,.int .i64 (askE l t k d h)],H):=by
 refine fn_all (n:=n+10) Try.func61 rfl rfl rfl (u61s (n+10) l k t d H h a (askE l t k d h)) (il_ok0 _ (n+10) (tX_ok (noCt_ok _) (fun H=>c66e n l k t d H h e))) (noBT_ok _ _) (noRT_ok _ _) ?_
 generalize askE l t k d h=e at *
 repeat' first | (refine Tr.all_ite (fun hc=>?_) (fun hc=>?_)<;>(try simp (disch:=omega) only[nV,nW] at hc)<;>try omega) | (refine Tr.all_req ?_ ?_;· (try simp (disch:=omega) only[nV,nW]);try omega) | (refine Tr.all_reqP ?_ ?_;· first | exact trivial | rfl | exact ⟨rfl,rfl⟩ | exact ⟨rfl,rfl,rfl⟩ | (simp (disch:=omega) only[nV,nW];done) | ((try simp (disch:=omega) only[nV,nW]);omega)) | fail
 all_goals first
  | exact Tr.all_ok ⟨rfl,rfl⟩
  | fail
end
end Go.Eng
end
section
namespace Go.Eng
open Go.Proofs
set_option linter.unusedVariables false
set_option linter.unusedSimpArgs false
set_option maxRecDepth 100000
noncomputable def gD (P:Int→Int→Int) (Q:List AV→Heap→Prop) (args:List AV) (H:Heap):Tr (AV×Heap) :=
 match args with
 | .int .i64 i::.int .i64 e::C=>.reqP (Q C H) (.ok (.int .i64 (P i e),H))
 | _=>.bad
noncomputable def ctD (f:FuncId) (P:Int→Int→Int) (Q:List AV→Heap→Prop):Ctr:=addCt noCt f (gD P Q)
noncomputable def fr74 (F:AV) (o:AV) (k:Nat) (d:Nat→Int) (j:Int):Frm:=[(1,F),(5,o),(12,sl1 k d false),(13,.int .i64 (Int.ofNat k)),(14,.int .i64 j)]
theorem t74Aa (n k:Nat) (d:Nat→Int) (P:Int→Int→Int) (Q:List AV→Heap→Prop) (H:Heap) (j:Int):execT (cxD n 74 28) (il (ctD 75 P Q) n 0) noBT noRT (part Try.f74 [1,1,0,1,0,0]) (hints (fr74 (.fn (.func 75) [] [.ptr 1 0 0 0]) .nils k d j)) (lvE::H) =
 Tr.ite (ltI j (Int.ofNat k)) (Tr.req (inI j k) (Tr.req (ltN (idO 0 j 1) k) (Tr.reqP (Q [AV.ptr 1 0 0 0] (lvE::H)) (Tr.req (roomO 0 1 8) (Tr.req (eqN 0 0) (Tr.req (leN 1 1) (Tr.ok (Ex.normal,[(1,AV.fn (Fn.func 75) [] [AV.ptr 1 0 0 0],none),(5,AV.slc 0 1 0 0 1 1 none,none),(12,AV.slcT none (Row.M [Seg.arr .i64 d k]) 1 k false,none),(13,AV.int .i64 (Int.ofNat k),none),(14,AV.int .i64 (addI .i64 j (Int.ofNat 1)),none)],{ lock:=false,bs:=[(0,Blk.row (Row.I .i64 [P j (d (idO 0 j 1))])),(0,Blk.row (Row.M [Seg.arr .i64 (lstO [P j (d (idO 0 j 1))]) 1]))] } :: H)))))))) (Tr.ok (Ex.exit 0,[(1,AV.fn (Fn.func 75) [] [AV.ptr 1 0 0 0],none),(5,AV.nils,none),(12,AV.slcT none (Row.M [Seg.arr .i64 d k]) 1 k false,none),(13,AV.int .i64 (Int.ofNat k),none),(14,AV.int .i64 j,none),(15,AV.bool false,some 1)],lvE::H)):=by kernel_rfl
theorem t74Ab (n k:Nat) (d:Nat→Int) (v m:Nat) (y:Nat→Int) (P:Int→Int→Int) (Q:List AV→Heap→Prop) (H:Heap) (j:Int):execT (cxD n 74 28) (il (ctD 75 P Q) n 0) noBT noRT (part Try.f74 [1,1,0,1,0,0]) (hints (fr74 (.fn (.func 75) [] [.ptr 1 0 0 0]) (.slc 0 0 v 0 1 m none) k d j)) (lvO v m y::H) =
 Tr.ite (ltI j (Int.ofNat k)) (Tr.req (inI j k) (Tr.req (ltN (idO 0 j 1) k) (Tr.reqP (Q [AV.ptr 1 0 0 0] ({ lock:=false,bs:=[(v,Blk.row (Row.M [Seg.arr .i64 y m]))] } :: H)) (Tr.req (roomO m 1 8) (Tr.req (eqN 0 0) (Tr.req (leN 1 1) (Tr.req (eqN v v) (Tr.req (eqN (addO 0 m) m) (Tr.ok (Ex.normal,[(1,AV.fn (Fn.func 75) [] [AV.ptr 1 0 0 0],none),(5,AV.slc 0 0 (Nat.succ v) 0 1 (addO m 1) none,none),(12,AV.slcT none (Row.M [Seg.arr .i64 d k]) 1 k false,none),(13,AV.int .i64 (Int.ofNat k),none),(14,AV.int .i64 (addI .i64 j (Int.ofNat 1)),none)],{ lock:=false,bs:=[(Nat.succ v,Blk.row (Row.M [Seg.arr .i64 (appO (shO y 0) m (lstO [P j (d (idO 0 j 1))])) (addO m 1)])),(0,Blk.row (Row.I .i64 [P j (d (idO 0 j 1))]))] } :: H)))))))))) (Tr.ok (Ex.exit 0,[(1,AV.fn (Fn.func 75) [] [AV.ptr 1 0 0 0],none),(5,AV.slc 0 0 v 0 1 m none,none),(12,AV.slcT none (Row.M [Seg.arr .i64 d k]) 1 k false,none),(13,AV.int .i64 (Int.ofNat k),none),(14,AV.int .i64 j,none),(15,AV.bool false,some 1)],{ lock:=false,bs:=[(v,Blk.row (Row.M [Seg.arr .i64 y m]))] } :: H)):=by kernel_rfl
theorem u74A (n s l k q:Nat) (t d e y:Nat→Int) (H:Heap):bodyT Try.prog (cd n) 100000 74 Try.f74 (KtL.kt 74) (il noCt n 0) (blkE noBT 0 (fr74 (.fn (.func 75) [] [.ptr 1 0 0 0]) .nils k d 0) (lvE::H) (.ok (.normal,hints (fr74 (.fn (.func 75) [] [.ptr 1 0 0 0]) (.slc 0 0 q 0 1 (q+1) none) k d (Int.ofNat k)++[(15,.bool false)]),lvO q (q+1) y::H))) noRT [(tbA s l t k d e,none),((.fn (.func 75) [] [.ptr 0 0 0 0]),none)] H =
 (fun (Z0:Frm)=>Tr.reqP (Z0=Z0∧lvE::H=lvE::H) (Tr.req (eqN q q) (Tr.req (inO 0 (Nat.succ q) 0 (Nat.succ q)) (Tr.ok ((AV.slcT none (Row.M [Seg.arr .i64 (shO y 0) (Nat.succ q)]) 1 (Nat.succ q) false,none),H))))) [(1,AV.fn (Fn.func 75) [] [AV.ptr 1 0 0 0]),(5,AV.nils),(12,AV.slcT none (Row.M [Seg.arr .i64 d k]) 1 k false),(13,AV.int .i64 (Int.ofNat k)),(14,AV.int .i64 (Int.ofNat 0))]:=by kernel_rfl
theorem t74Ba (n k:Nat) (c:Nat) (d:Nat→Int) (P:Int→Int→Int) (Q:List AV→Heap→Prop) (H:Heap) (j:Int):execT (cxD n 74 28) (il (ctD 77 P Q) n 0) noBT noRT (part Try.f74 [1,1,0,1,0,0]) (hints (fr74 (.fn (.func 77) [] [.ptr 3 c 0 0,.ptr 1 0 0 0]) .nils k d j)) (lvE::H) =
 Tr.ite (ltI j (Int.ofNat k)) (Tr.req (inI j k) (Tr.req (ltN (idO 0 j 1) k) (Tr.reqP (Q [AV.ptr 3 c 0 0,AV.ptr 1 0 0 0] (lvE::H)) (Tr.req (roomO 0 1 8) (Tr.req (eqN 0 0) (Tr.req (leN 1 1) (Tr.ok (Ex.normal,[(1,AV.fn (Fn.func 77) [] [AV.ptr 3 c 0 0,AV.ptr 1 0 0 0],none),(5,AV.slc 0 1 0 0 1 1 none,none),(12,AV.slcT none (Row.M [Seg.arr .i64 d k]) 1 k false,none),(13,AV.int .i64 (Int.ofNat k),none),(14,AV.int .i64 (addI .i64 j (Int.ofNat 1)),none)],{ lock:=false,bs:=[(0,Blk.row (Row.I .i64 [P j (d (idO 0 j 1))])),(0,Blk.row (Row.M [Seg.arr .i64 (lstO [P j (d (idO 0 j 1))]) 1]))] } :: H)))))))) (Tr.ok (Ex.exit 0,[(1,AV.fn (Fn.func 77) [] [AV.ptr 3 c 0 0,AV.ptr 1 0 0 0],none),(5,AV.nils,none),(12,AV.slcT none (Row.M [Seg.arr .i64 d k]) 1 k false,none),(13,AV.int .i64 (Int.ofNat k),none),(14,AV.int .i64 j,none),(15,AV.bool false,some 1)],lvE::H)):=by kernel_rfl
theorem t74Bb (n k:Nat) (c:Nat) (d:Nat→Int) (v m:Nat) (y:Nat→Int) (P:Int→Int→Int) (Q:List AV→Heap→Prop) (H:Heap) (j:Int):execT (cxD n 74 28) (il (ctD 77 P Q) n 0) noBT noRT (part Try.f74 [1,1,0,1,0,0]) (hints (fr74 (.fn (.func 77) [] [.ptr 3 c 0 0,.ptr 1 0 0 0]) (.slc 0 0 v 0 1 m none) k d j)) (lvO v m y::H) =
 Tr.ite (ltI j (Int.ofNat k)) (Tr.req (inI j k) (Tr.req (ltN (idO 0 j 1) k) (Tr.reqP (Q [AV.ptr 3 c 0 0,AV.ptr 1 0 0 0] ({ lock:=false,bs:=[(v,Blk.row (Row.M [Seg.arr .i64 y m]))] } :: H)) (Tr.req (roomO m 1 8) (Tr.req (eqN 0 0) (Tr.req (leN 1 1) (Tr.req (eqN v v) (Tr.req (eqN (addO 0 m) m) (Tr.ok (Ex.normal,[(1,AV.fn (Fn.func 77) [] [AV.ptr 3 c 0 0,AV.ptr 1 0 0 0],none),(5,AV.slc 0 0 (Nat.succ v) 0 1 (addO m 1) none,none),(12,AV.slcT none (Row.M [Seg.arr .i64 d k]) 1 k false,none),(13,AV.int .i64 (Int.ofNat k),none),(14,AV.int .i64 (addI .i64 j (Int.ofNat 1)),none)],{ lock:=false,bs:=[(Nat.succ v,Blk.row (Row.M [Seg.arr .i64 (appO (shO y 0) m (lstO [P j (d (idO 0 j 1))])) (addO m 1)])),(0,Blk.row (Row.I .i64 [P j (d (idO 0 j 1))]))] } :: H)))))))))) (Tr.ok (Ex.exit 0,[(1,AV.fn (Fn.func 77) [] [AV.ptr 3 c 0 0,AV.ptr 1 0 0 0],none),(5,AV.slc 0 0 v 0 1 m none,none),(12,AV.slcT none (Row.M [Seg.arr .i64 d k]) 1 k false,none),(13,AV.int .i64 (Int.ofNat k),none),(14,AV.int .i64 j,none),(15,AV.bool false,some 1)],{ lock:=false,bs:=[(v,Blk.row (Row.M [Seg.arr .i64 y m]))] } :: H)):=by kernel_rfl
theorem u74B (n s l k q:Nat) (c:Nat) (t d e y:Nat→Int) (H:Heap):bodyT Try.prog (cd n) 100000 74 Try.f74 (KtL.kt 74) (il noCt n 0) (blkE noBT 0 (fr74 (.fn (.func 77) [] [.ptr 3 c 0 0,.ptr 1 0 0 0]) .nils k d 0) (lvE::H) (.ok (.normal,hints (fr74 (.fn (.func 77) [] [.ptr 3 c 0 0,.ptr 1 0 0 0]) (.slc 0 0 q 0 1 (q+1) none) k d (Int.ofNat k)++[(15,.bool false)]),lvO q (q+1) y::H))) noRT [(tbA s l t k d e,none),((.fn (.func 77) [] [.ptr 2 c 0 0,.ptr 0 0 0 0]),none)] H =
 (fun (Z0:Frm)=>Tr.reqP (Z0=Z0∧lvE::H=lvE::H) (Tr.req (eqN q q) (Tr.req (inO 0 (Nat.succ q) 0 (Nat.succ q)) (Tr.ok ((AV.slcT none (Row.M [Seg.arr .i64 (shO y 0) (Nat.succ q)]) 1 (Nat.succ q) false,none),H))))) [(1,AV.fn (Fn.func 77) [] [AV.ptr 3 c 0 0,AV.ptr 1 0 0 0]),(5,AV.nils),(12,AV.slcT none (Row.M [Seg.arr .i64 d k]) 1 k false),(13,AV.int .i64 (Int.ofNat k)),(14,AV.int .i64 (Int.ofNat 0))]:=by kernel_rfl
theorem b74:∀ b,(0,b) ∈ blocksOf (bodyOf Try.f74)→b=.loop (part Try.f74 [1,1,0,1,0,0]):=by
 have:((blocksOf (bodyOf Try.f74)).filter fun x=>Nat.beq x.1 0)=[(0,.loop (part Try.f74 [1,1,0,1,0,0]))]:=by kernel_rfl
 intro b hb
 have hm:(0,b) ∈ ((blocksOf (bodyOf Try.f74)).filter fun x=>Nat.beq x.1 0):=List.mem_filter.2 ⟨hb,rfl⟩
 rw[this] at hm;simpa using hm
theorem ctD_ok {k:Nat} {f:FuncId} {P:Int→Int→Int} {Q:List AV→Heap→Prop} (h:∀ i e C H,Q C H→cd k (.fn f) (.int .i64 i::.int .i64 e::C) H=some (.int .i64 (P i e),H)):(ctD f P Q).Ok (cd k):=by
 refine addCt_ok (noCt_ok _) (fun args H x hx=>?_)
 unfold gD at hx
 split at hx
 · obtain ⟨h1,h2⟩:=Tr.reqP_some hx
   rw[h _ _ _ _ h1,← Tr.ok_some h2]
 · exact (Tr.bad_some hx).elim
noncomputable def o74:Nat→AV
 | 0=>.nils
 | q+1=>.slc 0 0 q 0 1 (q+1) none
noncomputable def lv74 (z:Nat→Int):Nat→Lvl
 | 0=>lvE
 | q+1=>lvO q (q+1) (lstO (faN z (q+1)))
section
variable (n s l k:Nat) (t d e:Nat→Int) (P:Int→Int→Int) (H:Heap)
theorem l74A (h0:0<k) (hk:k≤1000) (hP:∀ i e L,cd n (.fn 75) (.int .i64 i::.int .i64 e::[.ptr 1 0 0 0]) (L::H)=some (.int .i64 (P i e),L::H)):exec (cxD n 74 28) (.block 0 (.loop (part Try.f74 [1,1,0,1,0,0]))) (fr74 (.fn (.func 75) [] [.ptr 1 0 0 0]) .nils k d 0) (lvE::H)=some (.normal,fr74 (.fn (.func 75) [] [.ptr 1 0 0 0]) (o74 k) k d (Int.ofNat k)++[(15,.bool false)],lv74 (fun i=>P (i:Nat) (d i)) k::H):=by
 have hC:(ctD 75 P (fun C G=>C=[.ptr 1 0 0 0]∧∃ L,G=L::H)).Ok (cd n):=ctD_ok (fun i e C G hq=>by
  obtain ⟨rfl,L,rfl⟩:=hq
  exact hP i e L)
 refine forX (n:=n) (f:=74) (nt:=28) (c:=part Try.f74 [1,1,0,1,0,0]) 0 (fun j=>fr74 (.fn (.func 75) [] [.ptr 1 0 0 0]) (o74 j) k d (j:Nat)) (fun j=>lv74 (fun i=>P (i:Nat) (d i)) j::H) k _ (by omega) (fun j hj=>?_) ?_
 · cases j with
   | zero =>
     refine ex_all (t74Aa n k d P (fun C G=>C=[.ptr 1 0 0 0]∧∃ L,G=L::H) H (0:Nat)) (il_ok0 _ n hC) (noBT_ok _ _) (noRT_ok _ _) ?_
     show Tr.all _ (fun x=>_∧tidy _ _ _=(fr74 (.fn (.func 75) [] [.ptr 1 0 0 0]) (.slc 0 0 0 0 1 1 none) k d ((0+1:Nat):Int),lvO 0 1 (lstO [P (0:Nat) (d 0)])::H))
     rw[cs64 (j:=0) (by omega)]
     simp only[id1]
     generalize P (0:Nat) (d 0)=W at *
     repeat' first | (refine Tr.all_ite (fun hc=>?_) (fun hc=>?_)<;>(try simp (disch:=omega) only[nV,nW] at hc)<;>try omega) | (refine Tr.all_req ?_ ?_;· (try simp (disch:=omega) only[nV,nW]);try omega) | (refine Tr.all_reqP ?_ ?_;· first | exact trivial | rfl | exact ⟨rfl,rfl⟩ | exact ⟨rfl,rfl,rfl⟩ | (simp (disch:=omega) only[nV,nW];done) | ((try simp (disch:=omega) only[nV,nW]);omega)) | fail
     all_goals first
      | exact ⟨rfl,_,rfl⟩
      | (refine Tr.all_reqP ⟨(by first | rfl | trivial),_,rfl⟩ ?_
         repeat' first | (refine Tr.all_ite (fun hc=>?_) (fun hc=>?_)<;>(try simp (disch:=omega) only[nV,nW] at hc)<;>try omega) | (refine Tr.all_req ?_ ?_;· (try simp (disch:=omega) only[nV,nW]);try omega) | (refine Tr.all_reqP ?_ ?_;· first | exact trivial | rfl | exact ⟨rfl,rfl⟩ | exact ⟨rfl,rfl,rfl⟩ | (simp (disch:=omega) only[nV,nW];done) | ((try simp (disch:=omega) only[nV,nW]);omega)) | fail
         all_goals first
          | exact Tr.all_ok ⟨rfl,rfl⟩
          | fail)
      | fail
   | succ j =>
     refine ex_all (t74Ab n k d j (j+1) (lstO (faN (fun i=>P (i:Nat) (d i)) (j+1))) P (fun C G=>C=[.ptr 1 0 0 0]∧∃ L,G=L::H) H (j+1:Nat)) (il_ok0 _ n hC) (noBT_ok _ _) (noRT_ok _ _) ?_
     show Tr.all _ (fun x=>_∧tidy _ _ _=(fr74 (.fn (.func 75) [] [.ptr 1 0 0 0]) (.slc 0 0 (j+1) 0 1 (j+1+1) none) k d ((j+1+1:Nat):Int),lvO (j+1) (j+1+1) (lstO (faN (fun i=>P (i:Nat) (d i)) (j+1+1)))::H))
     have hap:=faN_app (fun i=>P (i:Nat) (d i)) (j+1)
     have ea:addO (j+1) 1=j+1+1:=addO_eq _ _
     rw[cs64 (j:=j+1) (by omega)]
     simp only[id1,hap,ea]
     generalize lstO (faN (fun i=>P (i:Nat) (d i)) (j+1+1))=Y2 at *
     generalize lstO (faN (fun i=>P (i:Nat) (d i)) (j+1))=Y at *
     repeat' first | (refine Tr.all_ite (fun hc=>?_) (fun hc=>?_)<;>(try simp (disch:=omega) only[nV,nW] at hc)<;>try omega) | (refine Tr.all_req ?_ ?_;· (try simp (disch:=omega) only[nV,nW]);try omega) | (refine Tr.all_reqP ?_ ?_;· first | exact trivial | rfl | exact ⟨rfl,rfl⟩ | exact ⟨rfl,rfl,rfl⟩ | (simp (disch:=omega) only[nV,nW];done) | ((try simp (disch:=omega) only[nV,nW]);omega)) | fail
     all_goals first
      | exact ⟨rfl,_,rfl⟩
      | (refine Tr.all_reqP ⟨(by first | rfl | trivial),_,rfl⟩ ?_
         repeat' first | (refine Tr.all_ite (fun hc=>?_) (fun hc=>?_)<;>(try simp (disch:=omega) only[nV,nW] at hc)<;>try omega) | (refine Tr.all_req ?_ ?_;· (try simp (disch:=omega) only[nV,nW]);try omega) | (refine Tr.all_reqP ?_ ?_;· first | exact trivial | rfl | exact ⟨rfl,rfl⟩ | exact ⟨rfl,rfl,rfl⟩ | (simp (disch:=omega) only[nV,nW];done) | ((try simp (disch:=omega) only[nV,nW]);omega)) | fail
         all_goals first
          | exact Tr.all_ok ⟨rfl,rfl⟩
          | fail)
      | fail
 · obtain ⟨q,rfl⟩:∃ q,k=q+1:=⟨k-1,by omega⟩
   exact ex_off (t74Ab n (q+1) d q (q+1) (lstO (faN (fun i=>P (i:Nat) (d i)) (q+1))) P (fun C G=>C=[.ptr 1 0 0 0]∧∃ L,G=L::H) H (Int.ofNat (q+1))) (il_ok0 _ n hC) (noBT_ok _ _) (noRT_ok _ _) (by first | (simp (disch:=omega) only[nV,nW];done) | (simp (disch:=omega) only[nV,nW];omega))
theorem c74A (h0:0<k) (hk:k≤1000) (hP:∀ i e L,cd n (.fn 75) (.int .i64 i::.int .i64 e::[.ptr 1 0 0 0]) (L::H)=some (.int .i64 (P i e),L::H)):cd (n+1) (.fn 74) [tbA s l t k d e,(.fn (.func 75) [] [.ptr 0 0 0 0])] H=some (sl1 k (lstO (faN (fun i=>P (i:Nat) (d i)) k)) false,H):=by
 have hx:=l74A n k d P H h0 hk hP
 obtain ⟨q,rfl⟩:∃ q,k=q+1:=⟨k-1,by omega⟩
 refine fn_all (n:=n) Try.func74 rfl rfl rfl (u74A n s l (q+1) q t d e (lstO (faN (fun i=>P (i:Nat) (d i)) (q+1))) H) (il_no0 _) (blkE_ok (noBT_ok _ _) b74 (fun x hy=>blk_ok hy hx)) (noRT_ok _ _) ?_
 rw[shO_zero]
 generalize lstO (faN (fun i=>P (i:Nat) (d i)) (q+1))=Y at *
 repeat' first | (refine Tr.all_ite (fun hc=>?_) (fun hc=>?_)<;>(try simp (disch:=omega) only[nV,nW] at hc)<;>try omega) | (refine Tr.all_req ?_ ?_;· (try simp (disch:=omega) only[nV,nW]);try omega) | (refine Tr.all_reqP ?_ ?_;· first | exact trivial | rfl | exact ⟨rfl,rfl⟩ | exact ⟨rfl,rfl,rfl⟩ | (simp (disch:=omega) only[nV,nW];done) | ((try simp (disch:=omega) only[nV,nW]);omega)) | fail
 all_goals first
  | exact Tr.all_ok ⟨rfl,rfl⟩
  | fail
end
section
variable (n s l k:Nat) (c:Nat) (t d e:Nat→Int) (P:Int→Int→Int) (H:Heap)
theorem l74B (h0:0<k) (hk:k≤1000) (hP:∀ i e L,cd n (.fn 77) (.int .i64 i::.int .i64 e::[.ptr 3 c 0 0,.ptr 1 0 0 0]) (L::H)=some (.int .i64 (P i e),L::H)):exec (cxD n 74 28) (.block 0 (.loop (part Try.f74 [1,1,0,1,0,0]))) (fr74 (.fn (.func 77) [] [.ptr 3 c 0 0,.ptr 1 0 0 0]) .nils k d 0) (lvE::H)=some (.normal,fr74 (.fn (.func 77) [] [.ptr 3 c 0 0,.ptr 1 0 0 0]) (o74 k) k d (Int.ofNat k)++[(15,.bool false)],lv74 (fun i=>P (i:Nat) (d i)) k::H):=by
 have hC:(ctD 77 P (fun C G=>C=[.ptr 3 c 0 0,.ptr 1 0 0 0]∧∃ L,G=L::H)).Ok (cd n):=ctD_ok (fun i e C G hq=>by
  obtain ⟨rfl,L,rfl⟩:=hq
  exact hP i e L)
 refine forX (n:=n) (f:=74) (nt:=28) (c:=part Try.f74 [1,1,0,1,0,0]) 0 (fun j=>fr74 (.fn (.func 77) [] [.ptr 3 c 0 0,.ptr 1 0 0 0]) (o74 j) k d (j:Nat)) (fun j=>lv74 (fun i=>P (i:Nat) (d i)) j::H) k _ (by omega) (fun j hj=>?_) ?_
 · cases j with
   | zero =>
     refine ex_all (t74Ba n k c d P (fun C G=>C=[.ptr 3 c 0 0,.ptr 1 0 0 0]∧∃ L,G=L::H) H (0:Nat)) (il_ok0 _ n hC) (noBT_ok _ _) (noRT_ok _ _) ?_
     show Tr.all _ (fun x=>_∧tidy _ _ _=(fr74 (.fn (.func 77) [] [.ptr 3 c 0 0,.ptr 1 0 0 0]) (.slc 0 0 0 0 1 1 none) k d ((0+1:Nat):Int),lvO 0 1 (lstO [P (0:Nat) (d 0)])::H))
     rw[cs64 (j:=0) (by omega)]
     simp only[id1]
     generalize P (0:Nat) (d 0)=W at *
     repeat' first | (refine Tr.all_ite (fun hc=>?_) (fun hc=>?_)<;>(try simp (disch:=omega) only[nV,nW] at hc)<;>try omega) | (refine Tr.all_req ?_ ?_;· (try simp (disch:=omega) only[nV,nW]);try omega) | (refine Tr.all_reqP ?_ ?_;· first | exact trivial | rfl | exact ⟨rfl,rfl⟩ | exact ⟨rfl,rfl,rfl⟩ | (simp (disch:=omega) only[nV,nW];done) | ((try simp (disch:=omega) only[nV,nW]);omega)) | fail
     all_goals first
      | exact ⟨rfl,_,rfl⟩
      | (refine Tr.all_reqP ⟨(by first | rfl | trivial),_,rfl⟩ ?_
         repeat' first | (refine Tr.all_ite (fun hc=>?_) (fun hc=>?_)<;>(try simp (disch:=omega) only[nV,nW] at hc)<;>try omega) | (refine Tr.all_req ?_ ?_;· (try simp (disch:=omega) only[nV,nW]);try omega) | (refine Tr.all_reqP ?_ ?_;· first | exact trivial | rfl | exact ⟨rfl,rfl⟩ | exact ⟨rfl,rfl,rfl⟩ | (simp (disch:=omega) only[nV,nW];done) | ((try simp (disch:=omega) only[nV,nW]);omega)) | fail
         all_goals first
          | exact Tr.all_ok ⟨rfl,rfl⟩
          | fail)
      | fail
   | succ j =>
     refine ex_all (t74Bb n k c d j (j+1) (lstO (faN (fun i=>P (i:Nat) (d i)) (j+1))) P (fun C G=>C=[.ptr 3 c 0 0,.ptr 1 0 0 0]∧∃ L,G=L::H) H (j+1:Nat)) (il_ok0 _ n hC) (noBT_ok _ _) (noRT_ok _ _) ?_
     show Tr.all _ (fun x=>_∧tidy _ _ _=(fr74 (.fn (.func 77) [] [.ptr 3 c 0 0,.ptr 1 0 0 0]) (.slc 0 0 (j+1) 0 1 (j+1+1) none) k d ((j+1+1:Nat):Int),lvO (j+1) (j+1+1) (lstO (faN (fun i=>P (i:Nat) (d i)) (j+1+1)))::H))
     have hap:=faN_app (fun i=>P (i:Nat) (d i)) (j+1)
     have ea:addO (j+1) 1=j+1+1:=addO_eq _ _
     rw[cs64 (j:=j+1) (by omega)]
     simp only[id1,hap,ea]
     generalize lstO (faN (fun i=>P (i:Nat) (d i)) (j+1+1))=Y2 at *
     generalize lstO (faN (fun i=>P (i:Nat) (d i)) (j+1))=Y at *
     repeat' first | (refine Tr.all_ite (fun hc=>?_) (fun hc=>?_)<;>(try simp (disch:=omega) only[nV,nW] at hc)<;>try omega) | (refine Tr.all_req ?_ ?_;· (try simp (disch:=omega) only[nV,nW]);try omega) | (refine Tr.all_reqP ?_ ?_;· first | exact trivial | rfl | exact ⟨rfl,rfl⟩ | exact ⟨rfl,rfl,rfl⟩ | (simp (disch:=omega) only[nV,nW];done) | ((try simp (disch:=omega) only[nV,nW]);omega)) | fail
     all_goals first
      | exact ⟨rfl,_,rfl⟩
      | (refine Tr.all_reqP ⟨(by first | rfl | trivial),_,rfl⟩ ?_
         repeat' first | (refine Tr.all_ite (fun hc=>?_) (fun hc=>?_)<;>(try simp (disch:=omega) only[nV,nW] at hc)<;>try omega) | (refine Tr.all_req ?_ ?_;· (try simp (disch:=omega) only[nV,nW]);try omega) | (refine Tr.all_reqP ?_ ?_;· first | exact trivial | rfl | exact ⟨rfl,rfl⟩ | exact ⟨rfl,rfl,rfl⟩ | (simp (disch:=omega) only[nV,nW];done) | ((try simp (disch:=omega) only[nV,nW]);omega)) | fail
         all_goals first
          | exact Tr.all_ok ⟨rfl,rfl⟩
          | fail)
      | fail
 · obtain ⟨q,rfl⟩:∃ q,k=q+1:=⟨k-1,by omega⟩
   exact ex_off (t74Bb n (q+1) c d q (q+1) (lstO (faN (fun i=>P (i:Nat) (d i)) (q+1))) P (fun C G=>C=[.ptr 3 c 0 0,.ptr 1 0 0 0]∧∃ L,G=L::H) H (Int.ofNat (q+1))) (il_ok0 _ n hC) (noBT_ok _ _) (noRT_ok _ _) (by first | (simp (disch:=omega) only[nV,nW];done) | (simp (disch:=omega) only[nV,nW];omega))
theorem c74B (h0:0<k) (hk:k≤1000) (hP:∀ i e L,cd n (.fn 77) (.int .i64 i::.int .i64 e::[.ptr 3 c 0 0,.ptr 1 0 0 0]) (L::H)=some (.int .i64 (P i e),L::H)):cd (n+1) (.fn 74) [tbA s l t k d e,(.fn (.func 77) [] [.ptr 2 c 0 0,.ptr 0 0 0 0])] H=some (sl1 k (lstO (faN (fun i=>P (i:Nat) (d i)) k)) false,H):=by
 have hx:=l74B n k c d P H h0 hk hP
 obtain ⟨q,rfl⟩:∃ q,k=q+1:=⟨k-1,by omega⟩
 refine fn_all (n:=n) Try.func74 rfl rfl rfl (u74B n s l (q+1) q c t d e (lstO (faN (fun i=>P (i:Nat) (d i)) (q+1))) H) (il_no0 _) (blkE_ok (noBT_ok _ _) b74 (fun x hy=>blk_ok hy hx)) (noRT_ok _ _) ?_
 rw[shO_zero]
 generalize lstO (faN (fun i=>P (i:Nat) (d i)) (q+1))=Y at *
 repeat' first | (refine Tr.all_ite (fun hc=>?_) (fun hc=>?_)<;>(try simp (disch:=omega) only[nV,nW] at hc)<;>try omega) | (refine Tr.all_req ?_ ?_;· (try simp (disch:=omega) only[nV,nW]);try omega) | (refine Tr.all_reqP ?_ ?_;· first | exact trivial | rfl | exact ⟨rfl,rfl⟩ | exact ⟨rfl,rfl,rfl⟩ | (simp (disch:=omega) only[nV,nW];done) | ((try simp (disch:=omega) only[nV,nW]);omega)) | fail
 all_goals first
  | exact Tr.all_ok ⟨rfl,rfl⟩
  | fail
end
section
variable (n s l k:Nat) (c:Nat) (t d e:Nat→Int) (P:Int→Int→Int) (H:Heap)
end
end Go.Eng
end
