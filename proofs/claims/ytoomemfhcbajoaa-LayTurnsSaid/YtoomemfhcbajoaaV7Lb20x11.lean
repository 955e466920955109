/- Lay: law LayMore. -/
import Derived.Test.YtoomemfhcbajoaaV7Lb14x8
import Derived.Test.YtoomemfhcbajoaaV7EngRn4x5
import Derived.Test.YtoomemfhcbajoaaV7EngTix5
import Derived.Test.YtoomemfhcbajoaaProg
import Derived.KernelRfl
import Derived.Test.YtoomemfhcbajoaaChecked
section
namespace Go.Eng
open Go.Proofs
set_option linter.unusedVariables false
set_option linter.unusedSimpArgs false
set_option maxRecDepth 100000
theorem u15 (n l k:Nat) (t d:Nat→Int) (H:Heap):bodyT Try.prog (cd n) 100000 15 Try.f15 (KtL.kt 15) (il noCt n 0) noBT noRT [(shA l t k d,none)] H =
 Tr.ite (ltI (Int.ofNat 40) (Int.ofNat l)) (Tr.ok ((AV.bool true,some 1),H)) (Tr.ok ((AV.bool (ltI (Int.ofNat 40) (Int.ofNat k)),none),H)):=by kernel_rfl
theorem u43 (n l k:Nat) (t d:Nat→Int) (b:Bool) (e:Int) (H:Heap):bodyT Try.prog (cd n) 100000 43 Try.f43 (KtL.kt 43) (il (tX (tX noCt 15 [shA l t k d] (.bool b)) 22 [shA l t k d] (.int .i64 e)) n 0) noBT noRT [(shA l t k d,none)] H =
 (fun (Z0:List AV)=>Tr.reqP (Z0=Z0) (Tr.ite (notB b) (Tr.reqP (Z0=Z0) (Tr.ok ((AV.bool (eqI e (Int.ofNat 0)),none),H))) (Tr.ok ((AV.bool false,some 1),H)))) [AV.agg (Row.G [AV.slcT none (Row.M [Seg.arr .i64 t l]) 1 l false,AV.slcT none (Row.M [Seg.arr .i64 d k]) 1 k false])]:=by kernel_rfl
section
variable (n l k:Nat) (t d:Nat→Int) (H:Heap)
theorem c15:cd (n+1) (.fn 15) [shA l t k d] H=some (.bool (decide (40<l) || decide (40<k)),H):=by
 refine fn_all (n:=n) Try.func15 rfl rfl rfl (u15 n l k t d H) (il_no0 _) (noBT_ok _ _) (noRT_ok _ _) ?_
 have e:ltI (Int.ofNat 40) (Int.ofNat k)=decide (40<k):=by rw[ltI_eq,decide_eq_decide];show (40:Int)<(k:Int)↔_;omega
 rw[e]
 by_cases c:40<l
 · rw[decide_eq_true c,Bool.true_or]
   repeat' first | (refine Tr.all_ite (fun hc=>?_) (fun hc=>?_)<;>(try simp (disch:=omega) only[nV,nW] at hc)<;>try omega) | (refine Tr.all_req ?_ ?_;· (try simp (disch:=omega) only[nV,nW]);try omega) | (refine Tr.all_reqP ?_ ?_;· first | exact trivial | rfl | exact ⟨rfl,rfl⟩ | exact ⟨rfl,rfl,rfl⟩ | (simp (disch:=omega) only[nV,nW];done) | ((try simp (disch:=omega) only[nV,nW]);omega)) | fail
   all_goals first
    | exact Tr.all_ok ⟨rfl,rfl⟩
    | fail
 · rw[decide_eq_false c,Bool.false_or]
   repeat' first | (refine Tr.all_ite (fun hc=>?_) (fun hc=>?_)<;>(try simp (disch:=omega) only[nV,nW] at hc)<;>try omega) | (refine Tr.all_req ?_ ?_;· (try simp (disch:=omega) only[nV,nW]);try omega) | (refine Tr.all_reqP ?_ ?_;· first | exact trivial | rfl | exact ⟨rfl,rfl⟩ | exact ⟨rfl,rfl,rfl⟩ | (simp (disch:=omega) only[nV,nW];done) | ((try simp (disch:=omega) only[nV,nW]);omega)) | fail
   all_goals first
    | exact Tr.all_ok ⟨rfl,rfl⟩
    | fail
theorem c43:cd (n+3) (.fn 43) [shA l t k d] H=some (.bool (decide (shE l t k d=0)),H):=by
 refine fn_all (n:=n+2) Try.func43 rfl rfl rfl (u43 (n+2) l k t d (decide (40<l) || decide (40<k)) (shE l t k d) H) (il_ok0 _ (n+2) (tX_ok (tX_ok (noCt_ok _) (fun H=>c15 (n+1) l k t d H)) (fun H=>c22 n l k t d H))) (noBT_ok _ _) (noRT_ok _ _) ?_
 by_cases c:40<l∨40<k
 · have hb:(decide (40<l) || decide (40<k))=true:=by simpa using c
   have he:shE l t k d≠0:=fun h=>by
    have hs:=sh_of h
    have:=hs.l30
    have:=hs.kl
    omega
   rw[hb,decide_eq_false he]
   repeat' first | (refine Tr.all_ite (fun hc=>?_) (fun hc=>?_)<;>(try simp (disch:=omega) only[nV,nW] at hc)<;>try omega) | (refine Tr.all_req ?_ ?_;· (try simp (disch:=omega) only[nV,nW]);try omega) | (refine Tr.all_reqP ?_ ?_;· first | exact trivial | rfl | exact ⟨rfl,rfl⟩ | exact ⟨rfl,rfl,rfl⟩ | (simp (disch:=omega) only[nV,nW];done) | ((try simp (disch:=omega) only[nV,nW]);omega)) | fail
   all_goals first
    | exact Tr.all_ok ⟨rfl,rfl⟩
    | fail
 · have hb:(decide (40<l) || decide (40<k))=false:=by simpa using c
   rw[hb,eqI_eq]
   repeat' first | (refine Tr.all_ite (fun hc=>?_) (fun hc=>?_)<;>(try simp (disch:=omega) only[nV,nW] at hc)<;>try omega) | (refine Tr.all_req ?_ ?_;· (try simp (disch:=omega) only[nV,nW]);try omega) | (refine Tr.all_reqP ?_ ?_;· first | exact trivial | rfl | exact ⟨rfl,rfl⟩ | exact ⟨rfl,rfl,rfl⟩ | (simp (disch:=omega) only[nV,nW];done) | ((try simp (disch:=omega) only[nV,nW]);omega)) | fail
   all_goals first
    | exact Tr.all_ok ⟨rfl,rfl⟩
    | fail
end
end Go.Eng
end
section
namespace Go.Eng
open Go.Proofs
set_option linter.unusedVariables false
set_option linter.unusedSimpArgs false
set_option maxRecDepth 100000
noncomputable def fr10 (h j:Int):Frm:=[(2,.ptr 0 0 0 0),(5,.int .i64 h),(6,.ptr 0 1 0 0),(7,.int .i64 j)]
noncomputable def lv10a (l:Nat) (t:Nat→Int) (k:Nat) (d:Nat→Int):Lvl:=⟨false,[bxS l t k d,(0,.row (.G [sl1 l t false,.nils]))]⟩
noncomputable def lv10b (l:Nat) (t:Nat→Int) (k:Nat) (d:Nat→Int) (v m:Nat) (y:Nat→Int):Lvl:=⟨false,[bxS l t k d,(0,.row (.G [sl1 l t false,.slc 0 2 v 0 1 m none])),(v,.row (.M [.arr .i64 y m]))]⟩
noncomputable def lv10z (l:Nat) (t:Nat→Int) (k:Nat) (d:Nat→Int) (v m:Nat) (y:Nat→Int):Lvl:=⟨false,[bxS l t k d,(0,.row (.G [sl1 l t false,sl1 m y false])),(v,.dead)]⟩
noncomputable def fr10k (h x:Int) (L:Nat) (z:Nat→Int) (M k:Int):Frm:=[(5,.int .i64 h),(10,.int .i64 x),(12,sl1 L z false),(13,.int .i64 M),(14,.int .i64 k)]
noncomputable def fr10i (h x:Int) (L:Nat) (z:Nat→Int) (M k c i:Int):Frm:=[(5,.int .i64 h),(10,.int .i64 x),(12,sl1 L z false),(13,.int .i64 M),(14,.int .i64 k),(15,.int .i64 c),(16,.int .i64 i)]
theorem t10a (n l k:Nat) (t d:Nat→Int) (h j:Int) (H:Heap):execT (cxD n 10 103) (il noCt n 0) noBT noRT (part Try.f10 [1,1,1,1,0,1,0,0]) (hints (fr10 h j)) (lv10a l t k d::H) =
 (fun (Z0:Nat×Blk)=>Tr.ite (ltI j (Int.ofNat l)) (Tr.req (roomO 0 1 8) (Tr.req (eqN 0 0) (Tr.req (leN 1 1) (Tr.ok (Ex.normal,[(2,AV.ptr 0 0 0 0,none),(5,AV.int .i64 h,none),(6,AV.ptr 0 1 0 0,none),(7,AV.int .i64 (addI .i64 j (Int.ofNat 1)),none)],{ lock:=false,bs:=[Z0,(0,Blk.row (Row.G [AV.slcT none (Row.M [Seg.arr .i64 t l]) 1 l false,AV.slc 0 3 0 0 1 1 none])),(0,Blk.row (Row.I .i64 [Int.ofNat 40])),(0,Blk.row (Row.M [Seg.arr .i64 (lstO [Int.ofNat 40]) 1]))] } :: H))))) (Tr.ok (Ex.exit 0,[(2,AV.ptr 0 0 0 0,none),(5,AV.int .i64 h,none),(6,AV.ptr 0 1 0 0,none),(7,AV.int .i64 j,none),(32,AV.bool false,some 1)],{ lock:=false,bs:=[Z0,(0,Blk.row (Row.G [AV.slcT none (Row.M [Seg.arr .i64 t l]) 1 l false,AV.nils]))] } :: H))) (0,Blk.row (Row.G [AV.slcT none (Row.M [Seg.arr .i64 t l]) 1 l false,AV.slcT none (Row.M [Seg.arr .i64 d k]) 1 k false])):=by kernel_rfl
theorem t10b (n l k v m:Nat) (t d y:Nat→Int) (h j:Int) (H:Heap):execT (cxD n 10 103) (il noCt n 0) noBT noRT (part Try.f10 [1,1,1,1,0,1,0,0]) (hints (fr10 h j)) (lv10b l t k d v m y::H) =
 (fun (Z0:Nat×Blk)=>Tr.ite (ltI j (Int.ofNat l)) (Tr.req (roomO m 1 8) (Tr.req (eqN 0 0) (Tr.req (leN 1 1) (Tr.req (eqN v v) (Tr.req (eqN (addO 0 m) m) (Tr.ok (Ex.normal,[(2,AV.ptr 0 0 0 0,none),(5,AV.int .i64 h,none),(6,AV.ptr 0 1 0 0,none),(7,AV.int .i64 (addI .i64 j (Int.ofNat 1)),none)],{ lock:=false,bs:=[Z0,(0,Blk.row (Row.G [AV.slcT none (Row.M [Seg.arr .i64 t l]) 1 l false,AV.slc 0 2 (Nat.succ v) 0 1 (addO m 1) none])),(Nat.succ v,Blk.row (Row.M [Seg.arr .i64 (appO (shO y 0) m (lstO [Int.ofNat 40])) (addO m 1)])),(0,Blk.row (Row.I .i64 [Int.ofNat 40]))] } :: H))))))) (Tr.req (eqN v v) (Tr.req (inO 0 m 0 m) (Tr.ok (Ex.exit 0,[(2,AV.ptr 0 0 0 0,none),(5,AV.int .i64 h,none),(6,AV.ptr 0 1 0 0,none),(7,AV.int .i64 j,none),(32,AV.bool false,some 1)],{ lock:=false,bs:=[Z0,(0,Blk.row (Row.G [AV.slcT none (Row.M [Seg.arr .i64 t l]) 1 l false,AV.slcT none (Row.M [Seg.arr .i64 (shO y 0) m]) 1 m false])),(v,Blk.dead)] } :: H))))) (0,Blk.row (Row.G [AV.slcT none (Row.M [Seg.arr .i64 t l]) 1 l false,AV.slcT none (Row.M [Seg.arr .i64 d k]) 1 k false])):=by kernel_rfl
theorem t10i (n L:Nat) (z:Nat→Int) (h x M k c i:Int) (G:Lvl) (H:Heap):execT (cxD n 10 103) (il noCt n 0) noBT noRT (part Try.f10 [1,1,1,1,1,1,1,1,1,1,0,1,0,0,1,0,0,1,0,1,0,0]) (hints (fr10i h x L z M k c i)) (G::H) =
 (fun (Z0:Nat×AV×Option Nat)=>Tr.ite (ltI i (Int.ofNat L)) (Tr.req (inI i L) (Tr.req (ltN (idO 0 i 1) L) (Tr.ite (ltI k (z (idO 0 i 1))) (Tr.ok (Ex.normal,[(5,AV.int .i64 h,none),(10,AV.int .i64 x,none),Z0,(13,AV.int .i64 M,none),(14,AV.int .i64 k,none),(15,AV.int .i64 (addI .i64 c (Int.ofNat 1)),none),(16,AV.int .i64 (addI .i64 i (Int.ofNat 1)),none)],G::H)) (Tr.ok (Ex.normal,[(5,AV.int .i64 h,none),(10,AV.int .i64 x,none),Z0,(13,AV.int .i64 M,none),(14,AV.int .i64 k,none),(15,AV.int .i64 c,none),(16,AV.int .i64 (addI .i64 i (Int.ofNat 1)),none)],G::H))))) (Tr.ok (Ex.exit 4,[(5,AV.int .i64 h,none),(10,AV.int .i64 x,none),Z0,(13,AV.int .i64 M,none),(14,AV.int .i64 k,none),(15,AV.int .i64 c,none),(16,AV.int .i64 i,none),(74,AV.bool false,some 1)],G::H))) (12,AV.slcT none (Row.M [Seg.arr .i64 z L]) 1 L false,none):=by kernel_rfl
theorem t10k (n L:Nat) (z:Nat→Int) (h x M k c:Int) (G:Lvl) (H:Heap):execT (cxD n 10 103) (il noCt n 0) (blkE noBT 4 (fr10i h x L z M k 0 0) (G::H) (.ok (.normal,hints (fr10i h x L z M k c (Int.ofNat L)++[(74,.bool false)]),G::H))) noRT (part Try.f10 [1,1,1,1,1,1,1,1,1,1,0,1,0,0]) (hints (fr10k h x L z M k)) (G::H) =
 (fun (Z0:Frm)=>((fun (Z1:Nat×AV×Option Nat)=>Tr.ite (ltI k (Int.ofNat L)) (Tr.reqP (Z0=Z0∧G::H=G::H) (Tr.ite (ltI (Int.ofNat 0) c) (Tr.req (notB (eqI h (Int.ofNat 0))) (Tr.ok (Ex.normal,[(5,AV.int .i64 h,none),(10,AV.int .i64 x,none),Z1,(13,AV.int .i64 (maxO M (addI .i64 k (quoI IntKind.i64 (subI .i64 (addI .i64 c h) (Int.ofNat 1)) h))),none),(14,AV.int .i64 (addI .i64 k (Int.ofNat 1)),none)],G::H))) (Tr.ok (Ex.normal,[(5,AV.int .i64 h,none),(10,AV.int .i64 x,none),Z1,(13,AV.int .i64 M,none),(14,AV.int .i64 (addI .i64 k (Int.ofNat 1)),none)],G::H)))) (Tr.ok (Ex.exit 2,[(5,AV.int .i64 h,none),(10,AV.int .i64 x,none),Z1,(13,AV.int .i64 M,none),(14,AV.int .i64 k,none),(68,AV.bool false,some 1)],G::H))) (12,AV.slcT none (Row.M [Seg.arr .i64 z L]) 1 L false,none))) [(5,AV.int .i64 h),(10,AV.int .i64 x),(12,AV.slcT none (Row.M [Seg.arr .i64 z L]) 1 L false),(13,AV.int .i64 M),(14,AV.int .i64 k),(15,AV.int .i64 (Int.ofNat 0)),(16,AV.int .i64 (Int.ofNat 0))]:=by kernel_rfl
theorem u10s (n l k:Nat) (t d:Nat→Int) (h:Int) (H:Heap):bodyT Try.prog (cd n) 100000 10 Try.f10 (KtL.kt 10) (il (ctG (tX noCt 43 [shA l t k d] (.bool false)) 16 g16) n 0) noBT noRT [(shA l t k d,none),(.int .u8 h,none)] H =
 (fun (Z0:List AV)=>Tr.reqP (Z0=Z0) (Tr.ite (notB false) (Tr.reqP True (Tr.ok ((AV.bool true,none),H))) (Tr.req (notB (eqI (Int.ofNat 10) (Int.ofNat 0))) (Tr.ite (ltI (Int.ofNat 0) (Int.ofNat l)) (Tr.req (roomO 0 1 8) (Tr.req (eqN 0 0) (Tr.req (leN 1 1) (Tr.ite (ltI (Int.ofNat 1) (Int.ofNat l)) (Tr.req (roomO 1 1 8) (Tr.req (eqN 0 0) (Tr.req (leN 1 1) (Tr.req (eqN 0 0) (Tr.req (eqN (addO 0 1) 1) (Tr.ite (ltI (Int.ofNat 2) (Int.ofNat l)) (Tr.req (roomO (addO 1 1) 1 8) (Tr.req (eqN 0 0) (Tr.req (leN 1 1) (Tr.req (eqN 1 1) (Tr.req (eqN (addO 0 (addO 1 1)) (addO 1 1)) (Tr.ite (ltI (Int.ofNat 3) (Int.ofNat l)) (Tr.req (roomO (addO (addO 1 1) 1) 1 8) (Tr.req (eqN 0 0) (Tr.req (leN 1 1) (Tr.req (eqN 2 2) (Tr.req (eqN (addO 0 (addO (addO 1 1) 1)) (addO (addO 1 1) 1)) (Tr.ite (ltI (Int.ofNat 4) (Int.ofNat l)) (Tr.req (roomO (addO (addO (addO 1 1) 1) 1) 1 8) (Tr.req (eqN 0 0) (Tr.req (leN 1 1) (Tr.req (eqN 3 3) (Tr.req (eqN (addO 0 (addO (addO (addO 1 1) 1) 1)) (addO (addO (addO 1 1) 1) 1)) (Tr.ite (ltI (Int.ofNat 5) (Int.ofNat l)) (Tr.req (roomO (addO (addO (addO (addO 1 1) 1) 1) 1) 1 8) (Tr.req (eqN 0 0) (Tr.req (leN 1 1) (Tr.req (eqN 4 4) (Tr.req (eqN (addO 0 (addO (addO (addO (addO 1 1) 1) 1) 1)) (addO (addO (addO (addO 1 1) 1) 1) 1)) (Tr.ite (ltI (Int.ofNat 6) (Int.ofNat l)) (Tr.req (roomO (addO (addO (addO (addO (addO 1 1) 1) 1) 1) 1) 1 8) (Tr.req (eqN 0 0) (Tr.req (leN 1 1) (Tr.req (eqN 5 5) (Tr.req (eqN (addO 0 (addO (addO (addO (addO (addO 1 1) 1) 1) 1) 1)) (addO (addO (addO (addO (addO 1 1) 1) 1) 1) 1)) (Tr.ite (ltI (Int.ofNat 7) (Int.ofNat l)) (Tr.req (roomO (addO (addO (addO (addO (addO (addO 1 1) 1) 1) 1) 1) 1) 1 8) (Tr.req (eqN 0 0) (Tr.req (leN 1 1) (Tr.req (eqN 6 6) (Tr.req (eqN (addO 0 (addO (addO (addO (addO (addO (addO 1 1) 1) 1) 1) 1) 1)) (addO (addO (addO (addO (addO (addO 1 1) 1) 1) 1) 1) 1)) (Tr.ite (ltI (Int.ofNat 8) (Int.ofNat l)) (Tr.req (roomO (addO (addO (addO (addO (addO (addO (addO 1 1) 1) 1) 1) 1) 1) 1) 1 8) (Tr.req (eqN 0 0) (Tr.req (leN 1 1) (Tr.req (eqN 7 7) (Tr.req (eqN (addO 0 (addO (addO (addO (addO (addO (addO (addO 1 1) 1) 1) 1) 1) 1) 1)) (addO (addO (addO (addO (addO (addO (addO 1 1) 1) 1) 1) 1) 1) 1)) (Tr.ite (ltI (Int.ofNat 9) (Int.ofNat l)) (Tr.req (roomO (addO (addO (addO (addO (addO (addO (addO (addO 1 1) 1) 1) 1) 1) 1) 1) 1) 1 8) (Tr.req (eqN 0 0) (Tr.req (leN 1 1) (Tr.req (eqN 8 8) (Tr.req (eqN (addO 0 (addO (addO (addO (addO (addO (addO (addO (addO 1 1) 1) 1) 1) 1) 1) 1) 1)) (addO (addO (addO (addO (addO (addO (addO (addO 1 1) 1) 1) 1) 1) 1) 1) 1)) (Tr.ite (ltI (Int.ofNat 10) (Int.ofNat l)) (Tr.req (roomO (addO (addO (addO (addO (addO (addO (addO (addO (addO 1 1) 1) 1) 1) 1) 1) 1) 1) 1) 1 8) (Tr.req (eqN 0 0) (Tr.req (leN 1 1) (Tr.req (eqN 9 9) (Tr.req (eqN (addO 0 (addO (addO (addO (addO (addO (addO (addO (addO (addO 1 1) 1) 1) 1) 1) 1) 1) 1) 1)) (addO (addO (addO (addO (addO (addO (addO (addO (addO 1 1) 1) 1) 1) 1) 1) 1) 1) 1)) (Tr.ite (ltI (Int.ofNat 11) (Int.ofNat l)) (Tr.req (roomO (addO (addO (addO (addO (addO (addO (addO (addO (addO (addO 1 1) 1) 1) 1) 1) 1) 1) 1) 1) 1) 1 8) (Tr.req (eqN 0 0) (Tr.req (leN 1 1) (Tr.req (eqN 10 10) (Tr.req (eqN (addO 0 (addO (addO (addO (addO (addO (addO (addO (addO (addO (addO 1 1) 1) 1) 1) 1) 1) 1) 1) 1) 1)) (addO (addO (addO (addO (addO (addO (addO (addO (addO (addO 1 1) 1) 1) 1) 1) 1) 1) 1) 1) 1)) Tr.bad))))) (Tr.req (eqN 10 10) (Tr.req (inO 0 (addO (addO (addO (addO (addO (addO (addO (addO (addO (addO 1 1) 1) 1) 1) 1) 1) 1) 1) 1) 1) 0 (addO (addO (addO (addO (addO (addO (addO (addO (addO (addO 1 1) 1) 1) 1) 1) 1) 1) 1) 1) 1)) Tr.bad)))))))) (Tr.req (eqN 9 9) (Tr.req (inO 0 (addO (addO (addO (addO (addO (addO (addO (addO (addO 1 1) 1) 1) 1) 1) 1) 1) 1) 1) 0 (addO (addO (addO (addO (addO (addO (addO (addO (addO 1 1) 1) 1) 1) 1) 1) 1) 1) 1)) Tr.bad)))))))) (Tr.req (eqN 8 8) (Tr.req (inO 0 (addO (addO (addO (addO (addO (addO (addO (addO 1 1) 1) 1) 1) 1) 1) 1) 1) 0 (addO (addO (addO (addO (addO (addO (addO (addO 1 1) 1) 1) 1) 1) 1) 1) 1)) Tr.bad)))))))) (Tr.req (eqN 7 7) (Tr.req (inO 0 (addO (addO (addO (addO (addO (addO (addO 1 1) 1) 1) 1) 1) 1) 1) 0 (addO (addO (addO (addO (addO (addO (addO 1 1) 1) 1) 1) 1) 1) 1)) Tr.bad)))))))) (Tr.req (eqN 6 6) (Tr.req (inO 0 (addO (addO (addO (addO (addO (addO 1 1) 1) 1) 1) 1) 1) 0 (addO (addO (addO (addO (addO (addO 1 1) 1) 1) 1) 1) 1)) Tr.bad)))))))) (Tr.req (eqN 5 5) (Tr.req (inO 0 (addO (addO (addO (addO (addO 1 1) 1) 1) 1) 1) 0 (addO (addO (addO (addO (addO 1 1) 1) 1) 1) 1)) Tr.bad)))))))) (Tr.req (eqN 4 4) (Tr.req (inO 0 (addO (addO (addO (addO 1 1) 1) 1) 1) 0 (addO (addO (addO (addO 1 1) 1) 1) 1)) Tr.bad)))))))) (Tr.req (eqN 3 3) (Tr.req (inO 0 (addO (addO (addO 1 1) 1) 1) 0 (addO (addO (addO 1 1) 1) 1)) Tr.bad)))))))) (Tr.req (eqN 2 2) (Tr.req (inO 0 (addO (addO 1 1) 1) 0 (addO (addO 1 1) 1)) Tr.bad)))))))) (Tr.req (eqN 1 1) (Tr.req (inO 0 (addO 1 1) 0 (addO 1 1)) Tr.bad)))))))) (Tr.req (eqN 0 0) (Tr.req (inO 0 1 0 1) Tr.bad)))))) Tr.bad)))) [AV.agg (Row.G [AV.slcT none (Row.M [Seg.arr .i64 t l]) 1 l false,AV.slcT none (Row.M [Seg.arr .i64 d k]) 1 k false])]:=by kernel_rfl
theorem u10 (n l k q:Nat) (t d y z:Nat→Int) (I:Nat→(Nat→Int)→Nat→(Nat→Int)→Bool) (h h' x M:Int) (H:Heap):bodyT Try.prog (cd n) 100000 10 Try.f10 (KtL.kt 10) (il (ctG (ctG (tX (tX (tX (tX noCt 43 [shA l t k d] (.bool true)) 17 [shA l t (q+1) y] (.tup [sl1 (q+1) z false,.int .i64 0])) 36 [shA l t (q+1) y,.int .i64 h'] (.tup [.int .i64 x,.int .i64 0])) 46 [shA l t (q+1) y] (sl1 (q+1) z false)) 23 (g23 I)) 16 g16) n 0) (blkE (blkE noBT 2 (fr10k h' x (q+1) z 0 0) (lv10z l t k d q (q+1) y::H) (.ok (.normal,hints (fr10k h' x (q+1) z M (Int.ofNat (q+1))++[(68,.bool false)]),lv10z l t k d q (q+1) y::H))) 0 (fr10 h' 0) (lv10a l t k d::H) (.ok (.normal,hints (fr10 h' (Int.ofNat l)++[(32,.bool false)]),lv10z l t k d q (q+1) y::H))) noRT [(shA l t k d,none),(.int .u8 h,none)] H =
 (fun (Z0:Row)=>((fun (Z1:Row)=>((fun (Z2:Frm)=>((fun (Z3:Lvl)=>Tr.reqP ([AV.agg Z1]=[AV.agg Z1]) (Tr.ite (notB true) (Tr.reqP True (Tr.ok ((AV.bool true,none),H))) (Tr.req (notB (eqI (Int.ofNat 10) (Int.ofNat 0))) (Tr.reqP ([(2,AV.ptr 0 0 0 0),(5,AV.int .i64 (addI .i64 (Int.ofNat 1) (remI IntKind.i64 (wrI IntKind.i64 h) (Int.ofNat 10)))),(6,AV.ptr 0 1 0 0),(7,AV.int .i64 (Int.ofNat 0))]=[(2,AV.ptr 0 0 0 0),(5,AV.int .i64 h'),(6,AV.ptr 0 1 0 0),(7,AV.int .i64 (Int.ofNat 0))]∧Z3::H=Z3::H) (Tr.reqP ([AV.agg Z0]=[AV.agg Z0]) (Tr.reqP ([AV.agg Z0,AV.int .i64 h']=[AV.agg Z0,AV.int .i64 h']) (Tr.reqP ([AV.agg Z0]=[AV.agg Z0]) (Tr.ite (notB (eqI (Int.ofNat 0) (Int.ofNat 0))) (Tr.ok ((AV.bool false,some 1),H)) (Tr.ite (notB (eqI (Int.ofNat 0) (Int.ofNat 0))) (Tr.ok ((AV.bool false,some 1),H)) (Tr.reqP ((Nat.succ q=Nat.succ q∧Nat.succ q=Nat.succ q)∧Nat.le (q+1) 1000) (Tr.ite (notB (I (Nat.succ q) z (Nat.succ q) z)) (Tr.ok ((AV.bool false,some 1),H)) (Tr.reqP (Z2=Z2∧{ lock:=false,bs:=[(0,Blk.row Z1),(0,Blk.row Z0),(q,Blk.dead)] } :: H={ lock:=false,bs:=[(0,Blk.row Z1),(0,Blk.row Z0),(q,Blk.dead)] } :: H) (Tr.ite (eqI x M) (Tr.reqP True (Tr.ok ((AV.bool true,none),H))) (Tr.ok ((AV.bool false,some 1),H))))))))))))))) { lock:=false,bs:=[(0,Blk.row Z1),(0,Blk.row (Row.G [AV.slcT none (Row.M [Seg.arr .i64 t l]) 1 l false,AV.nils]))] })) [(5,AV.int .i64 h'),(10,AV.int .i64 x),(12,AV.slcT none (Row.M [Seg.arr .i64 z (Nat.succ q)]) 1 (Nat.succ q) false),(13,AV.int .i64 (Int.ofNat 0)),(14,AV.int .i64 (Int.ofNat 0))])) (Row.G [AV.slcT none (Row.M [Seg.arr .i64 t l]) 1 l false,AV.slcT none (Row.M [Seg.arr .i64 d k]) 1 k false]))) (Row.G [AV.slcT none (Row.M [Seg.arr .i64 t l]) 1 l false,AV.slcT none (Row.M [Seg.arr .i64 y (Nat.succ q)]) 1 (Nat.succ q) false]):=by kernel_rfl
theorem b10:∀ b,(0,b) ∈ blocksOf (bodyOf Try.f10)→b=.loop (part Try.f10 [1,1,1,1,0,1,0,0]):=by
 have:((blocksOf (bodyOf Try.f10)).filter fun x=>Nat.beq x.1 0)=[(0,.loop (part Try.f10 [1,1,1,1,0,1,0,0]))]:=by kernel_rfl
 intro b hb
 have hm:(0,b) ∈ ((blocksOf (bodyOf Try.f10)).filter fun x=>Nat.beq x.1 0):=List.mem_filter.2 ⟨hb,rfl⟩
 rw[this] at hm;simpa using hm
theorem b10k:∀ b,(2,b) ∈ blocksOf (bodyOf Try.f10)→b=.loop (part Try.f10 [1,1,1,1,1,1,1,1,1,1,0,1,0,0]):=by
 have:((blocksOf (bodyOf Try.f10)).filter fun x=>Nat.beq x.1 2)=[(2,.loop (part Try.f10 [1,1,1,1,1,1,1,1,1,1,0,1,0,0]))]:=by kernel_rfl
 intro b hb
 have hm:(2,b) ∈ ((blocksOf (bodyOf Try.f10)).filter fun x=>Nat.beq x.1 2):=List.mem_filter.2 ⟨hb,rfl⟩
 rw[this] at hm;simpa using hm
theorem b10i:∀ b,(4,b) ∈ blocksOf (part Try.f10 [1,1,1,1,1,1,1,1,1,1,0,1,0,0])→b=.loop (part Try.f10 [1,1,1,1,1,1,1,1,1,1,0,1,0,0,1,0,0,1,0,1,0,0]):=by
 have:((blocksOf (part Try.f10 [1,1,1,1,1,1,1,1,1,1,0,1,0,0])).filter fun x=>Nat.beq x.1 4)=[(4,.loop (part Try.f10 [1,1,1,1,1,1,1,1,1,1,0,1,0,0,1,0,0,1,0,1,0,0]))]:=by kernel_rfl
 intro b hb
 have hm:(4,b) ∈ ((blocksOf (part Try.f10 [1,1,1,1,1,1,1,1,1,1,0,1,0,0])).filter fun x=>Nat.beq x.1 4):=List.mem_filter.2 ⟨hb,rfl⟩
 rw[this] at hm;simpa using hm
def d40V:Nat→Int:=fun _=>40
section
variable (n l k:Nat) (t d:Nat→Int) (H:Heap)
theorem l10 (h:Int) (q:Nat) (hl:l=q+1) (hl2:l≤1000):exec (cxD n 10 103) (.block 0 (.loop (part Try.f10 [1,1,1,1,0,1,0,0]))) (fr10 h 0) (lv10a l t k d::H)=some (.normal,fr10 h (Int.ofNat l)++[(32,.bool false)],lv10z l t k d q (q+1) (lstO (faN d40V (q+1)))::H):=by
 refine forX (n:=n) (f:=10) (nt:=103) (c:=part Try.f10 [1,1,1,1,0,1,0,0]) 0 (fun j=>fr10 h (j:Nat)) (fun j=>(match j with
  | 0=>lv10a l t k d
  | p+1=>lv10b l t k d p (p+1) (lstO (faN d40V (p+1))):Lvl)::H) l _ (by omega) (fun j hj=>?_) ?_
 · cases j with
   | zero =>
     refine ex_all (t10a n l k t d h (0:Nat) H) (il_no0 n) (noBT_ok _ _) (noRT_ok _ _) ?_
     show Tr.all _ (fun x=>_∧tidy _ _ _=(fr10 h ((0+1:Nat):Int),lv10b l t k d 0 1 (lstO [40])::H))
     rw[cs64 (j:=0) (by omega)]
     repeat' first | (refine Tr.all_ite (fun hc=>?_) (fun hc=>?_)<;>(try simp (disch:=omega) only[nV,nW] at hc)<;>try omega) | (refine Tr.all_req ?_ ?_;· (try simp (disch:=omega) only[nV,nW]);try omega) | (refine Tr.all_reqP ?_ ?_;· first | exact trivial | rfl | exact ⟨rfl,rfl⟩ | exact ⟨rfl,rfl,rfl⟩ | (simp (disch:=omega) only[nV,nW];done) | ((try simp (disch:=omega) only[nV,nW]);omega)) | fail
     all_goals first
      | exact Tr.all_ok ⟨rfl,rfl⟩
      | fail
   | succ j =>
     refine ex_all (t10b n l k j (j+1) t d (lstO (faN d40V (j+1))) h (j+1:Nat) H) (il_no0 n) (noBT_ok _ _) (noRT_ok _ _) ?_
     show Tr.all _ (fun x=>_∧tidy _ _ _=(fr10 h ((j+1+1:Nat):Int),lv10b l t k d (j+1) (j+1+1) (lstO (faN d40V (j+1+1)))::H))
     have hap:appO (shO (lstO (faN d40V (j+1))) 0) (j+1) (lstO [Int.ofNat 40])=lstO (faN d40V (j+1+1)):=faN_app d40V (j+1)
     have ea:addO (j+1) 1=j+1+1:=addO_eq _ _
     rw[cs64 (j:=j+1) (by omega),hap,ea]
     generalize lstO (faN d40V (j+1+1))=Y2 at *
     generalize lstO (faN d40V (j+1))=Y at *
     repeat' first | (refine Tr.all_ite (fun hc=>?_) (fun hc=>?_)<;>(try simp (disch:=omega) only[nV,nW] at hc)<;>try omega) | (refine Tr.all_req ?_ ?_;· (try simp (disch:=omega) only[nV,nW]);try omega) | (refine Tr.all_reqP ?_ ?_;· first | exact trivial | rfl | exact ⟨rfl,rfl⟩ | exact ⟨rfl,rfl,rfl⟩ | (simp (disch:=omega) only[nV,nW];done) | ((try simp (disch:=omega) only[nV,nW]);omega)) | fail
     all_goals first
      | exact Tr.all_ok ⟨rfl,rfl⟩
      | fail
 · subst hl
   obtain ⟨x,h1,rfl⟩:=ex_all (Q:=fun x=>x=(.exit 0,fr10 h (Int.ofNat (q+1))++[(32,.bool false)],lv10z (q+1) t k d q (q+1) (lstO (faN d40V (q+1)))::H)) (t10b n (q+1) k q (q+1) t d (lstO (faN d40V (q+1))) h (Int.ofNat (q+1)) H) (il_no0 n) (noBT_ok _ _) (noRT_ok _ _) (by
    rw[shO_zero]
    refine Tr.all_ite (fun hc=>?_) (fun hc=>?_)
    · simp (disch:=omega) only[nV,nW] at hc;omega
    repeat' first | (refine Tr.all_ite (fun hc=>?_) (fun hc=>?_)<;>(try simp (disch:=omega) only[nV,nW] at hc)<;>try omega) | (refine Tr.all_req ?_ ?_;· (try simp (disch:=omega) only[nV,nW]);try omega) | (refine Tr.all_reqP ?_ ?_;· first | exact trivial | rfl | exact ⟨rfl,rfl⟩ | exact ⟨rfl,rfl,rfl⟩ | (simp (disch:=omega) only[nV,nW];done) | ((try simp (disch:=omega) only[nV,nW]);omega)) | fail
    all_goals first
     | exact Tr.all_ok rfl
     | fail)
   exact h1
theorem l10i (L:Nat) (z:Nat→Int) (h x M kk:Int) (v m:Nat) (y:Nat→Int) (hL:L≤1000):exec (cxD n 10 103) (.block 4 (.loop (part Try.f10 [1,1,1,1,1,1,1,1,1,1,0,1,0,0,1,0,0,1,0,1,0,0]))) (fr10i h x L z M kk 0 0) (lv10z l t k d v m y::H)=some (.normal,fr10i h x L z M kk (cn (fun i=>decide (kk<z i)) L:Nat) (Int.ofNat L)++[(74,.bool false)],lv10z l t k d v m y::H):=by
 refine forX (n:=n) (f:=10) (nt:=103) (c:=part Try.f10 [1,1,1,1,1,1,1,1,1,1,0,1,0,0,1,0,0,1,0,1,0,0]) 4 (fun j=>fr10i h x L z M kk (cn (fun i=>decide (kk<z i)) j:Nat) (j:Nat)) (fun _=>lv10z l t k d v m y::H) L _ (by omega) (fun j hj=>?_) ?_
 · refine ex_all (t10i n L z h x M kk (cn (fun i=>decide (kk<z i)) j:Nat) (j:Nat) (lv10z l t k d v m y) H) (il_no0 n) (noBT_ok _ _) (noRT_ok _ _) ?_
   have hle:=cn_le (fun i=>decide (kk<z i)) j
   show Tr.all _ (fun r=>_∧tidy _ _ _=(fr10i h x L z M kk ((cn (fun i=>decide (kk<z i)) j+(decide (kk<z j)).toNat:Nat):Int) ((j+1:Nat):Int),_))
   rw[cs64 (j:=j) (by omega),cs64 (by omega)]
   simp only[id1]
   generalize cn (fun i=>decide (kk<z i)) j=C at *
   generalize z j=q at *
   by_cases c:kk<q
   · rw[decide_eq_true c]
     repeat' first | (refine Tr.all_ite (fun hc=>?_) (fun hc=>?_)<;>(try simp (disch:=omega) only[nV,nW] at hc)<;>try omega) | (refine Tr.all_req ?_ ?_;· (try simp (disch:=omega) only[nV,nW]);try omega) | (refine Tr.all_reqP ?_ ?_;· first | exact trivial | rfl | exact ⟨rfl,rfl⟩ | exact ⟨rfl,rfl,rfl⟩ | (simp (disch:=omega) only[nV,nW];done) | ((try simp (disch:=omega) only[nV,nW]);omega)) | fail
     all_goals first
      | exact Tr.all_ok ⟨rfl,rfl⟩
      | fail
   · rw[decide_eq_false c]
     repeat' first | (refine Tr.all_ite (fun hc=>?_) (fun hc=>?_)<;>(try simp (disch:=omega) only[nV,nW] at hc)<;>try omega) | (refine Tr.all_req ?_ ?_;· (try simp (disch:=omega) only[nV,nW]);try omega) | (refine Tr.all_reqP ?_ ?_;· first | exact trivial | rfl | exact ⟨rfl,rfl⟩ | exact ⟨rfl,rfl,rfl⟩ | (simp (disch:=omega) only[nV,nW];done) | ((try simp (disch:=omega) only[nV,nW]);omega)) | fail
     all_goals first
      | exact Tr.all_ok ⟨rfl,rfl⟩
      | fail
 · exact ex_off (t10i n L z h x M kk (cn (fun i=>decide (kk<z i)) L:Nat) (Int.ofNat L) (lv10z l t k d v m y) H) (il_no0 n) (noBT_ok _ _) (noRT_ok _ _) (by first | (simp (disch:=omega) only[nV,nW];done) | (simp (disch:=omega) only[nV,nW];omega))
theorem l10k (z:Nat→Int) (L:Nat) (h x:Int) (v m:Nat) (y:Nat→Int) (hL:L≤1000) (h1:1≤h) (h2:h≤1000) (hz:∀ i,i<L→z i=(lvN L t i:Nat)):exec (cxD n 10 103) (.block 2 (.loop (part Try.f10 [1,1,1,1,1,1,1,1,1,1,0,1,0,0]))) (fr10k h x L z 0 0) (lv10z l t k d v m y::H)=some (.normal,fr10k h x L z (moF L t h L) (Int.ofNat L)++[(68,.bool false)],lv10z l t k d v m y::H):=by
 refine forX (n:=n) (f:=10) (nt:=103) (c:=part Try.f10 [1,1,1,1,1,1,1,1,1,1,0,1,0,0]) 2 (fun j=>fr10k h x L z (moF L t h j) (j:Nat)) (fun _=>lv10z l t k d v m y::H) L _ (by omega) (fun j hj=>?_) ?_
 · have hx:=l10i n l k t d H L z h x (moF L t h j) (j:Nat) v m y hL
   have hab:cn (fun i=>decide (((j:Nat):Int)<z i)) L=abN L t (j:Nat):=cn_congr (fun i hi=>by rw[hz i hi])
   rw[hab] at hx
   refine ex_all (t10k n L z h x (moF L t h j) (j:Nat) (abN L t (j:Nat):Nat) (lv10z l t k d v m y) H) (il_no0 n) (blkE_ok (noBT_ok _ _) b10i (fun x hy=>blk_ok hy hx)) (noRT_ok _ _) ?_
   have hm:moF L t h (j+1)=if 0<abN L t (j:Nat) then max (moF L t h j) ((j:Int)+((abN L t (j:Nat):Int)+h-1).tdiv h) else moF L t h j:=rfl
   have hc:abN L t (j:Nat)≤L:=cn_le _ _
   show Tr.all _ (fun r=>_∧tidy _ _ _=(fr10k h x L z (moF L t h (j+1)) ((j+1:Nat):Int),_))
   rw[hm]
   generalize abN L t (j:Nat)=C at *
   have e1:addI .i64 (C:Nat) h=(C:Int)+h:=ad64 (by omega) (by omega)
   have e2:subI .i64 ((C:Int)+h) (Int.ofNat 1)=(C:Int)+h-1:=sb64 (by show _≤(C:Int)+h-1;omega) (by show (C:Int)+h-1≤_;omega)
   have hd:0≤((C:Int)+h-1).tdiv h∧((C:Int)+h-1).tdiv h≤(C:Int)+h-1:=by
    rw[Int.tdiv_eq_ediv_of_nonneg (by omega)]
    exact ⟨Int.ediv_nonneg (by omega) (by omega),Int.ediv_le_self _ (by omega)⟩
   have e3:quoI .i64 ((C:Int)+h-1) h=((C:Int)+h-1).tdiv h:=by rw[quoI_eq];exact wr_64 (by omega) (by omega)
   have e4:addI .i64 (j:Nat) (((C:Int)+h-1).tdiv h)=(j:Int)+((C:Int)+h-1).tdiv h:=ad64 (by omega) (by omega)
   rw[cs64 (j:=j) (by omega),e1,e2,e3,e4,maxO_max]
   by_cases c:0<C
   · rw[if_pos c]
     generalize max (moF L t h j) _=M2 at *
     generalize moF L t h j=M at *
     repeat' first | (refine Tr.all_ite (fun hc=>?_) (fun hc=>?_)<;>(try simp (disch:=omega) only[nV,nW] at hc)<;>try omega) | (refine Tr.all_req ?_ ?_;· (try simp (disch:=omega) only[nV,nW]);try omega) | (refine Tr.all_reqP ?_ ?_;· first | exact trivial | rfl | exact ⟨rfl,rfl⟩ | exact ⟨rfl,rfl,rfl⟩ | (simp (disch:=omega) only[nV,nW];done) | ((try simp (disch:=omega) only[nV,nW]);omega)) | fail
     all_goals first
      | exact Tr.all_ok ⟨rfl,rfl⟩
      | fail
   · rw[if_neg c]
     generalize max (moF L t h j) _=M2 at *
     generalize moF L t h j=M at *
     repeat' first | (refine Tr.all_ite (fun hc=>?_) (fun hc=>?_)<;>(try simp (disch:=omega) only[nV,nW] at hc)<;>try omega) | (refine Tr.all_req ?_ ?_;· (try simp (disch:=omega) only[nV,nW]);try omega) | (refine Tr.all_reqP ?_ ?_;· first | exact trivial | rfl | exact ⟨rfl,rfl⟩ | exact ⟨rfl,rfl,rfl⟩ | (simp (disch:=omega) only[nV,nW];done) | ((try simp (disch:=omega) only[nV,nW]);omega)) | fail
     all_goals first
      | exact Tr.all_ok ⟨rfl,rfl⟩
      | fail
 · exact ex_off (t10k n L z h x (moF L t h L) (Int.ofNat L) (cn (fun i=>decide ((Int.ofNat L)<z i)) L:Nat) (lv10z l t k d v m y) H) (il_no0 n) (blkE_ok (noBT_ok _ _) b10i (fun r hy=>blk_ok hy (l10i n l k t d H L z h x (moF L t h L) (Int.ofNat L) v m y hL))) (noRT_ok _ _) (by first | (simp (disch:=omega) only[nV,nW];done) | (simp (disch:=omega) only[nV,nW];omega))
theorem sh_40 {l k:Nat} {t d:Nat→Int} (hs:Sh l t k d):Sh l t l (lstO (faN d40V l)):=by
 have hv:∀ j,j<l→lstO (faN d40V l) j=40:=fun j hj=>faN_at d40V hj
 exact ⟨hs.l1,hs.l30,rfl,hs.tl,hs.tm,hs.tj,fun j hj=>by rw[hv j hj];omega,fun j hj=>by rw[hv j hj];omega,hs.cyc⟩
theorem c10 (h:Int) (hh:0≤h∧h≤255):cd (n+14) (.fn 10) [shA l t k d,.int .u8 h] H=some (.bool true,H):=by
 by_cases he:shE l t k d=0
 · have hs:=sh_of he
   have hl1:=hs.l1
   have hl2:=hs.l30
   have h43:∀ H,cd (n+13) (.fn 43) [shA l t k d] H=some (.bool true,H):=fun H=>by rw[c43 (n+10),decide_eq_true he]
   have m1:h.tmod 10=h % 10:=Int.tmod_eq_emod_of_nonneg hh.1
   have b1:=Int.emod_nonneg h (show (10:Int)≠0 by omega)
   have b2:=Int.emod_lt_of_pos h (show (0:Int)<10 by omega)
   obtain ⟨h',hh'⟩:∃ h',1+h % 10=h':=⟨_,rfl⟩
   have e1:addI .i64 (Int.ofNat 1) (remI .i64 (wrI .i64 h) (Int.ofNat 10))=h':=by
    rw[wr_64' (by omega) (by omega),remI_eq,show Int.ofNat 10=10 from rfl,m1,show Int.ofNat 1=1 from rfl,ad64 (by omega) (by omega),hh']
   obtain ⟨q,rfl⟩:∃ q,l=q+1:=⟨l-1,by omega⟩
   have sx:=sh_40 hs
   have ha:=ask_to sx (h:=h') (by omega) (by omega)
   obtain ⟨r1,r2⟩:=tr_const (l:=q+1) (t:=t) (hh:=h') (d:=lstO (faN d40V (q+1))) hs.fw (by omega) (by omega) (fun j hj=>faN_at d40V hj)
   have hn:needE (q+1) (q+1) t (lstO (faN d40V (q+1))) h'=0:=by unfold needE;rw[if_pos ha,if_pos r1]
   have h17:∀ H,cd (n+13) (.fn 17) [shA (q+1) t (q+1) (lstO (faN d40V (q+1)))] H=some (.tup [sl1 (q+1) (lstO (lsN (q+1) t (q+1))) false,.int .i64 0],H):=fun H=>by
    rw[c17 (n+4)];unfold lvA;rw[if_pos (sh_to sx),dA_sl _ q (lsN_len _ _ _)]
   have h36:∀ H,cd (n+13) (.fn 36) [shA (q+1) t (q+1) (lstO (faN d40V (q+1))),.int .i64 h'] H=some (.tup [.int .i64 (moF (q+1) t h' (q+1)),.int .i64 0],H):=fun H=>by
    rw[c36 (n+1)];unfold trA;rw[if_pos hn,r2]
   have h46:∀ H,cd (n+13) (.fn 46) [shA (q+1) t (q+1) (lstO (faN d40V (q+1)))] H=some (sl1 (q+1) (lstO (lsN (q+1) t (q+1))) false,H):=fun H=>c46 (n+12) (q+1) (q+1) t _ H sx.fw (by omega)
   have hx0:=l10 (n+13) (q+1) k t d H h' q rfl (by omega)
   have hx2:=l10k (n+13) (q+1) k t d H (lstO (lsN (q+1) t (q+1))) (q+1) h' (moF (q+1) t h' (q+1)) q (q+1) (lstO (faN d40V (q+1))) (by omega) (by omega) (by omega) (fun i hi=>faN_at (fun i=>(lvN (q+1) t i:Int)) hi)
   refine fn_all (n:=n+13) Try.func10 rfl rfl rfl (u10 (n+13) (q+1) k q t d (lstO (faN d40V (q+1))) (lstO (lsN (q+1) t (q+1))) inB h h' (moF (q+1) t h' (q+1)) (moF (q+1) t h' (q+1)) H) (il_ok0 _ (n+13) (ctW (by omega) (g23_ok (c:=n+12) (tX_ok (tX_ok (tX_ok (tX_ok (noCt_ok _) h43) h17) h36) h46)))) (blkE_ok (blkE_ok (noBT_ok _ _) b10k (fun x hy=>blk_ok hy hx2)) b10 (fun x hy=>blk_ok hy hx0)) (noRT_ok _ _) ?_
   have i1:inB (q+1) (lstO (lsN (q+1) t (q+1))) (q+1) (lstO (lsN (q+1) t (q+1)))=true:=(inB_iff _ _ _ _).2 ⟨rfl,fun j hj=>rfl⟩
   have hq:(Nat.le (q+1) 1000)=True:=eq_true (by omega:q+1≤1000)
   simp only[e1,show Nat.succ q=q+1 from rfl,i1,hq]
   generalize moF (q+1) t h' (q+1)=M at *
   generalize lstO (lsN (q+1) t (q+1))=Z at *
   generalize lstO (faN d40V (q+1))=Y at *
   repeat' first | (refine Tr.all_ite (fun hc=>?_) (fun hc=>?_)<;>(try simp (disch:=omega) only[nV,nW] at hc)<;>try omega) | (refine Tr.all_req ?_ ?_;· (try simp (disch:=omega) only[nV,nW]);try omega) | (refine Tr.all_reqP ?_ ?_;· first | exact trivial | rfl | exact ⟨rfl,rfl⟩ | exact ⟨rfl,rfl,rfl⟩ | (simp (disch:=omega) only[nV,nW];done) | ((try simp (disch:=omega) only[nV,nW]);omega)) | fail
   all_goals first
    | exact Tr.all_ok ⟨rfl,rfl⟩
    | fail
 · have h43:∀ H,cd (n+13) (.fn 43) [shA l t k d] H=some (.bool false,H):=fun H=>by rw[c43 (n+10),decide_eq_false he]
   refine fn_all (n:=n+13) Try.func10 rfl rfl rfl (u10s (n+13) l k t d h H) (il_ok0 _ (n+13) (ctW (by omega) (tX_ok (noCt_ok _) h43))) (noBT_ok _ _) (noRT_ok _ _) ?_
   repeat' first | (refine Tr.all_ite (fun hc=>?_) (fun hc=>?_)<;>(try simp (disch:=omega) only[nV,nW] at hc)<;>try omega) | (refine Tr.all_req ?_ ?_;· (try simp (disch:=omega) only[nV,nW]);try omega) | (refine Tr.all_reqP ?_ ?_;· first | exact trivial | rfl | exact ⟨rfl,rfl⟩ | exact ⟨rfl,rfl,rfl⟩ | (simp (disch:=omega) only[nV,nW];done) | ((try simp (disch:=omega) only[nV,nW]);omega)) | fail
   all_goals first
    | exact Tr.all_ok ⟨rfl,rfl⟩
    | fail
end
end Go.Eng
end
section
namespace Go.Proofs.Ytoomemfhcbajoaa.Known
open Go.Eng Go.Proofs
set_option maxRecDepth 100000
theorem named:Named Try.prog:=by
 have h:(Try.prog.funcs.toList.all fun fn=>fn.body.isNone || !(fn.name == "runtime.NumGoroutine"))=true:=by kernel_rfl
 intro f fn hf hb
 have:=List.all_eq_true.1 h fn (by simpa using Array.mem_of_getElem? hf)
 rw[hb] at this
 simpa using this
theorem mixed:Try.prog.follows .mixedOrders=true:=by kernel_rfl
theorem none_ok:∀ e ∈ ([]:List Ora),OneOk Try.prog e:=fun e h=>by cases h
theorem cons_ok {e:Ora} {t:List Ora} (h:OneOk Try.prog e) (k:∀ x ∈ t,OneOk Try.prog x):∀ x ∈ e::t,OneOk Try.prog x:=fun x hx=>by
 rcases List.mem_cons.1 hx with rfl | hx
 · exact h
 · exact k x hx
def tab0:List Ora:=[]
theorem tab0_ok:∀ e ∈ tab0,OneOk Try.prog e:=none_ok
def navB:List Nat→Code→Code
 | [],c=>c
 | x :: p,c=>match c with
   | .seq a b=>match x with
     | 0=>navB p a
     | _=>navB p b
   | .cond _ a b=>match x with
     | 0=>navB p a
     | _=>navB p b
   | .block _ b=>navB p b
   | .loop b=>navB p b
   | .scope b=>navB p b
   | .rangeFunc _ _ a b=>match x with
     | 0=>navB p a
     | _=>navB p b
   | c=>c
def opsB:Code→Array Oper
 | .region _ ops _=>ops
 | _=>#[]
noncomputable def bd90:Code:=Try.f90.body.getD .skip
def hdO (l:List Oper):Oper:=l.headD { dst:=none,op:=.move (.tmp 0),type:=0,pos := "",after:=#[],guard:=none }
noncomputable def pickS:RStart:={ id0:=3,ops0:=opsB (navB [1,1,1,0,0] bd90),pre:=(opsB (navB [1,1,1,0,0] bd90)).toList.take 1,ro:=hdO ((opsB (navB [1,1,1,0,0] bd90)).toList.drop 1),m:=9,ty:=95 }
noncomputable def pickL:RLoop:={ out:=0,id1:=4,id2:=5,nxt:=1,ops1:=opsB (navB [1,1,1,0,1,0,0,0] bd90),ops2:=opsB (navB [1,1,1,0,1,0,0,1,1,0,0] bd90),no:=hdO (opsB (navB [1,1,1,0,1,0,0,0] bd90)).toList,eo:=hdO (opsB (navB [1,1,1,0,1,0,0,1,1,0,0] bd90)).toList,t1:=(opsB (navB [1,1,1,0,1,0,0,0] bd90)).toList.tail,t2:=(opsB (navB [1,1,1,0,1,0,0,1,1,0,0] bd90)).toList.tail,it:=10,nx:=11,mo:=12,en:=13,rest:=navB [1,1,1,0,1,0,0,1,1,0,1] bd90,km:=16775424 }
noncomputable def pick:RFun:={ f:=90,pre:=[navB [0] bd90,navB [1,0] bd90,navB [1,1,0] bd90],S:=pickS,L:=pickL,suf:=navB [1,1,1,1] bd90 }
theorem pick_b:Try.f90.body=some (assemble pick.pre (pickS.code pickL) pick.suf):=by kernel_rfl
theorem pick_l0:pickS.ops0.toList=pickS.pre++[pickS.ro]:=by kernel_rfl
theorem pick_o0:pickS.ro.op=.range pickS.ty (.tmp pickS.m):=by kernel_rfl
theorem pick_d0:pickS.ro.dst=some pickL.it:=by kernel_rfl
theorem pick_g0:pickS.ro.guard=none:=by kernel_rfl
theorem pick_l1:pickL.ops1.toList=pickL.no::pickL.t1:=by kernel_rfl
theorem pick_o1:pickL.no.op=.next (.tmp pickL.it) false:=by kernel_rfl
theorem pick_d1:pickL.no.dst=some pickL.nx:=by kernel_rfl
theorem pick_g1:pickL.no.guard=none:=by kernel_rfl
theorem pick_l2:pickL.ops2.toList=pickL.eo::pickL.t2:=by kernel_rfl
theorem pick_o2:pickL.eo.op=.entry (.tmp pickL.it):=by kernel_rfl
theorem pick_d2:pickL.eo.dst=some pickL.en:=by kernel_rfl
theorem pick_g2:pickL.eo.guard=none:=by kernel_rfl
theorem pick_ok:pick.Ok Try.prog:=⟨⟨Try.f90,Try.func90,pick_b⟩,⟨pick_l0,pick_o0,pick_d0,pick_g0,⟨_,_,Try.underlying95⟩⟩,⟨pick_l1,pick_o1,pick_d1,pick_g1,pick_l2,pick_o2,pick_d2,pick_g2⟩⟩
noncomputable def rs:List RFun:=[pick]
theorem rs_ok:∀ r ∈ rs,r.Ok Try.prog:=fun r h=>by
 rcases List.mem_cons.1 h with rfl | h
 · exact pick_ok
 · cases h
end Go.Proofs.Ytoomemfhcbajoaa.Known
end
section
namespace Go.Proofs.Ytoomemfhcbajoaa.Known
open Go.Eng Go.Proofs
set_option maxRecDepth 100000
noncomputable def E1:Ora:=⟨50,[.int .i64 5],.agg (.G [.slcT none (.I .i64 [2,2,6,5,5,6,-1]) 1 7 true,.slcT none (.I .i64 [5,5,5,5,5,5,5]) 1 7 true])⟩
theorem ok1:OneOk Try.prog E1:=one_ofO named mixed tab0_ok rs_ok [54,95] KtL.kt 100000 40 (H':=[⟨true,[]⟩]) (by kernel_rfl) (by kernel_rfl)
noncomputable def tab1:List Ora:=E1::tab0
theorem tab1_ok:∀ e ∈ tab1,OneOk Try.prog e:=cons_ok ok1 tab0_ok
noncomputable def E2:Ora:=⟨50,[.int .i64 4],.agg (.G [.slcT none (.I .i64 [2,2,6,5,5,6,-1]) 1 7 true,.slcT none (.I .i64 [4,4,4,4,4,4,4]) 1 7 true])⟩
theorem ok2:OneOk Try.prog E2:=one_ofO named mixed tab1_ok rs_ok [54,95] KtL.kt 100000 40 (H':=[⟨true,[]⟩]) (by kernel_rfl) (by kernel_rfl)
noncomputable def tab2:List Ora:=E2::tab1
theorem tab2_ok:∀ e ∈ tab2,OneOk Try.prog e:=cons_ok ok2 tab1_ok
end Go.Proofs.Ytoomemfhcbajoaa.Known
end
section
namespace Go.Proofs.Ytoomemfhcbajoaa.Known
open Go.Eng Go.Proofs
set_option maxRecDepth 100000
noncomputable def E3:Ora:=⟨50,[.int .i64 3],.agg (.G [.slcT none (.I .i64 [2,2,6,5,5,6,-1]) 1 7 true,.slcT none (.I .i64 [3,3,3,3,3,3,3]) 1 7 true])⟩
theorem ok3:OneOk Try.prog E3:=one_ofO named mixed tab2_ok rs_ok [54,95] KtL.kt 100000 40 (H':=[⟨true,[]⟩]) (by kernel_rfl) (by kernel_rfl)
noncomputable def tab3:List Ora:=E3::tab2
theorem tab3_ok:∀ e ∈ tab3,OneOk Try.prog e:=cons_ok ok3 tab2_ok
noncomputable def E4:Ora:=⟨21,[.agg (.G [.slcT none (.I .i64 [2,2,6,5,5,6,-1]) 1 7 true,.slcT none (.I .i64 [5,5,5,5,5,5,5]) 1 7 true])],.int .i64 0⟩
theorem ok4:OneOk Try.prog E4:=one_ofO named mixed tab3_ok rs_ok [54,95] KtL.kt 100000 40 (H':=[⟨true,[]⟩]) (by kernel_rfl) (by kernel_rfl)
noncomputable def tab4:List Ora:=E4::tab3
theorem tab4_ok:∀ e ∈ tab4,OneOk Try.prog e:=cons_ok ok4 tab3_ok
end Go.Proofs.Ytoomemfhcbajoaa.Known
end
section
namespace Go.Proofs.Ytoomemfhcbajoaa.Known
open Go.Eng Go.Proofs
set_option maxRecDepth 100000
noncomputable def E5:Ora:=⟨17,[.agg (.G [.slcT none (.I .i64 [2,2,6,5,5,6,-1]) 1 7 true,.slcT none (.I .i64 [5,5,5,5,5,5,5]) 1 7 true])],.tup [.slcT none (.I .i64 [3,3,2,3,3,2,1]) 1 7 false,.int .i64 0]⟩
theorem ok5:OneOk Try.prog E5:=one_ofO named mixed tab4_ok rs_ok [54,95] KtL.kt 100000 40 (H':=[⟨true,[]⟩]) (by kernel_rfl) (by kernel_rfl)
noncomputable def tab5:List Ora:=E5::tab4
theorem tab5_ok:∀ e ∈ tab5,OneOk Try.prog e:=cons_ok ok5 tab4_ok
noncomputable def E6:Ora:=⟨19,[.agg (.G [.slcT none (.I .i64 [2,2,6,5,5,6,-1]) 1 7 true,.slcT none (.I .i64 [5,5,5,5,5,5,5]) 1 7 true])],.tup [.slcT none (.I .i64 [3,3,4,3,3,4,5]) 1 7 false,.int .i64 0]⟩
theorem ok6:OneOk Try.prog E6:=one_ofO named mixed tab5_ok rs_ok [54,95] KtL.kt 100000 40 (H':=[⟨true,[]⟩]) (by kernel_rfl) (by kernel_rfl)
noncomputable def tab6:List Ora:=E6::tab5
theorem tab6_ok:∀ e ∈ tab6,OneOk Try.prog e:=cons_ok ok6 tab5_ok
end Go.Proofs.Ytoomemfhcbajoaa.Known
end
section
namespace Go.Proofs.Ytoomemfhcbajoaa.Known
open Go.Eng Go.Proofs
set_option maxRecDepth 100000
noncomputable def E7:Ora:=⟨21,[.agg (.G [.slcT none (.I .i64 [2,2,6,5,5,6,-1]) 1 7 true,.slcT none (.I .i64 [4,4,4,4,4,4,4]) 1 7 true])],.int .i64 0⟩
theorem ok7:OneOk Try.prog E7:=one_ofO named mixed tab6_ok rs_ok [54,95] KtL.kt 100000 40 (H':=[⟨true,[]⟩]) (by kernel_rfl) (by kernel_rfl)
noncomputable def tab7:List Ora:=E7::tab6
theorem tab7_ok:∀ e ∈ tab7,OneOk Try.prog e:=cons_ok ok7 tab6_ok
noncomputable def E8:Ora:=⟨21,[.agg (.G [.slcT none (.I .i64 [2,2,6,5,5,6,-1]) 1 7 true,.slcT none (.I .i64 [3,3,3,3,3,3,3]) 1 7 true])],.int .i64 0⟩
theorem ok8:OneOk Try.prog E8:=one_ofO named mixed tab7_ok rs_ok [54,95] KtL.kt 100000 40 (H':=[⟨true,[]⟩]) (by kernel_rfl) (by kernel_rfl)
noncomputable def tab8:List Ora:=E8::tab7
theorem tab8_ok:∀ e ∈ tab8,OneOk Try.prog e:=cons_ok ok8 tab7_ok
end Go.Proofs.Ytoomemfhcbajoaa.Known
end
section
namespace Go.Proofs.Ytoomemfhcbajoaa.Known
open Go.Eng Go.Proofs
set_option maxRecDepth 100000
noncomputable def E9:Ora:=⟨32,[.agg (.G [.slcT none (.I .i64 [2,2,6,5,5,6,-1]) 1 7 true,.slcT none (.I .i64 [3,3,3,3,3,3,3]) 1 7 true]),.int .i64 2],.tup [.int .i64 1,.int .i64 0]⟩
theorem ok9:OneOk Try.prog E9:=one_ofO named mixed tab8_ok rs_ok [54,95] KtL.kt 100000 40 (H':=[⟨true,[]⟩]) (by kernel_rfl) (by kernel_rfl)
noncomputable def tab9:List Ora:=E9::tab8
theorem tab9_ok:∀ e ∈ tab9,OneOk Try.prog e:=cons_ok ok9 tab8_ok
noncomputable def E10:Ora:=⟨32,[.agg (.G [.slcT none (.I .i64 [2,2,6,5,5,6,-1]) 1 7 true,.slcT none (.I .i64 [4,4,4,4,4,4,4]) 1 7 true]),.int .i64 2],.tup [.int .i64 0,.int .i64 5]⟩
theorem ok10:OneOk Try.prog E10:=one_ofO named mixed tab9_ok rs_ok [54,95] KtL.kt 100000 40 (H':=[⟨true,[]⟩]) (by kernel_rfl) (by kernel_rfl)
noncomputable def tab10:List Ora:=E10::tab9
theorem tab10_ok:∀ e ∈ tab10,OneOk Try.prog e:=cons_ok ok10 tab9_ok
end Go.Proofs.Ytoomemfhcbajoaa.Known
end
section
namespace Go.Proofs.Ytoomemfhcbajoaa.Known
open Go.Eng Go.Proofs
set_option maxRecDepth 100000
noncomputable def E11:Ora:=⟨34,[.agg (.G [.slcT none (.I .i64 [2,2,6,5,5,6,-1]) 1 7 true,.slcT none (.I .i64 [3,3,3,3,3,3,3]) 1 7 true])],.tup [.int .i64 4,.int .i64 0]⟩
theorem ok11:OneOk Try.prog E11:=one_ofO named mixed tab10_ok rs_ok [54,95] KtL.kt 100000 40 (H':=[⟨true,[]⟩]) (by kernel_rfl) (by kernel_rfl)
noncomputable def tab11:List Ora:=E11::tab10
theorem tab11_ok:∀ e ∈ tab11,OneOk Try.prog e:=cons_ok ok11 tab10_ok
noncomputable def E12:Ora:=⟨36,[.agg (.G [.slcT none (.I .i64 [2,2,6,5,5,6,-1]) 1 7 true,.slcT none (.I .i64 [5,5,5,5,5,5,5]) 1 7 true]),.int .i64 4],.tup [.int .i64 3,.int .i64 0]⟩
theorem ok12:OneOk Try.prog E12:=one_ofO named mixed tab11_ok rs_ok [54,95] KtL.kt 100000 40 (H':=[⟨true,[]⟩]) (by kernel_rfl) (by kernel_rfl)
noncomputable def tab12:List Ora:=E12::tab11
theorem tab12_ok:∀ e ∈ tab12,OneOk Try.prog e:=cons_ok ok12 tab11_ok
end Go.Proofs.Ytoomemfhcbajoaa.Known
end
section
namespace Go.Proofs.Ytoomemfhcbajoaa.Known
open Go.Eng Go.Proofs
set_option maxRecDepth 100000
noncomputable def E13:Ora:=⟨39,[.agg (.G [.slcT none (.I .i64 [2,2,6,5,5,6,-1]) 1 7 true,.slcT none (.I .i64 [4,4,4,4,4,4,4]) 1 7 true]),.int .i64 2,.int .i64 5],.tup [.int .i64 3,.int .i64 0]⟩
theorem ok13:OneOk Try.prog E13:=one_ofO named mixed tab12_ok rs_ok [54,95] KtL.kt 100000 40 (H':=[⟨true,[]⟩]) (by kernel_rfl) (by kernel_rfl)
noncomputable def tab13:List Ora:=E13::tab12
theorem tab13_ok:∀ e ∈ tab13,OneOk Try.prog e:=cons_ok ok13 tab12_ok
noncomputable def E14:Ora:=⟨41,[.agg (.G [.slcT none (.I .i64 [2,2,6,5,5,6,-1]) 1 7 true,.slcT none (.I .i64 [5,5,5,5,5,5,5]) 1 7 true]),.int .i64 2],.tup [.slcT none (.I .i64 [1,2,3,4,5]) 1 5 false,.int .i64 0]⟩
theorem ok14:OneOk Try.prog E14:=one_ofO named mixed tab13_ok rs_ok [54,95] KtL.kt 100000 40 (H':=[⟨true,[]⟩]) (by kernel_rfl) (by kernel_rfl)
noncomputable def tab14:List Ora:=E14::tab13
theorem tab14_ok:∀ e ∈ tab14,OneOk Try.prog e:=cons_ok ok14 tab13_ok
end Go.Proofs.Ytoomemfhcbajoaa.Known
end
section
namespace Go.Proofs.Ytoomemfhcbajoaa.Known
open Go.Eng Go.Proofs
set_option maxRecDepth 100000
noncomputable def E15:Ora:=⟨37,[.agg (.G [.slcT none (.I .i64 [2,2,6,5,5,6,-1]) 1 7 true,.slcT none (.I .i64 [3,3,3,3,3,3,3]) 1 7 true]),.int .i64 2,.int .i64 1],.int .i64 0⟩
theorem ok15:OneOk Try.prog E15:=one_ofO named mixed tab14_ok rs_ok [54,95] KtL.kt 100000 40 (H':=[⟨true,[]⟩]) (by kernel_rfl) (by kernel_rfl)
noncomputable def tab15:List Ora:=E15::tab14
theorem tab15_ok:∀ e ∈ tab15,OneOk Try.prog e:=cons_ok ok15 tab14_ok
noncomputable def E16:Ora:=⟨37,[.agg (.G [.slcT none (.I .i64 [2,2,6,5,5,6,-1]) 1 7 true,.slcT none (.I .i64 [4,4,4,4,4,4,4]) 1 7 true]),.int .i64 2,.int .i64 1],.int .i64 14⟩
theorem ok16:OneOk Try.prog E16:=one_ofO named mixed tab15_ok rs_ok [54,95] KtL.kt 100000 40 (H':=[⟨true,[]⟩]) (by kernel_rfl) (by kernel_rfl)
noncomputable def tab16:List Ora:=E16::tab15
theorem tab16_ok:∀ e ∈ tab16,OneOk Try.prog e:=cons_ok ok16 tab15_ok
end Go.Proofs.Ytoomemfhcbajoaa.Known
end
