/- Drop: what is joined, as it is defined. -/
import Derived.Test.YtjmjkhpfipglcaaV9Ka
namespace Go.Eng
open Go.Proofs
set_option linter.unusedVariables false
set_option linter.unusedSimpArgs false
set_option maxRecDepth 100000
noncomputable def sl1 (m : Nat) (z : Nat → Int) (full : Bool) : AV := .slcT none (.M [.arr .i64 z m]) 1 m full
noncomputable def fr90 (m : Nat) (z : Nat → Int) (full : Bool) (p j : Int) : Frm := [(0, sl1 m z full), (1, .int .i64 p), (5, .int .i64 j)]
noncomputable def lvE1 (w : Int) (ls ld : Nat) (zs zd : Nat → Int) (v m : Nat) (z : Nat → Int) : Lvl := ⟨false, [(0, .row (.G [.int .i64 w, slA 2 ls zs, slA 3 ld zd])), (v, .row (.M [.arr .i64 z m]))]⟩
noncomputable def fr89 (N : Nat) (z : Nat → Int) (l : AV) (p : Int) : Frm := [(3, .ptr 0 0 0 0), (7, sl1 N z true), (8, l), (9, .int .i64 p)]
noncomputable def g81 (B : AV) (to : Int) (sure : Bool) (T : AV) : List AV → Option (Prop × AV)
 | [b, .int .i64 p, .bool s] => some (b = B ∧ p = to ∧ s = sure, T)
 | _ => none
def gIn (f : (Nat → Int) → Nat → Int → Bool) : List AV → Option (Prop × AV)
 | [.slcT none (.M [.arr .i64 z N]) 1 m full, .int .i64 p] => some (N = m ∧ leN m 1000 = true, .bool (f z m p))
 | _ => none
theorem t90 (n : Nat) (H : Heap) (m : Nat) (z : Nat → Int) (full : Bool) (p j : Int) : execT (cxD n 90 18) (il noCt n 0) noBT noRT (part Try.f90 [1,0,1,0,0]) (hints (fr90 m z full p j)) (lv0 :: H) =
 Tr.ite (ltI j (Int.ofNat m)) (Tr.req (inI j m) (Tr.req (ltN (idO 0 j 1) m) (Tr.ite (eqI (z (idO 0 j 1)) p) (Tr.ok (Ex.ret, [(4, AV.bool true, some 1)], lv0 :: H)) (Tr.ok (Ex.normal, [(0, AV.slcT none (Row.M [Seg.arr .i64 z m]) 1 m full, none), (1, AV.int .i64 p, none), (5, AV.int .i64 (addI .i64 j (Int.ofNat 1)), none)], lv0 :: H))))) (Tr.ok (Ex.exit 0, [(0, AV.slcT none (Row.M [Seg.arr .i64 z m]) 1 m full, none), (1, AV.int .i64 p, none), (5, AV.int .i64 j, none), (9, AV.bool false, some 1)], lv0 :: H)) := by kernel_rfl
theorem u90 (n : Nat) (H : Heap) (m : Nat) (z : Nat → Int) (full : Bool) (p : Int) (e : Bool) : bodyT Try.prog (cd n) 100000 90 Try.f90 (Kt.kt 90) (il noCt n 0) (blkE noBT 0 (fr90 m z full p 0) (lv0 :: H) (.ite e (.ok (.ret, [(4, .bool true, none)], lv0 :: H)) (.ok (.normal, hints (fr90 m z full p (Int.ofNat m) ++ [(9, .bool false)]), lv0 :: H)))) noRT [(sl1 m z full, none), (.int .i64 p, none)] H =
 (fun (Z0 : Frm) => Tr.reqP (Z0 = Z0 ∧ lv0 :: H = lv0 :: H) (Tr.ite e (Tr.ok ((AV.bool true, none), H)) (Tr.ok ((AV.bool false, some 1), H)))) [(0, AV.slcT none (Row.M [Seg.arr .i64 z m]) 1 m full), (1, AV.int .i64 p), (5, AV.int .i64 (Int.ofNat 0))] := by kernel_rfl
theorem t89a (n : Nat) (w : Int) (ls ld N : Nat) (zs zd z : Nat → Int) (H : Heap) (p : Int) : execT (cxD (n+7) 89 32) (il noCt (n+7) 0) noBT noRT (part Try.f89 [1,1,1,0,1,0,0]) (hints (fr89 N z .nils p)) (lvB w ls ld zs zd :: H) =
 (fun (Z0 : Nat × AV × Option Nat) => Tr.ite (ltI p (Int.ofNat ls)) (Tr.req (inI (addI .i64 p (Int.ofNat 2)) N) (Tr.req (ltN (idO 0 (addI .i64 p (Int.ofNat 2)) 1) N) (Tr.ite (ltI (Int.ofNat 0) (z (idO 0 (addI .i64 p (Int.ofNat 2)) 1))) (Tr.req (roomO 0 1 8) (Tr.req (leN 1 1) (Tr.ok (Ex.normal, [(3, AV.ptr 0 0 0 0, none), Z0, (8, AV.slc 0 2 0 0 1 1 none, none), (9, AV.int .i64 (addI .i64 p (Int.ofNat 1)), none)], { lock := false, bs := [(0, Blk.row (Row.G [AV.int .i64 w, slA 2 ls zs, slA 3 ld zd])), (0, Blk.row (Row.I .i64 [p])), (0, Blk.row (Row.M [Seg.arr .i64 (lstO [p]) 1]))] } :: H)))) (Tr.ok (Ex.normal, [(3, AV.ptr 0 0 0 0, none), Z0, (8, AV.nils, none), (9, AV.int .i64 (addI .i64 p (Int.ofNat 1)), none)], lvB w ls ld zs zd :: H))))) (Tr.ok (Ex.exit 0, [(3, AV.ptr 0 0 0 0, none), Z0, (8, AV.nils, none), (9, AV.int .i64 p, none), (18, AV.bool false, some 1)], lvB w ls ld zs zd :: H))) (7, AV.slcT none (Row.M [Seg.arr .i64 z N]) 1 N true, none) := by kernel_rfl
theorem t89b (n : Nat) (w : Int) (ls ld N : Nat) (zs zd z y : Nat → Int) (H : Heap) (p : Int) (v m : Nat) : execT (cxD (n+7) 89 32) (il noCt (n+7) 0) noBT noRT (part Try.f89 [1,1,1,0,1,0,0]) (hints (fr89 N z (.slc 0 1 v 0 1 m none) p)) (lvE1 w ls ld zs zd v m y :: H) =
 (fun (Z0 : Lvl) => ((fun (Z1 : Nat × AV × Option Nat) => Tr.ite (ltI p (Int.ofNat ls)) (Tr.req (inI (addI .i64 p (Int.ofNat 2)) N) (Tr.req (ltN (idO 0 (addI .i64 p (Int.ofNat 2)) 1) N) (Tr.ite (ltI (Int.ofNat 0) (z (idO 0 (addI .i64 p (Int.ofNat 2)) 1))) (Tr.req (roomO m 1 8) (Tr.req (leN 1 1) (Tr.req (eqN v v) (Tr.req (eqN (addO 0 m) m) (Tr.ok (Ex.normal, [(3, AV.ptr 0 0 0 0, none), Z1, (8, AV.slc 0 1 (Nat.succ v) 0 1 (addO m 1) none, none), (9, AV.int .i64 (addI .i64 p (Int.ofNat 1)), none)], { lock := false, bs := [(0, Blk.row (Row.G [AV.int .i64 w, slA 2 ls zs, slA 3 ld zd])), (Nat.succ v, Blk.row (Row.M [Seg.arr .i64 (appO (shO y 0) m (lstO [p])) (addO m 1)])), (0, Blk.row (Row.I .i64 [p]))] } :: H)))))) (Tr.ok (Ex.normal, [(3, AV.ptr 0 0 0 0, none), Z1, (8, AV.slc 0 1 v 0 1 m none, none), (9, AV.int .i64 (addI .i64 p (Int.ofNat 1)), none)], Z0 :: H))))) (Tr.ok (Ex.exit 0, [(3, AV.ptr 0 0 0 0, none), Z1, (8, AV.slc 0 1 v 0 1 m none, none), (9, AV.int .i64 p, none), (18, AV.bool false, some 1)], Z0 :: H))) (7, AV.slcT none (Row.M [Seg.arr .i64 z N]) 1 N true, none))) { lock := false, bs := [(0, Blk.row (Row.G [AV.int .i64 w, slA 2 ls zs, slA 3 ld zd])), (v, Blk.row (Row.M [Seg.arr .i64 y m]))] } := by kernel_rfl
theorem u89 (n : Nat) (w : Int) (ls ld N : Nat) (zs zd z y : Nat → Int) (H : Heap) (p : Int) (v m : Nat) (sure : Bool) : bodyT Try.prog (cd (n+7)) 100000 89 Try.f89 (Kt.kt 89) (il (ctG noCt 81 (g81 (bathA w ls zs ld zd) p sure (sl1 N z true))) (n+7) 0) (blkE noBT 0 (fr89 N z .nils (-2)) (lvB w ls ld zs zd :: H) (.ok (.normal, hints (fr89 N z (.slc 0 1 v 0 1 m none) (Int.ofNat ls) ++ [(18, .bool false)]), lvE1 w ls ld zs zd v m y :: H))) noRT [(bathA w ls zs ld zd, none), (.int .i64 p, none), (.bool sure, none)] H =
 (fun (Z0 : Frm) => Tr.reqP (bathA w ls zs ld zd = bathA w ls zs ld zd ∧ p = p ∧ sure = sure) (Tr.reqP (Z0 = Z0 ∧ lvB w ls ld zs zd :: H = lvB w ls ld zs zd :: H) (Tr.req (eqN v v) (Tr.req (inO 0 m 0 m) (Tr.ok ((AV.slcT none (Row.M [Seg.arr .i64 (shO y 0) m]) 1 m false, none), H)))))) [(3, AV.ptr 0 0 0 0), (7, AV.slcT none (Row.M [Seg.arr .i64 z N]) 1 N true), (8, AV.nils), (9, AV.int .i64 (Int.negSucc 1))] := by kernel_rfl
theorem u35 (n : Nat) (w : Int) (ls ld m : Nat) (zs zd y : Nat → Int) (H : Heap) (p q e : Int) (sure : Bool) (side : Prop) (f : (Nat → Int) → Nat → Int → Bool) : bodyT Try.prog (cd (n+8)) 100000 35 Try.f35 (Kt.kt 35) (il (ctG (ctG (ctG noCt 70 (g70 (bathA w ls zs ld zd) p q e)) 89 (g81 (bathA w ls zs ld zd) p sure (sl1 m y false))) 90 (gIn f)) (n+8) 0) noBT noRT [(bathA w ls zs ld zd, none), (.int .i64 p, none), (.int .i64 q, none), (.bool sure, none)] H =
 Tr.reqP (bathA w ls zs ld zd = bathA w ls zs ld zd ∧ p = p ∧ q = q) (Tr.ite (notB (eqI e (Int.ofNat 0))) (Tr.reqP (bathA w ls zs ld zd = bathA w ls zs ld zd ∧ p = p ∧ q = q) (Tr.ok ((AV.tup [AV.nils, AV.int .i64 e], none), H))) (Tr.reqP (bathA w ls zs ld zd = bathA w ls zs ld zd ∧ p = p ∧ sure = sure) (Tr.reqP (m = m ∧ leN m 1000 = true) (Tr.ite (f y m q) (Tr.ok ((AV.tup [AV.nils, AV.int .i64 (Int.ofNat 11)], none), H)) (Tr.ok ((AV.tup [AV.slcT none (Row.M [Seg.arr .i64 y m]) 1 m false, AV.int .i64 (Int.ofNat 0)], none), H)))))) := by kernel_rfl
theorem u35x (n : Nat) (w : Int) (ls ld : Nat) (zs zd : Nat → Int) (H : Heap) (p q e : Int) (sure : Bool) : bodyT Try.prog (cd (n+8)) 100000 35 Try.f35 (Kt.kt 35) (il (ctG (ctG noCt 70 (g70 (bathA w ls zs ld zd) p q e)) 89 (fun _ => none)) (n+8) 0) noBT noRT [(bathA w ls zs ld zd, none), (.int .i64 p, none), (.int .i64 q, none), (.bool sure, none)] H =
 Tr.reqP (bathA w ls zs ld zd = bathA w ls zs ld zd ∧ p = p ∧ q = q) (Tr.ite (notB (eqI e (Int.ofNat 0))) (Tr.reqP (bathA w ls zs ld zd = bathA w ls zs ld zd ∧ p = p ∧ q = q) (Tr.ok ((AV.tup [AV.nils, AV.int .i64 e], none), H))) Tr.bad) := by kernel_rfl
def inN (z : Nat → Int) (m : Nat) (p : Int) : Bool := exN (fun j => decide (z j = p)) m
theorem b90 : ∀ b, (0, b) ∈ blocksOf (bodyOf Try.f90) → b = .loop (part Try.f90 [1,0,1,0,0]) := by
 have : ((blocksOf (bodyOf Try.f90)).filter fun x => Nat.beq x.1 0) = [(0, .loop (part Try.f90 [1,0,1,0,0]))] := by kernel_rfl
 intro b hb
 have hm : (0, b) ∈ ((blocksOf (bodyOf Try.f90)).filter fun x => Nat.beq x.1 0) := List.mem_filter.2 ⟨hb, rfl⟩
 rw [this] at hm; simpa using hm
theorem b89 : ∀ b, (0, b) ∈ blocksOf (bodyOf Try.f89) → b = .loop (part Try.f89 [1,1,1,0,1,0,0]) := by
 have : ((blocksOf (bodyOf Try.f89)).filter fun x => Nat.beq x.1 0) = [(0, .loop (part Try.f89 [1,1,1,0,1,0,0]))] := by kernel_rfl
 intro b hb
 have hm : (0, b) ∈ ((blocksOf (bodyOf Try.f89)).filter fun x => Nat.beq x.1 0) := List.mem_filter.2 ⟨hb, rfl⟩
 rw [this] at hm; simpa using hm
theorem c90 (n : Nat) (H : Heap) (m : Nat) (z : Nat → Int) (full : Bool) (p : Int) (hm : m ≤ 1000) : cd (n + 1) (.fn 90) [sl1 m z full, .int .i64 p] H = some (.bool (inN z m p), H) := by
 have l := findX (n := n) (f := 90) (nt := 18) (c := part Try.f90 [1,0,1,0,0]) 0 (fun j => fr90 m z full p (j : Int)) (fun _ => lv0 :: H) m (fun j => decide (z j = p)) (fun j => ([(4, .bool true)], lv0 :: H)) (fr90 m z full p (Int.ofNat m) ++ [(9, .bool false)], lv0 :: H) (by omega) (fun j hj => ?_) ?_
 · refine fn_all (n := n) Try.func90 rfl rfl rfl (u90 n H m z full p (inN z m p)) (il_no0 n) (blkE_ok (noBT_ok _ _) b90 (fun x hx => ?_)) (noRT_ok _ _) ?_
   · refine Eq.trans l ?_
     rcases Tr.ite_some hx with ⟨hc, hx⟩ | ⟨hc, hx⟩
     · rw [← Tr.ok_some hx, show exN (fun j => decide (z j = p)) m = true from hc]; rfl
     · rw [← Tr.ok_some hx, show exN (fun j => decide (z j = p)) m = false from hc]; simp only [Res.st, hints_eq]; rfl
   · repeat' first | (refine Tr.all_ite (fun hc => ?_) (fun hc => ?_) <;> (try simp (disch := omega) only [nV, mulO_eq, Int.cast_ofNat_Int, eq_self] at hc) <;> (try (exfalso; omega))) | (refine Tr.all_req ?_ ?_; · ((try simp (disch := omega) only [nV, mulO_eq, Int.cast_ofNat_Int, eq_self]); try omega)) | (refine Tr.all_reqP ?_ ?_; · first | exact trivial | rfl | exact ⟨rfl, rfl⟩ | exact ⟨rfl, rfl, rfl⟩ | (simp (disch := omega) only [nV, mulO_eq, Int.cast_ofNat_Int, eq_self]; done) | ((try simp (disch := omega) only [nV, mulO_eq, Int.cast_ofNat_Int, eq_self]); omega)) | fail
     · refine Tr.all_ok ⟨?_, rfl⟩; rw [hc]
     · refine Tr.all_ok ⟨?_, rfl⟩; rw [hc]
 · have ej : addI .i64 (j : Int) (Int.ofNat 1) = ((j + 1 : Nat) : Int) := by rw [addI_eq, show Int.ofNat 1 = 1 from rfl]; exact wr_64 (by omega) (by omega)
   refine ex_all (t90 n H m z full p (j : Int)) (il_no0 n) (noBT_ok _ _) (noRT_ok _ _) ?_
   repeat' first | (refine Tr.all_ite (fun hc => ?_) (fun hc => ?_) <;> (try simp (disch := omega) only [nV, mulO_eq, Int.cast_ofNat_Int, eq_self, Nat.mul_one] at hc) <;> (try (exfalso; omega))) | (refine Tr.all_req ?_ ?_; · ((try simp (disch := omega) only [nV, mulO_eq, Int.cast_ofNat_Int, eq_self, Nat.mul_one]); try omega)) | (refine Tr.all_reqP ?_ ?_; · first | exact trivial | rfl | exact ⟨rfl, rfl⟩ | exact ⟨rfl, rfl, rfl⟩ | (simp (disch := omega) only [nV, mulO_eq, Int.cast_ofNat_Int, eq_self, Nat.mul_one]; done) | ((try simp (disch := omega) only [nV, mulO_eq, Int.cast_ofNat_Int, eq_self, Nat.mul_one]); omega)) | fail
   all_goals refine Tr.all_ok ?_
   · rw [if_pos (by simpa using hc)]; rfl
   · rw [if_neg (by simpa using hc)]
     refine ⟨rfl, ?_⟩
     rw [ej]; rfl
 · obtain ⟨x, h1, rfl⟩ := ex_all (Q := fun x => x = (.exit 0, fr90 m z full p (Int.ofNat m) ++ [(9, .bool false)], lv0 :: H)) (t90 n H m z full p (Int.ofNat m)) (il_no0 n) (noBT_ok _ _) (noRT_ok _ _) (by
    repeat' first | (refine Tr.all_ite (fun hc => ?_) (fun hc => ?_) <;> (try simp (disch := omega) only [nV, mulO_eq, Int.cast_ofNat_Int, eq_self] at hc) <;> (try (exfalso; omega))) | (refine Tr.all_req ?_ ?_; · ((try simp (disch := omega) only [nV, mulO_eq, Int.cast_ofNat_Int, eq_self]); try omega)) | (refine Tr.all_reqP ?_ ?_; · first | exact trivial | rfl | exact ⟨rfl, rfl⟩ | exact ⟨rfl, rfl, rfl⟩ | (simp (disch := omega) only [nV, mulO_eq, Int.cast_ofNat_Int, eq_self]; done) | ((try simp (disch := omega) only [nV, mulO_eq, Int.cast_ofNat_Int, eq_self]); omega)) | fail
    exact Tr.all_ok rfl)
   exact h1
def plL (f : Nat → Bool) (N : Nat) : List Int := ((List.range N).filter f).map fun (i : Nat) => (i : Int) - 2
theorem plL_succ (f : Nat → Bool) (N : Nat) : plL f (N + 1) = if f N = true then plL f N ++ [(N : Int) - 2] else plL f N := by
 unfold plL
 rw [List.range_succ, List.filter_append]
 by_cases h : f N = true
 · simp [h]
 · simp [h]
theorem lst_app (L : List Int) (v : Int) : appO (shO (lstO L) 0) L.length (lstO [v]) = lstO (L ++ [v]) := by
 rw [shO_zero, appO_fn, lstO_fn]; funext i
 by_cases h : i < L.length
 · simp [h, List.getElem?_append]
 · by_cases h2 : i = L.length
   · subst h2; simp
   · have e1 : [v][i - L.length]? = none := List.getElem?_eq_none (by simp; omega)
     have e2 : (L ++ [v])[i]? = none := List.getElem?_eq_none (by simp; omega)
     simp only [h, if_false, List.getD_eq_getElem?_getD, e1, e2]
noncomputable def sliJ : List Int → AV
 | [] => .nils
 | x :: r => .slc 0 1 r.length 0 1 (r.length + 1) none
noncomputable def lvJ (w : Int) (ls ld : Nat) (zs zd : Nat → Int) : List Int → Lvl
 | [] => lvB w ls ld zs zd
 | x :: r => lvE1 w ls ld zs zd r.length (r.length + 1) (lstO (x :: r))
section
variable (n : Nat) (w : Int) (ls ld : Nat) (zs zd : Nat → Int) (H : Heap) (sure : Bool)
theorem l89 (hl : ls ≤ 10) (z : Nat → Int) : exec (cxD (n + 7) 89 32) (.block 0 (.loop (part Try.f89 [1,1,1,0,1,0,0]))) (fr89 (ls + 2) z .nils (-2)) (lvB w ls ld zs zd :: H) = some (.normal, fr89 (ls + 2) z (sliJ (plL (fun i => decide (0 < z i)) (ls + 2))) (Int.ofNat ls) ++ [(18, .bool false)], lvJ w ls ld zs zd (plL (fun i => decide (0 < z i)) (ls + 2)) :: H) := by
 have := forX (n := n + 7) (f := 89) (nt := 32) (c := part Try.f89 [1,1,1,0,1,0,0]) 0 (fun j => fr89 (ls + 2) z (sliJ (plL (fun i => decide (0 < z i)) j)) ((j : Int) - 2)) (fun j => lvJ w ls ld zs zd (plL (fun i => decide (0 < z i)) j) :: H) (ls + 2) (fr89 (ls + 2) z (sliJ (plL (fun i => decide (0 < z i)) (ls + 2))) (Int.ofNat ls) ++ [(18, .bool false)], lvJ w ls ld zs zd (plL (fun i => decide (0 < z i)) (ls + 2)) :: H) (by omega) (fun j hj => ?_) ?_
 · exact this
 · have ej : addI .i64 ((j : Int) - 2) (Int.ofNat 1) = ((j + 1 : Nat) : Int) - 2 := by
    rw [addI_eq, show Int.ofNat 1 = 1 from rfl, wr_64 (by omega) (by omega)]; omega
   have e2 : addI .i64 ((j : Int) - 2) (Int.ofNat 2) = (j : Int) := by
    rw [addI_eq, show Int.ofNat 2 = 2 from rfl, wr_64 (by omega) (by omega)]; omega
   rw [plL_succ]
   have hll : (plL (fun i => decide (0 < z i)) j).length ≤ j := by
    unfold plL; rw [List.length_map]; exact Nat.le_trans (List.length_filter_le _ _) (by simp)
   generalize plL (fun i => decide (0 < z i)) j = L at *
   have h0 : hNext (lvJ w ls ld zs zd (plL (fun i => decide (0 < z i)) 0) :: H) = 1 := rfl
   rw [h0]
   cases L with
   | nil =>
     refine ex_all (t89a n w ls ld (ls + 2) zs zd z H ((j : Int) - 2)) (il_no (n + 7) 0) (noBT_ok _ _) (noRT_ok _ _) ?_
     rw [e2, ej]
     repeat' first | (refine Tr.all_ite (fun hc => ?_) (fun hc => ?_) <;> (try simp (disch := omega) only [nV, mulO_eq, Int.cast_ofNat_Int, eq_self, Nat.mul_one] at hc) <;> (try (exfalso; omega))) | (refine Tr.all_req ?_ ?_; · ((try simp (disch := omega) only [nV, mulO_eq, Int.cast_ofNat_Int, eq_self, Nat.mul_one]); try omega)) | (refine Tr.all_reqP ?_ ?_; · first | exact trivial | rfl | exact ⟨rfl, rfl⟩ | exact ⟨rfl, rfl, rfl⟩ | (simp (disch := omega) only [nV, mulO_eq, Int.cast_ofNat_Int, eq_self, Nat.mul_one]; done) | ((try simp (disch := omega) only [nV, mulO_eq, Int.cast_ofNat_Int, eq_self, Nat.mul_one]); omega)) | fail
     all_goals refine Tr.all_ok ⟨rfl, ?_⟩
     · rw [if_pos (by simpa using hc)]; rfl
     · rw [if_neg (by simpa using hc)]; rfl
   | cons x r =>
     have la := lst_app (x :: r) ((j : Int) - 2)
     have hll' : r.length + 1 ≤ j := by simpa using hll
     refine ex_all (t89b n w ls ld (ls + 2) zs zd z (lstO (x :: r)) H ((j : Int) - 2) r.length (r.length + 1)) (il_no (n + 7) 0) (noBT_ok _ _) (noRT_ok _ _) ?_
     rw [e2, ej]
     repeat' first | (refine Tr.all_ite (fun hc => ?_) (fun hc => ?_) <;> (try simp (disch := omega) only [nV, mulO_eq, Int.cast_ofNat_Int, eq_self, Nat.mul_one] at hc) <;> (try (exfalso; omega))) | (refine Tr.all_req ?_ ?_; · ((try simp (disch := omega) only [nV, mulO_eq, Int.cast_ofNat_Int, eq_self, Nat.mul_one]); try omega)) | (refine Tr.all_reqP ?_ ?_; · first | exact trivial | rfl | exact ⟨rfl, rfl⟩ | exact ⟨rfl, rfl, rfl⟩ | (simp (disch := omega) only [nV, mulO_eq, Int.cast_ofNat_Int, eq_self, Nat.mul_one]; done) | ((try simp (disch := omega) only [nV, mulO_eq, Int.cast_ofNat_Int, eq_self, Nat.mul_one]); omega)) | fail
     all_goals refine Tr.all_ok ⟨rfl, ?_⟩
     · rw [if_pos (by simpa using hc)]
       rw [show (x :: r).length = r.length + 1 from rfl] at la
       rw [la, addO_eq]
       have e4 : (r ++ [(j : Int) - 2]).length = r.length + 1 := by simp
       show _ = (fr89 (ls + 2) z (.slc 0 1 (r ++ [(j : Int) - 2]).length 0 1 ((r ++ [(j : Int) - 2]).length + 1) none) _, lvE1 w ls ld zs zd (r ++ [(j : Int) - 2]).length ((r ++ [(j : Int) - 2]).length + 1) _ :: H)
       rw [e4]
       rfl
     · rw [if_neg (by simpa using hc)]; rfl
 · have em : ((ls + 2 : Nat) : Int) - 2 = Int.ofNat ls := by rw [ofNat_cast]; omega
   rw [em]
   generalize plL (fun i => decide (0 < z i)) (ls + 2) = L
   cases L with
   | nil =>
     obtain ⟨x, h1, rfl⟩ := ex_all (Q := fun x => x = (.exit 0, fr89 (ls + 2) z (sliJ []) (Int.ofNat ls) ++ [(18, .bool false)], lvJ w ls ld zs zd [] :: H)) (t89a n w ls ld (ls + 2) zs zd z H (Int.ofNat ls)) (il_no (n + 7) 0) (noBT_ok _ _) (noRT_ok _ _) (by
      repeat' first | (refine Tr.all_ite (fun hc => ?_) (fun hc => ?_) <;> (try simp (disch := omega) only [nV, mulO_eq, Int.cast_ofNat_Int, eq_self] at hc) <;> (try (exfalso; omega))) | (refine Tr.all_req ?_ ?_; · ((try simp (disch := omega) only [nV, mulO_eq, Int.cast_ofNat_Int, eq_self]); try omega)) | (refine Tr.all_reqP ?_ ?_; · first | exact trivial | rfl | exact ⟨rfl, rfl⟩ | exact ⟨rfl, rfl, rfl⟩ | (simp (disch := omega) only [nV, mulO_eq, Int.cast_ofNat_Int, eq_self]; done) | ((try simp (disch := omega) only [nV, mulO_eq, Int.cast_ofNat_Int, eq_self]); omega)) | fail
      exact Tr.all_ok rfl)
     exact h1
   | cons y r =>
     obtain ⟨x, h1, rfl⟩ := ex_all (Q := fun x => x = (.exit 0, fr89 (ls + 2) z (sliJ (y :: r)) (Int.ofNat ls) ++ [(18, .bool false)], lvJ w ls ld zs zd (y :: r) :: H)) (t89b n w ls ld (ls + 2) zs zd z (lstO (y :: r)) H (Int.ofNat ls) r.length (r.length + 1)) (il_no (n + 7) 0) (noBT_ok _ _) (noRT_ok _ _) (by
      repeat' first | (refine Tr.all_ite (fun hc => ?_) (fun hc => ?_) <;> (try simp (disch := omega) only [nV, mulO_eq, Int.cast_ofNat_Int, eq_self] at hc) <;> (try (exfalso; omega))) | (refine Tr.all_req ?_ ?_; · ((try simp (disch := omega) only [nV, mulO_eq, Int.cast_ofNat_Int, eq_self]); try omega)) | (refine Tr.all_reqP ?_ ?_; · first | exact trivial | rfl | exact ⟨rfl, rfl⟩ | exact ⟨rfl, rfl, rfl⟩ | (simp (disch := omega) only [nV, mulO_eq, Int.cast_ofNat_Int, eq_self]; done) | ((try simp (disch := omega) only [nV, mulO_eq, Int.cast_ofNat_Int, eq_self]); omega)) | fail
      exact Tr.all_ok rfl)
     exact h1
theorem stJ_keep {z0 : Nat → Int} {hl : Int → Int → Bool} {N i : Nat} (h : z0 i ≠ 0) : ∀ j, stJ z0 hl N j i = z0 i
 | 0 => rfl
 | j + 1 => by
   have ih := stJ_keep (hl := hl) (N := N) h j
   unfold stJ stpS stpI
   split
   · rw [if_neg (by rw [ih]; exact fun x => h x.1)]; exact ih
   · exact ih
noncomputable def jnL (w : Int) (ls ld : Nat) (zs zd : Nat → Int) (sure : Bool) (p : Int) : List Int := plL (fun i => decide (0 < stZ w ls ld zs zd sure p i)) (ls + 2)
theorem plL_mem {f : Nat → Bool} {N : Nat} {q : Int} : q ∈ plL f N ↔ ∃ i : Nat, i < N ∧ f i = true ∧ q = (i : Int) - 2 := by
 unfold plL
 rw [List.mem_map]
 constructor
 · rintro ⟨i, h1, rfl⟩
   have := List.mem_filter.1 h1
   exact ⟨i, by simpa using this.1, this.2, rfl⟩
 · rintro ⟨i, h1, h2, rfl⟩
   exact ⟨i, List.mem_filter.2 ⟨by simpa using h1, h2⟩, rfl⟩
theorem jn_self (p : Int) (hp : -2 ≤ p ∧ p < ls) : p ∈ jnL w ls ld zs zd sure p := by
 refine plL_mem.2 ⟨(p + 2).toNat, by omega, ?_, by omega⟩
 have : st0 p (p + 2).toNat = 1 := by unfold st0; rw [if_pos (by omega)]
 have h2 : stZ w ls ld zs zd sure p (p + 2).toNat = 1 := by
  unfold stZ; rw [stJ_keep (by omega), this]
 rw [h2]; rfl
theorem plL_len (f : Nat → Bool) (N : Nat) : (plL f N).length ≤ N := by
 unfold plL; rw [List.length_map]; exact Nat.le_trans (List.length_filter_le _ _) (by simp)
theorem c89 (h : chkB w ls ld zs zd = 0) (p : Int) (hp : -2 ≤ p ∧ p < ls) : cd (n + 8) (.fn 89) [bathA w ls zs ld zd, .int .i64 p, .bool sure] H = some (sl1 (jnL w ls ld zs zd sure p).length (lstO (jnL w ls ld zs zd sure p)) false, H) := by
 have c := chk_ok h
 have lk := l89 n w ls ld zs zd H c.1 (stZ w ls ld zs zd sure p)
 have hm := jn_self w ls ld zs zd sure p hp
 have hlen := plL_len (fun i => decide (0 < stZ w ls ld zs zd sure p i)) (ls + 2)
 have hJ : plL (fun i => decide (0 < stZ w ls ld zs zd sure p i)) (ls + 2) = jnL w ls ld zs zd sure p := rfl
 rw [hJ] at lk hlen
 generalize jnL w ls ld zs zd sure p = L at *
 cases L with
 | nil => cases hm
 | cons x r =>
   refine fn_all (n := n + 7) Try.func89 rfl rfl rfl (u89 n w ls ld (ls + 2) zs zd (stZ w ls ld zs zd sure p) (lstO (x :: r)) H p r.length (r.length + 1) sure) (il_ok _ (n + 7) 0 (fun k => ctG_ok (noCt_ok _) (fun args p v hg hp H => ?_))) (blkE_ok (noBT_ok _ _) b89 (fun x hx => by rw [← Tr.ok_some hx]; simp only [Res.st, hints_eq]; exact lk)) (noRT_ok _ _) ?_
   · unfold g81 at hg
     split at hg
     · simp only [Option.some.injEq, Prod.mk.injEq] at hg
       obtain ⟨rfl, rfl⟩ := hg
       obtain ⟨rfl, rfl, rfl⟩ := hp
       rw [show n + 7 + k = n + k + 7 by omega]
       exact c81 _ w ls ld zs zd H _ h _ (by assumption)
     · cases hg
   · repeat' first | (refine Tr.all_ite (fun hc => ?_) (fun hc => ?_) <;> (try simp (disch := omega) only [nV, mulO_eq, Int.cast_ofNat_Int, eq_self] at hc) <;> (try (exfalso; omega))) | (refine Tr.all_req ?_ ?_; · ((try simp (disch := omega) only [nV, mulO_eq, Int.cast_ofNat_Int, eq_self]); try omega)) | (refine Tr.all_reqP ?_ ?_; · first | exact trivial | rfl | exact ⟨rfl, rfl⟩ | exact ⟨rfl, rfl, rfl⟩ | (simp (disch := omega) only [nV, mulO_eq, Int.cast_ofNat_Int, eq_self]; done) | ((try simp (disch := omega) only [nV, mulO_eq, Int.cast_ofNat_Int, eq_self]); omega)) | fail
     refine Tr.all_ok ⟨?_, rfl⟩
     rw [shO_zero]; rfl
noncomputable def sidA (w : Int) (ls ld : Nat) (zs zd : Nat → Int) (sure : Bool) (p q : Int) : AV :=
 if plE w ls ld zs zd p q ≠ 0 then .tup [.nils, .int .i64 (plE w ls ld zs zd p q)]
 else if inN (lstO (jnL w ls ld zs zd sure p)) (jnL w ls ld zs zd sure p).length q = true then .tup [.nils, .int .i64 11]
 else .tup [sl1 (jnL w ls ld zs zd sure p).length (lstO (jnL w ls ld zs zd sure p)) false, .int .i64 0]
theorem c35 (p q : Int) : cd (n + 9) (.fn 35) [bathA w ls zs ld zd, .int .i64 p, .int .i64 q, .bool sure] H = some (sidA w ls ld zs zd sure p q, H) := by
 by_cases he : plE w ls ld zs zd p q = 0
 · obtain ⟨h, h1, h2, h3⟩ := plE_zero he
   simp only [isPl, Bool.and_eq_true, decide_eq_true_eq] at h1 h2
   have hlen := plL_len (fun i => decide (0 < stZ w ls ld zs zd sure p i)) (ls + 2)
   have hJ : plL (fun i => decide (0 < stZ w ls ld zs zd sure p i)) (ls + 2) = jnL w ls ld zs zd sure p := rfl
   rw [hJ] at hlen
   have c := chk_ok h
   refine fn_all (n := n + 8) Try.func35 rfl rfl rfl (u35 n w ls ld (jnL w ls ld zs zd sure p).length zs zd (lstO (jnL w ls ld zs zd sure p)) H p q (plE w ls ld zs zd p q) sure True inN) (il_ok _ (n + 8) 0 (fun k => ctG_ok (ctG_ok (ctG_ok (noCt_ok _) (fun args p v hg hp H => ?_)) (fun args p v hg hp H => ?_)) (fun args p v hg hp H => ?_))) (noBT_ok _ _) (noRT_ok _ _) ?_
   · unfold g70 at hg
     split at hg
     · simp only [Option.some.injEq, Prod.mk.injEq] at hg
       obtain ⟨rfl, rfl⟩ := hg
       obtain ⟨rfl, rfl, rfl⟩ := hp
       rw [show n + 8 + k = n + 3 + k + 5 by omega]
       exact c70 _ w ls ld zs zd H _ _
     · cases hg
   · unfold g81 at hg
     split at hg
     · simp only [Option.some.injEq, Prod.mk.injEq] at hg
       obtain ⟨rfl, rfl⟩ := hg
       obtain ⟨rfl, rfl, rfl⟩ := hp
       rw [show n + 8 + k = n + k + 8 by omega]
       exact c89 _ w ls ld zs zd H _ h _ h1
     · cases hg
   · unfold gIn at hg
     split at hg
     · simp only [Option.some.injEq, Prod.mk.injEq] at hg
       obtain ⟨rfl, rfl⟩ := hg
       obtain ⟨rfl, hp⟩ := hp
       rw [leN_eq, decide_eq_true_eq] at hp
       rw [show n + 8 + k = n + 7 + k + 1 by omega]
       exact c90 _ H _ _ _ _ hp
     · cases hg
   · unfold sidA
     rw [he]
     repeat' first | (refine Tr.all_ite (fun hc => ?_) (fun hc => ?_) <;> (try simp (disch := omega) only [nV, mulO_eq, Int.cast_ofNat_Int, eq_self] at hc) <;> (try (exfalso; omega))) | (refine Tr.all_req ?_ ?_; · ((try simp (disch := omega) only [nV, mulO_eq, Int.cast_ofNat_Int, eq_self]); try omega)) | (refine Tr.all_reqP ?_ ?_; · first | exact trivial | rfl | exact ⟨rfl, rfl⟩ | exact ⟨rfl, rfl, rfl⟩ | (simp (disch := omega) only [nV, mulO_eq, Int.cast_ofNat_Int, eq_self]; done) | ((try simp (disch := omega) only [nV, mulO_eq, Int.cast_ofNat_Int, eq_self]); omega)) | fail
     all_goals refine Tr.all_ok ⟨?_, rfl⟩
     · rw [if_neg (by simp), if_pos hc]; rfl
     · rw [if_neg (by simp), if_neg (by rw [hc]; simp)]; rfl
 · refine fn_all (n := n + 8) Try.func35 rfl rfl rfl (u35x n w ls ld zs zd H p q (plE w ls ld zs zd p q) sure) (il_ok _ (n + 8) 0 (fun k => ctG_ok (ctG_ok (noCt_ok _) (fun args p v hg hp H => ?_)) (fun args p v hg hp H => by cases hg))) (noBT_ok _ _) (noRT_ok _ _) ?_
   · unfold g70 at hg
     split at hg
     · simp only [Option.some.injEq, Prod.mk.injEq] at hg
       obtain ⟨rfl, rfl⟩ := hg
       obtain ⟨rfl, rfl, rfl⟩ := hp
       rw [show n + 8 + k = n + 3 + k + 5 by omega]
       exact c70 _ w ls ld zs zd H _ _
     · cases hg
   · unfold sidA
     rw [if_pos he]
     repeat' first | (refine Tr.all_ite (fun hc => ?_) (fun hc => ?_) <;> (try simp (disch := omega) only [nV, mulO_eq, Int.cast_ofNat_Int, eq_self] at hc) <;> (try (exfalso; omega))) | (refine Tr.all_req ?_ ?_; · ((try simp (disch := omega) only [nV, mulO_eq, Int.cast_ofNat_Int, eq_self]); try omega)) | (refine Tr.all_reqP ?_ ?_; · first | exact trivial | rfl | exact ⟨rfl, rfl⟩ | exact ⟨rfl, rfl, rfl⟩ | (simp (disch := omega) only [nV, mulO_eq, Int.cast_ofNat_Int, eq_self]; done) | ((try simp (disch := omega) only [nV, mulO_eq, Int.cast_ofNat_Int, eq_self]); omega)) | fail
     exact Tr.all_ok ⟨rfl, rfl⟩
end
end Go.Eng
