/- Drop: CheckSide, as it is defined. -/
import Derived.Test.YtjmjkhpfipglcaaV9Kc
import Derived.Test.YtjmjkhpfipglcaaV9DrUx2
import Derived.Test.YtjmjkhpfipglcaaV9DrAx4
section
namespace Go.Eng
open Go.Proofs
set_option linter.unusedVariables false
set_option linter.unusedSimpArgs false
set_option maxRecDepth 100000
noncomputable def fr40a (p q : Int) (m : Nat) (z : Nat → Int) (full sure : Bool) (j : Int) : Frm := [(1, .int .i64 p), (2, .int .i64 q), (3, sl1 m z full), (4, .bool sure), (5, .ptr 0 0 0 0), (11, .int .i64 j)]
noncomputable def fr40b (m : Nat) (z : Nat → Int) (full sure : Bool) (j : Int) : Frm := [(3, sl1 m z full), (4, .bool sure), (5, .ptr 0 0 0 0), (12, .int .i64 j)]
noncomputable def fr40c (m : Nat) (z : Nat → Int) (full sure : Bool) (j k : Int) : Frm := [(3, sl1 m z full), (4, .bool sure), (5, .ptr 0 0 0 0), (12, .int .i64 j), (13, .int .i64 k)]
theorem t40a (n : Nat) (w : Int) (ls ld m : Nat) (zs zd z : Nat → Int) (H : Heap) (p q j : Int) (sure full : Bool) (pl : Int → Bool) : execT (cxD (n+7) 40 88) (il (ctG noCt 87 (g87 (bathA w ls zs ld zd) pl)) (n+7) 0) noBT noRT (part Try.f40 [1,1,0,1,0,0]) (hints (fr40a p q m z full sure j)) (lvB w ls ld zs zd :: H) =
 (fun (Z0 : HFrm) => Tr.ite (ltI j (Int.ofNat m)) (Tr.req (inI j m) (Tr.req (ltN (idO 0 j 1) m) (Tr.reqP (bathA w ls zs ld zd = bathA w ls zs ld zd) (Tr.ite (notB (pl (z (idO 0 j 1)))) (Tr.ok (Ex.ret, [(10, AV.int .i64 (Int.ofNat 3), some 1)], lvB w ls ld zs zd :: H)) (Tr.ite (ltI (Int.ofNat 0) j) (Tr.req (inI j m) (Tr.req (ltN (idO 0 j 1) m) (Tr.req (inI (subI .i64 j (Int.ofNat 1)) m) (Tr.req (ltN (idO 0 (subI .i64 j (Int.ofNat 1)) 1) m) (Tr.ite (leI (z (idO 0 j 1)) (z (idO 0 (subI .i64 j (Int.ofNat 1)) 1))) (Tr.ok (Ex.ret, [(10, AV.int .i64 (Int.ofNat 3), some 1)], lvB w ls ld zs zd :: H)) (Tr.ok (Ex.normal, Z0, lvB w ls ld zs zd :: H))))))) (Tr.ok (Ex.normal, Z0, lvB w ls ld zs zd :: H))))))) (Tr.ok (Ex.exit 0, [(1, AV.int .i64 p, none), (2, AV.int .i64 q, none), (3, AV.slcT none (Row.M [Seg.arr .i64 z m]) 1 m full, none), (4, AV.bool sure, none), (5, AV.ptr 0 0 0 0, none), (11, AV.int .i64 j, none), (26, AV.bool false, some 1)], lvB w ls ld zs zd :: H))) [(1, AV.int .i64 p, none), (2, AV.int .i64 q, none), (3, AV.slcT none (Row.M [Seg.arr .i64 z m]) 1 m full, none), (4, AV.bool sure, none), (5, AV.ptr 0 0 0 0, none), (11, AV.int .i64 (addI .i64 j (Int.ofNat 1)), none)] := by kernel_rfl
theorem t40c (n : Nat) (w : Int) (ls ld m : Nat) (zs zd z : Nat → Int) (H : Heap) (j k : Int) (sure full : Bool) (f : (Nat → Int) → Nat → Int → Bool) (side : Int → Int → Prop) (hl : Int → Int → Bool) : execT (cxD (n+7) 40 88) (il (ctG (ctG noCt 90 (gIn f)) 82 (g82 (bathA w ls zs ld zd) sure side hl)) (n+7) 0) noBT noRT (part Try.f40 [1, 1, 1, 1, 0, 1, 0, 0, 1, 0, 0, 1, 0, 0]) (hints (fr40c m z full sure j k)) (lvB w ls ld zs zd :: H) =
 (fun (Z0 : HFrm) => Tr.ite (ltI k (Int.ofNat ls)) (Tr.reqP (m = m ∧ leN m 1000 = true) (Tr.ite (notB (f z m k)) (Tr.req (inI j m) (Tr.req (ltN (idO 0 j 1) m) (Tr.reqP (bathA w ls zs ld zd = bathA w ls zs ld zd ∧ side (z (idO 0 j 1)) k ∧ sure = sure) (Tr.ite (hl (z (idO 0 j 1)) k) (Tr.ok (Ex.ret, [(10, AV.int .i64 (Int.ofNat 14), some 1)], lvB w ls ld zs zd :: H)) (Tr.ok (Ex.normal, Z0, lvB w ls ld zs zd :: H)))))) (Tr.ok (Ex.normal, Z0, lvB w ls ld zs zd :: H)))) (Tr.ok (Ex.exit 4, [(3, AV.slcT none (Row.M [Seg.arr .i64 z m]) 1 m full, none), (4, AV.bool sure, none), (5, AV.ptr 0 0 0 0, none), (12, AV.int .i64 j, none), (13, AV.int .i64 k, none), (71, AV.bool false, some 1)], lvB w ls ld zs zd :: H))) [(3, AV.slcT none (Row.M [Seg.arr .i64 z m]) 1 m full, none), (4, AV.bool sure, none), (5, AV.ptr 0 0 0 0, none), (12, AV.int .i64 j, none), (13, AV.int .i64 (addI .i64 k (Int.ofNat 1)), none)] := by kernel_rfl
theorem t40b (n : Nat) (w : Int) (ls ld m : Nat) (zs zd z : Nat → Int) (H : Heap) (j : Int) (sure full e : Bool) : execT (cxD (n+7) 40 88) (il noCt (n+7) 0) (blkE noBT 4 (fr40c m z full sure j (-2)) (lvB w ls ld zs zd :: H) (.ite e (.ok (.ret, [(10, .int .i64 14, none)], lvB w ls ld zs zd :: H)) (.ok (.normal, hints (fr40c m z full sure j (Int.ofNat ls) ++ [(71, .bool false)]), lvB w ls ld zs zd :: H)))) noRT (part Try.f40 [1, 1, 1, 1, 0, 1, 0, 0]) (hints (fr40b m z full sure j)) (lvB w ls ld zs zd :: H) =
 (fun (Z0 : Frm) => Tr.ite (ltI j (Int.ofNat m)) (Tr.reqP (Z0 = Z0 ∧ lvB w ls ld zs zd :: H = lvB w ls ld zs zd :: H) (Tr.ite e (Tr.ok (Ex.ret, [(10, AV.int .i64 (Int.ofNat 14), none)], lvB w ls ld zs zd :: H)) (Tr.ok (Ex.normal, [(3, AV.slcT none (Row.M [Seg.arr .i64 z m]) 1 m full, none), (4, AV.bool sure, none), (5, AV.ptr 0 0 0 0, none), (12, AV.int .i64 (addI .i64 j (Int.ofNat 1)), none)], lvB w ls ld zs zd :: H)))) (Tr.ok (Ex.exit 2, [(3, AV.slcT none (Row.M [Seg.arr .i64 z m]) 1 m full, none), (4, AV.bool sure, none), (5, AV.ptr 0 0 0 0, none), (12, AV.int .i64 j, none), (64, AV.bool false, some 1)], lvB w ls ld zs zd :: H))) [(3, AV.slcT none (Row.M [Seg.arr .i64 z m]) 1 m full), (4, AV.bool sure), (5, AV.ptr 0 0 0 0), (12, AV.int .i64 j), (13, AV.int .i64 (Int.negSucc 1))] := by kernel_rfl
theorem t40be (n : Nat) (w : Int) (ls ld m : Nat) (zs zd z : Nat → Int) (H : Heap) (j : Int) (sure full : Bool) : execT (cxD (n+7) 40 88) (il noCt (n+7) 0) (stopB noBT 4) noRT (part Try.f40 [1, 1, 1, 1, 0, 1, 0, 0]) (hints (fr40b m z full sure j)) (lvB w ls ld zs zd :: H) =
 Tr.ite (ltI j (Int.ofNat m)) Tr.bad (Tr.ok (Ex.exit 2, [(3, AV.slcT none (Row.M [Seg.arr .i64 z m]) 1 m full, none), (4, AV.bool sure, none), (5, AV.ptr 0 0 0 0, none), (12, AV.int .i64 j, none), (64, AV.bool false, some 1)], lvB w ls ld zs zd :: H)) := by kernel_rfl
theorem u40 (n : Nat) (w : Int) (ls ld m : Nat) (zs zd z : Nat → Int) (H : Heap) (p q e : Int) (sure full q1 q2 : Bool) (f : (Nat → Int) → Nat → Int → Bool) : bodyT Try.prog (cd (n+7)) 100000 40 Try.f40 (Kt.kt 40) (il (ctG (ctG noCt 70 (g70 (bathA w ls zs ld zd) p q e)) 90 (gIn f)) (n+7) 0) (blkE (blkE noBT 2 (fr40b m z full sure 0) (lvB w ls ld zs zd :: H) (.ite q2 (.ok (.ret, [(10, .int .i64 14, none)], lvB w ls ld zs zd :: H)) (.ok (.normal, hints (fr40b m z full sure (Int.ofNat m) ++ [(64, .bool false)]), lvB w ls ld zs zd :: H)))) 0 (fr40a p q m z full sure 0) (lvB w ls ld zs zd :: H) (.ite q1 (.ok (.ret, [(10, .int .i64 3, none)], lvB w ls ld zs zd :: H)) (.ok (.normal, hints (fr40a p q m z full sure (Int.ofNat m) ++ [(26, .bool false)]), lvB w ls ld zs zd :: H)))) noRT [(bathA w ls zs ld zd, none), (.int .i64 p, none), (.int .i64 q, none), (sl1 m z full, none), (.bool sure, none)] H =
 (fun (Z0 : Frm) => ((fun (Z1 : Frm) => Tr.reqP (bathA w ls zs ld zd = bathA w ls zs ld zd ∧ p = p ∧ q = q) (Tr.ite (notB (eqI e (Int.ofNat 0))) (Tr.reqP (bathA w ls zs ld zd = bathA w ls zs ld zd ∧ p = p ∧ q = q) (Tr.ok ((AV.int .i64 e, none), H))) (Tr.reqP (Z0 = Z0 ∧ lvB w ls ld zs zd :: H = lvB w ls ld zs zd :: H) (Tr.ite q1 (Tr.ok ((AV.int .i64 (Int.ofNat 3), none), H)) (Tr.reqP (m = m ∧ leN m 1000 = true) (Tr.ite (notB (f z m p)) (Tr.ok ((AV.int .i64 (Int.ofNat 14), some 1), H)) (Tr.reqP (m = m ∧ leN m 1000 = true) (Tr.ite (f z m q) (Tr.ok ((AV.int .i64 (Int.ofNat 14), some 1), H)) (Tr.reqP (Z1 = Z1 ∧ lvB w ls ld zs zd :: H = lvB w ls ld zs zd :: H) (Tr.ite q2 (Tr.ok ((AV.int .i64 (Int.ofNat 14), none), H)) (Tr.ok ((AV.int .i64 (Int.ofNat 0), some 1), H)))))))))))) [(3, AV.slcT none (Row.M [Seg.arr .i64 z m]) 1 m full), (4, AV.bool sure), (5, AV.ptr 0 0 0 0), (12, AV.int .i64 (Int.ofNat 0))])) [(1, AV.int .i64 p), (2, AV.int .i64 q), (3, AV.slcT none (Row.M [Seg.arr .i64 z m]) 1 m full), (4, AV.bool sure), (5, AV.ptr 0 0 0 0), (11, AV.int .i64 (Int.ofNat 0))] := by kernel_rfl
theorem u40a (n : Nat) (w : Int) (ls ld m : Nat) (zs zd z : Nat → Int) (H : Heap) (p q e : Int) (sure full : Bool) : bodyT Try.prog (cd (n+7)) 100000 40 Try.f40 (Kt.kt 40) (il (ctG noCt 70 (g70 (bathA w ls zs ld zd) p q e)) (n+7) 0) (blkE noBT 0 (fr40a p q m z full sure 0) (lvB w ls ld zs zd :: H) (.ok (.ret, [(10, .int .i64 3, none)], lvB w ls ld zs zd :: H))) noRT [(bathA w ls zs ld zd, none), (.int .i64 p, none), (.int .i64 q, none), (sl1 m z full, none), (.bool sure, none)] H =
 (fun (Z0 : Frm) => Tr.reqP (bathA w ls zs ld zd = bathA w ls zs ld zd ∧ p = p ∧ q = q) (Tr.ite (notB (eqI e (Int.ofNat 0))) (Tr.reqP (bathA w ls zs ld zd = bathA w ls zs ld zd ∧ p = p ∧ q = q) (Tr.ok ((AV.int .i64 e, none), H))) (Tr.reqP (Z0 = Z0 ∧ lvB w ls ld zs zd :: H = lvB w ls ld zs zd :: H) (Tr.ok ((AV.int .i64 (Int.ofNat 3), none), H))))) [(1, AV.int .i64 p), (2, AV.int .i64 q), (3, AV.slcT none (Row.M [Seg.arr .i64 z m]) 1 m full), (4, AV.bool sure), (5, AV.ptr 0 0 0 0), (11, AV.int .i64 (Int.ofNat 0))] := by kernel_rfl
theorem u40x (n : Nat) (w : Int) (ls ld m : Nat) (zs zd z : Nat → Int) (H : Heap) (p q e : Int) (sure full : Bool) : bodyT Try.prog (cd (n+7)) 100000 40 Try.f40 (Kt.kt 40) (il (ctG noCt 70 (g70 (bathA w ls zs ld zd) p q e)) (n+7) 0) (stopB noBT 0) noRT [(bathA w ls zs ld zd, none), (.int .i64 p, none), (.int .i64 q, none), (sl1 m z full, none), (.bool sure, none)] H =
 Tr.reqP (bathA w ls zs ld zd = bathA w ls zs ld zd ∧ p = p ∧ q = q) (Tr.ite (notB (eqI e (Int.ofNat 0))) (Tr.reqP (bathA w ls zs ld zd = bathA w ls zs ld zd ∧ p = p ∧ q = q) (Tr.ok ((AV.int .i64 e, none), H))) Tr.bad) := by kernel_rfl
def sdO (ls : Nat) (z : Nat → Int) (j : Nat) : Bool := !isPl ls (z j) || (decide (0 < j) && decide (z j ≤ z (j - 1)))
def sdK (z : Nat → Int) (m : Nat) (hl : Int → Int → Bool) (i k : Nat) : Bool := !inN z m ((k : Int) - 2) && hl (z i) ((k : Int) - 2)
def sdI (ls : Nat) (z : Nat → Int) (m : Nat) (hl : Int → Int → Bool) (i : Nat) : Bool := exN (sdK z m hl i) (ls + 2)
def csE (w : Int) (ls ld : Nat) (zs zd : Nat → Int) (sure : Bool) (p q : Int) (m : Nat) (z : Nat → Int) : Int :=
 if plE w ls ld zs zd p q ≠ 0 then plE w ls ld zs zd p q
 else if exN (sdO ls z) m = true then 3
 else if inN z m p = false then 14
 else if inN z m q = true then 14
 else if exN (sdI ls z m (hlF w ld zs zd sure)) m = true then 14 else 0
section
variable (n : Nat) (w : Int) (ls ld m : Nat) (zs zd z : Nat → Int) (H : Heap) (p q : Int) (sure full : Bool)
theorem b40 : ((blocksOf (bodyOf Try.f40)).filter fun x => Nat.beq x.1 0 || Nat.beq x.1 2) = [(0, .loop (part Try.f40 [1,1,0,1,0,0])), (2, .loop (part Try.f40 [1, 1, 1, 1, 0, 1, 0, 0]))] := by kernel_rfl
theorem b40a : ∀ b, (0, b) ∈ blocksOf (bodyOf Try.f40) → b = .loop (part Try.f40 [1,1,0,1,0,0]) := by
 intro b hb
 have hm : (0, b) ∈ ((blocksOf (bodyOf Try.f40)).filter fun x => Nat.beq x.1 0 || Nat.beq x.1 2) := List.mem_filter.2 ⟨hb, rfl⟩
 rw [b40] at hm; simpa using hm
theorem b40b : ∀ b, (2, b) ∈ blocksOf (bodyOf Try.f40) → b = .loop (part Try.f40 [1, 1, 1, 1, 0, 1, 0, 0]) := by
 intro b hb
 have hm : (2, b) ∈ ((blocksOf (bodyOf Try.f40)).filter fun x => Nat.beq x.1 0 || Nat.beq x.1 2) := List.mem_filter.2 ⟨hb, rfl⟩
 rw [b40] at hm; simpa using hm
theorem b40c' : ((blocksOf (part Try.f40 [1, 1, 1, 1, 0, 1, 0, 0])).filter fun x => Nat.beq x.1 4) = [(4, .loop (part Try.f40 [1, 1, 1, 1, 0, 1, 0, 0, 1, 0, 0, 1, 0, 0]))] := by kernel_rfl
theorem b40c : ∀ b, (4, b) ∈ blocksOf (part Try.f40 [1, 1, 1, 1, 0, 1, 0, 0]) → b = .loop (part Try.f40 [1, 1, 1, 1, 0, 1, 0, 0, 1, 0, 0, 1, 0, 0]) := by
 intro b hb
 have hm : (4, b) ∈ ((blocksOf (part Try.f40 [1, 1, 1, 1, 0, 1, 0, 0])).filter fun x => Nat.beq x.1 4) := List.mem_filter.2 ⟨hb, rfl⟩
 rw [b40c'] at hm; simpa using hm
theorem il87 : (il (ctG noCt 87 (g87 (bathA w ls zs ld zd) (isPl ls))) (n+7) 0).Ok (cd (n + 7)) := by
 refine il_ok _ (n + 7) 0 (fun k => ctG_ok (noCt_ok _) (fun args p v hg hp H => ?_))
 unfold g87 at hg
 split at hg
 · simp only [Option.some.injEq, Prod.mk.injEq] at hg
   obtain ⟨rfl, rfl⟩ := hg
   subst hp
   rw [show n + 7 + k = n + 4 + k + 3 by omega]
   exact c87 _ w ls ld zs zd H _
 · cases hg
theorem l40a (hm : m ≤ 1000) : exec (cxD (n + 7) 40 88) (.block 0 (.loop (part Try.f40 [1,1,0,1,0,0]))) (fr40a p q m z full sure 0) (lvB w ls ld zs zd :: H) = some (cond (exN (sdO ls z) m) (.ret, [(10, .int .i64 3)], lvB w ls ld zs zd :: H) (.normal, fr40a p q m z full sure (Int.ofNat m) ++ [(26, .bool false)], lvB w ls ld zs zd :: H)) := by
 refine findX (n := n + 7) (f := 40) (nt := 88) (c := part Try.f40 [1,1,0,1,0,0]) 0 (fun j => fr40a p q m z full sure (j : Int)) (fun _ => lvB w ls ld zs zd :: H) m (sdO ls z) (fun _ => ([(10, .int .i64 3)], lvB w ls ld zs zd :: H)) (fr40a p q m z full sure (Int.ofNat m) ++ [(26, .bool false)], lvB w ls ld zs zd :: H) (by omega) (fun j hj => ?_) ?_
 · have ej : addI .i64 (j : Int) (Int.ofNat 1) = ((j + 1 : Nat) : Int) := by rw [addI_eq, show Int.ofNat 1 = 1 from rfl]; exact wr_64 (by omega) (by omega)
   have es : subI .i64 (j : Int) (Int.ofNat 1) = (j : Int) - 1 := by rw [subI_eq, show Int.ofNat 1 = 1 from rfl]; exact wr_64 (by omega) (by omega)
   have et : ((j : Int) - 1).toNat = j - 1 := by omega
   refine ex_all (t40a n w ls ld m zs zd z H p q (j : Int) sure full (isPl ls)) (il87 n w ls ld zs zd) (noBT_ok _ _) (noRT_ok _ _) ?_
   · have hs : sdO ls z j = (!isPl ls (z j) || (decide (0 < j) && decide (z j ≤ z (j - 1)))) := rfl
     rw [es]
     generalize isPl ls = pl at *
     repeat' first | (refine Tr.all_ite (fun hc => ?_) (fun hc => ?_) <;> (try simp (disch := omega) only [nV, mulO_eq, Int.cast_ofNat_Int, eq_self, Nat.mul_one, et] at hc) <;> (try (exfalso; omega))) | (refine Tr.all_req ?_ ?_; · ((try simp (disch := omega) only [nV, mulO_eq, Int.cast_ofNat_Int, eq_self, Nat.mul_one, et]); try omega)) | (refine Tr.all_reqP ?_ ?_; · first | exact trivial | rfl | exact ⟨rfl, rfl⟩ | exact ⟨rfl, rfl, rfl⟩ | (simp (disch := omega) only [nV, mulO_eq, Int.cast_ofNat_Int, eq_self, Nat.mul_one, et]; done) | ((try simp (disch := omega) only [nV, mulO_eq, Int.cast_ofNat_Int, eq_self, Nat.mul_one, et]); omega)) | fail
     all_goals refine Tr.all_ok ?_
     all_goals first
      | (rw [if_pos (by rw [hs]; simp_all; done)]; rfl)
      | (rw [if_pos (by rw [hs]; simp_all; omega)]; rfl)
      | (rw [if_neg (by rw [hs]; simp_all; done)]; exact ⟨rfl, by rw [ej]; rfl⟩)
      | (rw [if_neg (by rw [hs]; simp_all; omega)]; exact ⟨rfl, by rw [ej]; rfl⟩)
      | fail
 · obtain ⟨x, h1, rfl⟩ := ex_all (Q := fun x => x = (.exit 0, fr40a p q m z full sure (Int.ofNat m) ++ [(26, .bool false)], lvB w ls ld zs zd :: H)) (t40a n w ls ld m zs zd z H p q (Int.ofNat m) sure full (isPl ls)) (il87 n w ls ld zs zd) (noBT_ok _ _) (noRT_ok _ _) (by
    repeat' first | (refine Tr.all_ite (fun hc => ?_) (fun hc => ?_) <;> (try simp (disch := omega) only [nV, mulO_eq, Int.cast_ofNat_Int, eq_self] at hc) <;> (try (exfalso; omega))) | (refine Tr.all_req ?_ ?_; · ((try simp (disch := omega) only [nV, mulO_eq, Int.cast_ofNat_Int, eq_self]); try omega)) | (refine Tr.all_reqP ?_ ?_; · first | exact trivial | rfl | exact ⟨rfl, rfl⟩ | exact ⟨rfl, rfl, rfl⟩ | (simp (disch := omega) only [nV, mulO_eq, Int.cast_ofNat_Int, eq_self]; done) | ((try simp (disch := omega) only [nV, mulO_eq, Int.cast_ofNat_Int, eq_self]); omega)) | fail
    exact Tr.all_ok rfl)
   exact h1
theorem il40c (h : chkB w ls ld zs zd = 0) : (il (ctG (ctG noCt 90 (gIn inN)) 82 (g82 (bathA w ls zs ld zd) sure (fun p q => isPl ls p = true ∧ isPl ls q = true) (hlF w ld zs zd sure))) (n+7) 0).Ok (cd (n + 7)) := by
 refine il_ok _ (n + 7) 0 (fun k => ctG_ok (ctG_ok (noCt_ok _) (fun args p v hg hp H => ?_)) (fun args p v hg hp H => ?_))
 · unfold gIn at hg
   split at hg
   · simp only [Option.some.injEq, Prod.mk.injEq] at hg
     obtain ⟨rfl, rfl⟩ := hg
     obtain ⟨rfl, hp⟩ := hp
     rw [leN_eq, decide_eq_true_eq] at hp
     rw [show n + 7 + k = n + 6 + k + 1 by omega]
     exact c90 _ H _ _ _ _ hp
   · cases hg
 · unfold g82 at hg
   split at hg
   · simp only [Option.some.injEq, Prod.mk.injEq] at hg
     obtain ⟨rfl, rfl⟩ := hg
     obtain ⟨rfl, hp, rfl⟩ := hp
     rw [show n + 7 + k = n + 1 + k + 6 by omega]
     exact c82 _ w ls ld zs zd H _ _ _ (knd_ok h hp.1 hp.2)
   · cases hg
theorem l40c (h : chkB w ls ld zs zd = 0) (hm : m ≤ 1000) (i : Nat) (hi : i < m) (hz : isPl ls (z i) = true) : exec (cxD (n + 7) 40 88) (.block 4 (.loop (part Try.f40 [1, 1, 1, 1, 0, 1, 0, 0, 1, 0, 0, 1, 0, 0]))) (fr40c m z full sure i (-2)) (lvB w ls ld zs zd :: H) = some (cond (sdI ls z m (hlF w ld zs zd sure) i) (.ret, [(10, .int .i64 14)], lvB w ls ld zs zd :: H) (.normal, fr40c m z full sure i (Int.ofNat ls) ++ [(71, .bool false)], lvB w ls ld zs zd :: H)) := by
 have c := chk_ok h
 have := findX (n := n + 7) (f := 40) (nt := 88) (c := part Try.f40 [1, 1, 1, 1, 0, 1, 0, 0, 1, 0, 0, 1, 0, 0]) 4 (fun k => fr40c m z full sure i ((k : Int) - 2)) (fun _ => lvB w ls ld zs zd :: H) (ls + 2) (sdK z m (hlF w ld zs zd sure) i) (fun _ => ([(10, .int .i64 14)], lvB w ls ld zs zd :: H)) (fr40c m z full sure i (Int.ofNat ls) ++ [(71, .bool false)], lvB w ls ld zs zd :: H) (by omega) (fun k hk => ?_) ?_
 · exact this
 · have ej : addI .i64 ((k : Int) - 2) (Int.ofNat 1) = ((k + 1 : Nat) : Int) - 2 := by
    rw [addI_eq, show Int.ofNat 1 = 1 from rfl, wr_64 (by omega) (by omega)]; omega
   have q4 : isPl ls ((k : Int) - 2) = true := by simp [isPl]; omega
   have hs : sdK z m (hlF w ld zs zd sure) i k = (!inN z m ((k : Int) - 2) && hlF w ld zs zd sure (z i) ((k : Int) - 2)) := rfl
   refine ex_all (t40c n w ls ld m zs zd z H (i : Int) ((k : Int) - 2) sure full inN (fun p q => isPl ls p = true ∧ isPl ls q = true) (hlF w ld zs zd sure)) (il40c n w ls ld zs zd sure h) (noBT_ok _ _) (noRT_ok _ _) ?_
   repeat' first | (refine Tr.all_ite (fun hc => ?_) (fun hc => ?_) <;> (try simp (disch := omega) only [nV, mulO_eq, Int.cast_ofNat_Int, eq_self, Nat.mul_one, hz, q4, and_true] at hc) <;> (try (exfalso; omega))) | (refine Tr.all_req ?_ ?_; · ((try simp (disch := omega) only [nV, mulO_eq, Int.cast_ofNat_Int, eq_self, Nat.mul_one, hz, q4, and_true]); try omega)) | (refine Tr.all_reqP ?_ ?_; · first | exact trivial | rfl | exact ⟨rfl, rfl⟩ | exact ⟨rfl, rfl, rfl⟩ | (simp (disch := omega) only [nV, mulO_eq, Int.cast_ofNat_Int, eq_self, Nat.mul_one, hz, q4, and_true]; done) | ((try simp (disch := omega) only [nV, mulO_eq, Int.cast_ofNat_Int, eq_self, Nat.mul_one, hz, q4, and_true]); omega)) | fail
   all_goals refine Tr.all_ok ?_
   all_goals first
    | (rw [if_pos (by rw [hs]; simp_all; done)]; rfl)
    | (rw [if_neg (by rw [hs]; simp_all; done)]; exact ⟨rfl, by rw [ej]; rfl⟩)
    | fail
 · have em : ((ls + 2 : Nat) : Int) - 2 = Int.ofNat ls := by rw [ofNat_cast]; omega
   rw [em]
   obtain ⟨x, h1, rfl⟩ := ex_all (Q := fun x => x = (.exit 4, fr40c m z full sure i (Int.ofNat ls) ++ [(71, .bool false)], lvB w ls ld zs zd :: H)) (t40c n w ls ld m zs zd z H (i : Int) (Int.ofNat ls) sure full inN (fun p q => isPl ls p = true ∧ isPl ls q = true) (hlF w ld zs zd sure)) (il40c n w ls ld zs zd sure h) (noBT_ok _ _) (noRT_ok _ _) (by
    repeat' first | (refine Tr.all_ite (fun hc => ?_) (fun hc => ?_) <;> (try simp (disch := omega) only [nV, mulO_eq, Int.cast_ofNat_Int, eq_self] at hc) <;> (try (exfalso; omega))) | (refine Tr.all_req ?_ ?_; · ((try simp (disch := omega) only [nV, mulO_eq, Int.cast_ofNat_Int, eq_self]); try omega)) | (refine Tr.all_reqP ?_ ?_; · first | exact trivial | rfl | exact ⟨rfl, rfl⟩ | exact ⟨rfl, rfl, rfl⟩ | (simp (disch := omega) only [nV, mulO_eq, Int.cast_ofNat_Int, eq_self]; done) | ((try simp (disch := omega) only [nV, mulO_eq, Int.cast_ofNat_Int, eq_self]); omega)) | fail
    exact Tr.all_ok rfl)
   exact h1
theorem l40b (h : chkB w ls ld zs zd = 0) (hm : m ≤ 1000) (hz : ∀ i, i < m → isPl ls (z i) = true) : exec (cxD (n + 7) 40 88) (.block 2 (.loop (part Try.f40 [1, 1, 1, 1, 0, 1, 0, 0]))) (fr40b m z full sure 0) (lvB w ls ld zs zd :: H) = some (cond (exN (sdI ls z m (hlF w ld zs zd sure)) m) (.ret, [(10, .int .i64 14)], lvB w ls ld zs zd :: H) (.normal, fr40b m z full sure (Int.ofNat m) ++ [(64, .bool false)], lvB w ls ld zs zd :: H)) := by
 refine findX (n := n + 7) (f := 40) (nt := 88) (c := part Try.f40 [1, 1, 1, 1, 0, 1, 0, 0]) 2 (fun j => fr40b m z full sure (j : Int)) (fun _ => lvB w ls ld zs zd :: H) m (sdI ls z m (hlF w ld zs zd sure)) (fun _ => ([(10, .int .i64 14)], lvB w ls ld zs zd :: H)) (fr40b m z full sure (Int.ofNat m) ++ [(64, .bool false)], lvB w ls ld zs zd :: H) (by omega) (fun j hj => ?_) ?_
 · have ej : addI .i64 (j : Int) (Int.ofNat 1) = ((j + 1 : Nat) : Int) := by rw [addI_eq, show Int.ofNat 1 = 1 from rfl]; exact wr_64 (by omega) (by omega)
   have lk := l40c n w ls ld m zs zd z H sure full h hm j hj (hz j hj)
   refine ex_all (t40b n w ls ld m zs zd z H (j : Int) sure full (sdI ls z m (hlF w ld zs zd sure) j)) (il_no (n + 7) 0) (blkE_ok (noBT_ok _ _) b40c (fun x hx => ?_)) (noRT_ok _ _) ?_
   · refine Eq.trans lk ?_
     rcases Tr.ite_some hx with ⟨hc, hx⟩ | ⟨hc, hx⟩
     · rw [← Tr.ok_some hx, hc]; rfl
     · rw [← Tr.ok_some hx, hc]; simp only [Res.st, hints_eq]; rfl
   · repeat' first | (refine Tr.all_ite (fun hc => ?_) (fun hc => ?_) <;> (try simp (disch := omega) only [nV, mulO_eq, Int.cast_ofNat_Int, eq_self] at hc) <;> (try (exfalso; omega))) | (refine Tr.all_req ?_ ?_; · ((try simp (disch := omega) only [nV, mulO_eq, Int.cast_ofNat_Int, eq_self]); try omega)) | (refine Tr.all_reqP ?_ ?_; · first | exact trivial | rfl | exact ⟨rfl, rfl⟩ | exact ⟨rfl, rfl, rfl⟩ | (simp (disch := omega) only [nV, mulO_eq, Int.cast_ofNat_Int, eq_self]; done) | ((try simp (disch := omega) only [nV, mulO_eq, Int.cast_ofNat_Int, eq_self]); omega)) | fail
     all_goals refine Tr.all_ok ?_
     · rw [if_pos hc]; rfl
     · rw [if_neg (by rw [hc]; simp)]; exact ⟨rfl, by rw [ej]; rfl⟩
 · obtain ⟨x, h1, rfl⟩ := ex_all (Q := fun x => x = (.exit 2, fr40b m z full sure (Int.ofNat m) ++ [(64, .bool false)], lvB w ls ld zs zd :: H)) (t40be n w ls ld m zs zd z H (Int.ofNat m) sure full) (il_no (n + 7) 0) (stopB_ok (noBT_ok _ _) 4) (noRT_ok _ _) (by
    repeat' first | (refine Tr.all_ite (fun hc => ?_) (fun hc => ?_) <;> (try simp (disch := omega) only [nV, mulO_eq, Int.cast_ofNat_Int, eq_self] at hc) <;> (try (exfalso; omega))) | (refine Tr.all_req ?_ ?_; · ((try simp (disch := omega) only [nV, mulO_eq, Int.cast_ofNat_Int, eq_self]); try omega)) | (refine Tr.all_reqP ?_ ?_; · first | exact trivial | rfl | exact ⟨rfl, rfl⟩ | exact ⟨rfl, rfl, rfl⟩ | (simp (disch := omega) only [nV, mulO_eq, Int.cast_ofNat_Int, eq_self]; done) | ((try simp (disch := omega) only [nV, mulO_eq, Int.cast_ofNat_Int, eq_self]); omega)) | fail
    exact Tr.all_ok rfl)
   exact h1
theorem c40 (hm : m ≤ 1000) : cd (n + 8) (.fn 40) [bathA w ls zs ld zd, .int .i64 p, .int .i64 q, sl1 m z full, .bool sure] H = some (.int .i64 (csE w ls ld zs zd sure p q m z), H) := by
 have i70 : ∀ (t : Ctr), (∀ k, t.Ok (cd (n + 7 + k))) → (il t (n+7) 0).Ok (cd (n + 7)) := fun t ht => il_ok _ (n + 7) 0 ht
 have ct70 : ∀ k, (ctG noCt 70 (g70 (bathA w ls zs ld zd) p q (plE w ls ld zs zd p q))).Ok (cd (n + 7 + k)) := fun k => ctG_ok (noCt_ok _) (fun args p v hg hp H => by
  unfold g70 at hg
  split at hg
  · simp only [Option.some.injEq, Prod.mk.injEq] at hg
    obtain ⟨rfl, rfl⟩ := hg
    obtain ⟨rfl, rfl, rfl⟩ := hp
    rw [show n + 7 + k = n + 2 + k + 5 by omega]
    exact c70 _ w ls ld zs zd H _ _
  · cases hg)
 by_cases he : plE w ls ld zs zd p q = 0
 · obtain ⟨h, h1, h2, h3⟩ := plE_zero he
   have lk := l40a n w ls ld m zs zd z H p q sure full hm
   have l2 : exN (sdO ls z) m = false → _ := fun hx => l40b n w ls ld m zs zd z H sure full h hm (fun i hi => by
    cases hq : isPl ls (z i) with
    | true => rfl
    | false =>
      have := (exN_iff (sdO ls z) m).2 ⟨i, hi, by unfold sdO; rw [hq]; rfl⟩
      rw [this] at hx; cases hx)
   have hiT : (il (ctG (ctG noCt 70 (g70 (bathA w ls zs ld zd) p q (plE w ls ld zs zd p q))) 90 (gIn inN)) (n+7) 0).Ok (cd (n + 7)) := i70 _ (fun k => ctG_ok (ct70 k) (fun args p v hg hp H => by
    unfold gIn at hg
    split at hg
    · simp only [Option.some.injEq, Prod.mk.injEq] at hg
      obtain ⟨rfl, rfl⟩ := hg
      obtain ⟨rfl, hp⟩ := hp
      rw [leN_eq, decide_eq_true_eq] at hp
      rw [show n + 7 + k = n + 6 + k + 1 by omega]
      exact c90 _ H _ _ _ _ hp
    · cases hg))
   cases hx : exN (sdO ls z) m with
   | true =>
     rw [hx] at lk
     refine fn_all (n := n + 7) Try.func40 rfl rfl rfl (u40a n w ls ld m zs zd z H p q (plE w ls ld zs zd p q) sure full) (i70 _ ct70) (blkE_ok (noBT_ok _ _) b40a (fun x hx => by rw [← Tr.ok_some hx]; exact lk)) (noRT_ok _ _) ?_
     unfold csE
     rw [he, if_neg (by simp), if_pos hx]
     repeat' first | (refine Tr.all_ite (fun hc => ?_) (fun hc => ?_) <;> (try simp (disch := omega) only [nV, mulO_eq, Int.cast_ofNat_Int, eq_self] at hc) <;> (try (exfalso; omega))) | (refine Tr.all_req ?_ ?_; · ((try simp (disch := omega) only [nV, mulO_eq, Int.cast_ofNat_Int, eq_self]); try omega)) | (refine Tr.all_reqP ?_ ?_; · first | exact trivial | rfl | exact ⟨rfl, rfl⟩ | exact ⟨rfl, rfl, rfl⟩ | (simp (disch := omega) only [nV, mulO_eq, Int.cast_ofNat_Int, eq_self]; done) | ((try simp (disch := omega) only [nV, mulO_eq, Int.cast_ofNat_Int, eq_self]); omega)) | fail
     exact Tr.all_ok ⟨rfl, rfl⟩
   | false =>
     rw [hx] at lk
     have l2 := l2 hx
     refine fn_all (n := n + 7) Try.func40 rfl rfl rfl (u40 n w ls ld m zs zd z H p q (plE w ls ld zs zd p q) sure full false (exN (sdI ls z m (hlF w ld zs zd sure)) m) inN) hiT (blkE_ok (blkE_ok (noBT_ok _ _) b40b (fun x hx => ?_)) b40a (fun x hx => ?_)) (noRT_ok _ _) ?_
     · refine Eq.trans l2 ?_
       rcases Tr.ite_some hx with ⟨hc, hx⟩ | ⟨hc, hx⟩
       · rw [← Tr.ok_some hx, hc]; rfl
       · rw [← Tr.ok_some hx, hc]; simp only [Res.st, hints_eq]; rfl
     · refine Eq.trans lk ?_
       rcases Tr.ite_some hx with ⟨hc, hx⟩ | ⟨hc, hx⟩
       · cases hc
       · rw [← Tr.ok_some hx]; simp only [Res.st, hints_eq]; rfl
     · unfold csE
       rw [he, if_neg (by simp), if_neg (by rw [hx]; simp)]
       repeat' first | (refine Tr.all_ite (fun hc => ?_) (fun hc => ?_) <;> (try simp (disch := omega) only [nV, mulO_eq, Int.cast_ofNat_Int, eq_self] at hc) <;> (try (exfalso; omega))) | (refine Tr.all_req ?_ ?_; · ((try simp (disch := omega) only [nV, mulO_eq, Int.cast_ofNat_Int, eq_self]); try omega)) | (refine Tr.all_reqP ?_ ?_; · first | exact trivial | rfl | exact ⟨rfl, rfl⟩ | exact ⟨rfl, rfl, rfl⟩ | (simp (disch := omega) only [nV, mulO_eq, Int.cast_ofNat_Int, eq_self]; done) | ((try simp (disch := omega) only [nV, mulO_eq, Int.cast_ofNat_Int, eq_self]); omega)) | fail
       all_goals refine Tr.all_ok ⟨?_, rfl⟩
       all_goals first
        | (simp_all; done)
        | (simp_all; rfl)
        | fail
 · refine fn_all (n := n + 7) Try.func40 rfl rfl rfl (u40x n w ls ld m zs zd z H p q (plE w ls ld zs zd p q) sure full) (i70 _ ct70) (stopB_ok (noBT_ok _ _) 0) (noRT_ok _ _) ?_
   unfold csE
   rw [if_pos he]
   repeat' first | (refine Tr.all_ite (fun hc => ?_) (fun hc => ?_) <;> (try simp (disch := omega) only [nV, mulO_eq, Int.cast_ofNat_Int, eq_self] at hc) <;> (try (exfalso; omega))) | (refine Tr.all_req ?_ ?_; · ((try simp (disch := omega) only [nV, mulO_eq, Int.cast_ofNat_Int, eq_self]); try omega)) | (refine Tr.all_reqP ?_ ?_; · first | exact trivial | rfl | exact ⟨rfl, rfl⟩ | exact ⟨rfl, rfl, rfl⟩ | (simp (disch := omega) only [nV, mulO_eq, Int.cast_ofNat_Int, eq_self]; done) | ((try simp (disch := omega) only [nV, mulO_eq, Int.cast_ofNat_Int, eq_self]); omega)) | fail
   exact Tr.all_ok ⟨rfl, rfl⟩
end
end Go.Eng
end
section
namespace Go.Eng
open Go.Proofs
set_option linter.unusedVariables false
set_option linter.unusedSimpArgs false
set_option maxRecDepth 100000
section
variable (n : Nat) (w k p q : Int) (ls ld : Nat) (zs zd : Nat → Int) (H : Heap)
end
end Go.Eng
end
section
namespace Go.Eng
open Go.Proofs
set_option linter.unusedVariables false
set_option linter.unusedSimpArgs false
set_option maxRecDepth 100000
section
variable (n : Nat) (w : Int) (ls ld : Nat) (zs zd : Nat → Int) (H : Heap) (p q : Int)
theorem ct68 (k : Nat) (t : AV) (e : Int) (ht : t = plT w ls ld zs zd p q) (he : e = plE w ls ld zs zd p q) : (ctG noCt 68 (g68 (bathA w ls zs ld zd) p q t e)).Ok (cd (n + 14 + k)) := by
 subst ht; subst he
 refine ctG_ok (noCt_ok _) (fun args p v hg hp H => ?_)
 unfold g68 at hg
 split at hg
 · simp only [Option.some.injEq, Prod.mk.injEq] at hg
   obtain ⟨rfl, rfl⟩ := hg
   obtain ⟨rfl, rfl, rfl⟩ := hp
   rw [show n + 14 + k = n + k + 14 by omega]
   exact c68 _ w ls ld zs zd H _ _
 · cases hg
end
end Go.Eng
end
section
namespace Go.Eng
open Go.Proofs
set_option linter.unusedVariables false
set_option linter.unusedSimpArgs false
set_option maxRecDepth 100000
noncomputable def tabR (k : Nat) (w : Int) (ls ld : Nat) (zs zd sz kd : Nat → Int) : AV := .ptrT (some k) (.M [.one (.int .i64 w), .one (slA 2 ls zs), .one (slA 3 ld zd), .one (.slcT none (.M [.arr .i64 sz (mulO ls 2)]) 2 ls true), .arr .i64 kd 144]) 0
section
variable (n : Nat) (w : Int) (ls ld : Nat) (zs zd sz kd : Nat → Int) (H : Heap) (s more : Int)
end
end Go.Eng
end
