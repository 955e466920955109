/- Bath: which orders are valid, and when their baths can be mixed, as they are defined. -/
import Derived.Test.YtigmfpmabgekoaaGreatV7BaAx3
section
namespace Go.Eng
open Go.Proofs
set_option linter.unusedVariables false
set_option linter.unusedSimpArgs false
set_option maxRecDepth 100000
noncomputable def fr21 (l : Nat) (z : Nat → Int) (j : Int) : Frm := [(0, slA 5 l z), (3, .int .i64 j)]
noncomputable def g20 (L : AV) (e : Int) : List AV → Option (Prop × AV)
  | [a] => some (a = L, .int .i64 e)
  | _ => none
theorem t21 (n : Nat) (l : Nat) (z : Nat → Int) (H : Heap) (j : Int) : execT (cxD (n+2) 21 50) (il noCt (n+1) 1) noBT noRT (part Tryz.f21 [1,1,0,1,0,0]) (hints (fr21 l z j)) (lvE :: H) =
  Tr.ite (ltI j (Int.ofNat l)) (Tr.req (inI j l) (Tr.req (ltN (idO 0 j 5) (mulO l 5)) (Tr.req (ltN (addO (idO 0 j 5) 1) (mulO l 5)) (Tr.ite (leI (Int.ofNat 0) (z (idO 0 j 5))) (Tr.ite (leI (z (idO 0 j 5)) (z (addO (idO 0 j 5) 1))) (Tr.ite (notB (leI (z (addO (idO 0 j 5) 1)) (Int.ofNat 10000))) (Tr.ok (Ex.ret, [(2, AV.int .i64 (Int.ofNat 3), some 1)], lvE :: H)) (Tr.req (inI j l) (Tr.req (ltN (addO (idO 0 j 5) 2) (mulO l 5)) (Tr.req (ltN (addO (addO (idO 0 j 5) 2) 1) (mulO l 5)) (Tr.ite (leI (Int.ofNat 0) (z (addO (idO 0 j 5) 2))) (Tr.ite (leI (z (addO (idO 0 j 5) 2)) (z (addO (addO (idO 0 j 5) 2) 1))) (Tr.ite (notB (leI (z (addO (addO (idO 0 j 5) 2) 1)) (Int.ofNat 10000))) (Tr.ok (Ex.ret, [(2, AV.int .i64 (Int.ofNat 3), some 1)], lvE :: H)) (Tr.req (inI j l) (Tr.req (ltN (addO (idO 0 j 5) 4) (mulO l 5)) (Tr.ite (ltI (z (addO (idO 0 j 5) 4)) (Int.ofNat 0)) (Tr.ok (Ex.ret, [(2, AV.int .i64 (Int.ofNat 3), some 1)], lvE :: H)) (Tr.req (inI j l) (Tr.req (ltN (addO (idO 0 j 5) 4) (mulO l 5)) (Tr.ite (ltI (Int.ofNat 100000) (z (addO (idO 0 j 5) 4))) (Tr.ok (Ex.ret, [(2, AV.int .i64 (Int.ofNat 3), some 1)], lvE :: H)) (Tr.ok (Ex.normal, [(0, slA 5 l z, none), (3, AV.int .i64 (addI .i64 j (Int.ofNat 1)), none)], lvE :: H))))))))) (Tr.ok (Ex.ret, [(2, AV.int .i64 (Int.ofNat 3), some 1)], lvE :: H))) (Tr.ok (Ex.ret, [(2, AV.int .i64 (Int.ofNat 3), some 1)], lvE :: H))))))) (Tr.ok (Ex.ret, [(2, AV.int .i64 (Int.ofNat 3), some 1)], lvE :: H))) (Tr.ok (Ex.ret, [(2, AV.int .i64 (Int.ofNat 3), some 1)], lvE :: H)))))) (Tr.ok (Ex.exit 0, [(0, slA 5 l z, none), (3, AV.int .i64 j, none), (15, AV.bool false, some 1)], lvE :: H)) := by kernel_rfl
theorem u21 (n : Nat) (l : Nat) (z : Nat → Int) (H : Heap) (e : Bool) : bodyT Tryz.prog (cd (n+2)) 100000 21 Tryz.f21 (KtB.kt 21) (il noCt (n+2) 0) (blkE noBT 0 (fr21 l z 0) (lvE :: H) (.ite e (.ok (.ret, [(2, .int .i64 3, none)], lvE :: H)) (.ok (.normal, hints (fr21 l z (Int.ofNat l) ++ [(15, .bool false)]), lvE :: H)))) noRT [(slA 5 l z, none)] H =
  Tr.ite (ltI (Int.ofNat l) (Int.ofNat 1)) (Tr.ok ((AV.int .i64 (Int.ofNat 6), some 1), H)) (Tr.ite (ltI (Int.ofNat 14) (Int.ofNat l)) (Tr.ok ((AV.int .i64 (Int.ofNat 6), some 1), H)) (Tr.reqP ([(0, slA 5 l z), (3, AV.int .i64 (Int.ofNat 0))] = [(0, slA 5 l z), (3, AV.int .i64 (Int.ofNat 0))] ∧ lvE :: H = lvE :: H) (Tr.ite e (Tr.ok ((AV.int .i64 (Int.ofNat 3), none), H)) (Tr.ok ((AV.int .i64 (Int.ofNat 0), some 1), H))))) := by kernel_rfl
theorem u21x (n : Nat) (l : Nat) (z : Nat → Int) (H : Heap) : bodyT Tryz.prog (cd (n+2)) 100000 21 Tryz.f21 (KtB.kt 21) (il noCt (n+2) 0) (stopB noBT 0) noRT [(slA 5 l z, none)] H =
  Tr.ite (ltI (Int.ofNat l) (Int.ofNat 1)) (Tr.ok ((AV.int .i64 (Int.ofNat 6), some 1), H)) (Tr.ite (ltI (Int.ofNat 14) (Int.ofNat l)) (Tr.ok ((AV.int .i64 (Int.ofNat 6), some 1), H)) Tr.bad) := by kernel_rfl
theorem u17 (n : Nat) (l : Nat) (z : Nat → Int) (H : Heap) (q e : Int) : bodyT Tryz.prog (cd (n+5)) 100000 17 Tryz.f17 (KtB.kt 17) (il (ctG noCt 21 (g20 (slA 5 l z) e)) (n+3) 2) noBT noRT [(slA 5 l z, none), (.int .i64 q, none)] H =
  Tr.reqP (slA 5 l z = slA 5 l z) (Tr.ite (notB (eqI e (Int.ofNat 0))) (Tr.reqP (slA 5 l z = slA 5 l z) (Tr.ok ((AV.tup [AV.agg (Row.I .i64 [Int.ofNat 0, Int.ofNat 0]), AV.int .i64 e], none), H))) (Tr.ite (leI (Int.ofNat 0) q) (Tr.ite (notB (ltI q (Int.ofNat l))) (Tr.ok ((AV.tup [AV.agg (Row.I .i64 [Int.ofNat 0, Int.ofNat 0]), AV.int .i64 (Int.ofNat 2)], none), H)) (Tr.req (inI q l) (Tr.req (ltN (idO 0 q 5) (mulO l 5)) (Tr.req (ltN (addO (idO 0 q 5) 1) (mulO l 5)) (Tr.req (ltN (addO (idO 0 q 5) 2) (mulO l 5)) (Tr.req (ltN (addO (idO 0 q 5) 3) (mulO l 5)) (Tr.req (ltN (addO (idO 0 q 5) 4) (mulO l 5)) (Tr.ite (ltI (subI .i64 (z (idO 0 q 5)) (z (addO (idO 0 q 5) 2))) (subI .i64 (z (addO (idO 0 q 5) 1)) (z (addO (idO 0 q 5) 3)))) (Tr.ok ((AV.tup [AV.agg (Row.I .i64 [Int.ofNat 0, Int.ofNat 0]), AV.int .i64 (Int.ofNat 22)], none), H)) (Tr.ok ((AV.tup [AV.agg (Row.I .i64 [subI .i64 (z (addO (idO 0 q 5) 1)) (z (addO (idO 0 q 5) 3)), subI .i64 (z (idO 0 q 5)) (z (addO (idO 0 q 5) 2))]), AV.int .i64 (Int.ofNat 0)], none), H)))))))))) (Tr.ok ((AV.tup [AV.agg (Row.I .i64 [Int.ofNat 0, Int.ofNat 0]), AV.int .i64 (Int.ofNat 2)], none), H)))) := by kernel_rfl
/-- The births of an order. -/
def bLo (z : Nat → Int) (j : Nat) : Int := z (j * 5 + 1) - z (j * 5 + 3)
def bHi (z : Nat → Int) (j : Nat) : Int := z (j * 5) - z (j * 5 + 2)
/-- What Births answers. -/
def birV (l : Nat) (z : Nat → Int) (q : Int) : AV :=
  if chkO l z ≠ 0 then .tup [.agg (.I .i64 [0, 0]), .int .i64 (chkO l z)]
  else if ¬ (0 ≤ q ∧ q < l) then .tup [.agg (.I .i64 [0, 0]), .int .i64 2]
  else if bHi z q.toNat < bLo z q.toNat then .tup [.agg (.I .i64 [0, 0]), .int .i64 22]
  else .tup [.agg (.I .i64 [bLo z q.toNat, bHi z q.toNat]), .int .i64 0]
theorem b21 : ∀ b, (0, b) ∈ blocksOf (bodyOf Tryz.f21) → b = .loop (part Tryz.f21 [1,1,0,1,0,0]) := by
  have : ((blocksOf (bodyOf Tryz.f21)).filter fun x => Nat.beq x.1 0) = [(0, .loop (part Tryz.f21 [1,1,0,1,0,0]))] := by kernel_rfl
  intro b hb
  have hm : (0, b) ∈ ((blocksOf (bodyOf Tryz.f21)).filter fun x => Nat.beq x.1 0) := List.mem_filter.2 ⟨hb, rfl⟩
  rw [this] at hm; simpa using hm
theorem chk_odd {l : Nat} {z : Nat → Int} (h : chkO l z = 0) : (1 ≤ l ∧ l ≤ 14) ∧ ∀ j, j < l → 0 ≤ z (j * 5) ∧ z (j * 5) ≤ z (j * 5 + 1) ∧ z (j * 5 + 1) ≤ 10000 ∧ 0 ≤ z (j * 5 + 2) ∧ z (j * 5 + 2) ≤ z (j * 5 + 3) ∧ z (j * 5 + 3) ≤ 10000 ∧ 0 ≤ z (j * 5 + 4) ∧ z (j * 5 + 4) ≤ 100000 := by
  unfold chkO at h
  by_cases hl : l = 0 ∨ 14 < l
  · rw [if_pos hl] at h; exact absurd h (by decide)
  rw [if_neg hl] at h
  cases he : exN (oddO z) l with
  | true => rw [he, if_pos rfl] at h; exact absurd h (by decide)
  | false =>
    refine ⟨by omega, fun j hj => ?_⟩
    have : oddO z j = false := by
      cases e : oddO z j with
      | false => rfl
      | true => rw [(exN_iff _ _).2 ⟨j, hj, e⟩] at he; cases he
    simpa [oddO] using this
section
variable (n : Nat) (l : Nat) (z : Nat → Int) (H : Heap) (q : Int)
theorem c21 : cd (n + 3) (.fn 21) [slA 5 l z] H = some (.int .i64 (chkO l z), H) := by
  unfold chkO
  by_cases hl : l = 0 ∨ 14 < l
  · rw [if_pos hl]
    refine fn_all (n := n + 2) Tryz.func21 rfl rfl rfl (u21x n l z H) (il_no (n + 2) 0) (stopB_ok (noBT_ok _ _) 0) (noRT_ok _ _) ?_
    repeat' first | (refine Tr.all_ite (fun hc => ?_) (fun hc => ?_) <;> (try simp (disch := omega) only [nV, mulO_eq, Int.cast_ofNat_Int, eq_self] at hc) <;> (try (exfalso; omega))) | (refine Tr.all_req ?_ ?_; · ((try simp (disch := omega) only [nV, mulO_eq, Int.cast_ofNat_Int, eq_self]); try omega)) | (refine Tr.all_reqP ?_ ?_; · first | exact trivial | rfl | exact ⟨rfl, rfl⟩ | exact ⟨rfl, rfl, rfl⟩ | (simp (disch := omega) only [nV, mulO_eq, Int.cast_ofNat_Int, eq_self]; done) | ((try simp (disch := omega) only [nV, mulO_eq, Int.cast_ofNat_Int, eq_self]); omega)) | fail
    all_goals exact Tr.all_ok ⟨rfl, rfl⟩
  rw [if_neg hl]
  have lp := findX (n := n + 2) (f := 21) (nt := 50) (c := part Tryz.f21 [1,1,0,1,0,0]) 0 (fun j => fr21 l z (j : Int)) (fun _ => lvE :: H) l (oddO z) (fun j => ([(2, .int .i64 3)], lvE :: H)) (fr21 l z (Int.ofNat l) ++ [(15, .bool false)], lvE :: H) (by omega) (fun j hj => ?_) ?_
  · refine fn_all (n := n + 2) Tryz.func21 rfl rfl rfl (u21 n l z H (exN (oddO z) l)) (il_no (n + 2) 0) (blkE_ok (noBT_ok _ _) b21 (fun x hx => ?_)) (noRT_ok _ _) ?_
    · refine Eq.trans lp ?_
      rcases Tr.ite_some hx with ⟨hc, hx⟩ | ⟨hc, hx⟩
      · rw [← Tr.ok_some hx, hc]; rfl
      · rw [← Tr.ok_some hx, hc]; simp only [Res.st, hints_eq]; rfl
    · cases hx : exN (oddO z) l
      · repeat' first | (refine Tr.all_ite (fun hc => ?_) (fun hc => ?_) <;> (try simp (disch := omega) only [nV, mulO_eq, Int.cast_ofNat_Int, eq_self, hx] at hc) <;> (try (exfalso; omega))) | (refine Tr.all_req ?_ ?_; · ((try simp (disch := omega) only [nV, mulO_eq, Int.cast_ofNat_Int, eq_self, hx]); try omega)) | (refine Tr.all_reqP ?_ ?_; · first | exact trivial | rfl | exact ⟨rfl, rfl⟩ | exact ⟨rfl, rfl, rfl⟩ | (simp (disch := omega) only [nV, mulO_eq, Int.cast_ofNat_Int, eq_self, hx]; done) | ((try simp (disch := omega) only [nV, mulO_eq, Int.cast_ofNat_Int, eq_self, hx]); omega)) | fail
        all_goals first
          | exact Tr.all_ok ⟨rfl, rfl⟩
          | fail
      · repeat' first | (refine Tr.all_ite (fun hc => ?_) (fun hc => ?_) <;> (try simp (disch := omega) only [nV, mulO_eq, Int.cast_ofNat_Int, eq_self, hx] at hc) <;> (try (exfalso; omega))) | (refine Tr.all_req ?_ ?_; · ((try simp (disch := omega) only [nV, mulO_eq, Int.cast_ofNat_Int, eq_self, hx]); try omega)) | (refine Tr.all_reqP ?_ ?_; · first | exact trivial | rfl | exact ⟨rfl, rfl⟩ | exact ⟨rfl, rfl, rfl⟩ | (simp (disch := omega) only [nV, mulO_eq, Int.cast_ofNat_Int, eq_self, hx]; done) | ((try simp (disch := omega) only [nV, mulO_eq, Int.cast_ofNat_Int, eq_self, hx]); omega)) | fail
        all_goals first
          | exact Tr.all_ok ⟨rfl, rfl⟩
          | fail
  · have ej : addI .i64 (j : Int) (Int.ofNat 1) = ((j + 1 : Nat) : Int) := by rw [addI_eq, show Int.ofNat 1 = 1 from rfl]; exact wr_64 (by omega) (by omega)
    have ei : idO 0 (j : Int) 5 = j * 5 := by rw [idO_eq]; omega
    have hs : oddO z j = !(decide (0 ≤ z (j * 5)) && (decide (z (j * 5) ≤ z (j * 5 + 1)) && (decide (z (j * 5 + 1) ≤ 10000) && (decide (0 ≤ z (j * 5 + 2)) && (decide (z (j * 5 + 2) ≤ z (j * 5 + 3)) && (decide (z (j * 5 + 3) ≤ 10000) && (decide (0 ≤ z (j * 5 + 4)) && decide (z (j * 5 + 4) ≤ 100000)))))))) := rfl
    refine ex_all (t21 n l z H (j : Int)) (il_no (n + 1) 1) (noBT_ok _ _) (noRT_ok _ _) ?_
    have e31 : j * 5 + 2 + 1 = j * 5 + 3 := rfl
    repeat' first | (refine Tr.all_ite (fun hc => ?_) (fun hc => ?_) <;> (try simp (disch := omega) only [nV, mulO_eq, Int.cast_ofNat_Int, eq_self, ei, e31] at hc) <;> (try (exfalso; omega))) | (refine Tr.all_req ?_ ?_; · ((try simp (disch := omega) only [nV, mulO_eq, Int.cast_ofNat_Int, eq_self, ei, e31]); try omega)) | (refine Tr.all_reqP ?_ ?_; · first | exact trivial | rfl | exact ⟨rfl, rfl⟩ | exact ⟨rfl, rfl, rfl⟩ | (simp (disch := omega) only [nV, mulO_eq, Int.cast_ofNat_Int, eq_self, ei, e31]; done) | ((try simp (disch := omega) only [nV, mulO_eq, Int.cast_ofNat_Int, eq_self, ei, e31]); omega)) | fail
    all_goals refine Tr.all_ok ?_
    all_goals first
      | (rw [if_pos (by rw [hs]; simp; omega)]; rfl)
      | (rw [if_neg (by rw [hs]; simp; omega)]; exact ⟨rfl, by rw [ej]; rfl⟩)
      | fail
  · obtain ⟨x, h1, rfl⟩ := ex_all (Q := fun x => x = (.exit 0, fr21 l z (Int.ofNat l) ++ [(15, .bool false)], lvE :: H)) (t21 n l z H (Int.ofNat l)) (il_no (n + 1) 1) (noBT_ok _ _) (noRT_ok _ _) (by
      repeat' first | (refine Tr.all_ite (fun hc => ?_) (fun hc => ?_) <;> (try simp (disch := omega) only [nV, mulO_eq, Int.cast_ofNat_Int, eq_self] at hc) <;> (try (exfalso; omega))) | (refine Tr.all_req ?_ ?_; · ((try simp (disch := omega) only [nV, mulO_eq, Int.cast_ofNat_Int, eq_self]); try omega)) | (refine Tr.all_reqP ?_ ?_; · first | exact trivial | rfl | exact ⟨rfl, rfl⟩ | exact ⟨rfl, rfl, rfl⟩ | (simp (disch := omega) only [nV, mulO_eq, Int.cast_ofNat_Int, eq_self]; done) | ((try simp (disch := omega) only [nV, mulO_eq, Int.cast_ofNat_Int, eq_self]); omega)) | fail
      exact Tr.all_ok rfl)
    exact h1
theorem ctO {f k : Nat} {t : Ctr} {e : Int} (ht : t.Ok (cd k)) (h : ∀ H, cd k (.fn f) [slA 5 l z] H = some (.int .i64 e, H)) : (ctG t f (g20 (slA 5 l z) e)).Ok (cd k) := by
  refine ctG_ok ht (fun args p v hg hp H => ?_)
  unfold g20 at hg
  split at hg
  · simp only [Option.some.injEq, Prod.mk.injEq] at hg
    obtain ⟨rfl, rfl⟩ := hg
    subst hp
    exact h H
  · cases hg
theorem c17 : cd (n + 6) (.fn 17) [slA 5 l z, .int .i64 q] H = some (birV l z q, H) := by
  refine fn_all (n := n + 5) Tryz.func17 rfl rfl rfl (u17 n l z H q (chkO l z)) (il_ok _ (n + 3) 2 (fun k => ctO l z (noCt_ok _) (fun H => by rw [show n + 3 + k = n + k + 3 by omega]; exact c21 _ l z H))) (noBT_ok _ _) (noRT_ok _ _) ?_
  unfold birV
  by_cases h : chkO l z = 0
  · obtain ⟨hl, hb⟩ := chk_odd h
    rw [if_neg (fun x => x h)]
    by_cases hq : 0 ≤ q ∧ q < l
    · have b := hb q.toNat (by omega)
      have ei : idO 0 q 5 = q.toNat * 5 := by rw [idO_eq]; omega
      rw [if_neg (fun x => x hq)]
      have e1 : bLo z q.toNat = z (q.toNat * 5 + 1) - z (q.toNat * 5 + 3) := rfl
      have e2 : bHi z q.toNat = z (q.toNat * 5) - z (q.toNat * 5 + 2) := rfl
      have s1 : subI .i64 (z (q.toNat * 5 + 1)) (z (q.toNat * 5 + 3)) = bLo z q.toNat := by rw [subI_eq, e1]; exact wr_64 (by omega) (by omega)
      have s2 : subI .i64 (z (q.toNat * 5)) (z (q.toNat * 5 + 2)) = bHi z q.toNat := by rw [subI_eq, e2]; exact wr_64 (by omega) (by omega)
      simp only [ei, addO_eq]
      rw [s1, s2]
      generalize bLo z q.toNat = lo at *
      generalize bHi z q.toNat = hi at *
      repeat' first | (refine Tr.all_ite (fun hc => ?_) (fun hc => ?_) <;> (try simp (disch := omega) only [nV, mulO_eq, Int.cast_ofNat_Int, eq_self, h] at hc) <;> (try (exfalso; omega))) | (refine Tr.all_req ?_ ?_; · ((try simp (disch := omega) only [nV, mulO_eq, Int.cast_ofNat_Int, eq_self, h]); try omega)) | (refine Tr.all_reqP ?_ ?_; · first | exact trivial | rfl | exact ⟨rfl, rfl⟩ | exact ⟨rfl, rfl, rfl⟩ | (simp (disch := omega) only [nV, mulO_eq, Int.cast_ofNat_Int, eq_self, h]; done) | ((try simp (disch := omega) only [nV, mulO_eq, Int.cast_ofNat_Int, eq_self, h]); omega)) | fail
      · rw [if_pos (by omega)]; exact Tr.all_ok ⟨rfl, rfl⟩
      · rw [if_neg (by omega)]; exact Tr.all_ok ⟨rfl, rfl⟩
    · rw [if_pos hq]
      repeat' first | (refine Tr.all_ite (fun hc => ?_) (fun hc => ?_) <;> (try simp (disch := omega) only [nV, mulO_eq, Int.cast_ofNat_Int, eq_self, h] at hc) <;> (try (exfalso; omega))) | (refine Tr.all_req ?_ ?_; · ((try simp (disch := omega) only [nV, mulO_eq, Int.cast_ofNat_Int, eq_self, h]); try omega)) | (refine Tr.all_reqP ?_ ?_; · first | exact trivial | rfl | exact ⟨rfl, rfl⟩ | exact ⟨rfl, rfl, rfl⟩ | (simp (disch := omega) only [nV, mulO_eq, Int.cast_ofNat_Int, eq_self, h]; done) | ((try simp (disch := omega) only [nV, mulO_eq, Int.cast_ofNat_Int, eq_self, h]); omega)) | fail
      all_goals first
        | exact Tr.all_ok ⟨rfl, rfl⟩
        | fail
  · rw [if_pos h]
    repeat' first | (refine Tr.all_ite (fun hc => ?_) (fun hc => ?_) <;> (try simp (disch := omega) only [nV, mulO_eq, Int.cast_ofNat_Int, eq_self] at hc) <;> (try (exfalso; omega))) | (refine Tr.all_req ?_ ?_; · ((try simp (disch := omega) only [nV, mulO_eq, Int.cast_ofNat_Int, eq_self]); try omega)) | (refine Tr.all_reqP ?_ ?_; · first | exact trivial | rfl | exact ⟨rfl, rfl⟩ | exact ⟨rfl, rfl, rfl⟩ | (simp (disch := omega) only [nV, mulO_eq, Int.cast_ofNat_Int, eq_self]; done) | ((try simp (disch := omega) only [nV, mulO_eq, Int.cast_ofNat_Int, eq_self]); omega)) | fail
    all_goals first
      | exact Tr.all_ok ⟨rfl, rfl⟩
      | fail
end
end Go.Eng
end
section
namespace Go.Eng
open Go.Proofs
set_option linter.unusedVariables false
set_option linter.unusedSimpArgs false
set_option maxRecDepth 100000
noncomputable def fr82 (l : Nat) (z : Nat → Int) (j : Int) : Frm := [(3, .ptr 0 0 0 0), (8, slA 5 l z), (9, .int .i64 (Int.ofNat l)), (10, .int .i64 j)]
theorem t82a (n : Nat) (l : Nat) (z : Nat → Int) (H : Heap) : execT (cxD n 82 42) (il noCt n 0) noBT noRT (part Tryz.f82 [1,1,0,1,0,0]) (hints (fr82 l z 0)) (⟨false, [(0, .row (.G [.nils]))]⟩ :: H) =
  Tr.ite (ltI (Int.ofNat 0) (Int.ofNat l)) (Tr.req (inI (Int.ofNat 0) l) (Tr.req (ltN (idO 0 (Int.ofNat 0) 5) (mulO l 5)) (Tr.req (ltN (addO (idO 0 (Int.ofNat 0) 5) 1) (mulO l 5)) (Tr.req (ltN (addO (idO 0 (Int.ofNat 0) 5) 2) (mulO l 5)) (Tr.req (ltN (addO (idO 0 (Int.ofNat 0) 5) 3) (mulO l 5)) (Tr.req (ltN (addO (idO 0 (Int.ofNat 0) 5) 4) (mulO l 5)) (Tr.req (roomO 0 1 56) (Tr.req (eqN 0 0) (Tr.req (leN 1 1) (Tr.req (andB (leN 0 0) (leN 0 1)) (Tr.ok (Ex.normal, [(3, AV.ptr 0 0 0 0, none), (8, slA 5 l z, none), (9, AV.int .i64 (Int.ofNat l), none), (10, AV.int .i64 (addI .i64 (Int.ofNat 0) (Int.ofNat 1)), none)], { lock := false, bs := [(0, Blk.row (Row.G [AV.slc 0 3 0 0 7 1 none])), (0, Blk.row (Row.I .i64 [z (idO 0 (Int.ofNat 0) 5), z (addO (idO 0 (Int.ofNat 0) 5) 1), z (addO (idO 0 (Int.ofNat 0) 5) 2), z (addO (idO 0 (Int.ofNat 0) 5) 3), z (addO (idO 0 (Int.ofNat 0) 5) 4)])), (0, Blk.row (Row.I .i64 [z (idO 0 (Int.ofNat 0) 5), z (addO (idO 0 (Int.ofNat 0) 5) 1), z (addO (idO 0 (Int.ofNat 0) 5) 2), z (addO (idO 0 (Int.ofNat 0) 5) 3), z (addO (idO 0 (Int.ofNat 0) 5) 4), subI .i64 (z (addO (idO 0 (Int.ofNat 0) 5) 1)) (z (addO (idO 0 (Int.ofNat 0) 5) 3)), subI .i64 (z (idO 0 (Int.ofNat 0) 5)) (z (addO (idO 0 (Int.ofNat 0) 5) 2))])), (0, Blk.row (Row.M [Seg.arr .i64 (lstO [z (idO 0 (Int.ofNat 0) 5), z (addO (idO 0 (Int.ofNat 0) 5) 1), z (addO (idO 0 (Int.ofNat 0) 5) 2), z (addO (idO 0 (Int.ofNat 0) 5) 3), z (addO (idO 0 (Int.ofNat 0) 5) 4), subI .i64 (z (addO (idO 0 (Int.ofNat 0) 5) 1)) (z (addO (idO 0 (Int.ofNat 0) 5) 3)), subI .i64 (z (idO 0 (Int.ofNat 0) 5)) (z (addO (idO 0 (Int.ofNat 0) 5) 2))]) 7]))] } :: H)))))))))))) (Tr.ok (Ex.exit 0, [(3, AV.ptr 0 0 0 0, none), (8, slA 5 l z, none), (9, AV.int .i64 (Int.ofNat l), none), (10, AV.int .i64 (Int.ofNat 0), none), (11, AV.bool false, some 1)], { lock := false, bs := [(0, Blk.row (Row.G [AV.nils]))] } :: H)) := by kernel_rfl
theorem t82b (n : Nat) (l : Nat) (z y : Nat → Int) (H : Heap) (j : Int) (v m : Nat) : execT (cxD n 82 42) (il noCt n 0) noBT noRT (part Tryz.f82 [1,1,0,1,0,0]) (hints (fr82 l z j)) (⟨false, [(0, .row (.G [.slc 0 1 v 0 7 m none])), (v, .row (.M [.arr .i64 y (mulO m 7)]))]⟩ :: H) =
  Tr.ite (ltI j (Int.ofNat l)) (Tr.req (inI j l) (Tr.req (ltN (idO 0 j 5) (mulO l 5)) (Tr.req (ltN (addO (idO 0 j 5) 1) (mulO l 5)) (Tr.req (ltN (addO (idO 0 j 5) 2) (mulO l 5)) (Tr.req (ltN (addO (idO 0 j 5) 3) (mulO l 5)) (Tr.req (ltN (addO (idO 0 j 5) 4) (mulO l 5)) (Tr.req (roomO m 1 56) (Tr.req (eqN 0 0) (Tr.req (leN 1 1) (Tr.req (eqN v v) (Tr.req (eqN (addO 0 (mulO m 7)) (mulO m 7)) (Tr.req (andB (leN v (Nat.succ v)) (leN (Nat.succ v) (Nat.succ v))) (Tr.req (andB (leN 0 0) (leN 0 1)) (Tr.ok (Ex.normal, [(3, AV.ptr 0 0 0 0, none), (8, slA 5 l z, none), (9, AV.int .i64 (Int.ofNat l), none), (10, AV.int .i64 (addI .i64 j (Int.ofNat 1)), none)], { lock := false, bs := [(0, Blk.row (Row.G [AV.slc 0 1 (Nat.succ v) 0 7 (addO m 1) none])), (Nat.succ v, Blk.row (Row.M [Seg.arr .i64 (appO (shO y 0) (mulO m 7) (lstO [z (idO 0 j 5), z (addO (idO 0 j 5) 1), z (addO (idO 0 j 5) 2), z (addO (idO 0 j 5) 3), z (addO (idO 0 j 5) 4), subI .i64 (z (addO (idO 0 j 5) 1)) (z (addO (idO 0 j 5) 3)), subI .i64 (z (idO 0 j 5)) (z (addO (idO 0 j 5) 2))])) (addO (mulO m 7) 7)])), (0, Blk.row (Row.I .i64 [z (idO 0 j 5), z (addO (idO 0 j 5) 1), z (addO (idO 0 j 5) 2), z (addO (idO 0 j 5) 3), z (addO (idO 0 j 5) 4)])), (0, Blk.row (Row.I .i64 [z (idO 0 j 5), z (addO (idO 0 j 5) 1), z (addO (idO 0 j 5) 2), z (addO (idO 0 j 5) 3), z (addO (idO 0 j 5) 4), subI .i64 (z (addO (idO 0 j 5) 1)) (z (addO (idO 0 j 5) 3)), subI .i64 (z (idO 0 j 5)) (z (addO (idO 0 j 5) 2))])), (0, Blk.dead)] } :: H))))))))))))))) (Tr.ok (Ex.exit 0, [(3, AV.ptr 0 0 0 0, none), (8, slA 5 l z, none), (9, AV.int .i64 (Int.ofNat l), none), (10, AV.int .i64 j, none), (11, AV.bool false, some 1)], { lock := false, bs := [(0, Blk.row (Row.G [AV.slc 0 1 v 0 7 m none])), (v, Blk.row (Row.M [Seg.arr .i64 y (mulO m 7)]))] } :: H)) := by kernel_rfl
theorem u82 (n : Nat) (l : Nat) (z y : Nat → Int) (H : Heap) (v m : Nat) : bodyT Tryz.prog (cd n) 100000 82 Tryz.f82 (KtB.kt 82) (il noCt n 0) (blkE noBT 0 (fr82 l z 0) (⟨false, [(0, .row (.G [.nils]))]⟩ :: H) (.ok (.normal, hints (fr82 l z (Int.ofNat l) ++ [(11, .bool false)]), ⟨false, [(0, .row (.G [.slc 0 1 v 0 7 m none])), (v, .row (.M [.arr .i64 y (mulO m 7)]))]⟩ :: H))) noRT [(slA 5 l z, none)] H =
  Tr.reqP ([(3, AV.ptr 0 0 0 0), (8, slA 5 l z), (9, AV.int .i64 (Int.ofNat l)), (10, AV.int .i64 (Int.ofNat 0))] = [(3, AV.ptr 0 0 0 0), (8, slA 5 l z), (9, AV.int .i64 (Int.ofNat l)), (10, AV.int .i64 (Int.ofNat 0))] ∧ { lock := false, bs := [(0, Blk.row (Row.G [AV.nils]))] } :: H = { lock := false, bs := [(0, Blk.row (Row.G [AV.nils]))] } :: H) (Tr.req (eqN v v) (Tr.req (inO 0 (mulO m 7) 0 (mulO m 7)) (Tr.ok ((AV.ptrT (some 0) (Row.G [AV.slcT none (Row.M [Seg.arr .i64 (shO y 0) (mulO m 7)]) 7 m false]) 0, none), H)))) := by kernel_rfl
/-- The cells of the book's orders. -/
def oZ (z : Nat → Int) (i : Nat) : Int := if i % 7 < 5 then z (i / 7 * 5 + i % 7) else if i % 7 = 5 then bLo z (i / 7) else bHi z (i / 7)
def oY (z : Nat → Int) (j : Nat) (i : Nat) : Int := if i < j * 7 then oZ z i else 0
noncomputable def lv82 (z : Nat → Int) : Nat → Lvl
  | 0 => ⟨false, [(0, .row (.G [.nils]))]⟩
  | j + 1 => ⟨false, [(0, .row (.G [.slc 0 1 j 0 7 (j + 1) none])), (j, .row (.M [.arr .i64 (oY z (j + 1)) (mulO (j + 1) 7)]))]⟩
theorem b82 : ∀ b, (0, b) ∈ blocksOf (bodyOf Tryz.f82) → b = .loop (part Tryz.f82 [1,1,0,1,0,0]) := by
  have : ((blocksOf (bodyOf Tryz.f82)).filter fun x => Nat.beq x.1 0) = [(0, .loop (part Tryz.f82 [1,1,0,1,0,0]))] := by kernel_rfl
  intro b hb
  have hm : (0, b) ∈ ((blocksOf (bodyOf Tryz.f82)).filter fun x => Nat.beq x.1 0) := List.mem_filter.2 ⟨hb, rfl⟩
  rw [this] at hm; simpa using hm
theorem oY_app (z : Nat → Int) (j : Nat) : appO (shO (oY z j) 0) (mulO j 7) (lstO [z (j * 5), z (j * 5 + 1), z (j * 5 + 2), z (j * 5 + 3), z (j * 5 + 4), bLo z j, bHi z j]) = oY z (j + 1) := by
  funext i
  rw [appO_fn, shO_fn, lstO_fn, mulO_eq]
  unfold oY
  by_cases h : i < j * 7
  · simp [h, show i < (j + 1) * 7 by omega]
  · by_cases h2 : i < (j + 1) * 7
    · obtain ⟨r, hr, rfl⟩ : ∃ r, r < 7 ∧ i = j * 7 + r := ⟨i - j * 7, by omega, by omega⟩
      have e1 : (j * 7 + r) / 7 = j := by omega
      have e2 : (j * 7 + r) % 7 = r := by omega
      unfold oZ
      rw [e1, e2]
      have : r = 0 ∨ r = 1 ∨ r = 2 ∨ r = 3 ∨ r = 4 ∨ r = 5 ∨ r = 6 := by omega
      rcases this with rfl | rfl | rfl | rfl | rfl | rfl | rfl <;> simp [h2, Nat.add_sub_cancel_left] <;> omega
    · simp [h, h2, List.getD_eq_getElem?_getD, List.getElem?_eq_none (show [z (j * 5), z (j * 5 + 1), z (j * 5 + 2), z (j * 5 + 3), z (j * 5 + 4), bLo z j, bHi z j].length ≤ i - j * 7 by simp; omega)]
section
variable (n : Nat) (l : Nat) (z : Nat → Int) (H : Heap)
theorem l82 (h : chkO l z = 0) : exec (cxD n 82 42) (.block 0 (.loop (part Tryz.f82 [1,1,0,1,0,0]))) (fr82 l z 0) (lv82 z 0 :: H) = some (.normal, fr82 l z (Int.ofNat l) ++ [(11, .bool false)], lv82 z l :: H) := by
  obtain ⟨hl, hb⟩ := chk_odd h
  have := forX (n := n) (f := 82) (nt := 42) (c := part Tryz.f82 [1,1,0,1,0,0]) 0 (fun j => fr82 l z (j : Int)) (fun j => lv82 z j :: H) l (fr82 l z (Int.ofNat l) ++ [(11, .bool false)], lv82 z l :: H) (by omega) (fun j hj => ?_) ?_
  · exact this
  · have b := hb j hj
    have ej : addI .i64 (j : Int) (Int.ofNat 1) = ((j + 1 : Nat) : Int) := by rw [addI_eq, show Int.ofNat 1 = 1 from rfl]; exact wr_64 (by omega) (by omega)
    have ei : idO 0 (j : Int) 5 = j * 5 := by rw [idO_eq]; omega
    have s1 : subI .i64 (z (j * 5 + 1)) (z (j * 5 + 3)) = bLo z j := by rw [subI_eq]; exact wr_64 (by omega) (by omega)
    have s2 : subI .i64 (z (j * 5)) (z (j * 5 + 2)) = bHi z j := by rw [subI_eq]; exact wr_64 (by omega) (by omega)
    cases j with
    | zero =>
      have e0 := oY_app z 0
      have ei' : idO 0 (Int.ofNat 0) 5 = 0 := by rw [idO_eq]; rfl
      have ej' : addI .i64 (Int.ofNat 0) (Int.ofNat 1) = ((0 + 1 : Nat) : Int) := ej
      have s1' : subI .i64 (z (0 + 1)) (z (0 + 3)) = bLo z 0 := s1
      have s2' : subI .i64 (z 0) (z (0 + 2)) = bHi z 0 := s2
      have e9 : lstO [z 0, z (0 + 1), z (0 + 2), z (0 + 3), z (0 + 4), bLo z 0, bHi z 0] = oY z (0 + 1) := by
        rw [← e0, appO_fn, shO_fn, mulO_eq]
        funext i; simp
      have e7 : mulO (0 + 1) 7 = 7 := by rw [mulO_eq]
      refine ex_all (t82a n l z H) (il_no0 n) (noBT_ok _ _) (noRT_ok _ _) ?_
      rw [ei', ej']
      simp only [addO_eq]
      rw [s1', s2', e9]
      repeat' first | (refine Tr.all_ite (fun hc => ?_) (fun hc => ?_) <;> (try simp (disch := omega) only [nV, mulO_eq, Int.cast_ofNat_Int, eq_self] at hc) <;> (try (exfalso; omega))) | (refine Tr.all_req ?_ ?_; · ((try simp (disch := omega) only [nV, mulO_eq, Int.cast_ofNat_Int, eq_self]); try omega)) | (refine Tr.all_reqP ?_ ?_; · first | exact trivial | rfl | exact ⟨rfl, rfl⟩ | exact ⟨rfl, rfl, rfl⟩ | (simp (disch := omega) only [nV, mulO_eq, Int.cast_ofNat_Int, eq_self]; done) | ((try simp (disch := omega) only [nV, mulO_eq, Int.cast_ofNat_Int, eq_self]); omega)) | fail
      all_goals first
        | (refine Tr.all_ok ⟨rfl, ?_⟩
           show _ = (fr82 l z ((0 + 1 : Nat) : Int), (⟨false, [(0, .row (.G [.slc 0 1 0 0 7 (0 + 1) none])), (0, .row (.M [.arr .i64 (oY z (0 + 1)) (mulO (0 + 1) 7)]))]⟩ : Lvl) :: H)
           rw [e7]; rfl)
        | fail
    | succ j =>
      have e0 := oY_app z (j + 1)
      have e7 : addO (mulO (j + 1) 7) 7 = mulO (j + 1 + 1) 7 := by rw [addO_eq, mulO_eq, mulO_eq]; omega
      have e8 : addO (j + 1) 1 = j + 1 + 1 := by rw [addO_eq]
      refine ex_all (t82b n l z (oY z (j + 1)) H ((j + 1 : Nat) : Int) j (j + 1)) (il_no0 n) (noBT_ok _ _) (noRT_ok _ _) ?_
      rw [ei, ej, e7, e8]
      have ea : ∀ k, addO ((j + 1) * 5) k = (j + 1) * 5 + k := fun k => by rw [addO_eq]
      simp only [ea]
      rw [s1, s2, e0]
      repeat' first | (refine Tr.all_ite (fun hc => ?_) (fun hc => ?_) <;> (try simp (disch := omega) only [nV, mulO_eq, Int.cast_ofNat_Int, eq_self] at hc) <;> (try (exfalso; omega))) | (refine Tr.all_req ?_ ?_; · ((try simp (disch := omega) only [nV, mulO_eq, Int.cast_ofNat_Int, eq_self]); try omega)) | (refine Tr.all_reqP ?_ ?_; · first | exact trivial | rfl | exact ⟨rfl, rfl⟩ | exact ⟨rfl, rfl, rfl⟩ | (simp (disch := omega) only [nV, mulO_eq, Int.cast_ofNat_Int, eq_self]; done) | ((try simp (disch := omega) only [nV, mulO_eq, Int.cast_ofNat_Int, eq_self]); omega)) | fail
      all_goals first
        | exact Tr.all_ok ⟨rfl, rfl⟩
        | fail
  · cases l with
    | zero => omega
    | succ k =>
      obtain ⟨x, h1, rfl⟩ := ex_all (Q := fun x => x = (.exit 0, fr82 (k + 1) z (Int.ofNat (k + 1)) ++ [(11, .bool false)], lv82 z (k + 1) :: H)) (t82b n (k + 1) z (oY z (k + 1)) H (Int.ofNat (k + 1)) k (k + 1)) (il_no0 n) (noBT_ok _ _) (noRT_ok _ _) (by
        repeat' first | (refine Tr.all_ite (fun hc => ?_) (fun hc => ?_) <;> (try simp (disch := omega) only [nV, mulO_eq, Int.cast_ofNat_Int, eq_self] at hc) <;> (try (exfalso; omega))) | (refine Tr.all_req ?_ ?_; · ((try simp (disch := omega) only [nV, mulO_eq, Int.cast_ofNat_Int, eq_self]); try omega)) | (refine Tr.all_reqP ?_ ?_; · first | exact trivial | rfl | exact ⟨rfl, rfl⟩ | exact ⟨rfl, rfl, rfl⟩ | (simp (disch := omega) only [nV, mulO_eq, Int.cast_ofNat_Int, eq_self]; done) | ((try simp (disch := omega) only [nV, mulO_eq, Int.cast_ofNat_Int, eq_self]); omega)) | fail
        all_goals exact Tr.all_ok rfl)
      exact h1
/-- The book. -/
noncomputable def bookV (l : Nat) (z : Nat → Int) : AV := .ptrT (some 0) (.G [slA 7 l (oY z l)]) 0
theorem c82 (h : chkO l z = 0) : cd (n + 1) (.fn 82) [slA 5 l z] H = some (bookV l z, H) := by
  obtain ⟨hl, _⟩ := chk_odd h
  have lp := l82 n l z H h
  cases l with
  | zero => omega
  | succ k =>
    refine fn_all (n := n) Tryz.func82 rfl rfl rfl (u82 n (k + 1) z (oY z (k + 1)) H k (k + 1)) (il_no0 n) (blkE_ok (noBT_ok _ _) b82 (fun x hx => by rw [← Tr.ok_some hx]; simp only [Res.st, hints_eq]; exact lp)) (noRT_ok _ _) ?_
    repeat' first | (refine Tr.all_ite (fun hc => ?_) (fun hc => ?_) <;> (try simp (disch := omega) only [nV, mulO_eq, Int.cast_ofNat_Int, eq_self] at hc) <;> (try (exfalso; omega))) | (refine Tr.all_req ?_ ?_; · ((try simp (disch := omega) only [nV, mulO_eq, Int.cast_ofNat_Int, eq_self]); try omega)) | (refine Tr.all_reqP ?_ ?_; · first | exact trivial | rfl | exact ⟨rfl, rfl⟩ | exact ⟨rfl, rfl, rfl⟩ | (simp (disch := omega) only [nV, mulO_eq, Int.cast_ofNat_Int, eq_self]; done) | ((try simp (disch := omega) only [nV, mulO_eq, Int.cast_ofNat_Int, eq_self]); omega)) | fail
    all_goals first
      | (refine Tr.all_ok ⟨?_, rfl⟩
         rw [shO_zero]; rfl)
      | fail
end
end Go.Eng
end
section
namespace Go.Eng
open Go.Proofs
set_option linter.unusedVariables false
set_option linter.unusedSimpArgs false
set_option maxRecDepth 100000
noncomputable def gO (L V : AV) : List AV → Option (Prop × AV)
  | [a] => some (a = L, V)
  | _ => none
theorem u52 (n : Nat) (l : Nat) (z : Nat → Int) (H : Heap) (e : Int) (y : Nat → Int) : bodyT Tryz.prog (cd (n+9)) 100000 52 Tryz.f52 (KtB.kt 52) (il (ctG (ctG noCt 20 (g20 (slA 5 l z) e)) 82 (gO (slA 5 l z) (.ptrT (some 0) (.G [slA 7 l y]) 0))) (n+9) 0) noBT noRT [(slA 5 l z, none)] H =
  Tr.reqP (slA 5 l z = slA 5 l z) (Tr.ite (notB (eqI e (Int.ofNat 0))) (Tr.ok ((AV.tup [AV.nilp, AV.int .i64 e], none), H)) (Tr.reqP (slA 5 l z = slA 5 l z) (Tr.ok ((AV.tup [AV.ptrT (some 0) (Row.G [slA 7 l y]) 0, AV.int .i64 (Int.ofNat 0)], none), H)))) := by kernel_rfl
theorem u52x (n : Nat) (l : Nat) (z : Nat → Int) (H : Heap) (e : Int) : bodyT Tryz.prog (cd (n+9)) 100000 52 Tryz.f52 (KtB.kt 52) (il (ctG (ctG noCt 20 (g20 (slA 5 l z) e)) 82 (fun _ => none)) (n+9) 0) noBT noRT [(slA 5 l z, none)] H =
  Tr.reqP (slA 5 l z = slA 5 l z) (Tr.ite (notB (eqI e (Int.ofNat 0))) (Tr.ok ((AV.tup [AV.nilp, AV.int .i64 e], none), H)) Tr.bad) := by kernel_rfl
theorem u16 (n : Nat) (l : Nat) (z : Nat → Int) (H : Heap) (q : Int) (y : Nat → Int) : bodyT Tryz.prog (cd (n+11)) 100000 16 Tryz.f16 (KtB.kt 16) (il (ctG noCt 52 (gO (slA 5 l z) (.tup [.ptrT (some 0) (.G [slA 7 l y]) 0, .int .i64 0]))) (n+10) 1) noBT noRT [(slA 5 l z, none), (.int .i64 q, none)] H =
  Tr.reqP (slA 5 l z = slA 5 l z) (Tr.ite (notB (eqI (Int.ofNat 0) (Int.ofNat 0))) (Tr.ok ((AV.tup [AV.agg (Row.I .i64 [Int.ofNat 0, Int.ofNat 0]), AV.int .i64 (Int.ofNat 0)], none), H)) (Tr.ite (ltI q (Int.ofNat 0)) (Tr.ok ((AV.tup [AV.agg (Row.I .i64 [Int.ofNat 0, Int.ofNat 0]), AV.int .i64 (Int.ofNat 2)], none), H)) (Tr.ite (leI (Int.ofNat l) q) (Tr.ok ((AV.tup [AV.agg (Row.I .i64 [Int.ofNat 0, Int.ofNat 0]), AV.int .i64 (Int.ofNat 2)], none), H)) (Tr.req (inI q l) (Tr.req (ltN (idO 0 q 7) (mulO l 7)) (Tr.req (ltN (addO (idO 0 q 7) 1) (mulO l 7)) (Tr.req (ltN (addO (idO 0 q 7) 2) (mulO l 7)) (Tr.req (ltN (addO (idO 0 q 7) 3) (mulO l 7)) (Tr.req (ltN (addO (idO 0 q 7) 4) (mulO l 7)) (Tr.req (ltN (addO (idO 0 q 7) 5) (mulO l 7)) (Tr.req (ltN (addO (idO 0 q 7) 6) (mulO l 7)) (Tr.ite (notB (leI (y (addO (idO 0 q 7) 5)) (y (addO (idO 0 q 7) 6)))) (Tr.ok ((AV.tup [AV.agg (Row.I .i64 [Int.ofNat 0, Int.ofNat 0]), AV.int .i64 (Int.ofNat 22)], none), H)) (Tr.req (inI q l) (Tr.req (ltN (addO (idO 0 q 7) 5) (mulO l 7)) (Tr.req (ltN (addO (addO (idO 0 q 7) 5) 1) (mulO l 7)) (Tr.ok ((AV.tup [AV.agg (Row.I .i64 [y (addO (idO 0 q 7) 5), y (addO (addO (idO 0 q 7) 5) 1)]), AV.int .i64 (Int.ofNat 0)], none), H))))))))))))))))) := by kernel_rfl
theorem u16x (n : Nat) (l : Nat) (z : Nat → Int) (H : Heap) (q e : Int) : bodyT Tryz.prog (cd (n+11)) 100000 16 Tryz.f16 (KtB.kt 16) (il (ctG noCt 52 (gO (slA 5 l z) (.tup [.nilp, .int .i64 e]))) (n+10) 1) noBT noRT [(slA 5 l z, none), (.int .i64 q, none)] H =
  Tr.reqP (slA 5 l z = slA 5 l z) (Tr.ite (notB (eqI e (Int.ofNat 0))) (Tr.ok ((AV.tup [AV.agg (Row.I .i64 [Int.ofNat 0, Int.ofNat 0]), AV.int .i64 e], none), H)) (Tr.ite (ltI q (Int.ofNat 0)) (Tr.ok ((AV.tup [AV.agg (Row.I .i64 [Int.ofNat 0, Int.ofNat 0]), AV.int .i64 (Int.ofNat 2)], none), H)) (Tr.ite (leI (Int.ofNat l) q) (Tr.ok ((AV.tup [AV.agg (Row.I .i64 [Int.ofNat 0, Int.ofNat 0]), AV.int .i64 (Int.ofNat 2)], none), H)) Tr.bad))) := by kernel_rfl
section
variable (n : Nat) (l : Nat) (z : Nat → Int) (H : Heap) (q : Int)
theorem ctV {f k : Nat} {t : Ctr} {V : AV} (ht : t.Ok (cd k)) (h : ∀ H, cd k (.fn f) [slA 5 l z] H = some (V, H)) : (ctG t f (gO (slA 5 l z) V)).Ok (cd k) := by
  refine ctG_ok ht (fun args p v hg hp H => ?_)
  unfold gO at hg
  split at hg
  · simp only [Option.some.injEq, Prod.mk.injEq] at hg
    obtain ⟨rfl, rfl⟩ := hg
    subst hp
    exact h H
  · cases hg
/-- What open answers. -/
noncomputable def opnV (l : Nat) (z : Nat → Int) : AV := if chkO l z = 0 then .tup [bookV l z, .int .i64 0] else .tup [.nilp, .int .i64 (chkO l z)]
theorem c52 : cd (n + 10) (.fn 52) [slA 5 l z] H = some (opnV l z, H) := by
  unfold opnV
  by_cases h : chkO l z = 0
  · rw [if_pos h]
    refine fn_all (n := n + 9) Tryz.func52 rfl rfl rfl (u52 n l z H (chkO l z) (oY z l)) (il_ok _ (n + 9) 0 (fun k => ctV l z (ctO l z (noCt_ok _) (fun H => by rw [show n + 9 + k = n + k + 9 by omega]; exact c20 _ l z H)) (fun H => by rw [show n + 9 + k = n + 8 + k + 1 by omega]; exact c82 _ l z H h))) (noBT_ok _ _) (noRT_ok _ _) ?_
    repeat' first | (refine Tr.all_ite (fun hc => ?_) (fun hc => ?_) <;> (try simp (disch := omega) only [nV, mulO_eq, Int.cast_ofNat_Int, eq_self, h] at hc) <;> (try (exfalso; omega))) | (refine Tr.all_req ?_ ?_; · ((try simp (disch := omega) only [nV, mulO_eq, Int.cast_ofNat_Int, eq_self, h]); try omega)) | (refine Tr.all_reqP ?_ ?_; · first | exact trivial | rfl | exact ⟨rfl, rfl⟩ | exact ⟨rfl, rfl, rfl⟩ | (simp (disch := omega) only [nV, mulO_eq, Int.cast_ofNat_Int, eq_self, h]; done) | ((try simp (disch := omega) only [nV, mulO_eq, Int.cast_ofNat_Int, eq_self, h]); omega)) | fail
    all_goals first
      | exact Tr.all_ok ⟨rfl, rfl⟩
      | fail
  · rw [if_neg h]
    refine fn_all (n := n + 9) Tryz.func52 rfl rfl rfl (u52x n l z H (chkO l z)) (il_ok _ (n + 9) 0 (fun k => ctG_ok (ctO l z (noCt_ok _) (fun H => by rw [show n + 9 + k = n + k + 9 by omega]; exact c20 _ l z H)) (fun args p v hg hp H => by cases hg))) (noBT_ok _ _) (noRT_ok _ _) ?_
    repeat' first | (refine Tr.all_ite (fun hc => ?_) (fun hc => ?_) <;> (try simp (disch := omega) only [nV, mulO_eq, Int.cast_ofNat_Int, eq_self] at hc) <;> (try (exfalso; omega))) | (refine Tr.all_req ?_ ?_; · ((try simp (disch := omega) only [nV, mulO_eq, Int.cast_ofNat_Int, eq_self]); try omega)) | (refine Tr.all_reqP ?_ ?_; · first | exact trivial | rfl | exact ⟨rfl, rfl⟩ | exact ⟨rfl, rfl, rfl⟩ | (simp (disch := omega) only [nV, mulO_eq, Int.cast_ofNat_Int, eq_self]; done) | ((try simp (disch := omega) only [nV, mulO_eq, Int.cast_ofNat_Int, eq_self]); omega)) | fail
    all_goals first
      | exact Tr.all_ok ⟨rfl, rfl⟩
      | fail
theorem oY_at {l j r : Nat} (hj : j < l) (hr : r < 7) : oY z l (j * 7 + r) = if r < 5 then z (j * 5 + r) else if r = 5 then bLo z j else bHi z j := by
  unfold oY oZ
  rw [if_pos (by omega), show (j * 7 + r) / 7 = j by omega, show (j * 7 + r) % 7 = r by omega]
theorem c16 : cd (n + 12) (.fn 16) [slA 5 l z, .int .i64 q] H = some (birV l z q, H) := by
  have hc : ∀ k H, cd (n + 10 + k) (.fn 52) [slA 5 l z] H = some (opnV l z, H) := fun k H => by rw [show n + 10 + k = n + k + 10 by omega]; exact c52 _ l z H
  unfold birV
  by_cases h : chkO l z = 0
  · obtain ⟨hl, hb⟩ := chk_odd h
    have ho : opnV l z = .tup [.ptrT (some 0) (.G [slA 7 l (oY z l)]) 0, .int .i64 0] := by unfold opnV; rw [if_pos h]; rfl
    rw [ho] at hc
    rw [if_neg (fun x => x h)]
    refine fn_all (n := n + 11) Tryz.func16 rfl rfl rfl (u16 n l z H q (oY z l)) (il_ok _ (n + 10) 1 (fun k => ctV l z (noCt_ok _) (hc k))) (noBT_ok _ _) (noRT_ok _ _) ?_
    by_cases hq : 0 ≤ q ∧ q < l
    · rw [if_neg (fun x => x hq)]
      have ei : idO 0 q 7 = q.toNat * 7 := by rw [idO_eq]; omega
      have e6 : q.toNat * 7 + 5 + 1 = q.toNat * 7 + 6 := rfl
      have h5 : oY z l (q.toNat * 7 + 5) = bLo z q.toNat := oY_at z (by omega) (by omega)
      have h6 : oY z l (q.toNat * 7 + 6) = bHi z q.toNat := oY_at z (by omega) (by omega)
      simp only [ei, addO_eq, e6]
      rw [h5, h6]
      generalize bLo z q.toNat = lo at *
      generalize bHi z q.toNat = hi at *
      repeat' first | (refine Tr.all_ite (fun hc => ?_) (fun hc => ?_) <;> (try simp (disch := omega) only [nV, mulO_eq, Int.cast_ofNat_Int, eq_self] at hc) <;> (try (exfalso; omega))) | (refine Tr.all_req ?_ ?_; · ((try simp (disch := omega) only [nV, mulO_eq, Int.cast_ofNat_Int, eq_self]); try omega)) | (refine Tr.all_reqP ?_ ?_; · first | exact trivial | rfl | exact ⟨rfl, rfl⟩ | exact ⟨rfl, rfl, rfl⟩ | (simp (disch := omega) only [nV, mulO_eq, Int.cast_ofNat_Int, eq_self]; done) | ((try simp (disch := omega) only [nV, mulO_eq, Int.cast_ofNat_Int, eq_self]); omega)) | fail
      all_goals first
        | (rw [if_neg (by omega)]; exact Tr.all_ok ⟨rfl, rfl⟩)
        | (rw [if_pos (by omega)]; exact Tr.all_ok ⟨rfl, rfl⟩)
        | fail
    · rw [if_pos hq]
      repeat' first | (refine Tr.all_ite (fun hc => ?_) (fun hc => ?_) <;> (try simp (disch := omega) only [nV, mulO_eq, Int.cast_ofNat_Int, eq_self] at hc) <;> (try (exfalso; omega))) | (refine Tr.all_req ?_ ?_; · ((try simp (disch := omega) only [nV, mulO_eq, Int.cast_ofNat_Int, eq_self]); try omega)) | (refine Tr.all_reqP ?_ ?_; · first | exact trivial | rfl | exact ⟨rfl, rfl⟩ | exact ⟨rfl, rfl, rfl⟩ | (simp (disch := omega) only [nV, mulO_eq, Int.cast_ofNat_Int, eq_self]; done) | ((try simp (disch := omega) only [nV, mulO_eq, Int.cast_ofNat_Int, eq_self]); omega)) | fail
      all_goals first
        | exact Tr.all_ok ⟨rfl, rfl⟩
        | fail
  · have ho : opnV l z = .tup [.nilp, .int .i64 (chkO l z)] := by unfold opnV; rw [if_neg h]
    rw [ho] at hc
    rw [if_pos h]
    refine fn_all (n := n + 11) Tryz.func16 rfl rfl rfl (u16x n l z H q (chkO l z)) (il_ok _ (n + 10) 1 (fun k => ctV l z (noCt_ok _) (hc k))) (noBT_ok _ _) (noRT_ok _ _) ?_
    repeat' first | (refine Tr.all_ite (fun hc => ?_) (fun hc => ?_) <;> (try simp (disch := omega) only [nV, mulO_eq, Int.cast_ofNat_Int, eq_self] at hc) <;> (try (exfalso; omega))) | (refine Tr.all_req ?_ ?_; · ((try simp (disch := omega) only [nV, mulO_eq, Int.cast_ofNat_Int, eq_self]); try omega)) | (refine Tr.all_reqP ?_ ?_; · first | exact trivial | rfl | exact ⟨rfl, rfl⟩ | exact ⟨rfl, rfl, rfl⟩ | (simp (disch := omega) only [nV, mulO_eq, Int.cast_ofNat_Int, eq_self]; done) | ((try simp (disch := omega) only [nV, mulO_eq, Int.cast_ofNat_Int, eq_self]); omega)) | fail
    all_goals first
      | exact Tr.all_ok ⟨rfl, rfl⟩
      | fail
end
end Go.Eng
end
