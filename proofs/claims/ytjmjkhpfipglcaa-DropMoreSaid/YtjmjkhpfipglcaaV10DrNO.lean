/- Drop: Size of the program; the law DropBaths. -/
import Derived.Test.YtjmjkhpfipglcaaV10DrLM
import Derived.Test.YtjmjkhpfipglcaaV10EngOPA
import Derived.Test.YtjmjkhpfipglcaaRows
import Derived.Test.YtjmjkhpfipglcaaChecked
import Derived.ProofKit
section
namespace Go.Eng
open Go.Proofs
set_option linter.unusedVariables false
set_option linter.unusedSimpArgs false
set_option maxRecDepth 100000
def g77 (B : AV) (side : Prop) (t : AV) : List AV → Option (Prop × AV)
  | [b] => some (b = B ∧ side, t)
  | _ => none
def gS (B : AV) (s : Int) (a b e : Int) : List AV → Option (Prop × AV)
  | [c, .int .i64 k] => some (c = B ∧ k = s, .tup [.agg (.I .i64 [a, b]), .int .i64 e])
  | _ => none
def g16 : List AV → Option (Prop × AV)
  | [] => some (True, .bool true)
  | _ => none
theorem u17 (n : Nat) (w : Int) (ls ld : Nat) (zs zd sz kd : Nat → Int) (H : Heap) (s e : Int) (side : Prop) : bodyT Try.prog (cd (n+12)) 100000 17 Try.f17 (Kt.kt 17) (il (ctG (ctG noCt 19 (g20 (bathA w ls zs ld zd) e)) 77 (g77 (bathA w ls zs ld zd) side (tabV w ls ld zs zd sz kd))) (n+11) 1) noBT noRT [(bathA w ls zs ld zd, none), (.int .i64 s, none)] H =
  Tr.reqP (bathA w ls zs ld zd = bathA w ls zs ld zd) (Tr.ite (notB (eqI e (Int.ofNat 0))) (Tr.ite (notB (eqI e (Int.ofNat 0))) (Tr.ok ((AV.tup [AV.agg (Row.I .i64 [Int.ofNat 0, Int.ofNat 0]), AV.int .i64 e], none), H)) (Tr.ite (ltI s (Int.ofNat 0)) (Tr.ok ((AV.tup [AV.agg (Row.I .i64 [Int.ofNat 0, Int.ofNat 0]), AV.int .i64 (Int.ofNat 2)], none), H)) (Tr.ite (leI (Int.negSucc 1) s) Tr.bad (Tr.ok ((AV.tup [AV.agg (Row.I .i64 [Int.ofNat 0, Int.ofNat 0]), AV.int .i64 (Int.ofNat 2)], none), H))))) (Tr.reqP (bathA w ls zs ld zd = bathA w ls zs ld zd ∧ side) (Tr.ite (notB (eqI (Int.ofNat 0) (Int.ofNat 0))) (Tr.ok ((AV.tup [AV.agg (Row.I .i64 [Int.ofNat 0, Int.ofNat 0]), AV.int .i64 (Int.ofNat 0)], none), H)) (Tr.ite (ltI s (Int.ofNat 0)) (Tr.ok ((AV.tup [AV.agg (Row.I .i64 [Int.ofNat 0, Int.ofNat 0]), AV.int .i64 (Int.ofNat 2)], none), H)) (Tr.ite (leI (Int.negSucc 1) s) (Tr.ite (notB (ltI s (Int.ofNat ls))) (Tr.ok ((AV.tup [AV.agg (Row.I .i64 [Int.ofNat 0, Int.ofNat 0]), AV.int .i64 (Int.ofNat 2)], none), H)) (Tr.req (inI s ls) (Tr.req (ltN (idO 0 s 2) (mulO ls 2)) (Tr.req (ltN (addO (idO 0 s 2) 1) (mulO ls 2)) (Tr.ok ((AV.tup [AV.agg (Row.I .i64 [sz (idO 0 s 2), sz (addO (idO 0 s 2) 1)]), AV.int .i64 (Int.ofNat 0)], none), H)))))) (Tr.ok ((AV.tup [AV.agg (Row.I .i64 [Int.ofNat 0, Int.ofNat 0]), AV.int .i64 (Int.ofNat 2)], none), H))))))) := by kernel_rfl
theorem u3 (n : Nat) (w : Int) (ls ld : Nat) (zs zd : Nat → Int) (H : Heap) (s e a b e1 a' b' e2 : Int) : bodyT Try.prog (cd (n+14)) 100000 3 Try.f3 (Kt.kt 3) (il (ctG (ctG (ctG (ctG (ctG noCt 16 g16) 17 (gS (bathA w ls zs ld zd) s a b e1)) 18 (gS (bathA w ls zs ld zd) s a' b' e2)) 19 (g20 (bathA w ls zs ld zd) e)) 20 (g20 (bathA w ls zs ld zd) e)) (n+13) 1) noBT noRT [(bathA w ls zs ld zd, none), (.int .i64 s, none)] H =
  Tr.ite (ltI (Int.ofNat 15) (Int.ofNat ls)) (Tr.reqP True (Tr.ok ((AV.bool true, none), H))) (Tr.ite (ltI (Int.ofNat 50) (Int.ofNat ld)) (Tr.reqP True (Tr.ok ((AV.bool true, none), H))) (Tr.reqP (bathA w ls zs ld zd = bathA w ls zs ld zd ∧ s = s) (Tr.reqP (bathA w ls zs ld zd = bathA w ls zs ld zd ∧ s = s) (Tr.reqP (bathA w ls zs ld zd = bathA w ls zs ld zd) (Tr.reqP (bathA w ls zs ld zd = bathA w ls zs ld zd) (Tr.ite (eqI e e) (Tr.ite (andB (eqI a a') (eqI b b')) (Tr.ite (eqI e1 e2) (Tr.reqP True (Tr.ok ((AV.bool true, none), H))) (Tr.ok ((AV.bool false, some 1), H))) (Tr.ok ((AV.bool false, some 1), H))) (Tr.ok ((AV.bool false, some 1), H)))))))) := by kernel_rfl
theorem szs_sum (zd : Nat → Int) (ld s : Nat) (hd : ∀ j, j < ld → 0 ≤ zd (j * 3)) : ∀ j, j ≤ ld → szs zd j (s * 2) = sumS zd (upto (endS false zd) ld) s j ∧ szs zd j (s * 2 + 1) = sumS zd (upto (endS true zd) ld) s j
  | 0, _ => ⟨rfl, rfl⟩
  | j + 1, hj => by
    obtain ⟨h1, h2⟩ := szs_sum zd ld s hd j (by omega)
    have h0 := hd j (by omega)
    have u : ∀ h, upto (endS h zd) ld j = endS h zd j := fun h => by unfold upto; rw [if_pos (by omega)]
    simp only [szs, sumS, u]
    by_cases e : zd (j * 3) = s
    · have et : (zd (j * 3)).toNat = s := by omega
      rw [if_pos e, if_pos e, if_neg (by omega), if_pos (by omega), if_pos (by omega), et, h1, h2]
      exact ⟨rfl, rfl⟩
    · have et : (zd (j * 3)).toNat ≠ s := by omega
      rw [if_neg e, if_neg e, if_neg (by omega), if_neg (by omega), if_neg (by omega), if_neg (by omega)]
      exact ⟨h1, h2⟩
theorem chk_drops {w : Int} {ls ld : Nat} {zs zd : Nat → Int} (h : chkB w ls ld zs zd = 0) : ls ≤ 10 ∧ ld ≤ 40 ∧ ∀ j, j < ld → 0 ≤ zd (j * 3) ∧ zd (j * 3) < ls := by
  have h1 := chk_len w ls ld zs zd h
  refine ⟨h1.1, h1.2, fun j hj => ?_⟩
  have hb : badD ls zd j = false := by
    cases hq : badD ls zd j with
    | false => rfl
    | true =>
      have he : exN (badD ls zd) ld = true := (exN_iff _ _).2 ⟨j, hj, hq⟩
      unfold chkB at h
      rw [he] at h
      generalize exN (badS w zs) ls = b1 at h
      generalize exN (fun i => exN (eqS zs i) i) ls = b2 at h
      by_cases e1 : w < 2 <;> by_cases e2 : 1000 < w <;> by_cases e3 : 10 < ls <;> by_cases e4 : 40 < ld <;> cases b1 <;> cases b2 <;> simp [e1, e2, e3, e4] at h
  simp only [badD, Bool.or_eq_false_iff, decide_eq_false_iff_not] at hb
  omega
section
variable (n : Nat) (w : Int) (ls ld : Nat) (zs zd : Nat → Int) (H : Heap) (s : Int)
theorem ct19 (k : Nat) (t : Ctr) (ht : t.Ok (cd (n + 11 + k))) : (ctG t 19 (g20 (bathA w ls zs ld zd) (chkB w ls ld zs zd))).Ok (cd (n + 11 + k)) := by
  refine ctG_ok ht (fun args p v h hp H => ?_)
  unfold g20 at h
  split at h
  · simp only [Option.some.injEq, Prod.mk.injEq] at h
    obtain ⟨rfl, rfl⟩ := h
    rw [hp, show n + 11 + k = n + k + 11 by omega]
    exact c19 (n + k) w ls ld zs zd H
  · cases h
theorem c17 : cd (n + 13) (.fn 17) [bathA w ls zs ld zd, .int .i64 s] H = some (sizeV w ls ld zs zd s, H) := by
  refine fn_of (n := n + 12) Try.func17 rfl rfl rfl (u17 n w ls ld zs zd (szs zd ld) (kdO w ls zs (szs zd ld) (ls + 2)) H s (chkB w ls ld zs zd) (ls ≤ 10 ∧ ld ≤ 40 ∧ ∀ j, j < ld → 0 ≤ zd (j * 3) ∧ zd (j * 3) < ls)) (il_ok _ (n + 11) 1 (fun k => ctG_ok (ct19 n w ls ld zs zd k _ (noCt_ok _)) (fun args p v h hp H => ?_))) (noBT_ok _ _) (noRT_ok _ _) (y := ((sizeV w ls ld zs zd s, none), H)) ?_
  · unfold g77 at h
    split at h
    · simp only [Option.some.injEq, Prod.mk.injEq] at h
      obtain ⟨rfl, rfl⟩ := h
      obtain ⟨rfl, h1, h2, h3⟩ := hp
      rw [show n + 11 + k = n + 3 + k + 8 by omega]
      exact c77 _ w ls ld zs zd H h1 h2 h3
    · cases h
  · rw [Tr.run_reqP rfl]
    by_cases e : chkB w ls ld zs zd = 0
    · have hc := chk_drops e
      have e' : sizeV w ls ld zs zd s = if s < 0 ∨ (ls : Int) ≤ s then .tup [.agg (.I .i64 [0, 0]), .int .i64 2] else .tup [.agg (.I .i64 [szE false zd ld s, szE true zd ld s]), .int .i64 0] := by
        unfold sizeV; rw [if_neg (by simpa using e)]
      rw [e', Tr.run_ite, notB_eq, eqI_dec, decide_eq_true (by rw [e]; rfl), Bool.not_true, cond_false, Tr.run_reqP ⟨rfl, hc⟩, Tr.run_ite, notB_eq, eqI_dec, decide_eq_true rfl, Bool.not_true, cond_false, Tr.run_ite, ltI_eq]
      by_cases e1 : s < 0
      · rw [if_pos (.inl e1), decide_eq_true (by simpa using e1)]; rfl
      · rw [decide_eq_false (by simpa using e1), cond_false, Tr.run_ite, leI_eq, decide_eq_true (by show (-2 : Int) ≤ s; omega), cond_true, Tr.run_ite, notB_eq, ltI_eq]
        by_cases e2 : (ls : Int) ≤ s
        · rw [if_pos (.inr e2), decide_eq_false (by show ¬ s < ((ls : Nat) : Int); omega)]; rfl
        · obtain ⟨m, rfl⟩ : ∃ m : Nat, s = (m : Int) := ⟨s.toNat, by omega⟩
          have hs := szs_sum zd ld m (fun j hj => (hc.2.2 j hj).1) ld (Nat.le_refl _)
          rw [if_neg (by omega), decide_eq_true (by show ((m : Nat) : Int) < ((ls : Nat) : Int); omega), Bool.not_true, cond_false]
          simp (disch := omega) only [Tr.run_ite, Tr.run_req, Tr.run_ok, nS, eqI_eq, decide_eq_true, decide_eq_false, cond_true, cond_false, Int.ofNat_eq_natCast, wrap_j]
          rw [hs.1, hs.2]
          rfl
    · have e' : sizeV w ls ld zs zd s = .tup [.agg (.I .i64 [0, 0]), .int .i64 (chkB w ls ld zs zd)] := by
        unfold sizeV; rw [if_pos e]
      rw [e', Tr.run_ite, notB_eq, eqI_dec, decide_eq_false (by simpa using e), Bool.not_false, cond_true, Tr.run_ite, cond_true]
      rfl
theorem c16 : cd (n + 1) (.fn 16) [] H = some (.bool true, H) := rfl
end
/-- What Size answers, as numbers. -/
def sizeN (w : Int) (ls ld : Nat) (zs zd : Nat → Int) (s : Int) : Int × Int × Int :=
  if chkB w ls ld zs zd ≠ 0 then (0, 0, chkB w ls ld zs zd)
  else if s < 0 ∨ (ls : Int) ≤ s then (0, 0, 2)
  else (szE false zd ld s, szE true zd ld s, 0)
theorem sizeN_eq (w : Int) (ls ld : Nat) (zs zd : Nat → Int) (s : Int) : sizeV w ls ld zs zd s = .tup [.agg (.I .i64 [(sizeN w ls ld zs zd s).1, (sizeN w ls ld zs zd s).2.1]), .int .i64 (sizeN w ls ld zs zd s).2.2] := by
  unfold sizeV sizeN
  split
  · rfl
  · split <;> rfl
section
variable (n : Nat) (w : Int) (ls ld : Nat) (zs zd : Nat → Int) (H : Heap) (s : Int)
/-- The law DropBaths. -/
theorem c3 : cd (n + 15) (.fn 3) [bathA w ls zs ld zd, .int .i64 s] H = some (.bool true, H) := by
  refine fn_of (n := n + 14) Try.func3 rfl rfl rfl (u3 n w ls ld zs zd H s (chkB w ls ld zs zd) (sizeN w ls ld zs zd s).1 (sizeN w ls ld zs zd s).2.1 (sizeN w ls ld zs zd s).2.2 (sizeN w ls ld zs zd s).1 (sizeN w ls ld zs zd s).2.1 (sizeN w ls ld zs zd s).2.2) (il_ok _ (n + 13) 1 (fun k => ?_)) (noBT_ok _ _) (noRT_ok _ _) (y := ((.bool true, none), H)) ?_
  · refine ctG_ok (ctG_ok (ctG_ok (ctG_ok (ctG_ok (noCt_ok _) (fun args p v h hp H => ?_)) (fun args p v h hp H => ?_)) (fun args p v h hp H => ?_)) (fun args p v h hp H => ?_)) (fun args p v h hp H => ?_)
    · unfold g16 at h
      split at h
      · simp only [Option.some.injEq, Prod.mk.injEq] at h
        obtain ⟨_, rfl⟩ := h
        rw [show n + 13 + k = n + 12 + k + 1 by omega]
        exact c16 _ H
      · cases h
    · unfold gS at h
      split at h
      · simp only [Option.some.injEq, Prod.mk.injEq] at h
        obtain ⟨rfl, rfl⟩ := h
        obtain ⟨rfl, rfl⟩ := hp
        rw [show n + 13 + k = n + k + 13 by omega, ← sizeN_eq]
        exact c17 (n + k) w ls ld zs zd H _
      · cases h
    · unfold gS at h
      split at h
      · simp only [Option.some.injEq, Prod.mk.injEq] at h
        obtain ⟨rfl, rfl⟩ := h
        obtain ⟨rfl, rfl⟩ := hp
        rw [show n + 13 + k = n + 9 + k + 4 by omega, ← sizeN_eq]
        exact c18 _ w ls ld zs zd H _
      · cases h
    · unfold g20 at h
      split at h
      · simp only [Option.some.injEq, Prod.mk.injEq] at h
        obtain ⟨rfl, rfl⟩ := h
        rw [hp, show n + 13 + k = n + 2 + k + 11 by omega]
        exact c19 _ w ls ld zs zd H
      · cases h
    · unfold g20 at h
      split at h
      · simp only [Option.some.injEq, Prod.mk.injEq] at h
        obtain ⟨rfl, rfl⟩ := h
        rw [hp, show n + 13 + k = n + 11 + k + 2 by omega]
        exact c20 _ w ls ld zs zd H
      · cases h
  · rw [Tr.run_ite]
    cases ltI (Int.ofNat 15) (Int.ofNat ls) with
    | true => rw [cond_true, Tr.run_reqP trivial]; rfl
    | false =>
      rw [cond_false, Tr.run_ite]
      cases ltI (Int.ofNat 50) (Int.ofNat ld) with
      | true => rw [cond_true, Tr.run_reqP trivial]; rfl
      | false =>
        rw [cond_false, Tr.run_reqP ⟨rfl, rfl⟩, Tr.run_reqP ⟨rfl, rfl⟩, Tr.run_reqP rfl, Tr.run_reqP rfl, Tr.run_ite, eqI_dec, decide_eq_true rfl, cond_true, Tr.run_ite, andB_eq, eqI_dec, eqI_dec, decide_eq_true rfl, decide_eq_true rfl, Bool.and_true, cond_true, Tr.run_ite, eqI_dec, decide_eq_true rfl, cond_true, Tr.run_reqP trivial]
        rfl
end
end Go.Eng
end

section
namespace Go.Eng
open Go.Proofs Go.ChangeShapes
set_option linter.unusedVariables false
set_option maxRecDepth 100000

theorem toM {p : Pst} {M : Mu} {k : IntKind} {z : Nat → Int} {N sz len : Nat} {full : Bool} {v : Value} (h : VRel p M (.slcT none (.F (fun j => .int k (z j)) N) sz len full) v) : VRel p M (.slcT none (.M [.arr k z N]) sz len full) v := by
  cases h with
  | slcN => exact .slcN
  | slcT vs h0 h1 hv hl hf hx =>
    have e : ∀ j, j < (Row.M [Seg.arr k z N]).len → j < N := fun j hj => by simpa [Row.len, lenM, segLen] using hj
    refine .slcT vs (fun j hj => h0 j (e j hj)) (fun j hj => h1 j (e j hj)) (fun j hj => ?_) hl hf hx
    have := hv j (e j hj)
    simp only [Row.get, getM, if_pos (e j hj)] at this ⊢
    exact this.anyInt _ _
theorem flat2 : FlatI Try.prog 2 1 := flat_int Try.underlying2
theorem flat3 : FlatI Try.prog 3 1 := flat_int Try.underlying3
theorem flat74 : FlatI Try.prog 74 2 := flat_struct2 Try.underlying74 flat2 flat2 rfl rfl (by kernel_rfl) (by kernel_rfl) (by kernel_rfl)
theorem flat29 : FlatI Try.prog 29 2 := flat_struct2 Try.underlying29 flat2 flat2 rfl rfl (by kernel_rfl) (by kernel_rfl) (by kernel_rfl)
theorem flat62 : FlatI Try.prog 62 3 := flat_struct2 Try.underlying62 flat3 flat29 rfl rfl (by kernel_rfl) (by kernel_rfl) (by kernel_rfl)

theorem slice_spot {P : Program} {w : World} {r : Reach} {base : Nat} {t e : TypeId} {v : Value} (ht : P.underlying t = some (.slice e)) (h : Cell.okWide P w r base t v) : ∀ a l c, v = .slice (some a) l c → a.spot = none := by
  rintro a l c rfl
  simp only [Cell.okWide, ht, Cell.ok] at h
  exact h.2.2.2.1

theorem slice_arg {t e n : Nat} (ht : Try.prog.underlying t = some (.slice e)) (he : FlatI Try.prog e n) (hn : 0 < n) (hc : Try.prog.cellsOf e = n) {H : Type} {enc : TypeId × Value → H} {w : World} {r : Reach} {b0 base : Nat} {sp : Nat → Bool} {held : Bool} {fuel : Nat} {v : Value} {x : DataW H × List MemPlace}
    (hv : Cell.okWide Try.prog w r b0 t v) (h : DataW.trod enc Try.prog w base sp held fuel t [v] = some x) : ∃ len z, VRel (Pw w) Mu.no (slA n len z) v ∧ v.oneCell' = true := by
  rcases slice_flat ht he hn hc (slice_spot ht hv) h with rfl | ⟨zs, len, h1, h2⟩
  · exact ⟨0, fun _ => 0, .slcN, rfl⟩
  · refine ⟨len, zs, ?_, ?_⟩
    · unfold slA
      rw [mulS_eq]
      exact toM h1
    · cases h1 <;> rfl

theorem bath_arg {H : Type} {enc : TypeId × Value → H} {w : World} {r : Reach} {b0 base : Nat} {sp : Nat → Bool} {held : Bool} {v : Value} {d : DataW H} {ps : List MemPlace} (hv : Value.okWide Try.prog w r b0 25 v) (h : DataW.Trod enc Try.prog w base sp held 25 v d ps) :
    ∃ (wd : Int) (ls : Nat) (zs : Nat → Int) (ld : Nat) (zd : Nat → Int), VRel (Pw w) Mu.no (bathA wd ls zs ld zd) v := by
  have hts : Try.prog.cellTypes Try.prog.depth 25 = some [2, 22, 23] := by kernel_rfl
  have hc25 : Try.prog.cellsOf 25 = 3 := by kernel_rfl
  have hc2 : Try.prog.cellsOf 2 = 1 := by kernel_rfl
  have hc22 : Try.prog.cellsOf 22 = 1 := by kernel_rfl
  have hc23 : Try.prog.cellsOf 23 = 1 := by kernel_rfl
  have hc74 : Try.prog.cellsOf 74 = 2 := by kernel_rfl
  have hc62 : Try.prog.cellsOf 62 = 3 := by kernel_rfl
  simp only [Value.okWide, Try.underlying25] at hv
  obtain ⟨cs, rfl, hsz, ts, ht, _, hcell⟩ := hv
  rw [hts] at ht
  obtain rfl := Option.some.inj ht
  rw [hc25] at hsz
  obtain ⟨fuel, hf⟩ := h
  obtain ⟨xs, n, _, _, _, hxl, hfield⟩ := DataW.trod_struct Try.underlying25 hf
  have e3 : ∃ c0 c1 c2, cs = #[c0, c1, c2] := by
    refine ⟨cs[0], cs[1], cs[2], ?_⟩
    apply Array.ext
    · simpa using hsz
    · intro i h1 h2
      simp at h2
      match i, h2 with
      | 0, _ => rfl
      | 1, _ => rfl
      | 2, _ => rfl
  obtain ⟨c0, c1, c2, rfl⟩ := e3
  have some_of : ∀ i, i < 3 → ∃ y, xs[i]? = some y := fun i hi => by
    have : i < xs.length := by rw [hxl]; simpa using hi
    exact ⟨xs[i], List.getElem?_eq_getElem this⟩
  obtain ⟨y0, hy0⟩ := some_of 0 (by omega)
  obtain ⟨y1, hy1⟩ := some_of 1 (by omega)
  obtain ⟨y2, hy2⟩ := some_of 2 (by omega)
  have f0 := hfield 0 _ rfl
  have f1 := hfield 1 _ rfl
  have f2 := hfield 2 _ rfl
  rw [hy0] at f0
  rw [hy1] at f1
  rw [hy2] at f2
  simp only [Value.cells] at f0 f1 f2
  have g0 : DataW.trod enc Try.prog w base sp held n 2 [c0] = some y0 := by simpa [hc2] using f0
  have g1 : DataW.trod enc Try.prog w base sp held n 22 [c1] = some y1 := by simpa [hc22] using f1
  have g2 : DataW.trod enc Try.prog w base sp held n 23 [c2] = some y2 := by simpa [hc23] using f2
  obtain ⟨wd, e0, _, hw⟩ := DataW.trod_int Try.underlying2 g0
  simp only [List.cons.injEq, and_true] at e0
  subst e0
  obtain ⟨u1, hu1, k1⟩ := hcell 1 c1 rfl
  obtain ⟨u2, hu2, k2⟩ := hcell 2 c2 rfl
  simp at hu1 hu2
  subst hu1; subst hu2
  obtain ⟨ls, zs, r1, o1⟩ := slice_arg Try.underlying22 flat74 (by omega) hc74 k1 g1
  obtain ⟨ld, zd, r2, o2⟩ := slice_arg Try.underlying23 flat62 (by omega) hc62 k2 g2
  refine ⟨wd, ls, zs, ld, zd, ?_⟩
  refine .agg rfl (fun j hj => ?_) (fun j hj => ?_)
  · have hj' : j < 3 := hj
    match j, hj' with
    | 0, _ => rfl
    | 1, _ => exact o1
    | 2, _ => exact o2
  · have hj' : j < 3 := hj
    match j, hj' with
    | 0, _ => exact .int _ _
    | 1, _ => exact r1
    | 2, _ => exact r2

/-- The call of the law DropBaths: it returns true, and what was there is as it was. -/
theorem baths_calls (hN : Named Try.prog) (hm : Try.prog.follows .mixedOrders = true) (hW : OneOk Try.prog ⟨16, [], .bool true⟩) {H : Type} {enc : TypeId × Value → H} {w : World} {r : Reach} {b0 base : Nat} {sp : Nat → Bool} {held : Bool} {v v' : Value} {d : DataW H} {ps : List MemPlace}
    (hv : Value.okWide Try.prog w r b0 25 v) (hv' : Value.okWide Try.prog w r b0 3 v') (h : DataW.Trod enc Try.prog w base sp held 25 v d ps) :
    Calls Try.prog 3 #[v, v'] w (fun e w' => e = .returned (.bool true) ∧ Go.RowKit.Below w.heap.size w w') := by
  obtain ⟨wd, ls, zs, ld, zd, hr⟩ := bath_arg hv h
  obtain ⟨s, rfl⟩ := WideShapes.okWide_int Try.underlying3 hv'
  have hk : CallOk Try.prog (cd 15) := callN_rel hN (drawOk hN hm) (oraS_ok _ (fun e he => by
    simp only [List.mem_singleton] at he
    subst he
    exact hW)) Kt.kt 100000 15
  refine calls_law hk (c3 0 wd ls ld zs zd [⟨true, []⟩] s) ?_
  refine ⟨rfl, fun j hj => ?_⟩
  have hj' : j < 2 := hj
  match j, hj' with
  | 0, _ => exact hr
  | 1, _ => exact .int _ _
end Go.Eng
end
