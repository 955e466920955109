/- Drop: Touch of the definitions. -/
import Derived.Test.YtjmjkhpfipglcaaV12DrQx3
section
namespace Go.Eng
open Go.Proofs
set_option linter.unusedVariables false
set_option linter.unusedSimpArgs false
set_option maxRecDepth 100000
def g87 (B : AV) (pl : Int → Bool) : List AV → Option (Prop × AV)
  | [b, .int .i64 p] => some (b = B, .bool (pl p))
  | _ => none
theorem u70 (n : Nat) (w : Int) (ls ld : Nat) (zs zd : Nat → Int) (H : Heap) (p q e : Int) (pl : Int → Bool) : bodyT Try.prog (cd (n+4)) 100000 70 Try.f70 (Kt.kt 70) (il (ctG (ctG noCt 20 (g20 (bathA w ls zs ld zd) e)) 87 (g87 (bathA w ls zs ld zd) pl)) (n+3) 1) noBT noRT [(bathA w ls zs ld zd, none), (.int .i64 p, none), (.int .i64 q, none)] H =
  Tr.reqP (bathA w ls zs ld zd = bathA w ls zs ld zd) (Tr.ite (notB (eqI e (Int.ofNat 0))) (Tr.reqP (bathA w ls zs ld zd = bathA w ls zs ld zd) (Tr.ok ((AV.int .i64 e, none), H))) (Tr.reqP (bathA w ls zs ld zd = bathA w ls zs ld zd) (Tr.ite (notB (pl p)) (Tr.ok ((AV.int .i64 (Int.ofNat 2), some 1), H)) (Tr.reqP (bathA w ls zs ld zd = bathA w ls zs ld zd) (Tr.ite (notB (pl q)) (Tr.ok ((AV.int .i64 (Int.ofNat 2), some 1), H)) (Tr.ite (eqI p q) (Tr.ok ((AV.int .i64 (Int.ofNat 2), some 1), H)) (Tr.ok ((AV.int .i64 (Int.ofNat 0), some 1), H)))))))) := by kernel_rfl
theorem u68 (n : Nat) (w : Int) (ls ld : Nat) (zs zd sz kd : Nat → Int) (H : Heap) (p q e : Int) (side : Prop) : bodyT Try.prog (cd (n+13)) 100000 68 Try.f68 (Kt.kt 68) (il (ctG (ctG noCt 19 (g20 (bathA w ls zs ld zd) e)) 77 (g77 (bathA w ls zs ld zd) side (tabV w ls ld zs zd sz kd))) (n+11) 2) noBT noRT [(bathA w ls zs ld zd, none), (.int .i64 p, none), (.int .i64 q, none)] H =
  Tr.reqP (bathA w ls zs ld zd = bathA w ls zs ld zd) (Tr.ite (notB (eqI e (Int.ofNat 0))) (Tr.ite (notB (eqI e (Int.ofNat 0))) (Tr.ok ((AV.tup [AV.nilp, AV.int .i64 e], none), H)) (Tr.ite (leI (Int.negSucc 1) p) Tr.bad (Tr.ok ((AV.tup [AV.nilp, AV.int .i64 (Int.ofNat 2)], none), H)))) (Tr.reqP (bathA w ls zs ld zd = bathA w ls zs ld zd ∧ side) (Tr.ite (notB (eqI (Int.ofNat 0) (Int.ofNat 0))) (Tr.ok ((AV.tup [AV.nilp, AV.int .i64 (Int.ofNat 0)], none), H)) (Tr.ite (leI (Int.negSucc 1) p) (Tr.ite (notB (ltI p (Int.ofNat ls))) (Tr.ok ((AV.tup [AV.nilp, AV.int .i64 (Int.ofNat 2)], none), H)) (Tr.ite (leI (Int.negSucc 1) q) (Tr.ite (notB (ltI q (Int.ofNat ls))) (Tr.ok ((AV.tup [AV.nilp, AV.int .i64 (Int.ofNat 2)], none), H)) (Tr.ite (eqI p q) (Tr.ok ((AV.tup [AV.nilp, AV.int .i64 (Int.ofNat 2)], none), H)) (Tr.ok ((AV.tup [AV.ptrT (some 0) (Row.M [Seg.one (AV.int .i64 w), Seg.one (slA 2 ls zs), Seg.one (slA 3 ld zd), Seg.one (AV.slcT none (Row.M [Seg.arr .i64 sz (mulO ls 2)]) 2 ls true), Seg.arr .i64 kd 144]) 0, AV.int .i64 (Int.ofNat 0)], none), H)))) (Tr.ok ((AV.tup [AV.nilp, AV.int .i64 (Int.ofNat 2)], none), H)))) (Tr.ok ((AV.tup [AV.nilp, AV.int .i64 (Int.ofNat 2)], none), H)))))) := by kernel_rfl
/-- Is this a place? -/
def isPl (ls : Nat) (p : Int) : Bool := decide (-2 ≤ p) && decide (p < ls)
/-- The error of a bath and two places. -/
def plE (w : Int) (ls ld : Nat) (zs zd : Nat → Int) (p q : Int) : Int :=
  if chkB w ls ld zs zd ≠ 0 then chkB w ls ld zs zd else if isPl ls p = true ∧ isPl ls q = true ∧ p ≠ q then 0 else 2
/-- The kind of two places. -/
def kndR (w : Int) (ld : Nat) (zs zd : Nat → Int) (p q : Int) : Int :=
  if touchT w zs (szE false zd ld) p q then 2 else if touchT w zs (szE true zd ld) p q then 1 else 0
section
variable (n : Nat) (w : Int) (ls ld : Nat) (zs zd : Nat → Int) (H : Heap) (p q : Int)
theorem il46 (h : Bool) (h2 : ld < 2 ^ 16) : (il (ctG noCt 45 (g45t (bathA w ls zs ld zd) (endV h zd ld) True (szE h zd ld))) (n+1) 1).Ok (cd (n + 2)) := by
  refine il_ok _ (n + 1) 1 (fun k => ctG_ok (noCt_ok _) (fun args p v hg hp H => ?_))
  unfold g45t at hg
  split at hg
  · simp only [Option.some.injEq, Prod.mk.injEq] at hg
    obtain ⟨rfl, rfl⟩ := hg
    obtain ⟨rfl, rfl, _⟩ := hp
    rw [show n + 1 + k = n + k + 1 by omega]
    exact c45e (n + k) w ls ld zs zd H _ h h2
  · cases hg
theorem c46 (h : Bool) (h2 : ld < 2 ^ 16) (hB : TouchB ls zs (szE h zd ld) p q) : cd (n + 3) (.fn 46) [bathA w ls zs ld zd, endV h zd ld, .int .i64 p, .int .i64 q] H = some (.bool (touchT w zs (szE h zd ld) p q), H) := by
  rw [← touch_eq w ls zs p q _ hB]
  have hi := il46 n w ls ld zs zd h h2
  cases ld with
  | zero =>
    obtain ⟨y, hy1, hy2⟩ := run46b n w ls 0 zs zd H p q (szE h zd 0) hB
    have := fn_ok (n := n + 2) Try.func46 rfl rfl (args := [(bathA w ls zs 0 zd, none), (.nils, none), (.int .i64 p, none), (.int .i64 q, none)]) rfl hi (noBT_ok _ _) (noRT_ok _ _) hy1
    rw [hy2] at this
    exact this
  | succ m =>
    obtain ⟨y, hy1, hy2⟩ := run46a n w ls (m + 1) zs zd H p q (szE h zd (m + 1)) (m + 1) (upto (endS h zd) (m + 1)) hB
    have := fn_ok (n := n + 2) Try.func46 rfl rfl (args := [(bathA w ls zs (m + 1) zd, none), (slA 1 (m + 1) (upto (endS h zd) (m + 1)), none), (.int .i64 p, none), (.int .i64 q, none)]) rfl hi (noBT_ok _ _) (noRT_ok _ _) hy1
    rw [hy2] at this
    exact this
/-- What makes both answers right. -/
def KndB (ls ld : Nat) (zs zd : Nat → Int) (p q : Int) : Prop := ld < 2 ^ 16 ∧ ∀ h, TouchB ls zs (szE h zd ld) p q
theorem il71 : (il (ctG (ctG noCt 61 (g61 (bathA w ls zs ld zd) (KndB ls ld zs zd p q) (fun h => endV h zd ld))) 46 (g46 (bathA w ls zs ld zd) p q (KndB ls ld zs zd p q) (fun h => endV h zd ld) (fun t => touchT w zs (smV zd ld t) p q))) (n+3) 1).Ok (cd (n + 4)) := by
  refine il_ok _ (n + 3) 1 (fun k => ctG_ok (ctG_ok (noCt_ok _) (fun args p v hg hp H => ?_)) (fun args p v hg hp H => ?_))
  · unfold g61 at hg
    split at hg
    · simp only [Option.some.injEq, Prod.mk.injEq] at hg
      obtain ⟨rfl, rfl⟩ := hg
      obtain ⟨rfl, h2, _⟩ := hp
      rw [show n + 3 + k = n + 2 + k + 1 by omega]
      exact c61 _ w ls ld zs zd H _ h2
    · cases hg
  · unfold g46 at hg
    split at hg
    · simp only [Option.some.injEq, Prod.mk.injEq] at hg
      obtain ⟨rfl, rfl⟩ := hg
      obtain ⟨rfl, rfl, rfl, ⟨h2, hB⟩, ht⟩ := hp
      have e : ∀ h, smV zd ld (endV h zd ld) = szE h zd ld := fun h => funext fun s => smV_end ld zd s h
      rw [show n + 3 + k = n + k + 3 by omega]
      rcases ht with rfl | rfl
      · rw [e]; exact c46 _ w ls ld zs zd H _ _ _ h2 (hB _)
      · rw [e]; exact c46 _ w ls ld zs zd H _ _ _ h2 (hB _)
    · cases hg
theorem c71 (hK : KndB ls ld zs zd p q) : cd (n + 5) (.fn 71) [bathA w ls zs ld zd, .int .i64 p, .int .i64 q] H = some (.int .i64 (kndR w ld zs zd p q), H) := by
  have e : ∀ h, smV zd ld (endV h zd ld) = szE h zd ld := fun h => funext fun s => smV_end ld zd s h
  refine fn_of (n := n + 4) Try.func71 rfl rfl rfl (u71 n w ls ld zs zd H p q (KndB ls ld zs zd p q) (fun h => endV h zd ld) (fun t => touchT w zs (smV zd ld t) p q)) (il71 n w ls ld zs zd p q) (noBT_ok _ _) (noRT_ok _ _) (y := ((.int .i64 (kndR w ld zs zd p q), some 1), H)) ?_
  rw [Tr.run_reqP ⟨rfl, hK⟩, Tr.run_reqP ⟨rfl, rfl, rfl, hK, .inl rfl⟩, Tr.run_ite, e]
  unfold kndR
  cases touchT w zs (szE false zd ld) p q
  · rw [cond_false, Tr.run_reqP ⟨rfl, hK⟩, Tr.run_reqP ⟨rfl, rfl, rfl, hK, .inr rfl⟩, Tr.run_ite, e]
    cases touchT w zs (szE true zd ld) p q <;> rfl
  · rfl
theorem c87 : cd (n + 3) (.fn 87) [bathA w ls zs ld zd, .int .i64 p] H = some (.bool (isPl ls p), H) := by
  obtain ⟨y, hy1, hy2⟩ : ∃ y, (bodyT Try.prog (cd (n+2)) 100000 87 Try.f87 (Kt.kt 87) (il noCt (n+1) 1) noBT noRT [(bathA w ls zs ld zd, none), (.int .i64 p, none)] H).run = some y ∧ (y.1.1, y.2) = (AV.bool (isPl ls p), H) := by
    rw [u87]
    have e1 : Int.negSucc 0 = -1 := rfl
    have e2 : Int.negSucc 1 = -2 := rfl
    unfold isPl
    by_cases h1 : p = -1
    · refine ⟨_, by simp (disch := omega) only [Tr.run_ite, Tr.run_req, Tr.run_ok, nS, eqI_dec, decide_eq_true, decide_eq_false, cond_true, cond_false, Int.ofNat_eq_natCast, wrap_j, ver0, eqI_dec, e1, e2]; rfl, ?_⟩
      rw [decide_eq_true (by omega), decide_eq_true (by omega)]; rfl
    · by_cases h2 : p = -2
      · refine ⟨_, by simp (disch := omega) only [Tr.run_ite, Tr.run_req, Tr.run_ok, nS, eqI_dec, decide_eq_true, decide_eq_false, cond_true, cond_false, Int.ofNat_eq_natCast, wrap_j, ver0, eqI_dec, e1, e2]; rfl, ?_⟩
        rw [decide_eq_true (by omega), decide_eq_true (by omega)]; rfl
      · by_cases h3 : 0 ≤ p
        · by_cases h4 : p < (ls : Int)
          · refine ⟨_, by simp (disch := omega) only [Tr.run_ite, Tr.run_req, Tr.run_ok, nS, eqI_dec, decide_eq_true, decide_eq_false, cond_true, cond_false, Int.ofNat_eq_natCast, wrap_j, ver0, eqI_dec, e1, e2]; rfl, ?_⟩
            rw [decide_eq_true (by omega), decide_eq_true (by omega)]; rfl
          · refine ⟨_, by simp (disch := omega) only [Tr.run_ite, Tr.run_req, Tr.run_ok, nS, eqI_dec, decide_eq_true, decide_eq_false, cond_true, cond_false, Int.ofNat_eq_natCast, wrap_j, ver0, eqI_dec, e1, e2]; rfl, ?_⟩
            rw [decide_eq_true (by omega), decide_eq_false (by omega)]; rfl
        · refine ⟨_, by simp (disch := omega) only [Tr.run_ite, Tr.run_req, Tr.run_ok, nS, eqI_dec, decide_eq_true, decide_eq_false, cond_true, cond_false, Int.ofNat_eq_natCast, wrap_j, ver0, eqI_dec, e1, e2]; rfl, ?_⟩
          rw [decide_eq_false (by omega)]; rfl
  have := fn_ok (n := n + 2) Try.func87 rfl rfl (args := [(bathA w ls zs ld zd, none), (.int .i64 p, none)]) rfl (il_no (n + 1) 1) (noBT_ok _ _) (noRT_ok _ _) hy1
  rw [hy2] at this
  exact this
end
end Go.Eng
end
section
namespace Go.Eng
open Go.Proofs
set_option linter.unusedVariables false
set_option linter.unusedSimpArgs false
set_option maxRecDepth 100000
theorem chk_ok {w : Int} {ls ld : Nat} {zs zd : Nat → Int} (h : chkB w ls ld zs zd = 0) : ls ≤ 10 ∧ ld ≤ 40 ∧ 2 ≤ w ∧ w ≤ 1000 ∧ (∀ j, j < ls → badS w zs j = false) ∧ ∀ j, j < ld → badD ls zd j = false := by
  have h1 := chk_len w ls ld zs zd h
  have hn : ∀ (f : Nat → Bool) (N : Nat), exN f N = false → ∀ j, j < N → f j = false := fun f N hf j hj => by
    cases hq : f j with
    | false => rfl
    | true => rw [(exN_iff _ _).2 ⟨j, hj, hq⟩] at hf; cases hf
  unfold chkB at h
  cases b1 : exN (badS w zs) ls <;> cases b2 : exN (fun i => exN (eqS zs i) i) ls <;> cases b3 : exN (badD ls zd) ld <;>
    rw [b1, b2, b3] at h <;>
    by_cases e1 : w < 2 <;> by_cases e2 : 1000 < w <;> by_cases e3 : 10 < ls <;> by_cases e4 : 40 < ld <;> simp [e1, e2, e3, e4] at h
  exact ⟨h1.1, h1.2, by omega, by omega, hn _ _ b1, hn _ _ b3⟩
theorem szE_bound {ls ld : Nat} {zd : Nat → Int} (hd : ∀ j, j < ld → badD ls zd j = false) (hl : ld ≤ 100) (h : Bool) (s : Int) : 0 ≤ szE h zd ld s ∧ szE h zd ld s ≤ 1000000 := by
  have key : ∀ j, j ≤ ld → 0 ≤ sumS zd (upto (endS h zd) ld) s j ∧ sumS zd (upto (endS h zd) ld) s j ≤ 10000 * j := by
    intro j
    induction j with
    | zero => intro _; exact ⟨Int.le_refl _, Int.le_refl _⟩
    | succ j ih =>
      intro hj
      obtain ⟨i1, i2⟩ := ih (by omega)
      have b := hd j (by omega)
      simp only [badD, Bool.or_eq_false_iff, decide_eq_false_iff_not] at b
      have u : 1 ≤ upto (endS h zd) ld j ∧ upto (endS h zd) ld j ≤ 10000 := by
        unfold upto; rw [if_pos (by omega)]
        have e2 : zd (j * 3 + 1 + 1) = zd (j * 3 + 2) := rfl
        have e3 : endS h zd j = zd (j * 3 + 1) ∨ endS h zd j = zd (j * 3 + 2) := by
          cases h
          · exact .inl rfl
          · exact .inr rfl
        omega
      unfold sumS
      by_cases e : zd (j * 3) = s
      · rw [if_pos e, wr_in (by omega) (by omega)]; omega
      · rw [if_neg e]; omega
  have := key ld (Nat.le_refl _)
  unfold szE
  omega
theorem knd_ok {w : Int} {ls ld : Nat} {zs zd : Nat → Int} {p q : Int} (h : chkB w ls ld zs zd = 0) (hp : isPl ls p = true) (hq : isPl ls q = true) : KndB ls ld zs zd p q := by
  obtain ⟨h1, h2, h3, h4, h5, h6⟩ := chk_ok h
  simp only [isPl, Bool.and_eq_true, decide_eq_true_eq] at hp hq
  refine ⟨by omega, fun b => ⟨hp, hq, fun j hj => ?_, fun s => szE_bound h6 (by omega) b s⟩⟩
  have := h5 j hj
  simp only [badS, Bool.or_eq_false_iff, decide_eq_false_iff_not] at this
  unfold spotB
  omega
theorem touch_congr {w : Int} {zs : Nat → Int} {f g : Int → Int} {p q : Int} (h : ∀ s, 0 ≤ s → f s = g s) : touchT w zs f p q = touchT w zs g p q := by
  unfold touchT
  by_cases h1 : p < 0 <;> by_cases h2 : q < 0
  · simp only [h1, h2, and_self, if_true]
  · simp only [h1, h2, and_false, if_false, if_true]
    rw [h q (by omega), if_neg (show ¬ 0 ≤ p by omega)]
    by_cases e : g q = 0
    · rw [if_pos e, if_pos e]
    · rw [if_neg e, if_neg e, if_neg (show ¬ 0 ≤ p by omega)]
  · simp only [h1, h2, false_and, if_false]
    rw [h p (by omega), if_neg (show ¬ 0 ≤ q by omega), if_neg (show ¬ 0 ≤ q by omega)]
  · simp only [h1, h2, false_and, if_false]
    rw [h p (by omega), h q (by omega)]
/-- What a round leaves at its own place. -/
def kv (w : Int) (zs sz : Nat → Int) (p q d : Int) : Int :=
  if p = q then d else if touchT w zs (fun s => sz (s.toNat * 2)) p q then 2 else if touchT w zs (fun s => sz (s.toNat * 2 + 1)) p q then 1 else d
theorem kdS_get {w : Int} {zs sz : Nat → Int} {p q p0 q0 : Int} {kd : Nat → Int} (hp : -2 ≤ p) (hp0 : -2 ≤ p0) (hq : -2 ≤ q ∧ q < 10) (hq0 : -2 ≤ q0 ∧ q0 < 10) :
    kdS w zs sz p q kd (kix p0 q0) = if p = p0 ∧ q = q0 then kv w zs sz p q (kd (kix p0 q0)) else kd (kix p0 q0) := by
  by_cases e : p = p0 ∧ q = q0
  · obtain ⟨rfl, rfl⟩ := e
    rw [if_pos ⟨rfl, rfl⟩]
    unfold kdS kv
    split
    · rfl
    · split
      · simp only [if_true]
      · split
        · simp only [if_true]
        · rfl
  · rw [if_neg e]
    have ne : kix p0 q0 ≠ kix p q := by unfold kix; omega
    unfold kdS
    split
    · rfl
    · split
      · simp only [if_neg ne]
      · split
        · simp only [if_neg ne]
        · rfl
theorem kdI_get {w : Int} {zs sz : Nat → Int} {p p0 q0 : Int} {kd : Nat → Int} (hp : -2 ≤ p) (hp0 : -2 ≤ p0) (hq0 : -2 ≤ q0 ∧ q0 < 10) : ∀ N : Nat, N ≤ 12 →
    kdI w zs sz p kd N (kix p0 q0) = if p = p0 ∧ q0 + 2 < N then kv w zs sz p q0 (kd (kix p0 q0)) else kd (kix p0 q0)
  | 0, _ => by rw [if_neg (by omega)]; rfl
  | N + 1, hN => by
    have ih := kdI_get (w := w) (zs := zs) (sz := sz) (kd := kd) hp hp0 hq0 N (by omega)
    show kdS w zs sz p ((N : Int) - 2) (kdI w zs sz p kd N) (kix p0 q0) = _
    rw [kdS_get hp hp0 ⟨by omega, by omega⟩ hq0, ih]
    by_cases e : p = p0
    · by_cases e1 : (N : Int) - 2 = q0
      · rw [if_pos ⟨e, e1⟩, if_neg (show ¬ (p = p0 ∧ q0 + 2 < (N : Int)) by omega), if_pos (show p = p0 ∧ q0 + 2 < ((N + 1 : Nat) : Int) by omega), e1]
      · rw [if_neg (show ¬ (p = p0 ∧ (N : Int) - 2 = q0) by omega)]
        by_cases e2 : q0 + 2 < (N : Int)
        · rw [if_pos ⟨e, e2⟩, if_pos (show p = p0 ∧ q0 + 2 < ((N + 1 : Nat) : Int) by omega)]
        · rw [if_neg (show ¬ (p = p0 ∧ q0 + 2 < (N : Int)) by omega), if_neg (show ¬ (p = p0 ∧ q0 + 2 < ((N + 1 : Nat) : Int)) by omega)]
    · rw [if_neg (fun h => e h.1), if_neg (fun h => e h.1), if_neg (fun h => e h.1)]
theorem kdO_get {w : Int} {ls : Nat} {zs sz : Nat → Int} {p0 q0 : Int} (hls : ls ≤ 10) (hp0 : -2 ≤ p0) (hq0 : -2 ≤ q0 ∧ q0 < ls) : ∀ N : Nat, N ≤ 12 →
    kdO w ls zs sz N (kix p0 q0) = if p0 + 2 < N then kv w zs sz p0 q0 0 else 0
  | 0, _ => by rw [if_neg (by omega)]; rfl
  | N + 1, hN => by
    have ih := kdO_get (w := w) (zs := zs) (sz := sz) hls hp0 hq0 N (by omega)
    show kdI w zs sz ((N : Int) - 2) (kdO w ls zs sz N) (ls + 2) (kix p0 q0) = _
    rw [kdI_get (by omega) hp0 ⟨hq0.1, by omega⟩ (ls + 2) (by omega), ih]
    by_cases e : (N : Int) - 2 = p0
    · rw [if_pos (show (N : Int) - 2 = p0 ∧ q0 + 2 < ((ls + 2 : Nat) : Int) by omega), if_neg (show ¬ p0 + 2 < (N : Int) by omega), if_pos (show p0 + 2 < ((N + 1 : Nat) : Int) by omega), e]
    · rw [if_neg (fun h => e h.1)]
      by_cases e2 : p0 + 2 < (N : Int)
      · rw [if_pos e2, if_pos (show p0 + 2 < ((N + 1 : Nat) : Int) by omega)]
      · rw [if_neg e2, if_neg (show ¬ p0 + 2 < ((N + 1 : Nat) : Int) by omega)]
/-- The table's kind of two places. -/
theorem kd_knd {w : Int} {ls ld : Nat} {zs zd : Nat → Int} {p q : Int} (h : chkB w ls ld zs zd = 0) (hp : isPl ls p = true) (hq : isPl ls q = true) (hpq : p ≠ q) :
    kdO w ls zs (szs zd ld) (ls + 2) (kix p q) = kndR w ld zs zd p q := by
  have hc := chk_drops h
  simp only [isPl, Bool.and_eq_true, decide_eq_true_eq] at hp hq
  rw [kdO_get hc.1 hp.1 hq (ls + 2) (by omega), if_pos (by omega)]
  unfold kv kndR
  rw [if_neg hpq]
  have hs : ∀ b : Bool, ∀ s : Int, 0 ≤ s → (cond b (szs zd ld (s.toNat * 2 + 1)) (szs zd ld (s.toNat * 2))) = szE b zd ld s := fun b s h0 => by
    have := szs_sum zd ld s.toNat (fun j hj => (hc.2.2 j hj).1) ld (Nat.le_refl _)
    have e : ((s.toNat : Nat) : Int) = s := by omega
    rw [e] at this
    cases b
    · exact this.1
    · exact this.2
  rw [touch_congr (f := fun s => szs zd ld (s.toNat * 2)) (g := szE false zd ld) (fun s h0 => hs false s h0), touch_congr (f := fun s => szs zd ld (s.toNat * 2 + 1)) (g := szE true zd ld) (fun s h0 => hs true s h0)]
end Go.Eng
end
section
namespace Go.Eng
open Go.Proofs
set_option linter.unusedVariables false
set_option linter.unusedSimpArgs false
set_option maxRecDepth 100000
def g71 (B : AV) (P Q k : Int) (side : Prop) : List AV → Option (Prop × AV)
  | [b, .int .i64 p, .int .i64 q] => some (b = B ∧ p = P ∧ q = Q ∧ side, .int .i64 k)
  | _ => none
theorem u22s (n : Nat) (w : Int) (ls ld : Nat) (zs zd : Nat → Int) (H : Heap) (p q e k : Int) (side : Prop) : bodyT Try.prog (cd (n+6)) 100000 22 Try.f22 (Kt.kt 22) (il (ctG (ctG noCt 70 (g70 (bathA w ls zs ld zd) p q e)) 71 (g71 (bathA w ls zs ld zd) p q k side)) (n+5) 1) noBT noRT [(bathA w ls zs ld zd, none), (.int .i64 p, none), (.int .i64 q, none)] H =
  Tr.reqP (bathA w ls zs ld zd = bathA w ls zs ld zd ∧ p = p ∧ q = q) (Tr.ite (notB (eqI e (Int.ofNat 0))) (Tr.reqP (bathA w ls zs ld zd = bathA w ls zs ld zd ∧ p = p ∧ q = q) (Tr.ok ((AV.tup [AV.int .i64 (Int.ofNat 0), AV.int .i64 e], none), H))) (Tr.reqP (bathA w ls zs ld zd = bathA w ls zs ld zd ∧ p = p ∧ q = q ∧ side) (Tr.ok ((AV.tup [AV.int .i64 k, AV.int .i64 (Int.ofNat 0)], none), H)))) := by kernel_rfl
section
variable (n : Nat) (w : Int) (ls ld : Nat) (zs zd : Nat → Int) (H : Heap) (p q : Int)
theorem il70 : (il (ctG (ctG noCt 20 (g20 (bathA w ls zs ld zd) (chkB w ls ld zs zd))) 87 (g87 (bathA w ls zs ld zd) (isPl ls))) (n+3) 1).Ok (cd (n + 4)) := by
  refine il_ok _ (n + 3) 1 (fun k => ctG_ok ?_ (fun args p v hg hp H => ?_))
  · have := ct20 (n + 1) w ls ld zs zd k _ (noCt_ok _)
    rwa [show n + 1 + 2 + k = n + 3 + k by omega] at this
  · unfold g87 at hg
    split at hg
    · simp only [Option.some.injEq, Prod.mk.injEq] at hg
      obtain ⟨rfl, rfl⟩ := hg
      rw [hp, show n + 3 + k = n + k + 3 by omega]
      exact c87 _ w ls ld zs zd H _
    · cases hg
theorem c70 : cd (n + 5) (.fn 70) [bathA w ls zs ld zd, .int .i64 p, .int .i64 q] H = some (.int .i64 (plE w ls ld zs zd p q), H) := by
  obtain ⟨y, hy1, hy2⟩ : ∃ y, (bodyT Try.prog (cd (n+4)) 100000 70 Try.f70 (Kt.kt 70) (il (ctG (ctG noCt 20 (g20 (bathA w ls zs ld zd) (chkB w ls ld zs zd))) 87 (g87 (bathA w ls zs ld zd) (isPl ls))) (n+3) 1) noBT noRT [(bathA w ls zs ld zd, none), (.int .i64 p, none), (.int .i64 q, none)] H).run = some y ∧ (y.1.1, y.2) = (AV.int .i64 (plE w ls ld zs zd p q), H) := by
    rw [u70, Tr.run_reqP rfl]
    unfold plE
    by_cases h1 : chkB w ls ld zs zd = 0
    · rw [if_neg (fun h => h h1), Tr.run_ite, notB_eq, eqI_dec, decide_eq_true (by rw [h1]; rfl), Bool.not_true, cond_false, Tr.run_reqP rfl]
      cases h2 : isPl ls p
      · rw [Tr.run_ite, notB_eq, Bool.not_false, cond_true]
        refine ⟨_, rfl, ?_⟩
        rw [if_neg (by rintro ⟨h, -⟩; cases h)]; rfl
      · rw [Tr.run_ite, notB_eq, Bool.not_true, cond_false, Tr.run_reqP rfl]
        cases h3 : isPl ls q
        · rw [Tr.run_ite, notB_eq, Bool.not_false, cond_true]
          refine ⟨_, rfl, ?_⟩
          rw [if_neg (by rintro ⟨-, h, -⟩; cases h)]; rfl
        · rw [Tr.run_ite, notB_eq, Bool.not_true, cond_false, Tr.run_ite, eqI_dec]
          by_cases h4 : p = q
          · rw [decide_eq_true h4]
            refine ⟨_, rfl, ?_⟩
            rw [if_neg (fun h => h.2.2 h4)]; rfl
          · rw [decide_eq_false h4]
            refine ⟨_, rfl, ?_⟩
            rw [if_pos ⟨rfl, rfl, h4⟩]; rfl
    · rw [if_pos h1, Tr.run_ite, notB_eq, eqI_dec, decide_eq_false (by simpa using h1), Bool.not_false, cond_true, Tr.run_reqP rfl]
      exact ⟨_, rfl, rfl⟩
  have := fn_ok (n := n + 4) Try.func70 rfl rfl (args := [(bathA w ls zs ld zd, none), (.int .i64 p, none), (.int .i64 q, none)]) rfl (il70 n w ls ld zs zd) (noBT_ok _ _) (noRT_ok _ _) hy1
  rw [hy2] at this
  exact this
theorem plE_zero {w : Int} {ls ld : Nat} {zs zd : Nat → Int} {p q : Int} (h : plE w ls ld zs zd p q = 0) : chkB w ls ld zs zd = 0 ∧ isPl ls p = true ∧ isPl ls q = true ∧ p ≠ q := by
  unfold plE at h
  by_cases h1 : chkB w ls ld zs zd = 0
  · rw [if_neg (fun h => h h1)] at h
    by_cases h2 : isPl ls p = true ∧ isPl ls q = true ∧ p ≠ q
    · exact ⟨h1, h2⟩
    · rw [if_neg h2] at h; exact absurd h (by decide)
  · rw [if_pos h1] at h; exact absurd h h1
/-- What Touch answers. -/
def touK (w : Int) (ls ld : Nat) (zs zd : Nat → Int) (p q : Int) : Int := if plE w ls ld zs zd p q ≠ 0 then 0 else kndR w ld zs zd p q
theorem c22 : cd (n + 7) (.fn 22) [bathA w ls zs ld zd, .int .i64 p, .int .i64 q] H = some (.tup [.int .i64 (touK w ls ld zs zd p q), .int .i64 (plE w ls ld zs zd p q)], H) := by
  refine fn_of (n := n + 6) Try.func22 rfl rfl rfl (u22s n w ls ld zs zd H p q (plE w ls ld zs zd p q) (kndR w ld zs zd p q) (KndB ls ld zs zd p q)) (il_ok _ (n + 5) 1 (fun k => ctG_ok (ctG_ok (noCt_ok _) (fun args p v hg hp H => ?_)) (fun args p v hg hp H => ?_))) (noBT_ok _ _) (noRT_ok _ _) (y := ((.tup [.int .i64 (touK w ls ld zs zd p q), .int .i64 (plE w ls ld zs zd p q)], none), H)) ?_
  · unfold g70 at hg
    split at hg
    · simp only [Option.some.injEq, Prod.mk.injEq] at hg
      obtain ⟨rfl, rfl⟩ := hg
      obtain ⟨rfl, rfl, rfl⟩ := hp
      rw [show n + 5 + k = n + k + 5 by omega]
      exact c70 _ w ls ld zs zd H _ _
    · cases hg
  · unfold g71 at hg
    split at hg
    · simp only [Option.some.injEq, Prod.mk.injEq] at hg
      obtain ⟨rfl, rfl⟩ := hg
      obtain ⟨rfl, rfl, rfl, hK⟩ := hp
      rw [show n + 5 + k = n + k + 5 by omega]
      exact c71 _ w ls ld zs zd H _ _ hK
    · cases hg
  · rw [Tr.run_reqP ⟨rfl, rfl, rfl⟩, Tr.run_ite, notB_eq, eqI_dec]
    unfold touK
    by_cases h1 : plE w ls ld zs zd p q = 0
    · obtain ⟨a1, a2, a3, a4⟩ := plE_zero h1
      rw [if_neg (fun h => h h1), decide_eq_true (by rw [h1]; rfl), Bool.not_true, cond_false, Tr.run_reqP ⟨rfl, rfl, rfl, knd_ok a1 a2 a3⟩, h1]
      rfl
    · rw [if_pos h1, decide_eq_false (by simpa using h1), Bool.not_false, cond_true, Tr.run_reqP ⟨rfl, rfl, rfl⟩]
      rfl
/-- The table that places gives. -/
noncomputable def plT (w : Int) (ls ld : Nat) (zs zd : Nat → Int) (p q : Int) : AV := if plE w ls ld zs zd p q ≠ 0 then .nilp else tabV w ls ld zs zd (szs zd ld) (kdO w ls zs (szs zd ld) (ls + 2))
theorem c68 : cd (n + 14) (.fn 68) [bathA w ls zs ld zd, .int .i64 p, .int .i64 q] H = some (.tup [plT w ls ld zs zd p q, .int .i64 (plE w ls ld zs zd p q)], H) := by
  refine fn_of (n := n + 13) Try.func68 rfl rfl rfl (u68 n w ls ld zs zd (szs zd ld) (kdO w ls zs (szs zd ld) (ls + 2)) H p q (chkB w ls ld zs zd) (ls ≤ 10 ∧ ld ≤ 40 ∧ ∀ j, j < ld → 0 ≤ zd (j * 3) ∧ zd (j * 3) < ls)) (il_ok _ (n + 11) 2 (fun k => ctG_ok (ct19 n w ls ld zs zd k _ (noCt_ok _)) (fun args p v h hp H => ?_))) (noBT_ok _ _) (noRT_ok _ _) (y := ((.tup [plT w ls ld zs zd p q, .int .i64 (plE w ls ld zs zd p q)], none), H)) ?_
  · unfold g77 at h
    split at h
    · simp only [Option.some.injEq, Prod.mk.injEq] at h
      obtain ⟨rfl, rfl⟩ := h
      obtain ⟨rfl, h1, h2, h3⟩ := hp
      rw [show n + 11 + k = n + 3 + k + 8 by omega]
      exact c77 _ w ls ld zs zd H h1 h2 h3
    · cases h
  · rw [Tr.run_reqP rfl]
    by_cases e : chkB w ls ld zs zd = 0
    · have hc := chk_drops e
      have e0 : Int.negSucc 1 = -2 := rfl
      have eE : plE w ls ld zs zd p q = if isPl ls p = true ∧ isPl ls q = true ∧ p ≠ q then 0 else 2 := by unfold plE; rw [if_neg (fun h => h e)]
      rw [Tr.run_ite, notB_eq, eqI_dec, decide_eq_true (by rw [e]; rfl), Bool.not_true, cond_false, Tr.run_reqP ⟨rfl, hc⟩, Tr.run_ite, notB_eq, eqI_dec, decide_eq_true rfl, Bool.not_true, cond_false]
      have no : ¬ (isPl ls p = true ∧ isPl ls q = true ∧ p ≠ q) → (.tup [plT w ls ld zs zd p q, .int .i64 (plE w ls ld zs zd p q)] : AV) = .tup [.nilp, .int .i64 2] := fun h => by
        unfold plT
        rw [eE, if_neg h]; rfl
      by_cases h1 : -2 ≤ p
      · by_cases h2 : p < (ls : Int)
        · by_cases h3 : -2 ≤ q
          · by_cases h4 : q < (ls : Int)
            · by_cases h5 : p = q
              · rw [no (fun h => h.2.2 h5)]
                simp (disch := omega) only [Tr.run_ite, Tr.run_req, Tr.run_ok, nS, eqI_dec, decide_eq_true, decide_eq_false, cond_true, cond_false, Int.ofNat_eq_natCast, wrap_j, ver0, eqI_dec, e0]
                rfl
              · have ey : isPl ls p = true ∧ isPl ls q = true ∧ p ≠ q := ⟨by simp [isPl, h1, h2], by simp [isPl, h3, h4], h5⟩
                unfold plT
                rw [eE, if_pos ey, if_neg (by simp)]
                simp (disch := omega) only [Tr.run_ite, Tr.run_req, Tr.run_ok, nS, eqI_dec, decide_eq_true, decide_eq_false, cond_true, cond_false, Int.ofNat_eq_natCast, wrap_j, ver0, eqI_dec, e0]
                rfl
            · rw [no (fun h => by simp [isPl, h4] at h)]
              simp (disch := omega) only [Tr.run_ite, Tr.run_req, Tr.run_ok, nS, eqI_dec, decide_eq_true, decide_eq_false, cond_true, cond_false, Int.ofNat_eq_natCast, wrap_j, ver0, eqI_dec, e0]
              rfl
          · rw [no (fun h => by simp [isPl, h3] at h)]
            simp (disch := omega) only [Tr.run_ite, Tr.run_req, Tr.run_ok, nS, eqI_dec, decide_eq_true, decide_eq_false, cond_true, cond_false, Int.ofNat_eq_natCast, wrap_j, ver0, eqI_dec, e0]
            rfl
        · rw [no (fun h => by simp [isPl, h2] at h)]
          simp (disch := omega) only [Tr.run_ite, Tr.run_req, Tr.run_ok, nS, eqI_dec, decide_eq_true, decide_eq_false, cond_true, cond_false, Int.ofNat_eq_natCast, wrap_j, ver0, eqI_dec, e0]
          rfl
      · rw [no (fun h => by simp [isPl, h1] at h)]
        simp (disch := omega) only [Tr.run_ite, Tr.run_req, Tr.run_ok, nS, eqI_dec, decide_eq_true, decide_eq_false, cond_true, cond_false, Int.ofNat_eq_natCast, wrap_j, ver0, eqI_dec, e0]
        rfl
    · have eE : plE w ls ld zs zd p q = chkB w ls ld zs zd := by unfold plE; rw [if_pos e]
      unfold plT
      rw [eE, if_pos e]
      simp only [Tr.run_ite, notB_eq, eqI_dec]
      rw [decide_eq_false (show ¬ chkB w ls ld zs zd = Int.ofNat 0 from e), Bool.not_false, cond_true, cond_true]
      rfl
theorem c21 : cd (n + 16) (.fn 21) [bathA w ls zs ld zd, .int .i64 p, .int .i64 q] H = some (.tup [.int .i64 (touK w ls ld zs zd p q), .int .i64 (plE w ls ld zs zd p q)], H) := by
  have hct : ∀ (t : AV) (e : Int), t = plT w ls ld zs zd p q → e = plE w ls ld zs zd p q → (il (ctG noCt 68 (g68 (bathA w ls zs ld zd) p q t e)) (n+14) 1).Ok (cd (n + 15)) := fun t e ht he => by
    subst ht; subst he
    refine il_ok _ (n + 14) 1 (fun k => ctG_ok (noCt_ok _) (fun args p v hg hp H => ?_))
    unfold g68 at hg
    split at hg
    · simp only [Option.some.injEq, Prod.mk.injEq] at hg
      obtain ⟨rfl, rfl⟩ := hg
      obtain ⟨rfl, rfl, rfl⟩ := hp
      rw [show n + 14 + k = n + k + 14 by omega]
      exact c68 _ w ls ld zs zd H _ _
    · cases hg
  by_cases h1 : plE w ls ld zs zd p q = 0
  · obtain ⟨a1, a2, a3, a4⟩ := plE_zero h1
    have b2 := a2; have b3 := a3
    have hc := chk_drops a1
    simp only [isPl, Bool.and_eq_true, decide_eq_true_eq] at b2 b3
    have ek : touK w ls ld zs zd p q = kdO w ls zs (szs zd ld) (ls + 2) (kix p q) := by
      unfold touK; rw [if_neg (fun h => h h1), kd_knd a1 a2 a3 a4]
    rw [ek, h1]
    refine fn_of (n := n + 15) Try.func21 rfl rfl rfl (u21b n w ls ld zs zd (szs zd ld) (kdO w ls zs (szs zd ld) (ls + 2)) H p q) (hct _ 0 (by unfold plT; rw [if_neg (fun h => h h1)]) h1.symm) (noBT_ok _ _) (noRT_ok _ _) (y := ((.tup [.int .i64 (kdO w ls zs (szs zd ld) (ls + 2) (kix p q)), .int .i64 0], none), H)) ?_
    have w1 : IntKind.i64.wrap (p + 2) = p + 2 := wr_in (by omega) (by omega)
    have w2 : IntKind.i64.wrap (q + 2) = q + 2 := wr_in (by omega) (by omega)
    rw [Tr.run_reqP ⟨rfl, rfl, rfl⟩, Tr.run_ite, notB_eq, eqI_dec, decide_eq_true rfl, Bool.not_true, cond_false]
    simp only [addI_eq, idO_eq, subO_eq, inO_eq, show Int.ofNat 2 = 2 from rfl, w1, w2]
    have ei : 4 + (p + 2).toNat * 12 + (q + 2).toNat * 1 - 4 = kix p q := by unfold kix; omega
    rw [ei]
    simp (disch := omega) only [Tr.run_ite, Tr.run_req, Tr.run_ok, nS, eqI_dec, decide_eq_true, decide_eq_false, cond_true, cond_false, Int.ofNat_eq_natCast, wrap_j, ver0, eqI_dec]
    rfl
  · have ek : touK w ls ld zs zd p q = 0 := by unfold touK; rw [if_pos h1]
    rw [ek]
    refine fn_of (n := n + 15) Try.func21 rfl rfl rfl (u21a n w ls ld zs zd H p q (plE w ls ld zs zd p q)) (hct _ _ (by unfold plT; rw [if_pos h1]) rfl) (noBT_ok _ _) (noRT_ok _ _) (y := ((.tup [.int .i64 0, .int .i64 (plE w ls ld zs zd p q)], none), H)) ?_
    rw [Tr.run_reqP ⟨rfl, rfl, rfl⟩, Tr.run_ite, notB_eq, eqI_dec, decide_eq_false (show ¬ plE w ls ld zs zd p q = Int.ofNat 0 from h1), Bool.not_false, cond_true]
    rfl
end
theorem ctW {n : Nat} {t : Ctr} (ht : t.Ok (cd (n + 1))) : (ctG t 16 g16).Ok (cd (n + 1)) := by
  refine ctG_ok ht (fun args p v hg hp H => ?_)
  unfold g16 at hg
  split at hg
  · simp only [Option.some.injEq, Prod.mk.injEq] at hg
    obtain ⟨_, rfl⟩ := hg
    exact c16 _ H
  · cases hg
end Go.Eng
end
