/- Drop: the table of kinds holds what is defined. -/
import Derived.Test.YtjmjkhpfipglcaaV6DrQx4
section
namespace Go.Eng
open Go.Proofs
set_option linter.unusedVariables false
set_option linter.unusedSimpArgs false
set_option maxRecDepth 100000
theorem chk_ok {w : Int} {ls ld : Nat} {zs zd : Nat → Int} (h : chkB w ls ld zs zd = 0) : ls ≤ 10 ∧ ld ≤ 40 ∧ 2 ≤ w ∧ w ≤ 1000 ∧ (∀ j, j < ls → badS w zs j = false) ∧ ∀ j, j < ld → badD ls zd j = false := by
 have h1 := chk_len w ls ld zs zd h
 have hn : ∀ (f : Nat → Bool) (N : Nat), exN f N = false → ∀ j, j < N → f j = false := fun f N hf j hj => by
  cases hq : f j with
  | false => rfl
  | true => rw [(exN_iff _ _).2 ⟨j, hj, hq⟩] at hf; cases hf
 unfold chkB at h
 cases b1 : exN (badS w zs) ls <;> cases b2 : exN (fun i => exN (eqS zs i) i) ls <;> cases b3 : exN (badD ls zd) ld <;>
  rw [b1, b2, b3] at h <;>
  by_cases e1 : w < 2 <;> by_cases e2 : 1000 < w <;> by_cases e3 : 10 < ls <;> by_cases e4 : 40 < ld <;> simp [e1, e2, e3, e4] at h
 exact ⟨h1.1, h1.2, by omega, by omega, hn _ _ b1, hn _ _ b3⟩
theorem szE_bound {ls ld : Nat} {zd : Nat → Int} (hd : ∀ j, j < ld → badD ls zd j = false) (hl : ld ≤ 100) (h : Bool) (s : Int) : 0 ≤ szE h zd ld s ∧ szE h zd ld s ≤ 1000000 := by
 have key : ∀ j, j ≤ ld → 0 ≤ sumS zd (upto (endS h zd) ld) s j ∧ sumS zd (upto (endS h zd) ld) s j ≤ 10000 * j := by
  intro j
  induction j with
  | zero => intro _; exact ⟨Int.le_refl _, Int.le_refl _⟩
  | succ j ih =>
    intro hj
    obtain ⟨i1, i2⟩ := ih (by omega)
    have b := hd j (by omega)
    simp only [badD, Bool.or_eq_false_iff, decide_eq_false_iff_not] at b
    have u : 1 ≤ upto (endS h zd) ld j ∧ upto (endS h zd) ld j ≤ 10000 := by
     unfold upto; rw [if_pos (by omega)]
     have e2 : zd (j * 3 + 1 + 1) = zd (j * 3 + 2) := rfl
     have e3 : endS h zd j = zd (j * 3 + 1) ∨ endS h zd j = zd (j * 3 + 2) := by
      cases h
      · exact .inl rfl
      · exact .inr rfl
     omega
    unfold sumS
    by_cases e : zd (j * 3) = s
    · rw [if_pos e, wr_in (by omega) (by omega)]; omega
    · rw [if_neg e]; omega
 have := key ld (Nat.le_refl _)
 unfold szE
 omega
theorem knd_ok {w : Int} {ls ld : Nat} {zs zd : Nat → Int} {p q : Int} (h : chkB w ls ld zs zd = 0) (hp : isPl ls p = true) (hq : isPl ls q = true) : KndB ls ld zs zd p q := by
 obtain ⟨h1, h2, h3, h4, h5, h6⟩ := chk_ok h
 simp only [isPl, Bool.and_eq_true, decide_eq_true_eq] at hp hq
 refine ⟨by omega, fun b => ⟨hp, hq, fun j hj => ?_, fun s => szE_bound h6 (by omega) b s⟩⟩
 have := h5 j hj
 simp only [badS, Bool.or_eq_false_iff, decide_eq_false_iff_not] at this
 unfold spotB
 omega
theorem touch_congr {w : Int} {zs : Nat → Int} {f g : Int → Int} {p q : Int} (h : ∀ s, 0 ≤ s → f s = g s) : touchT w zs f p q = touchT w zs g p q := by
 unfold touchT
 by_cases h1 : p < 0 <;> by_cases h2 : q < 0
 · simp only [h1, h2, and_self, if_true]
 · simp only [h1, h2, and_false, if_false, if_true]
   rw [h q (by omega), if_neg (show ¬ 0 ≤ p by omega)]
   by_cases e : g q = 0
   · rw [if_pos e, if_pos e]
   · rw [if_neg e, if_neg e, if_neg (show ¬ 0 ≤ p by omega)]
 · simp only [h1, h2, false_and, if_false]
   rw [h p (by omega), if_neg (show ¬ 0 ≤ q by omega), if_neg (show ¬ 0 ≤ q by omega)]
 · simp only [h1, h2, false_and, if_false]
   rw [h p (by omega), h q (by omega)]
def kv (w : Int) (zs sz : Nat → Int) (p q d : Int) : Int :=
 if p = q then d else if touchT w zs (fun s => sz (s.toNat * 2)) p q then 2 else if touchT w zs (fun s => sz (s.toNat * 2 + 1)) p q then 1 else d
theorem kdS_get {w : Int} {zs sz : Nat → Int} {p q p0 q0 : Int} {kd : Nat → Int} (hp : -2 ≤ p) (hp0 : -2 ≤ p0) (hq : -2 ≤ q ∧ q < 10) (hq0 : -2 ≤ q0 ∧ q0 < 10) :
 kdS w zs sz p q kd (kix p0 q0) = if p = p0 ∧ q = q0 then kv w zs sz p q (kd (kix p0 q0)) else kd (kix p0 q0) := by
 by_cases e : p = p0 ∧ q = q0
 · obtain ⟨rfl, rfl⟩ := e
   rw [if_pos ⟨rfl, rfl⟩]
   unfold kdS kv
   split
   · rfl
   · split
     · simp only [if_true]
     · split
       · simp only [if_true]
       · rfl
 · rw [if_neg e]
   have ne : kix p0 q0 ≠ kix p q := by unfold kix; omega
   unfold kdS
   split
   · rfl
   · split
     · simp only [if_neg ne]
     · split
       · simp only [if_neg ne]
       · rfl
theorem kdI_get {w : Int} {zs sz : Nat → Int} {p p0 q0 : Int} {kd : Nat → Int} (hp : -2 ≤ p) (hp0 : -2 ≤ p0) (hq0 : -2 ≤ q0 ∧ q0 < 10) : ∀ N : Nat, N ≤ 12 →
 kdI w zs sz p kd N (kix p0 q0) = if p = p0 ∧ q0 + 2 < N then kv w zs sz p q0 (kd (kix p0 q0)) else kd (kix p0 q0)
 | 0, _ => by rw [if_neg (by omega)]; rfl
 | N + 1, hN => by
   have ih := kdI_get (w := w) (zs := zs) (sz := sz) (kd := kd) hp hp0 hq0 N (by omega)
   show kdS w zs sz p ((N : Int) - 2) (kdI w zs sz p kd N) (kix p0 q0) = _
   rw [kdS_get hp hp0 ⟨by omega, by omega⟩ hq0, ih]
   by_cases e : p = p0
   · by_cases e1 : (N : Int) - 2 = q0
     · rw [if_pos ⟨e, e1⟩, if_neg (show ¬ (p = p0 ∧ q0 + 2 < (N : Int)) by omega), if_pos (show p = p0 ∧ q0 + 2 < ((N + 1 : Nat) : Int) by omega), e1]
     · rw [if_neg (show ¬ (p = p0 ∧ (N : Int) - 2 = q0) by omega)]
       by_cases e2 : q0 + 2 < (N : Int)
       · rw [if_pos ⟨e, e2⟩, if_pos (show p = p0 ∧ q0 + 2 < ((N + 1 : Nat) : Int) by omega)]
       · rw [if_neg (show ¬ (p = p0 ∧ q0 + 2 < (N : Int)) by omega), if_neg (show ¬ (p = p0 ∧ q0 + 2 < ((N + 1 : Nat) : Int)) by omega)]
   · rw [if_neg (fun h => e h.1), if_neg (fun h => e h.1), if_neg (fun h => e h.1)]
theorem kdO_get {w : Int} {ls : Nat} {zs sz : Nat → Int} {p0 q0 : Int} (hls : ls ≤ 10) (hp0 : -2 ≤ p0) (hq0 : -2 ≤ q0 ∧ q0 < ls) : ∀ N : Nat, N ≤ 12 →
 kdO w ls zs sz N (kix p0 q0) = if p0 + 2 < N then kv w zs sz p0 q0 0 else 0
 | 0, _ => by rw [if_neg (by omega)]; rfl
 | N + 1, hN => by
   have ih := kdO_get (w := w) (zs := zs) (sz := sz) hls hp0 hq0 N (by omega)
   show kdI w zs sz ((N : Int) - 2) (kdO w ls zs sz N) (ls + 2) (kix p0 q0) = _
   rw [kdI_get (by omega) hp0 ⟨hq0.1, by omega⟩ (ls + 2) (by omega), ih]
   by_cases e : (N : Int) - 2 = p0
   · rw [if_pos (show (N : Int) - 2 = p0 ∧ q0 + 2 < ((ls + 2 : Nat) : Int) by omega), if_neg (show ¬ p0 + 2 < (N : Int) by omega), if_pos (show p0 + 2 < ((N + 1 : Nat) : Int) by omega), e]
   · rw [if_neg (fun h => e h.1)]
     by_cases e2 : p0 + 2 < (N : Int)
     · rw [if_pos e2, if_pos (show p0 + 2 < ((N + 1 : Nat) : Int) by omega)]
     · rw [if_neg e2, if_neg (show ¬ p0 + 2 < ((N + 1 : Nat) : Int) by omega)]
theorem kd_knd {w : Int} {ls ld : Nat} {zs zd : Nat → Int} {p q : Int} (h : chkB w ls ld zs zd = 0) (hp : isPl ls p = true) (hq : isPl ls q = true) (hpq : p ≠ q) :
 kdO w ls zs (szs zd ld) (ls + 2) (kix p q) = kndR w ld zs zd p q := by
 have hc := chk_drops h
 simp only [isPl, Bool.and_eq_true, decide_eq_true_eq] at hp hq
 rw [kdO_get hc.1 hp.1 hq (ls + 2) (by omega), if_pos (by omega)]
 unfold kv kndR
 rw [if_neg hpq]
 have hs : ∀ b : Bool, ∀ s : Int, 0 ≤ s → (cond b (szs zd ld (s.toNat * 2 + 1)) (szs zd ld (s.toNat * 2))) = szE b zd ld s := fun b s h0 => by
  have := szs_sum zd ld s.toNat (fun j hj => (hc.2.2 j hj).1) ld (Nat.le_refl _)
  have e : ((s.toNat : Nat) : Int) = s := by omega
  rw [e] at this
  cases b
  · exact this.1
  · exact this.2
 rw [touch_congr (f := fun s => szs zd ld (s.toNat * 2)) (g := szE false zd ld) (fun s h0 => hs false s h0), touch_congr (f := fun s => szs zd ld (s.toNat * 2 + 1)) (g := szE true zd ld) (fun s h0 => hs true s h0)]
end Go.Eng
end
section
namespace Go.Eng
open Go.Proofs
set_option linter.unusedVariables false
set_option linter.unusedSimpArgs false
set_option maxRecDepth 100000
section
variable (n : Nat) (w : Int) (ls ld : Nat) (zs zd : Nat → Int) (H : Heap) (p q : Int)
theorem il70 : (il (ctG (ctG noCt 20 (g20 (bathA w ls zs ld zd) (chkB w ls ld zs zd))) 87 (g87 (bathA w ls zs ld zd) (isPl ls))) (n+3) 1).Ok (cd (n + 4)) := by
 refine il_ok _ (n + 3) 1 (fun k => ctG_ok ?_ (fun args p v hg hp H => ?_))
 · have := ct20 (n + 1) w ls ld zs zd k _ (noCt_ok _)
   rwa [show n + 1 + 2 + k = n + 3 + k by omega] at this
 · unfold g87 at hg
   split at hg
   · simp only [Option.some.injEq, Prod.mk.injEq] at hg
     obtain ⟨rfl, rfl⟩ := hg
     rw [hp, show n + 3 + k = n + k + 3 by omega]
     exact c87 _ w ls ld zs zd H _
   · cases hg
theorem c70 : cd (n + 5) (.fn 70) [bathA w ls zs ld zd, .int .i64 p, .int .i64 q] H = some (.int .i64 (plE w ls ld zs zd p q), H) := by
 obtain ⟨y, hy1, hy2⟩ : ∃ y, (bodyT Try.prog (cd (n+4)) 100000 70 Try.f70 (Kt.kt 70) (il (ctG (ctG noCt 20 (g20 (bathA w ls zs ld zd) (chkB w ls ld zs zd))) 87 (g87 (bathA w ls zs ld zd) (isPl ls))) (n+3) 1) noBT noRT [(bathA w ls zs ld zd, none), (.int .i64 p, none), (.int .i64 q, none)] H).run = some y ∧ (y.1.1, y.2) = (AV.int .i64 (plE w ls ld zs zd p q), H) := by
  rw [u70, Tr.run_reqP rfl]
  unfold plE
  by_cases h1 : chkB w ls ld zs zd = 0
  · rw [if_neg (fun h => h h1), Tr.run_ite, notB_eq, eqI_dec, decide_eq_true (by rw [h1]; rfl), Bool.not_true, cond_false, Tr.run_reqP rfl]
    cases h2 : isPl ls p
    · rw [Tr.run_ite, notB_eq, Bool.not_false, cond_true]
      refine ⟨_, rfl, ?_⟩
      rw [if_neg (by rintro ⟨h, -⟩; cases h)]; rfl
    · rw [Tr.run_ite, notB_eq, Bool.not_true, cond_false, Tr.run_reqP rfl]
      cases h3 : isPl ls q
      · rw [Tr.run_ite, notB_eq, Bool.not_false, cond_true]
        refine ⟨_, rfl, ?_⟩
        rw [if_neg (by rintro ⟨-, h, -⟩; cases h)]; rfl
      · rw [Tr.run_ite, notB_eq, Bool.not_true, cond_false, Tr.run_ite, eqI_dec]
        by_cases h4 : p = q
        · rw [decide_eq_true h4]
          refine ⟨_, rfl, ?_⟩
          rw [if_neg (fun h => h.2.2 h4)]; rfl
        · rw [decide_eq_false h4]
          refine ⟨_, rfl, ?_⟩
          rw [if_pos ⟨rfl, rfl, h4⟩]; rfl
  · rw [if_pos h1, Tr.run_ite, notB_eq, eqI_dec, decide_eq_false (by simpa using h1), Bool.not_false, cond_true, Tr.run_reqP rfl]
    exact ⟨_, rfl, rfl⟩
 have := fn_ok (n := n + 4) Try.func70 rfl rfl (args := [(bathA w ls zs ld zd, none), (.int .i64 p, none), (.int .i64 q, none)]) rfl (il70 n w ls ld zs zd) (noBT_ok _ _) (noRT_ok _ _) hy1
 rw [hy2] at this
 exact this
theorem plE_zero {w : Int} {ls ld : Nat} {zs zd : Nat → Int} {p q : Int} (h : plE w ls ld zs zd p q = 0) : chkB w ls ld zs zd = 0 ∧ isPl ls p = true ∧ isPl ls q = true ∧ p ≠ q := by
 unfold plE at h
 by_cases h1 : chkB w ls ld zs zd = 0
 · rw [if_neg (fun h => h h1)] at h
   by_cases h2 : isPl ls p = true ∧ isPl ls q = true ∧ p ≠ q
   · exact ⟨h1, h2⟩
   · rw [if_neg h2] at h; exact absurd h (by decide)
 · rw [if_pos h1] at h; exact absurd h h1
noncomputable def plT (w : Int) (ls ld : Nat) (zs zd : Nat → Int) (p q : Int) : AV := if plE w ls ld zs zd p q ≠ 0 then .nilp else tabV w ls ld zs zd (szs zd ld) (kdO w ls zs (szs zd ld) (ls + 2))
theorem c68 : cd (n + 14) (.fn 68) [bathA w ls zs ld zd, .int .i64 p, .int .i64 q] H = some (.tup [plT w ls ld zs zd p q, .int .i64 (plE w ls ld zs zd p q)], H) := by
 refine fn_of (n := n + 13) Try.func68 rfl rfl rfl (u68 n w ls ld zs zd (szs zd ld) (kdO w ls zs (szs zd ld) (ls + 2)) H p q (chkB w ls ld zs zd) (ls ≤ 10 ∧ ld ≤ 40 ∧ ∀ j, j < ld → 0 ≤ zd (j * 3) ∧ zd (j * 3) < ls)) (il_ok _ (n + 11) 2 (fun k => ctG_ok (ct19 n w ls ld zs zd k _ (noCt_ok _)) (fun args p v h hp H => ?_))) (noBT_ok _ _) (noRT_ok _ _) (y := ((.tup [plT w ls ld zs zd p q, .int .i64 (plE w ls ld zs zd p q)], none), H)) ?_
 · unfold g77 at h
   split at h
   · simp only [Option.some.injEq, Prod.mk.injEq] at h
     obtain ⟨rfl, rfl⟩ := h
     obtain ⟨rfl, h1, h2, h3⟩ := hp
     rw [show n + 11 + k = n + 3 + k + 8 by omega]
     exact c77 _ w ls ld zs zd H h1 h2 h3
   · cases h
 · rw [Tr.run_reqP rfl]
   by_cases e : chkB w ls ld zs zd = 0
   · have hc := chk_drops e
     have e0 : Int.negSucc 1 = -2 := rfl
     have eE : plE w ls ld zs zd p q = if isPl ls p = true ∧ isPl ls q = true ∧ p ≠ q then 0 else 2 := by unfold plE; rw [if_neg (fun h => h e)]
     rw [Tr.run_ite, notB_eq, eqI_dec, decide_eq_true (by rw [e]; rfl), Bool.not_true, cond_false, Tr.run_reqP ⟨rfl, hc⟩, Tr.run_ite, notB_eq, eqI_dec, decide_eq_true rfl, Bool.not_true, cond_false]
     have no : ¬ (isPl ls p = true ∧ isPl ls q = true ∧ p ≠ q) → (.tup [plT w ls ld zs zd p q, .int .i64 (plE w ls ld zs zd p q)] : AV) = .tup [.nilp, .int .i64 2] := fun h => by
      unfold plT
      rw [eE, if_neg h]; rfl
     by_cases h1 : -2 ≤ p
     · by_cases h2 : p < (ls : Int)
       · by_cases h3 : -2 ≤ q
         · by_cases h4 : q < (ls : Int)
           · by_cases h5 : p = q
             · rw [no (fun h => h.2.2 h5)]
               simp (disch := omega) only [Tr.run_ite, Tr.run_req, Tr.run_ok, nS, eqI_dec, decide_eq_true, decide_eq_false, cond_true, cond_false, Int.ofNat_eq_natCast, wrap_j, ver0, eqI_dec, e0]
               rfl
             · have ey : isPl ls p = true ∧ isPl ls q = true ∧ p ≠ q := ⟨by simp [isPl, h1, h2], by simp [isPl, h3, h4], h5⟩
               unfold plT
               rw [eE, if_pos ey, if_neg (by simp)]
               simp (disch := omega) only [Tr.run_ite, Tr.run_req, Tr.run_ok, nS, eqI_dec, decide_eq_true, decide_eq_false, cond_true, cond_false, Int.ofNat_eq_natCast, wrap_j, ver0, eqI_dec, e0]
               rfl
           · rw [no (fun h => by simp [isPl, h4] at h)]
             simp (disch := omega) only [Tr.run_ite, Tr.run_req, Tr.run_ok, nS, eqI_dec, decide_eq_true, decide_eq_false, cond_true, cond_false, Int.ofNat_eq_natCast, wrap_j, ver0, eqI_dec, e0]
             rfl
         · rw [no (fun h => by simp [isPl, h3] at h)]
           simp (disch := omega) only [Tr.run_ite, Tr.run_req, Tr.run_ok, nS, eqI_dec, decide_eq_true, decide_eq_false, cond_true, cond_false, Int.ofNat_eq_natCast, wrap_j, ver0, eqI_dec, e0]
           rfl
       · rw [no (fun h => by simp [isPl, h2] at h)]
         simp (disch := omega) only [Tr.run_ite, Tr.run_req, Tr.run_ok, nS, eqI_dec, decide_eq_true, decide_eq_false, cond_true, cond_false, Int.ofNat_eq_natCast, wrap_j, ver0, eqI_dec, e0]
         rfl
     · rw [no (fun h => by simp [isPl, h1] at h)]
       simp (disch := omega) only [Tr.run_ite, Tr.run_req, Tr.run_ok, nS, eqI_dec, decide_eq_true, decide_eq_false, cond_true, cond_false, Int.ofNat_eq_natCast, wrap_j, ver0, eqI_dec, e0]
       rfl
   · have eE : plE w ls ld zs zd p q = chkB w ls ld zs zd := by unfold plE; rw [if_pos e]
     unfold plT
     rw [eE, if_pos e]
     simp only [Tr.run_ite, notB_eq, eqI_dec]
     rw [decide_eq_false (show ¬ chkB w ls ld zs zd = Int.ofNat 0 from e), Bool.not_false, cond_true, cond_true]
     rfl
end
theorem ctW {n : Nat} {t : Ctr} (ht : t.Ok (cd (n + 1))) : (ctG t 16 g16).Ok (cd (n + 1)) := by
 refine ctG_ok ht (fun args p v hg hp H => ?_)
 unfold g16 at hg
 split at hg
 · simp only [Option.some.injEq, Prod.mk.injEq] at hg
   obtain ⟨_, rfl⟩ := hg
   exact c16 _ H
 · cases hg
end Go.Eng
end
