/- Drop: to touch is monotone in the sizes. -/
import Derived.Test.YtjmjkhpfipglcaaV8Fc
import Derived.Test.YtjmjkhpfipglcaaV8Hax2
import Derived.Test.YtjmjkhpfipglcaaV8DrTx4
import Derived.Test.YtjmjkhpfipglcaaV8DrAx4
section
namespace Go.Eng
set_option linter.unusedVariables false
set_option linter.unusedSimpArgs false
theorem sq_mono {a b : Int} (h0 : 0 ≤ a) (h : a ≤ b) : a * a ≤ b * b := Int.mul_le_mul h h h0 (by omega)
theorem bothR_mono {a c a' c' x y x' y' : Int} (ha : 0 ≤ a) (hc : 0 ≤ c) (ha' : a ≤ a' ∧ a' ≤ 1000000) (hc' : c ≤ c' ∧ c' ≤ 1000000) (hx : 0 ≤ x ∧ x ≤ 1000) (hy : 0 ≤ y ∧ y ≤ 1000) (hx' : 0 ≤ x' ∧ x' ≤ 1000) (hy' : 0 ≤ y' ∧ y' ≤ 1000) (h : bothR a c x y x' y' = true) : bothR a' c' x y x' y' = true := by
  have s1 := sq_le (k := x - x') (M := 1000) (by omega) (by omega)
  have s2 := sq_le (k := y - y') (M := 1000) (by omega) (by omega)
  have e1 : IntKind.i64.wrap (x - x') = x - x' := wr_in (by omega) (by omega)
  have e2 : IntKind.i64.wrap (y - y') = y - y' := wr_in (by omega) (by omega)
  have pr : ∀ u v : Int, 0 ≤ u → u ≤ 1000000 → 0 ≤ v → v ≤ 1000000 → 0 ≤ 4 * u * v ∧ 4 * u * v ≤ 4000000000000 := fun u v h1 h2 h3 h4 => by
    constructor
    · exact Int.mul_nonneg (by omega) h3
    · exact Int.le_trans (Int.mul_le_mul (show 4 * u ≤ 4000000 by omega) h4 h3 (by omega)) (by omega)
  unfold bothR at h ⊢
  simp only [e1, e2] at h ⊢
  generalize (x - x') * (x - x') = X at s1 h ⊢
  generalize (y - y') * (y - y') = Y at s2 h ⊢
  have q1 := pr a c ha (by omega) hc (by omega)
  have q2 := pr a' c' (by omega) (by omega) (by omega) (by omega)
  have b1 := sq_le (k := X + Y - a - c) (M := 4000000) (by omega) (by omega)
  have b2 := sq_le (k := X + Y - a' - c') (M := 4000000) (by omega) (by omega)
  simp only [Bool.or_eq_true, decide_eq_true_eq] at h ⊢
  rw [wr_in (k := X) (by omega) (by omega), wr_in (k := Y) (by omega) (by omega), wr_in (k := X + Y) (by omega) (by omega)] at h ⊢
  rw [wr_in (k := X + Y - a) (by omega) (by omega), wr_in (k := X + Y - a - c) (by omega) (by omega), wr_in (k := a + c) (by omega) (by omega), wr_in (k := 4 * a) (by omega) (by omega), wr_in (k := 4 * a * c) (by omega) (by omega), wr_in (k := (X + Y - a - c) * (X + Y - a - c)) (by omega) (by omega)] at h
  rw [wr_in (k := X + Y - a') (by omega) (by omega), wr_in (k := X + Y - a' - c') (by omega) (by omega), wr_in (k := a' + c') (by omega) (by omega), wr_in (k := 4 * a') (by omega) (by omega), wr_in (k := 4 * a' * c') (by omega) (by omega), wr_in (k := (X + Y - a' - c') * (X + Y - a' - c')) (by omega) (by omega)]
  by_cases hd : X + Y ≤ a' + c'
  · exact .inl hd
  · rcases h with h | h
    · exact .inl (by omega)
    · right
      have m1 : (X + Y - a' - c') * (X + Y - a' - c') ≤ (X + Y - a - c) * (X + Y - a - c) := sq_mono (by omega) (by omega)
      have m2 : 4 * a * c ≤ 4 * a' * c' := Int.mul_le_mul (by omega) hc'.1 hc (by omega)
      omega
theorem touch_mono {w : Int} {ls : Nat} {zs : Nat → Int} {so so' : Int → Int} {p q : Int} (hB : TouchB ls zs so p q) (hB' : TouchB ls zs so' p q) (hle : ∀ s, so s ≤ so' s) (h : touchT w zs so p q = true) : touchT w zs so' p q = true := by
  obtain ⟨h1, h2, h3, h4⟩ := hB
  obtain ⟨_, _, _, h4'⟩ := hB'
  unfold touchT at h ⊢
  split
  · rename_i hn; rw [if_pos hn] at h; exact h
  · rename_i hn
    rw [if_neg hn] at h
    dsimp only at h ⊢
    generalize hs : (if p < 0 then q else p) = s at h ⊢
    generalize ho : (if p < 0 then p else q) = o at h ⊢
    have ls0 : 0 ≤ s ∧ s < ls := by split at hs <;> omega
    have lo : o < ls := by split at ho <;> omega
    have a0 := h4 s
    have a1 := hle s
    have a2 := h4' s
    have nz : ¬ so' s = 0 := by
      intro e
      rw [if_pos (by omega)] at h; cases h
    by_cases z : so s = 0
    · rw [if_pos z] at h; cases h
    rw [if_neg nz]
    rw [if_neg z] at h
    by_cases e1 : o = -2
    · rw [if_pos e1] at h ⊢
      simp only [decide_eq_true_eq] at h ⊢
      omega
    · rw [if_neg e1] at h ⊢
      by_cases e2 : 0 ≤ o
      · rw [if_pos e2] at h ⊢
        have g1 := h3 s.toNat (by omega)
        have g2 := h3 o.toNat (by omega)
        unfold spotB at g1 g2
        have c0 := h4 o
        have c1 := hle o
        have c2 := h4' o
        rw [both_eq a0 c0 (by omega) (by omega) (by omega) (by omega)] at h
        rw [both_eq a2 c2 (by omega) (by omega) (by omega) (by omega)]
        by_cases zo : so o = 0
        · rw [if_pos zo] at h; cases h
        · rw [if_neg zo] at h
          rw [if_neg (by omega)]
          exact bothR_mono a0.1 c0.1 ⟨a1, a2.2⟩ ⟨c1, c2.2⟩ (by omega) (by omega) (by omega) (by omega) h
      · rw [if_neg e2] at h ⊢
        simp only [decide_eq_true_eq] at h ⊢
        omega
end Go.Eng
end
section
namespace Go.Eng
open Go.Proofs
set_option linter.unusedVariables false
set_option linter.unusedSimpArgs false
set_option maxRecDepth 100000
def g46w (B T : AV) (P Q : Int) (side : Prop) (ev : Bool → AV) (tm : AV → Bool) : List AV → Option (Prop × AV)
  | [b, t, .int .i64 p, .int .i64 q] => some (b = B ∧ p = P ∧ q = Q ∧ side ∧ (t = ev false ∨ t = ev true ∨ t = T), .bool (tm t))
  | _ => none
theorem u44a (n : Nat) (w : Int) (ls ld lt : Nat) (zs zd tr : Nat → Int) (H : Heap) (p q k : Int) (side : Prop) (ev : Bool → AV) (tm : AV → Bool) : bodyT Try.prog (cd (n+4)) 100000 44 Try.f44 (Kt.kt 44) (il (ctG (ctG noCt 61 (g61 (bathA w ls zs ld zd) side ev)) 46 (g46w (bathA w ls zs ld zd) (slA 1 lt tr) p q side ev tm)) (n+3) 1) noBT noRT [(bathA w ls zs ld zd, none), (slA 1 lt tr, none), (.int .i64 p, none), (.int .i64 q, none), (.int .i64 k, none)] H =
  Tr.reqP (bathA w ls zs ld zd = bathA w ls zs ld zd ∧ side) (Tr.reqP (bathA w ls zs ld zd = bathA w ls zs ld zd ∧ p = p ∧ q = q ∧ side ∧ (ev false = ev false ∨ ev false = ev true ∨ ev false = AV.slcT none (Row.M [Seg.arr .i64 tr lt]) 1 lt false)) (Tr.reqP (bathA w ls zs ld zd = bathA w ls zs ld zd ∧ side) (Tr.reqP (bathA w ls zs ld zd = bathA w ls zs ld zd ∧ p = p ∧ q = q ∧ side ∧ (ev true = ev false ∨ ev true = ev true ∨ ev true = AV.slcT none (Row.M [Seg.arr .i64 tr lt]) 1 lt false)) (Tr.reqP (bathA w ls zs ld zd = bathA w ls zs ld zd ∧ p = p ∧ q = q ∧ side ∧ (AV.slcT none (Row.M [Seg.arr .i64 tr lt]) 1 lt false = ev false ∨ AV.slcT none (Row.M [Seg.arr .i64 tr lt]) 1 lt false = ev true ∨ AV.slcT none (Row.M [Seg.arr .i64 tr lt]) 1 lt false = AV.slcT none (Row.M [Seg.arr .i64 tr lt]) 1 lt false)) (Tr.ite (eqI k (Int.ofNat 2)) (Tr.ite (tm (ev false)) (Tr.ite (tm (ev true)) (Tr.ok ((AV.bool (tm (AV.slcT none (Row.M [Seg.arr .i64 tr lt]) 1 lt false)), none), H)) (Tr.ok ((AV.bool false, some 1), H))) (Tr.ok ((AV.bool false, some 1), H))) (Tr.ite (eqI k (Int.ofNat 1)) (Tr.ite (notB (tm (ev false))) (Tr.ok ((AV.bool (tm (ev true)), none), H)) (Tr.ok ((AV.bool false, some 1), H))) (Tr.ite (eqI k (Int.ofNat 0)) (Tr.ite (notB (tm (ev false))) (Tr.ite (notB (tm (ev true))) (Tr.ok ((AV.bool (notB (tm (AV.slcT none (Row.M [Seg.arr .i64 tr lt]) 1 lt false))), none), H)) (Tr.ok ((AV.bool false, some 1), H))) (Tr.ok ((AV.bool false, some 1), H))) (Tr.ok ((AV.bool false, some 1), H))))))))) := by kernel_rfl
theorem u44b (n : Nat) (w : Int) (ls ld : Nat) (zs zd : Nat → Int) (H : Heap) (p q k : Int) (side : Prop) (ev : Bool → AV) (tm : AV → Bool) : bodyT Try.prog (cd (n+4)) 100000 44 Try.f44 (Kt.kt 44) (il (ctG (ctG noCt 61 (g61 (bathA w ls zs ld zd) side ev)) 46 (g46w (bathA w ls zs ld zd) .nils p q side ev tm)) (n+3) 1) noBT noRT [(bathA w ls zs ld zd, none), (.nils, none), (.int .i64 p, none), (.int .i64 q, none), (.int .i64 k, none)] H =
  Tr.reqP (bathA w ls zs ld zd = bathA w ls zs ld zd ∧ side) (Tr.reqP (bathA w ls zs ld zd = bathA w ls zs ld zd ∧ p = p ∧ q = q ∧ side ∧ (ev false = ev false ∨ ev false = ev true ∨ ev false = AV.nils)) (Tr.reqP (bathA w ls zs ld zd = bathA w ls zs ld zd ∧ side) (Tr.reqP (bathA w ls zs ld zd = bathA w ls zs ld zd ∧ p = p ∧ q = q ∧ side ∧ (ev true = ev false ∨ ev true = ev true ∨ ev true = AV.nils)) (Tr.reqP (bathA w ls zs ld zd = bathA w ls zs ld zd ∧ p = p ∧ q = q ∧ side ∧ (AV.nils = ev false ∨ AV.nils = ev true ∨ AV.nils = AV.nils)) (Tr.ite (eqI k (Int.ofNat 2)) (Tr.ite (tm (ev false)) (Tr.ite (tm (ev true)) (Tr.ok ((AV.bool (tm AV.nils), none), H)) (Tr.ok ((AV.bool false, some 1), H))) (Tr.ok ((AV.bool false, some 1), H))) (Tr.ite (eqI k (Int.ofNat 1)) (Tr.ite (notB (tm (ev false))) (Tr.ok ((AV.bool (tm (ev true)), none), H)) (Tr.ok ((AV.bool false, some 1), H))) (Tr.ite (eqI k (Int.ofNat 0)) (Tr.ite (notB (tm (ev false))) (Tr.ite (notB (tm (ev true))) (Tr.ok ((AV.bool (notB (tm AV.nils)), none), H)) (Tr.ok ((AV.bool false, some 1), H))) (Tr.ok ((AV.bool false, some 1), H))) (Tr.ok ((AV.bool false, some 1), H))))))))) := by kernel_rfl
/-- What SizeOf adds up over a truth. -/
def soT (lb : Nat) (zb zd : Nat → Int) (ld : Nat) (s : Int) : Int := sumS zd (upto (truS lb zb zd) ld) s ld
theorem smV_tru (lb : Nat) (zb zd : Nat → Int) (ld : Nat) : smV zd ld (truV lb zb zd ld) = soT lb zb zd ld := by
  funext s; cases ld <;> rfl
theorem sum_mono {zd tr tr' : Nat → Int} {s : Int} {ld : Nat} (h : ∀ j, j < ld → 0 ≤ tr j ∧ tr j ≤ tr' j ∧ tr' j ≤ 10000) (hl : ld ≤ 100) : ∀ j, j ≤ ld → 0 ≤ sumS zd (upto tr ld) s j ∧ sumS zd (upto tr ld) s j ≤ sumS zd (upto tr' ld) s j ∧ sumS zd (upto tr' ld) s j ≤ 10000 * j := by
  intro j
  induction j with
  | zero => intro _; exact ⟨Int.le_refl _, Int.le_refl _, Int.le_refl _⟩
  | succ j ih =>
    intro hj
    obtain ⟨i1, i2, i3⟩ := ih (by omega)
    have b := h j (by omega)
    have u1 : upto tr ld j = tr j := by unfold upto; rw [if_pos (by omega)]
    have u2 : upto tr' ld j = tr' j := by unfold upto; rw [if_pos (by omega)]
    unfold sumS
    by_cases e : zd (j * 3) = s
    · rw [if_pos e, if_pos e, u1, u2, wr_in (by omega) (by omega), wr_in (by omega) (by omega)]; omega
    · rw [if_neg e, if_neg e]; omega
theorem so_mid {ls ld lb : Nat} {zd zb : Nat → Int} (hd : ∀ j, j < ld → badD ls zd j = false) (hl : ld ≤ 100) (hb : ∀ i, 0 ≤ zb i ∧ zb i ≤ 65535) (s : Int) : szE false zd ld s ≤ soT lb zb zd ld s ∧ soT lb zb zd ld s ≤ szE true zd ld s := by
  have b : ∀ j, j < ld → (1 ≤ zd (j * 3 + 1) ∧ zd (j * 3 + 1) ≤ zd (j * 3 + 2) ∧ zd (j * 3 + 2) ≤ 10000) := fun j hj => by
    have := hd j hj
    simp only [badD, Bool.or_eq_false_iff, decide_eq_false_iff_not] at this
    omega
  have h1 := sum_mono (zd := zd) (tr := endS false zd) (tr' := truS lb zb zd) (s := s) (ld := ld) (fun j hj => by
    have b1 := b j hj
    have := tru_in (lb := lb) hb b1
    show 0 ≤ zd (j * 3 + 1) ∧ zd (j * 3 + 1) ≤ _ ∧ _
    omega) hl ld (Nat.le_refl _)
  have h2 := sum_mono (zd := zd) (tr := truS lb zb zd) (tr' := endS true zd) (s := s) (ld := ld) (fun j hj => by
    have b1 := b j hj
    have := tru_in (lb := lb) hb b1
    show _ ∧ _ ≤ zd (j * 3 + 2) ∧ zd (j * 3 + 2) ≤ _
    omega) hl ld (Nat.le_refl _)
  exact ⟨h1.2.1, h2.2.1⟩
/-- What is told of a truth. -/
def tldB (w : Int) (ld : Nat) (zs zd : Nat → Int) (so : Int → Int) (p q k : Int) : Bool :=
  if k = 2 then touchT w zs (szE false zd ld) p q && (touchT w zs (szE true zd ld) p q && touchT w zs so p q)
  else if k = 1 then !touchT w zs (szE false zd ld) p q && touchT w zs (szE true zd ld) p q
  else if k = 0 then !touchT w zs (szE false zd ld) p q && (!touchT w zs (szE true zd ld) p q && !touchT w zs so p q)
  else false
theorem tru_touchB {w : Int} {ls ld lb : Nat} {zs zd zb : Nat → Int} {p q : Int} (h : chkB w ls ld zs zd = 0) (hb : ∀ i, 0 ≤ zb i ∧ zb i ≤ 65535) (hp : isPl ls p = true) (hq : isPl ls q = true) : TouchB ls zs (soT lb zb zd ld) p q := by
  obtain ⟨h1, h2, h3, h4, h5, h6⟩ := chk_ok h
  have k := (knd_ok (p := p) (q := q) h hp hq).2
  obtain ⟨a1, a2, a3, a4⟩ := k false
  obtain ⟨_, _, _, b4⟩ := k true
  refine ⟨a1, a2, a3, fun s => ?_⟩
  have := so_mid (lb := lb) h6 (by omega) hb s
  have := a4 s
  have := b4 s
  omega
/-- What is told of a truth is so. -/
theorem tld_knd {w : Int} {ls ld lb : Nat} {zs zd zb : Nat → Int} {p q : Int} (h : chkB w ls ld zs zd = 0) (hb : ∀ i, 0 ≤ zb i ∧ zb i ≤ 65535) (hp : isPl ls p = true) (hq : isPl ls q = true) : tldB w ld zs zd (soT lb zb zd ld) p q (kndR w ld zs zd p q) = true := by
  obtain ⟨h1, h2, h3, h4, h5, h6⟩ := chk_ok h
  have k := (knd_ok (p := p) (q := q) h hp hq).2
  have kt := tru_touchB (lb := lb) (zb := zb) h hb hp hq
  have m1 := touch_mono (w := w) (k false) kt (fun s => (so_mid h6 (by omega) hb s).1)
  have m2 := touch_mono (w := w) kt (k true) (fun s => (so_mid h6 (by omega) hb s).2)
  unfold tldB kndR
  revert m1 m2
  cases touchT w zs (szE false zd ld) p q <;> cases touchT w zs (szE true zd ld) p q <;> cases touchT w zs (soT lb zb zd ld) p q <;> simp
section
variable (n : Nat) (w : Int) (ls ld lb : Nat) (zs zd zb : Nat → Int) (H : Heap) (p q : Int)
theorem c45t (s : Int) (h2 : ld < 2 ^ 16) : cd (n + 1) (.fn 45) [bathA w ls zs ld zd, truV lb zb zd ld, .int .i64 s] H = some (.int .i64 (soT lb zb zd ld s), H) := by
  cases ld with
  | zero => exact c45e n w ls 0 zs zd H s false h2
  | succ m => exact c45 n w ls (m + 1) (m + 1) zs zd (upto (truS lb zb zd) (m + 1)) H s (Nat.le_refl _) h2
theorem il46t (h2 : ld < 2 ^ 16) : (il (ctG noCt 45 (g45t (bathA w ls zs ld zd) (truV lb zb zd ld) True (soT lb zb zd ld))) (n+1) 1).Ok (cd (n + 2)) := by
  refine il_ok _ (n + 1) 1 (fun k => ctG_ok (noCt_ok _) (fun args p v hg hp H => ?_))
  unfold g45t at hg
  split at hg
  · simp only [Option.some.injEq, Prod.mk.injEq] at hg
    obtain ⟨rfl, rfl⟩ := hg
    obtain ⟨rfl, rfl, _⟩ := hp
    rw [show n + 1 + k = n + k + 1 by omega]
    exact c45t (n + k) w ls ld lb zs zd zb H _ h2
  · cases hg
theorem c46t (h2 : ld < 2 ^ 16) (hB : TouchB ls zs (soT lb zb zd ld) p q) : cd (n + 3) (.fn 46) [bathA w ls zs ld zd, truV lb zb zd ld, .int .i64 p, .int .i64 q] H = some (.bool (touchT w zs (soT lb zb zd ld) p q), H) := by
  rw [← touch_eq w ls zs p q _ hB]
  have hi := il46t n w ls ld lb zs zd zb h2
  cases ld with
  | zero =>
    obtain ⟨y, hy1, hy2⟩ := run46b n w ls 0 zs zd H p q (soT lb zb zd 0) hB
    have := fn_ok (n := n + 2) Try.func46 rfl rfl (args := [(bathA w ls zs 0 zd, none), (.nils, none), (.int .i64 p, none), (.int .i64 q, none)]) rfl hi (noBT_ok _ _) (noRT_ok _ _) hy1
    rw [hy2] at this
    exact this
  | succ m =>
    obtain ⟨y, hy1, hy2⟩ := run46a n w ls (m + 1) zs zd H p q (soT lb zb zd (m + 1)) (m + 1) (upto (truS lb zb zd) (m + 1)) hB
    have := fn_ok (n := n + 2) Try.func46 rfl rfl (args := [(bathA w ls zs (m + 1) zd, none), (slA 1 (m + 1) (upto (truS lb zb zd) (m + 1)), none), (.int .i64 p, none), (.int .i64 q, none)]) rfl hi (noBT_ok _ _) (noRT_ok _ _) hy1
    rw [hy2] at this
    exact this
def KndT (ls ld lb : Nat) (zs zd zb : Nat → Int) (p q : Int) : Prop := KndB ls ld zs zd p q ∧ TouchB ls zs (soT lb zb zd ld) p q
theorem il44 : (il (ctG (ctG noCt 61 (g61 (bathA w ls zs ld zd) (KndT ls ld lb zs zd zb p q) (fun h => endV h zd ld))) 46 (g46w (bathA w ls zs ld zd) (truV lb zb zd ld) p q (KndT ls ld lb zs zd zb p q) (fun h => endV h zd ld) (fun t => touchT w zs (smV zd ld t) p q))) (n+3) 1).Ok (cd (n + 4)) := by
  refine il_ok _ (n + 3) 1 (fun k => ctG_ok (ctG_ok (noCt_ok _) (fun args p v hg hp H => ?_)) (fun args p v hg hp H => ?_))
  · unfold g61 at hg
    split at hg
    · simp only [Option.some.injEq, Prod.mk.injEq] at hg
      obtain ⟨rfl, rfl⟩ := hg
      obtain ⟨rfl, ⟨h2, _⟩, _⟩ := hp
      rw [show n + 3 + k = n + 2 + k + 1 by omega]
      exact c61 _ w ls ld zs zd H _ h2
    · cases hg
  · unfold g46w at hg
    split at hg
    · simp only [Option.some.injEq, Prod.mk.injEq] at hg
      obtain ⟨rfl, rfl⟩ := hg
      obtain ⟨rfl, rfl, rfl, ⟨⟨h2, hB⟩, hT⟩, ht⟩ := hp
      have e : ∀ h, smV zd ld (endV h zd ld) = szE h zd ld := fun h => funext fun s => smV_end ld zd s h
      rw [show n + 3 + k = n + k + 3 by omega]
      rcases ht with rfl | rfl | rfl
      · rw [e]; exact c46 _ w ls ld zs zd H _ _ _ h2 (hB _)
      · rw [e]; exact c46 _ w ls ld zs zd H _ _ _ h2 (hB _)
      · rw [smV_tru]; exact c46t _ w ls ld lb zs zd zb H _ _ h2 hT
    · cases hg
theorem c44 (k : Int) (hK : KndT ls ld lb zs zd zb p q) : cd (n + 5) (.fn 44) [bathA w ls zs ld zd, truV lb zb zd ld, .int .i64 p, .int .i64 q, .int .i64 k] H = some (.bool (tldB w ld zs zd (soT lb zb zd ld) p q k), H) := by
  have e : ∀ h, smV zd ld (endV h zd ld) = szE h zd ld := fun h => funext fun s => smV_end ld zd s h
  have il := il44 n w ls ld lb zs zd zb p q
  have e2 := smV_tru lb zb zd ld
  cases ld with
  | zero =>
    refine fn_all (n := n + 4) Try.func44 rfl rfl rfl (u44b n w ls 0 zs zd H p q k (KndT ls 0 lb zs zd zb p q) (fun h => endV h zd 0) (fun t => touchT w zs (smV zd 0 t) p q)) il (noBT_ok _ _) (noRT_ok _ _) ?_
    have e2 : smV zd 0 .nils = soT lb zb zd 0 := e2
    unfold tldB
    repeat' first | (refine Tr.all_ite (fun hc => ?_) (fun hc => ?_) <;> (try simp (disch := omega) only [nV, mulO_eq, Int.cast_ofNat_Int, eq_self, hK, true_or, or_true, and_true, e, e2] at hc) <;> (try (exfalso; omega))) | (refine Tr.all_req ?_ ?_; · ((try simp (disch := omega) only [nV, mulO_eq, Int.cast_ofNat_Int, eq_self, hK, true_or, or_true, and_true, e, e2]); try omega)) | (refine Tr.all_reqP ?_ ?_; · first | exact trivial | rfl | exact ⟨rfl, rfl⟩ | exact ⟨rfl, rfl, rfl⟩ | (simp (disch := omega) only [nV, mulO_eq, Int.cast_ofNat_Int, eq_self, hK, true_or, or_true, and_true, e, e2]; done) | ((try simp (disch := omega) only [nV, mulO_eq, Int.cast_ofNat_Int, eq_self, hK, true_or, or_true, and_true, e, e2]); omega)) | fail
    all_goals
      refine Tr.all_ok ⟨?_, rfl⟩
      simp only [e, e2, notB_t, notB_f, notB_eq] at *
      simp_all
  | succ m =>
    refine fn_all (n := n + 4) Try.func44 rfl rfl rfl (u44a n w ls (m + 1) (m + 1) zs zd (upto (truS lb zb zd) (m + 1)) H p q k (KndT ls (m + 1) lb zs zd zb p q) (fun h => endV h zd (m + 1)) (fun t => touchT w zs (smV zd (m + 1) t) p q)) il (noBT_ok _ _) (noRT_ok _ _) ?_
    have e2 : smV zd (m + 1) (AV.slcT none (Row.M [Seg.arr .i64 (upto (truS lb zb zd) (m + 1)) (m + 1)]) 1 (m + 1) false) = soT lb zb zd (m + 1) := e2
    unfold tldB
    repeat' first | (refine Tr.all_ite (fun hc => ?_) (fun hc => ?_) <;> (try simp (disch := omega) only [nV, mulO_eq, Int.cast_ofNat_Int, eq_self, hK, true_or, or_true, and_true, e, e2] at hc) <;> (try (exfalso; omega))) | (refine Tr.all_req ?_ ?_; · ((try simp (disch := omega) only [nV, mulO_eq, Int.cast_ofNat_Int, eq_self, hK, true_or, or_true, and_true, e, e2]); try omega)) | (refine Tr.all_reqP ?_ ?_; · first | exact trivial | rfl | exact ⟨rfl, rfl⟩ | exact ⟨rfl, rfl, rfl⟩ | (simp (disch := omega) only [nV, mulO_eq, Int.cast_ofNat_Int, eq_self, hK, true_or, or_true, and_true, e, e2]; done) | ((try simp (disch := omega) only [nV, mulO_eq, Int.cast_ofNat_Int, eq_self, hK, true_or, or_true, and_true, e, e2]); omega)) | fail
    all_goals
      refine Tr.all_ok ⟨?_, rfl⟩
      simp only [e, e2, notB_t, notB_f, notB_eq] at *
      simp_all
end
end Go.Eng
end
section
namespace Go.Eng
open Go.Proofs
set_option linter.unusedVariables false
set_option linter.unusedSimpArgs false
set_option maxRecDepth 100000
def eqD (z : Nat → Int) (s : Int) (j : Nat) : Bool := z (j * 3) == s
noncomputable def slD (m : Nat) (z : Nat → Int) (full : Bool) : AV := .slcT none (.M [.arr .i64 z (mulO m 3)]) 3 m full
noncomputable def onto (s : Int) : AV := .fn (.func 73) [] [.ptrT none (.I .i64 [s]) 0]
noncomputable def frD (m : Nat) (z : Nat → Int) (full : Bool) (s : Int) (j : Int) : Frm := [(0, slD m z full), (1, onto s), (7, AV.int .i64 (Int.ofNat m)), (8, AV.int .i64 j)]
def g98 (ix : (Nat → Int) → Nat → Int → Int) : List AV → Option (Prop × AV)
  | [.slcT none (.M [.arr .i64 z N]) 3 m full, .fn (.func 73) [] [.ptrT none (.I .i64 [s]) 0]] => some (N = mulO m 3 ∧ leN m 1000 = true, .int .i64 (ix z m s))
  | _ => none
theorem u67 (n : Nat) (m : Nat) (z : Nat → Int) (full : Bool) (s : Int) (H : Heap) (ix : (Nat → Int) → Nat → Int → Int) : bodyT Try.prog (cd (n+3)) 100000 67 Try.f67 (Kt.kt 67) (il (ctG noCt 98 (g98 ix)) (n+2) 1) noBT noRT [(slD m z full, none), (onto s, none)] H =
  Tr.reqP (mulO m 3 = mulO m 3 ∧ leN m 1000 = true) (Tr.ok ((AV.bool (leI (Int.ofNat 0) (ix z m s)), none), H)) := by kernel_rfl
theorem tD (n : Nat) (m : Nat) (z : Nat → Int) (full : Bool) (s : Int) (H : Heap) (j : Int) : execT (cxD (n+1) 98 19) (il noCt n 1) noBT noRT (part Try.f98 [1,0,1,0,0]) (hints (frD m z full s j)) (lv0 :: H) =
  Tr.ite (ltI j (Int.ofNat m)) (Tr.req (inI j m) (Tr.req (ltN (idO 0 j 3) (mulO m 3)) (Tr.req (ltN (addO (idO 0 j 3) 1) (mulO m 3)) (Tr.req (ltN (addO (idO 0 j 3) 2) (mulO m 3)) (Tr.ite (eqI (z (idO 0 j 3)) s) (Tr.ok (Ex.ret, [(4, AV.int .i64 j, none)], { lock := false, bs := [] } :: H)) (Tr.ok (Ex.normal, [(0, AV.slcT none (Row.M [Seg.arr .i64 z (mulO m 3)]) 3 m full, none), (1, AV.fn (Fn.func 73) [] [AV.ptrT none (Row.I .i64 [s]) 0], none), (7, AV.int .i64 (Int.ofNat m), none), (8, AV.int .i64 (addI .i64 j (Int.ofNat 1)), none)], { lock := false, bs := [] } :: H))))))) (Tr.ok (Ex.exit 0, [(0, AV.slcT none (Row.M [Seg.arr .i64 z (mulO m 3)]) 3 m full, none), (1, AV.fn (Fn.func 73) [] [AV.ptrT none (Row.I .i64 [s]) 0], none), (7, AV.int .i64 (Int.ofNat m), none), (8, AV.int .i64 j, none), (9, AV.bool false, some 1)], { lock := false, bs := [] } :: H)) := by kernel_rfl
theorem uD (n : Nat) (m : Nat) (z : Nat → Int) (full : Bool) (s : Int) (H : Heap) (q : Bool) (i : Int) : bodyT Try.prog (cd (n+1)) 100000 98 Try.f98 (Kt.kt 98) (il noCt n 1) (blkE noBT 0 (frD m z full s (Int.ofNat 0)) (lv0 :: H) (Tr.ite q (Tr.ok (.ret, hints [(4, AV.int .i64 i)], lv0 :: H)) (Tr.ok (.normal, hints (frD m z full s (Int.ofNat m) ++ [(9, AV.bool false)]), lv0 :: H)))) noRT [(slD m z full, none), (onto s, none)] H =
  Tr.reqP ([(0, AV.slcT none (Row.M [Seg.arr .i64 z (mulO m 3)]) 3 m full), (1, AV.fn (Fn.func 73) [] [AV.ptrT none (Row.I .i64 [s]) 0]), (7, AV.int .i64 (Int.ofNat m)), (8, AV.int .i64 (Int.ofNat 0))] = [(0, AV.slcT none (Row.M [Seg.arr .i64 z (mulO m 3)]) 3 m full), (1, AV.fn (Fn.func 73) [] [AV.ptrT none (Row.I .i64 [s]) 0]), (7, AV.int .i64 (Int.ofNat m)), (8, AV.int .i64 (Int.ofNat 0))] ∧ { lock := false, bs := [] } :: H = { lock := false, bs := [] } :: H) (Tr.ite q (Tr.ok ((AV.int .i64 i, none), H)) (Tr.ok ((AV.int .i64 (Int.negSucc 0), some 1), H))) := by kernel_rfl
section
variable (n : Nat) (H : Heap)
theorem lD (m : Nat) (z : Nat → Int) (full : Bool) (s : Int) (h1 : m ≤ 1000) (x : Res) (hx : (Tr.ite (exN (eqD z s) m) (Tr.ok (.ret, hints [(4, AV.int .i64 (Int.ofNat (fN (eqD z s) m 0)))], lv0 :: H)) (Tr.ok (.normal, hints (frD m z full s (Int.ofNat m) ++ [(9, AV.bool false)]), lv0 :: H))).run = some x) :
    exec (cxD (n + 1) 98 19) (.block 0 (.loop (part Try.f98 [1,0,1,0,0]))) (frD m z full s (Int.ofNat 0)) (lv0 :: H) = some x.st := by
  refine findB (il_no n 1) (noBT_ok _ _) (noRT_ok _ _) 0 (fun j => frD m z full s (Int.ofNat j)) (fun _ => lv0 :: H) m (eqD z s)
    (fun j => if j < m then (.ret, hints [(4, AV.int .i64 (Int.ofNat j))], lv0 :: H) else (.exit 0, hints (frD m z full s (Int.ofNat m)) ++ [(9, AV.bool false, some 1)], lv0 :: H)) (by omega) (fun j hj hp => ?_) (fun j hj hp => ?_) ⟨?_, ?_⟩ x ?_
  · refine ⟨hints (frD m z full s (Int.ofNat (j + 1))), lv0 :: H, ?_, hints_eq _, rfl⟩
    rw [tD]
    simp (disch := omega) only [Tr.run_ite, Tr.run_req, Tr.run_ok, nS, eqI_eq, decide_eq_true, decide_eq_false, cond_true, cond_false, Int.ofNat_eq_natCast, wrap_j, ver0]
    simp only [eqD] at hp
    rw [hp]
    rfl
  · rw [if_pos hj]
    refine ⟨?_, rfl⟩
    rw [tD]
    simp (disch := omega) only [Tr.run_ite, Tr.run_req, Tr.run_ok, nS, eqI_eq, decide_eq_true, decide_eq_false, cond_true, cond_false, Int.ofNat_eq_natCast, wrap_j, ver0]
    simp only [eqD] at hp
    rw [hp]
    rfl
  · rw [if_neg (by omega), tD]
    simp (disch := omega) only [Tr.run_ite, Tr.run_req, Tr.run_ok, nS, eqI_eq, decide_eq_true, decide_eq_false, cond_true, cond_false, Int.ofNat_eq_natCast, wrap_j, ver0]
    rfl
  · rw [if_neg (by omega)]
  · rcases Tr.ite_some hx with ⟨hc, hx⟩ | ⟨hc, hx⟩
    · have := exN_true hc
      exact .inl ⟨this, by rw [if_pos this, ← Tr.ok_some hx]⟩
    · exact .inr ⟨exN_false hc, by rw [if_neg (by omega), ← Tr.ok_some hx]; rfl⟩
theorem cD (m : Nat) (z : Nat → Int) (full : Bool) (s : Int) (h1 : m ≤ 1000) : cd (n + 2) (.fn 98) [slD m z full, onto s] H = some (.int .i64 (idxN (eqD z s) m), H) := by
  refine fn_of (n := n + 1) Try.func98 rfl rfl rfl (uD n m z full s H (exN (eqD z s) m) (Int.ofNat (fN (eqD z s) m 0))) (il_no n 1) (blkE_ok (noBT_ok _ _) b98 (fun x hx => lD n H m z full s h1 x hx)) (noRT_ok _ _) (y := ((.int .i64 (idxN (eqD z s) m), if exN (eqD z s) m then none else some 1), H)) ((Tr.run_reqP ⟨rfl, rfl⟩).trans ?_)
  unfold idxN
  cases exN (eqD z s) m <;> rfl
theorem c67 (m : Nat) (z : Nat → Int) (full : Bool) (s : Int) (h1 : m ≤ 1000) : cd (n + 4) (.fn 67) [slD m z full, onto s] H = some (.bool (exN (eqD z s) m), H) := by
  rw [← leI_idx]
  refine fn_of (n := n + 3) Try.func67 rfl rfl rfl (u67 n m z full s H (fun z m s => idxN (eqD z s) m)) (il_ok _ (n + 2) 1 (fun k => ctG_ok (noCt_ok _) (fun args p v hg hp H => ?_))) (noBT_ok _ _) (noRT_ok _ _) (y := ((.bool (leI (Int.ofNat 0) (idxN (eqD z s) m)), none), H)) ((Tr.run_reqP ⟨rfl, by rw [leN_eq, decide_eq_true h1]⟩).trans rfl)
  unfold g98 at hg
  split at hg
  · simp only [Option.some.injEq, Prod.mk.injEq] at hg
    obtain ⟨rfl, rfl⟩ := hg
    obtain ⟨rfl, hp⟩ := hp
    rw [leN_eq, decide_eq_true_eq] at hp
    rw [show n + 2 + k = n + k + 2 by omega]
    exact cD _ H _ _ _ _ hp
  · cases hg
end
end Go.Eng
end
section
namespace Go.Eng
open Go.Proofs
set_option linter.unusedVariables false
set_option linter.unusedSimpArgs false
set_option maxRecDepth 100000
def g67 (any : (Nat → Int) → Nat → Int → Bool) : List AV → Option (Prop × AV)
  | [.slcT none (.M [.arr .i64 z N]) 3 m full, .fn (.func 73) [] [.ptrT none (.I .i64 [s]) 0]] => some (N = mulO m 3 ∧ leN m 1000 = true, .bool (any z m s))
  | _ => none
theorem u23 (n : Nat) (w : Int) (ls ld : Nat) (zs zd sz kd : Nat → Int) (H : Heap) (p q e : Int) (side : Prop) (any : (Nat → Int) → Nat → Int → Bool) : bodyT Try.prog (cd (n+15)) 100000 23 Try.f23 (Kt.kt 23) (il (ctG (ctG (ctG noCt 19 (g20 (bathA w ls zs ld zd) e)) 77 (g77 (bathA w ls zs ld zd) side (tabV w ls ld zs zd sz kd))) 67 (g67 any)) (n+11) 4) noBT noRT [(bathA w ls zs ld zd, none), (.int .i64 p, none), (.int .i64 q, none)] H =
  Tr.reqP (bathA w ls zs ld zd = bathA w ls zs ld zd) (Tr.ite (notB (eqI e (Int.ofNat 0))) (Tr.ite (notB (eqI e (Int.ofNat 0))) (Tr.ok ((AV.tup [AV.int .i64 (Int.ofNat 0), AV.int .i64 e], none), H)) (Tr.req (inI (Int.ofNat 0) 2) (Tr.ite (ltI p (Int.ofNat 0)) (Tr.ok ((AV.tup [AV.int .i64 (Int.ofNat 0), AV.int .i64 (Int.ofNat 2)], none), H)) (Tr.ite (ltI (subI .i64 (Int.ofNat ld) (Int.ofNat 1)) p) (Tr.ok ((AV.tup [AV.int .i64 (Int.ofNat 0), AV.int .i64 (Int.ofNat 2)], none), H)) (Tr.req (inI (Int.ofNat 1) 2) (Tr.ite (ltI q (Int.ofNat 0)) (Tr.ok ((AV.tup [AV.int .i64 (Int.ofNat 0), AV.int .i64 (Int.ofNat 2)], none), H)) (Tr.ite (ltI (subI .i64 (Int.ofNat ld) (Int.ofNat 1)) q) (Tr.ok ((AV.tup [AV.int .i64 (Int.ofNat 0), AV.int .i64 (Int.ofNat 2)], none), H)) (Tr.ite (eqI p q) (Tr.ok ((AV.tup [AV.int .i64 (Int.ofNat 0), AV.int .i64 (Int.ofNat 2)], none), H)) (Tr.req (inI (minO p q) ld) (Tr.req (ltN (idO 0 (minO p q) 3) (mulO ld 3)) (Tr.req (inI (maxO p q) ld) (Tr.req (ltN (idO 0 (maxO p q) 3) (mulO ld 3)) (Tr.ite (eqI (zd (idO 0 (minO p q) 3)) (zd (idO 0 (maxO p q) 3))) (Tr.req (bndI (maxO p q) ld) (Tr.req (bndI (addI .i64 (minO p q) (Int.ofNat 1)) (toN (maxO p q))) (Tr.req (leN (addO (mulO (toN (addI .i64 (minO p q) (Int.ofNat 1))) 3) (mulO (subO (toN (maxO p q)) (toN (addI .i64 (minO p q) (Int.ofNat 1)))) 3)) (mulO ld 3)) (Tr.reqP (mulO (subO (toN (maxO p q)) (toN (addI .i64 (minO p q) (Int.ofNat 1)))) 3 = mulO (subO (toN (maxO p q)) (toN (addI .i64 (minO p q) (Int.ofNat 1)))) 3 ∧ leN (subO (toN (maxO p q)) (toN (addI .i64 (minO p q) (Int.ofNat 1)))) 1000 = true) (Tr.ite (notB (any (shO zd (mulO (toN (addI .i64 (minO p q) (Int.ofNat 1))) 3)) (subO (toN (maxO p q)) (toN (addI .i64 (minO p q) (Int.ofNat 1)))) (zd (idO 0 (minO p q) 3)))) (Tr.ok ((AV.tup [AV.int .i64 (Int.ofNat 2), AV.int .i64 (Int.ofNat 0)], none), H)) (Tr.ite (eqI (zd (idO 0 (minO p q) 3)) (zd (idO 0 (maxO p q) 3))) (Tr.ok ((AV.tup [AV.int .i64 (Int.ofNat 0), AV.int .i64 (Int.ofNat 0)], none), H)) (Tr.req (bndI (minO p q) ld) (Tr.req (leN (addO (mulO 0 3) (mulO (toN (minO p q)) 3)) (mulO ld 3)) (Tr.reqP (mulO (toN (minO p q)) 3 = mulO (toN (minO p q)) 3 ∧ leN (toN (minO p q)) 1000 = true) (Tr.ite (any zd (toN (minO p q)) (zd (idO 0 (minO p q) 3))) (Tr.ok ((AV.tup [AV.int .i64 (Int.ofNat 0), AV.int .i64 (Int.ofNat 0)], none), H)) (Tr.req (bndI (maxO p q) ld) (Tr.req (leN (addO (mulO 0 3) (mulO (toN (maxO p q)) 3)) (mulO ld 3)) (Tr.reqP (mulO (toN (maxO p q)) 3 = mulO (toN (maxO p q)) 3 ∧ leN (toN (maxO p q)) 1000 = true) (Tr.ite (any zd (toN (maxO p q)) (zd (idO 0 (maxO p q) 3))) (Tr.ok ((AV.tup [AV.int .i64 (Int.ofNat 0), AV.int .i64 (Int.ofNat 0)], none), H)) Tr.bad)))))))))))))) (Tr.ite (eqI (zd (idO 0 (minO p q) 3)) (zd (idO 0 (maxO p q) 3))) (Tr.ok ((AV.tup [AV.int .i64 (Int.ofNat 0), AV.int .i64 (Int.ofNat 0)], none), H)) (Tr.req (bndI (minO p q) ld) (Tr.req (leN (addO (mulO 0 3) (mulO (toN (minO p q)) 3)) (mulO ld 3)) (Tr.reqP (mulO (toN (minO p q)) 3 = mulO (toN (minO p q)) 3 ∧ leN (toN (minO p q)) 1000 = true) (Tr.ite (any zd (toN (minO p q)) (zd (idO 0 (minO p q) 3))) (Tr.ok ((AV.tup [AV.int .i64 (Int.ofNat 0), AV.int .i64 (Int.ofNat 0)], none), H)) (Tr.req (bndI (maxO p q) ld) (Tr.req (leN (addO (mulO 0 3) (mulO (toN (maxO p q)) 3)) (mulO ld 3)) (Tr.reqP (mulO (toN (maxO p q)) 3 = mulO (toN (maxO p q)) 3 ∧ leN (toN (maxO p q)) 1000 = true) (Tr.ite (any zd (toN (maxO p q)) (zd (idO 0 (maxO p q) 3))) (Tr.ok ((AV.tup [AV.int .i64 (Int.ofNat 0), AV.int .i64 (Int.ofNat 0)], none), H)) Tr.bad)))))))))))))))))))))) (Tr.reqP (bathA w ls zs ld zd = bathA w ls zs ld zd ∧ side) (Tr.ite (notB (eqI (Int.ofNat 0) (Int.ofNat 0))) (Tr.ok ((AV.tup [AV.int .i64 (Int.ofNat 0), AV.int .i64 (Int.ofNat 0)], none), H)) (Tr.req (inI (Int.ofNat 0) 2) (Tr.ite (ltI p (Int.ofNat 0)) (Tr.ok ((AV.tup [AV.int .i64 (Int.ofNat 0), AV.int .i64 (Int.ofNat 2)], none), H)) (Tr.ite (ltI (subI .i64 (Int.ofNat ld) (Int.ofNat 1)) p) (Tr.ok ((AV.tup [AV.int .i64 (Int.ofNat 0), AV.int .i64 (Int.ofNat 2)], none), H)) (Tr.req (inI (Int.ofNat 1) 2) (Tr.ite (ltI q (Int.ofNat 0)) (Tr.ok ((AV.tup [AV.int .i64 (Int.ofNat 0), AV.int .i64 (Int.ofNat 2)], none), H)) (Tr.ite (ltI (subI .i64 (Int.ofNat ld) (Int.ofNat 1)) q) (Tr.ok ((AV.tup [AV.int .i64 (Int.ofNat 0), AV.int .i64 (Int.ofNat 2)], none), H)) (Tr.ite (eqI p q) (Tr.ok ((AV.tup [AV.int .i64 (Int.ofNat 0), AV.int .i64 (Int.ofNat 2)], none), H)) (Tr.req (inI (minO p q) ld) (Tr.req (ltN (idO 0 (minO p q) 3) (mulO ld 3)) (Tr.req (inI (maxO p q) ld) (Tr.req (ltN (idO 0 (maxO p q) 3) (mulO ld 3)) (Tr.ite (eqI (zd (idO 0 (minO p q) 3)) (zd (idO 0 (maxO p q) 3))) (Tr.req (bndI (maxO p q) ld) (Tr.req (bndI (addI .i64 (minO p q) (Int.ofNat 1)) (toN (maxO p q))) (Tr.req (leN (addO (mulO (toN (addI .i64 (minO p q) (Int.ofNat 1))) 3) (mulO (subO (toN (maxO p q)) (toN (addI .i64 (minO p q) (Int.ofNat 1)))) 3)) (mulO ld 3)) (Tr.reqP (mulO (subO (toN (maxO p q)) (toN (addI .i64 (minO p q) (Int.ofNat 1)))) 3 = mulO (subO (toN (maxO p q)) (toN (addI .i64 (minO p q) (Int.ofNat 1)))) 3 ∧ leN (subO (toN (maxO p q)) (toN (addI .i64 (minO p q) (Int.ofNat 1)))) 1000 = true) (Tr.ite (notB (any (shO zd (mulO (toN (addI .i64 (minO p q) (Int.ofNat 1))) 3)) (subO (toN (maxO p q)) (toN (addI .i64 (minO p q) (Int.ofNat 1)))) (zd (idO 0 (minO p q) 3)))) (Tr.ok ((AV.tup [AV.int .i64 (Int.ofNat 2), AV.int .i64 (Int.ofNat 0)], none), H)) (Tr.ite (eqI (zd (idO 0 (minO p q) 3)) (zd (idO 0 (maxO p q) 3))) (Tr.ok ((AV.tup [AV.int .i64 (Int.ofNat 0), AV.int .i64 (Int.ofNat 0)], none), H)) (Tr.req (bndI (minO p q) ld) (Tr.req (leN (addO (mulO 0 3) (mulO (toN (minO p q)) 3)) (mulO ld 3)) (Tr.reqP (mulO (toN (minO p q)) 3 = mulO (toN (minO p q)) 3 ∧ leN (toN (minO p q)) 1000 = true) (Tr.ite (any zd (toN (minO p q)) (zd (idO 0 (minO p q) 3))) (Tr.ok ((AV.tup [AV.int .i64 (Int.ofNat 0), AV.int .i64 (Int.ofNat 0)], none), H)) (Tr.req (bndI (maxO p q) ld) (Tr.req (leN (addO (mulO 0 3) (mulO (toN (maxO p q)) 3)) (mulO ld 3)) (Tr.reqP (mulO (toN (maxO p q)) 3 = mulO (toN (maxO p q)) 3 ∧ leN (toN (maxO p q)) 1000 = true) (Tr.ite (any zd (toN (maxO p q)) (zd (idO 0 (maxO p q) 3))) (Tr.ok ((AV.tup [AV.int .i64 (Int.ofNat 0), AV.int .i64 (Int.ofNat 0)], none), H)) (Tr.req (inI (addI .i64 (zd (idO 0 (minO p q) 3)) (Int.ofNat 2)) 12) (Tr.req (inI (addI .i64 (zd (idO 0 (maxO p q) 3)) (Int.ofNat 2)) 12) (Tr.req (inO (idO (idO 4 (addI .i64 (zd (idO 0 (minO p q) 3)) (Int.ofNat 2)) 12) (addI .i64 (zd (idO 0 (maxO p q) 3)) (Int.ofNat 2)) 1) 1 4 144) (Tr.ok ((AV.tup [AV.int .i64 (kd (subO (idO (idO 4 (addI .i64 (zd (idO 0 (minO p q) 3)) (Int.ofNat 2)) 12) (addI .i64 (zd (idO 0 (maxO p q) 3)) (Int.ofNat 2)) 1) 4)), AV.int .i64 (Int.ofNat 0)], none), H))))))))))))))))))) (Tr.ite (eqI (zd (idO 0 (minO p q) 3)) (zd (idO 0 (maxO p q) 3))) (Tr.ok ((AV.tup [AV.int .i64 (Int.ofNat 0), AV.int .i64 (Int.ofNat 0)], none), H)) (Tr.req (bndI (minO p q) ld) (Tr.req (leN (addO (mulO 0 3) (mulO (toN (minO p q)) 3)) (mulO ld 3)) (Tr.reqP (mulO (toN (minO p q)) 3 = mulO (toN (minO p q)) 3 ∧ leN (toN (minO p q)) 1000 = true) (Tr.ite (any zd (toN (minO p q)) (zd (idO 0 (minO p q) 3))) (Tr.ok ((AV.tup [AV.int .i64 (Int.ofNat 0), AV.int .i64 (Int.ofNat 0)], none), H)) (Tr.req (bndI (maxO p q) ld) (Tr.req (leN (addO (mulO 0 3) (mulO (toN (maxO p q)) 3)) (mulO ld 3)) (Tr.reqP (mulO (toN (maxO p q)) 3 = mulO (toN (maxO p q)) 3 ∧ leN (toN (maxO p q)) 1000 = true) (Tr.ite (any zd (toN (maxO p q)) (zd (idO 0 (maxO p q) 3))) (Tr.ok ((AV.tup [AV.int .i64 (Int.ofNat 0), AV.int .i64 (Int.ofNat 0)], none), H)) (Tr.req (inI (addI .i64 (zd (idO 0 (minO p q) 3)) (Int.ofNat 2)) 12) (Tr.req (inI (addI .i64 (zd (idO 0 (maxO p q) 3)) (Int.ofNat 2)) 12) (Tr.req (inO (idO (idO 4 (addI .i64 (zd (idO 0 (minO p q) 3)) (Int.ofNat 2)) 12) (addI .i64 (zd (idO 0 (maxO p q) 3)) (Int.ofNat 2)) 1) 1 4 144) (Tr.ok ((AV.tup [AV.int .i64 (kd (subO (idO (idO 4 (addI .i64 (zd (idO 0 (minO p q) 3)) (Int.ofNat 2)) 12) (addI .i64 (zd (idO 0 (maxO p q) 3)) (Int.ofNat 2)) 1) 4)), AV.int .i64 (Int.ofNat 0)], none), H))))))))))))))))))))))))))))) := by kernel_rfl
/-- The error of two drops. -/
def bsE (w : Int) (ls ld : Nat) (zs zd : Nat → Int) (p q : Int) : Int :=
  if chkB w ls ld zs zd ≠ 0 then chkB w ls ld zs zd else if 0 ≤ p ∧ p < ld ∧ 0 ≤ q ∧ q < ld ∧ p ≠ q then 0 else 2
/-- The kind of two drops, the first one named first. -/
noncomputable def bsO (w : Int) (ld : Nat) (zs zd : Nat → Int) (a b : Nat) : Int :=
  if zd (a * 3) = zd (b * 3) then (if exN (eqD (shO zd ((a + 1) * 3)) (zd (a * 3))) (b - (a + 1)) = true then 0 else 2)
  else if exN (eqD zd (zd (a * 3))) a = true ∨ exN (eqD zd (zd (b * 3))) b = true then 0
  else kndR w ld zs zd (zd (a * 3)) (zd (b * 3))
noncomputable def bsK (w : Int) (ls ld : Nat) (zs zd : Nat → Int) (p q : Int) : Int := if bsE w ls ld zs zd p q ≠ 0 then 0 else bsO w ld zs zd (min p q).toNat (max p q).toNat
section
variable (n : Nat) (w : Int) (ls ld : Nat) (zs zd : Nat → Int) (H : Heap) (p q : Int)
theorem il23 : (il (ctG (ctG (ctG noCt 19 (g20 (bathA w ls zs ld zd) (chkB w ls ld zs zd))) 77 (g77 (bathA w ls zs ld zd) (ls ≤ 10 ∧ ld ≤ 40 ∧ ∀ j, j < ld → 0 ≤ zd (j * 3) ∧ zd (j * 3) < ls) (tabV w ls ld zs zd (szs zd ld) (kdO w ls zs (szs zd ld) (ls + 2))))) 67 (g67 fun z m s => exN (eqD z s) m)) (n+11) 4).Ok (cd (n + 15)) := by
  refine il_ok _ (n + 11) 4 (fun k => ctG_ok (ctG_ok (ct19 n w ls ld zs zd k _ (noCt_ok _)) (fun args p v h hp H => ?_)) (fun args p v h hp H => ?_))
  · unfold g77 at h
    split at h
    · simp only [Option.some.injEq, Prod.mk.injEq] at h
      obtain ⟨rfl, rfl⟩ := h
      obtain ⟨rfl, h1, h2, h3⟩ := hp
      rw [show n + 11 + k = n + 3 + k + 8 by omega]
      exact c77 _ w ls ld zs zd H h1 h2 h3
    · cases h
  · unfold g67 at h
    split at h
    · simp only [Option.some.injEq, Prod.mk.injEq] at h
      obtain ⟨rfl, rfl⟩ := h
      obtain ⟨rfl, hp⟩ := hp
      rw [leN_eq, decide_eq_true_eq] at hp
      rw [show n + 11 + k = n + 7 + k + 4 by omega]
      exact c67 _ H _ _ _ _ hp
    · cases h
theorem c23 : cd (n + 16) (.fn 23) [bathA w ls zs ld zd, .int .i64 p, .int .i64 q] H = some (.tup [.int .i64 (bsK w ls ld zs zd p q), .int .i64 (bsE w ls ld zs zd p q)], H) := by
  refine fn_all (n := n + 15) Try.func23 rfl rfl rfl (u23 n w ls ld zs zd (szs zd ld) (kdO w ls zs (szs zd ld) (ls + 2)) H p q (chkB w ls ld zs zd) (ls ≤ 10 ∧ ld ≤ 40 ∧ ∀ j, j < ld → 0 ≤ zd (j * 3) ∧ zd (j * 3) < ls) fun z m s => exN (eqD z s) m) (il23 n w ls ld zs zd) (noBT_ok _ _) (noRT_ok _ _) ?_
  by_cases e : chkB w ls ld zs zd = 0
  · have hc := chk_drops e
    have ee : bsE w ls ld zs zd p q = if 0 ≤ p ∧ p < ld ∧ 0 ≤ q ∧ q < ld ∧ p ≠ q then 0 else 2 := by unfold bsE; rw [if_neg (fun h => h e)]
    by_cases hr : 0 ≤ p ∧ p < ld ∧ 0 ≤ q ∧ q < ld ∧ p ≠ q
    · have e2 : bsE w ls ld zs zd p q = 0 := by rw [ee, if_pos hr]
      have d1 := hc.2.2 (min p q).toNat (by omega)
      have d2 := hc.2.2 (max p q).toNat (by omega)
      have ek : bsK w ls ld zs zd p q = bsO w ld zs zd (min p q).toNat (max p q).toNat := by unfold bsK; rw [e2]; rfl
      rw [e2, ek]
      unfold bsO
      repeat' first | (refine Tr.all_ite (fun hc => ?_) (fun hc => ?_) <;> (try simp (disch := omega) only [nV, mulO_eq, Int.cast_ofNat_Int, eq_self] at hc) <;> (try (exfalso; omega))) | (refine Tr.all_req ?_ ?_; · ((try simp (disch := omega) only [nV, mulO_eq, Int.cast_ofNat_Int, eq_self]); try omega)) | (refine Tr.all_reqP ?_ ?_; · first | exact trivial | rfl | exact ⟨rfl, rfl⟩ | exact ⟨rfl, rfl, rfl⟩ | (simp (disch := omega) only [nV, mulO_eq, Int.cast_ofNat_Int, eq_self]; done) | ((try simp (disch := omega) only [nV, mulO_eq, Int.cast_ofNat_Int, eq_self]); omega)) | fail
      all_goals (refine Tr.all_ok ⟨?_, rfl⟩)
      all_goals try ((repeat' split) <;> first | rfl | (exfalso; omega) | (exfalso; simp_all; done))
      rename_i n1 n3
      rw [if_neg n1, if_neg (by rw [n3, hc]; simp), ← kd_knd e (p := zd ((min p q).toNat * 3)) (q := zd ((max p q).toNat * 3)) (by simp [isPl]; omega) (by simp [isPl]; omega) n1]
      unfold kix
      have ei : 4 + (zd ((min p q).toNat * 3) + 2).toNat * 12 + (zd ((max p q).toNat * 3) + 2).toNat * 1 - 4 = (zd ((min p q).toNat * 3) + 2).toNat * 12 + (zd ((max p q).toNat * 3) + 2).toNat := by omega
      simp (disch := omega) only [nV, mulO_eq, Int.cast_ofNat_Int, eq_self]
      rw [ei]
    · have e2 : bsE w ls ld zs zd p q = 2 := by rw [ee, if_neg hr]
      have ek : bsK w ls ld zs zd p q = 0 := by unfold bsK; rw [e2]; rfl
      rw [e2, ek]
      repeat' first | (refine Tr.all_ite (fun hc => ?_) (fun hc => ?_) <;> (try simp (disch := omega) only [nV, mulO_eq, Int.cast_ofNat_Int, eq_self] at hc) <;> (try (exfalso; omega))) | (refine Tr.all_req ?_ ?_; · ((try simp (disch := omega) only [nV, mulO_eq, Int.cast_ofNat_Int, eq_self]); try omega)) | (refine Tr.all_reqP ?_ ?_; · first | exact trivial | rfl | exact ⟨rfl, rfl⟩ | exact ⟨rfl, rfl, rfl⟩ | (simp (disch := omega) only [nV, mulO_eq, Int.cast_ofNat_Int, eq_self]; done) | ((try simp (disch := omega) only [nV, mulO_eq, Int.cast_ofNat_Int, eq_self]); omega)) | fail
      all_goals exact Tr.all_ok ⟨rfl, rfl⟩
  · have e2 : bsE w ls ld zs zd p q = chkB w ls ld zs zd := by unfold bsE; rw [if_pos e]
    have ek : bsK w ls ld zs zd p q = 0 := by unfold bsK; rw [e2, if_pos e]
    rw [e2, ek]
    repeat' first | (refine Tr.all_ite (fun hc => ?_) (fun hc => ?_) <;> (try simp (disch := omega) only [nV, mulO_eq, Int.cast_ofNat_Int, eq_self] at hc) <;> (try (exfalso; omega))) | (refine Tr.all_req ?_ ?_; · ((try simp (disch := omega) only [nV, mulO_eq, Int.cast_ofNat_Int, eq_self]); try omega)) | (refine Tr.all_reqP ?_ ?_; · first | exact trivial | rfl | exact ⟨rfl, rfl⟩ | exact ⟨rfl, rfl, rfl⟩ | (simp (disch := omega) only [nV, mulO_eq, Int.cast_ofNat_Int, eq_self]; done) | ((try simp (disch := omega) only [nV, mulO_eq, Int.cast_ofNat_Int, eq_self]); omega)) | fail
    all_goals exact Tr.all_ok ⟨rfl, rfl⟩
end
end Go.Eng
end
