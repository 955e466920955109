/- Drop: DropTurned: what is mirrored, and what is scaled, has the same kinds. -/
import Derived.Test.YtjmjkhpfipglcaaV12Fbx3
section
namespace Go.Eng
open Go.Proofs
set_option linter.unusedVariables false
set_option linter.unusedSimpArgs false
theorem fN_congr {f g : Nat → Bool} : ∀ {k j : Nat}, (∀ i, j ≤ i → i < j + k → f i = g i) → fN f k j = fN g k j
  | 0, j, h => rfl
  | k + 1, j, h => by
    unfold fN
    rw [h j (Nat.le_refl _) (by omega), fN_congr (k := k) (j := j + 1) (fun i h1 h2 => h i (by omega) (by omega))]
theorem chk_iff {w : Int} {ls ld : Nat} {zs zd : Nat → Int} : chkB w ls ld zs zd = 0 ↔ (¬ w < 2 ∧ ¬ 1000 < w ∧ ¬ 10 < ls ∧ ¬ 40 < ld ∧ exN (badS w zs) ls = false ∧ exN (fun i => exN (eqS zs i) i) ls = false ∧ exN (badD ls zd) ld = false) := by
  unfold chkB
  cases exN (badS w zs) ls <;> cases exN (fun i => exN (eqS zs i) i) ls <;> cases exN (badD ls zd) ld <;>
    by_cases e1 : w < 2 <;> by_cases e2 : 1000 < w <;> by_cases e3 : 10 < ls <;> by_cases e4 : 40 < ld <;> simp [e1, e2, e3, e4]
theorem spots_in {w : Int} {ls ld : Nat} {zs zd : Nat → Int} (h : chkB w ls ld zs zd = 0) {j : Nat} (hj : j < ls) : 1 ≤ zs (j * 2) ∧ zs (j * 2) < w ∧ 0 ≤ zs (j * 2 + 1) ∧ zs (j * 2 + 1) ≤ 1000 := by
  have := (chk_ok h).2.2.2.2.1 j hj
  simp only [badS, Bool.or_eq_false_iff, decide_eq_false_iff_not] at this
  omega
theorem drops_in {w : Int} {ls ld : Nat} {zs zd : Nat → Int} (h : chkB w ls ld zs zd = 0) {j : Nat} (hj : j < ld) : 0 ≤ zd (j * 3) ∧ zd (j * 3) < ls ∧ 1 ≤ zd (j * 3 + 1) ∧ zd (j * 3 + 1) ≤ zd (j * 3 + 2) ∧ zd (j * 3 + 2) ≤ 10000 := by
  have := (chk_ok h).2.2.2.2.2 j hj
  simp only [badD, Bool.or_eq_false_iff, decide_eq_false_iff_not] at this
  omega
theorem kndB_m {w : Int} {ls ld m : Nat} {zs zd : Nat → Int} {p q : Int} (h : chkB w ls ld zs zd = 0) (hp : -2 ≤ p ∧ p < ls) (hq : -2 ≤ q ∧ q < ls) (hm : m ≤ ld) (b : Bool) : TouchB ls zs (szE b zd m) p q := by
  obtain ⟨h1, h2, h3, h4, h5, h6⟩ := chk_ok h
  refine ⟨hp, hq, fun j hj => ?_, fun s => szE_bound (ls := ls) (fun j hj => h6 j (by omega)) (by omega) b s⟩
  have := spots_in h hj
  unfold spotB; omega
/-- What keeps all kinds, keeps when they begin. -/
theorem fir_same {w w' : Int} {ls ls' ld : Nat} {zs zd zs' zd' : Nat → Int} {p q p' q' : Int} (h : ∀ m, m ≤ ld → kndR w m zs zd p q = kndR w' m zs' zd' p' q') (e : plE w ls ld zs zd p q = plE w' ls' ld zs' zd' p' q') : firN w ls ld zs zd p q = firN w' ls' ld zs' zd' p' q' := by
  have hw : ∀ k, whenN w ld zs zd p q k = whenN w' ld zs' zd' p' q' k := fun k => by
    unfold whenN
    rw [fN_congr (f := fun j => decide (k ≤ kndR w (j + 1) zs zd p q)) (g := fun j => decide (k ≤ kndR w' (j + 1) zs' zd' p' q')) (fun i h1 h2 => by rw [h (i + 1) (by omega)])]
  unfold firN
  rw [e, h ld (Nat.le_refl _), hw, hw]
/-! ### Mirrored -/
def wl (p : Int) : Int := if p < 0 then -3 - p else p
noncomputable def mirZ (w : Int) (zs : Nat → Int) (ls : Nat) : Nat → Int := upto (mir w zs) (ls * 2)
theorem mirZ_0 {w : Int} {zs : Nat → Int} {ls ld : Nat} {zd : Nat → Int} (h : chkB w ls ld zs zd = 0) {j : Nat} (hj : j < ls) : mirZ w zs ls (j * 2) = w - zs (j * 2) ∧ mirZ w zs ls (j * 2 + 1) = zs (j * 2 + 1) := by
  have b := spots_in h hj
  have c := chk_ok h
  unfold mirZ upto mir
  rw [if_pos (by omega), if_pos (by omega), if_pos (by omega), if_neg (by omega), wr_in (by omega) (by omega)]
  exact ⟨rfl, rfl⟩
theorem mir_chk {w : Int} {ls ld : Nat} {zs zd : Nat → Int} (h : chkB w ls ld zs zd = 0) : chkB w ls ld (mirZ w zs ls) zd = 0 := by
  have hh := chk_iff.1 h
  refine chk_iff.2 ⟨hh.1, hh.2.1, hh.2.2.1, hh.2.2.2.1, ?_, ?_, hh.2.2.2.2.2.2⟩
  · rw [← hh.2.2.2.2.1]
    refine exN_congr (fun j hj => ?_)
    have b := spots_in h hj
    have m := mirZ_0 h hj
    unfold badS
    rw [m.1, m.2]
    have e1 : ∀ x y : Bool, x = y → x = y := fun _ _ h => h
    have d1 : decide (w - zs (j * 2) < 1) = decide (zs (j * 2) < 1) := by rw [decide_eq_decide]; omega
    have d2 : decide (w ≤ w - zs (j * 2)) = decide (w ≤ zs (j * 2)) := by rw [decide_eq_decide]; omega
    rw [d1, d2]
  · rw [← hh.2.2.2.2.2.1]
    refine exN_congr (fun i hi => exN_congr (fun j hj => ?_))
    have m1 := mirZ_0 h hi
    have m2 := mirZ_0 h (show j < ls by omega)
    unfold eqS
    rw [m1.1, m1.2, m2.1, m2.2]
    congr 1
    rw [Bool.eq_iff_iff, beq_iff_eq, beq_iff_eq]; omega
theorem bothR_mir {a c x y x' y' w : Int} (hx : 0 ≤ x ∧ x ≤ 1000) (hx' : 0 ≤ x' ∧ x' ≤ 1000) (hy : 0 ≤ y ∧ y ≤ 1000) (hy' : 0 ≤ y' ∧ y' ≤ 1000) : bothR a c (w - x) y (w - x') y' = bothR a c x y x' y' := by
  unfold bothR
  have e : w - x - (w - x') = -(x - x') := by omega
  have e1 : IntKind.i64.wrap (-(x - x')) = -(x - x') := wr_in (by omega) (by omega)
  have e2 : IntKind.i64.wrap (x - x') = x - x' := wr_in (by omega) (by omega)
  simp only [e, e1, e2, Int.neg_mul_neg]
theorem mir_touch {w : Int} {ls ld : Nat} {zs zd : Nat → Int} {so : Int → Int} {p q : Int} (h : chkB w ls ld zs zd = 0) (hB : TouchB ls zs so p q) : touchT w (mirZ w zs ls) so (wl p) (wl q) = touchT w zs so p q := by
  have hw := chk_ok h
  obtain ⟨h1, h2, h3, h4⟩ := hB
  -- a spot and a wall
  have wall : ∀ s o : Int, 0 ≤ s → s < ls → -2 ≤ o → o < 0 → (if so s = 0 then false else if -3 - o = -2 then decide (IntKind.i64.wrap (IntKind.i64.wrap (w - mirZ w zs ls (s.toNat * 2)) * IntKind.i64.wrap (w - mirZ w zs ls (s.toNat * 2))) ≤ so s) else decide (IntKind.i64.wrap (mirZ w zs ls (s.toNat * 2) * mirZ w zs ls (s.toNat * 2)) ≤ so s)) =
      (if so s = 0 then false else if o = -2 then decide (IntKind.i64.wrap (IntKind.i64.wrap (w - zs (s.toNat * 2)) * IntKind.i64.wrap (w - zs (s.toNat * 2))) ≤ so s) else decide (IntKind.i64.wrap (zs (s.toNat * 2) * zs (s.toNat * 2)) ≤ so s)) := by
    intro s o k1 k2 k3 k4
    have b := spots_in h (show s.toNat < ls by omega)
    rw [(mirZ_0 h (show s.toNat < ls by omega)).1]
    by_cases e : o = -2
    · subst e
      rw [wr_in (k := w - zs (s.toNat * 2)) (by omega) (by omega)]
      rfl
    · obtain rfl : o = -1 := by omega
      rw [show w - (w - zs (s.toNat * 2)) = zs (s.toNat * 2) by omega, wr_in (k := zs (s.toNat * 2)) (by omega) (by omega)]
      rfl
  by_cases n1 : p < 0 <;> by_cases n2 : q < 0
  · unfold touchT wl
    rw [if_pos n1, if_pos n2, if_pos (by omega), if_pos (by omega)]
  · have := wall q p (by omega) h2.2 h1.1 n1
    unfold touchT wl
    simp only [n1, n2, if_true, if_false, and_false, show -3 - p < 0 by omega, show ¬ (0 ≤ -3 - p) by omega, show ¬ (0 ≤ p) by omega]
    exact this
  · have := wall p q (by omega) h1.2 h2.1 n2
    unfold touchT wl
    simp only [n1, n2, if_true, if_false, false_and, show ¬ (0 ≤ -3 - q) by omega, show ¬ (0 ≤ q) by omega]
    exact this
  · have b1 := spots_in h (show p.toNat < ls by omega)
    have b2 := spots_in h (show q.toNat < ls by omega)
    unfold touchT wl
    simp only [n1, n2, if_true, if_false, false_and, show ¬ q = -2 by omega, if_pos (show 0 ≤ q by omega)]
    rw [(mirZ_0 h (show p.toNat < ls by omega)).1, (mirZ_0 h (show p.toNat < ls by omega)).2, (mirZ_0 h (show q.toNat < ls by omega)).1, (mirZ_0 h (show q.toNat < ls by omega)).2,
      both_eq (h4 p) (h4 q) (by omega) (by omega) (by omega) (by omega), both_eq (h4 p) (h4 q) (by omega) (by omega) (by omega) (by omega), bothR_mir (by omega) (by omega) (by omega) (by omega)]
theorem mir_knd {w : Int} {ls ld m : Nat} {zs zd : Nat → Int} {p q : Int} (h : chkB w ls ld zs zd = 0) (hp : -2 ≤ p ∧ p < ls) (hq : -2 ≤ q ∧ q < ls) (hm : m ≤ ld) : kndR w m (mirZ w zs ls) zd (wl p) (wl q) = kndR w m zs zd p q := by
  unfold kndR
  rw [mir_touch h (kndB_m h hp hq hm false), mir_touch h (kndB_m h hp hq hm true)]
theorem wl_in {p : Int} {ls : Nat} (hp : -2 ≤ p ∧ p < ls) : -2 ≤ wl p ∧ wl p < ls := by unfold wl; split <;> omega
theorem wl_ne {p q : Int} (hp : -2 ≤ p) (hq : -2 ≤ q) (h : p ≠ q) : wl p ≠ wl q := by unfold wl; split <;> split <;> omega
end Go.Eng
end
section
namespace Go.Eng
open Go.Proofs
set_option linter.unusedVariables false
set_option linter.unusedSimpArgs false
noncomputable def sclZ (t : Int) (zs : Nat → Int) (ls : Nat) : Nat → Int := upto (scl t zs) (ls * 2)
noncomputable def scdZ (t : Int) (zd : Nat → Int) (ld : Nat) : Nat → Int := upto (scd t zd) (ld * 3)
theorem mul_in {t x : Int} (ht : 1 ≤ t ∧ t ≤ 5) (hx : 0 ≤ x ∧ x ≤ 10000) : 0 ≤ t * x ∧ t * x ≤ 50000 ∧ 0 ≤ t * t * x ∧ t * t * x ≤ 250000 := by
  have : t = 1 ∨ t = 2 ∨ t = 3 ∨ t = 4 ∨ t = 5 := by omega
  rcases this with rfl | rfl | rfl | rfl | rfl <;> omega
theorem tt_in {t : Int} (ht : 1 ≤ t ∧ t ≤ 5) : 1 ≤ t * t ∧ t * t ≤ 25 := by
  have : t = 1 ∨ t = 2 ∨ t = 3 ∨ t = 4 ∨ t = 5 := by omega
  rcases this with rfl | rfl | rfl | rfl | rfl <;> omega
section
variable {w t : Int} {ls ld : Nat} {zs zd : Nat → Int}
theorem sclZ_0 (h : chkB w ls ld zs zd = 0) (ht : 1 ≤ t ∧ t ≤ 5) {j : Nat} (hj : j < ls) : sclZ t zs ls (j * 2) = t * zs (j * 2) ∧ sclZ t zs ls (j * 2 + 1) = t * zs (j * 2 + 1) := by
  have b := spots_in h hj
  have c := chk_ok h
  have m1 := mul_in ht (x := zs (j * 2)) (by omega)
  have m2 := mul_in ht (x := zs (j * 2 + 1)) (by omega)
  unfold sclZ upto scl
  rw [if_pos (by omega), if_pos (by omega), wr_in (by omega) (by omega), wr_in (by omega) (by omega)]
  exact ⟨rfl, rfl⟩
theorem scdZ_0 (h : chkB w ls ld zs zd = 0) (ht : 1 ≤ t ∧ t ≤ 5) {j : Nat} (hj : j < ld) : scdZ t zd ld (j * 3) = zd (j * 3) ∧ scdZ t zd ld (j * 3 + 1) = t * t * zd (j * 3 + 1) ∧ scdZ t zd ld (j * 3 + 2) = t * t * zd (j * 3 + 2) := by
  have b := drops_in h hj
  have m1 := mul_in ht (x := zd (j * 3 + 1)) (by omega)
  have m2 := mul_in ht (x := zd (j * 3 + 2)) (by omega)
  have m3 := tt_in ht
  unfold scdZ upto scd
  rw [if_pos (show j * 3 < ld * 3 by omega), if_pos (show j * 3 + 1 < ld * 3 by omega), if_pos (show j * 3 + 2 < ld * 3 by omega), if_pos (show j * 3 % 3 = 0 by omega), if_neg (show ¬ (j * 3 + 1) % 3 = 0 by omega), if_neg (show ¬ (j * 3 + 2) % 3 = 0 by omega), wr_in (k := t * t) (by omega) (by omega), wr_in (by omega) (by omega), wr_in (by omega) (by omega)]
  exact ⟨rfl, rfl, rfl⟩
theorem scl_sum (h : chkB w ls ld zs zd = 0) (ht : 1 ≤ t ∧ t ≤ 5) (b : Bool) (s : Int) {m : Nat} (hm : m ≤ ld) : ∀ j, j ≤ m → sumS (scdZ t zd ld) (upto (endS b (scdZ t zd ld)) m) s j = t * t * sumS zd (upto (endS b zd) m) s j ∧ 0 ≤ sumS zd (upto (endS b zd) m) s j ∧ sumS zd (upto (endS b zd) m) s j ≤ 10000 * j := by
  have c := chk_ok h
  intro j
  induction j with
  | zero => intro _; exact ⟨by simp [sumS], Int.le_refl _, Int.le_refl _⟩
  | succ j ih =>
    intro hj
    obtain ⟨i1, i2, i3⟩ := ih (by omega)
    have hd := drops_in h (show j < ld by omega)
    have sd := scdZ_0 h ht (show j < ld by omega)
    have e1 : upto (endS b zd) m j = endS b zd j := by unfold upto; rw [if_pos (by omega)]
    have e2 : upto (endS b (scdZ t zd ld)) m j = t * t * endS b zd j := by
      unfold upto; rw [if_pos (by omega)]
      cases b
      · exact sd.2.1
      · exact sd.2.2
    have e3 : 1 ≤ endS b zd j ∧ endS b zd j ≤ 10000 := by
      cases b
      · exact ⟨by show 1 ≤ zd (j * 3 + 1); omega, by show zd (j * 3 + 1) ≤ 10000; omega⟩
      · exact ⟨by show 1 ≤ zd (j * 3 + 2); omega, by show zd (j * 3 + 2) ≤ 10000; omega⟩
    unfold sumS
    rw [sd.1]
    by_cases e : zd (j * 3) = s
    · rw [if_pos e, if_pos e, e1, e2, i1]
      generalize sumS zd (upto (endS b zd) m) s j = S at *
      generalize endS b zd j = E at *
      have : t = 1 ∨ t = 2 ∨ t = 3 ∨ t = 4 ∨ t = 5 := by omega
      rw [wr_in (k := S + E) (by omega) (by omega)]
      rcases this with rfl | rfl | rfl | rfl | rfl <;> (rw [wr_in (by omega) (by omega)]; omega)
    · rw [if_neg e, if_neg e]
      exact ⟨i1, i2, by omega⟩
theorem scl_sz (h : chkB w ls ld zs zd = 0) (ht : 1 ≤ t ∧ t ≤ 5) (b : Bool) (s : Int) {m : Nat} (hm : m ≤ ld) : szE b (scdZ t zd ld) m s = t * t * szE b zd m s := (scl_sum h ht b s hm m (Nat.le_refl _)).1
theorem sq_scl (t x : Int) : t * x * (t * x) = t * t * (x * x) := by grind
theorem le_scl {t : Int} (ht : 1 ≤ t) (x y : Int) : (t * x ≤ t * y) = (x ≤ y) := by
  rw [eq_iff_iff]
  exact ⟨fun h => Int.le_of_mul_le_mul_left h (by omega), fun h => Int.mul_le_mul_of_nonneg_left h (by omega)⟩
theorem bothR_scl {a c x y x' y' : Int} (ht : 1 ≤ t ∧ t ≤ 5) (ha : 0 ≤ a ∧ t * t * a ≤ 1000000) (hc : 0 ≤ c ∧ t * t * c ≤ 1000000) (hx : 0 ≤ x ∧ x ≤ 1000) (hy : 0 ≤ y ∧ y ≤ 1000) (hx' : 0 ≤ x' ∧ x' ≤ 1000) (hy' : 0 ≤ y' ∧ y' ≤ 1000) (gx : t * x ≤ 1000) (gy : t * y ≤ 1000) (gx' : t * x' ≤ 1000) (gy' : t * y' ≤ 1000) :
    bothR (t * t * a) (t * t * c) (t * x) (t * y) (t * x') (t * y') = bothR a c x y x' y' := by
  have s1 := sq_le (k := x - x') (M := 1000) (by omega) (by omega)
  have s2 := sq_le (k := y - y') (M := 1000) (by omega) (by omega)
  have tt := tt_in ht
  have m1 := mul_in ht (x := x) (by omega)
  have m2 := mul_in ht (x := y) (by omega)
  have m3 := mul_in ht (x := x') (by omega)
  have m4 := mul_in ht (x := y') (by omega)
  have s3 := sq_le (k := t * x - t * x') (M := 1000) (by omega) (by omega)
  have s4 := sq_le (k := t * y - t * y') (M := 1000) (by omega) (by omega)
  have a0 : a ≤ 1000000 ∧ 0 ≤ t * t * a := by
    have : t = 1 ∨ t = 2 ∨ t = 3 ∨ t = 4 ∨ t = 5 := by omega
    rcases this with rfl | rfl | rfl | rfl | rfl <;> omega
  have c0 : c ≤ 1000000 ∧ 0 ≤ t * t * c := by
    have : t = 1 ∨ t = 2 ∨ t = 3 ∨ t = 4 ∨ t = 5 := by omega
    rcases this with rfl | rfl | rfl | rfl | rfl <;> omega
  have pr : ∀ u v : Int, 0 ≤ u → u ≤ 1000000 → 0 ≤ v → v ≤ 1000000 → 0 ≤ 4 * u * v ∧ 4 * u * v ≤ 4000000000000 := fun u v h1 h2 h3 h4 => by
    constructor
    · exact Int.mul_nonneg (by omega) h3
    · exact Int.le_trans (Int.mul_le_mul (show 4 * u ≤ 4000000 by omega) h4 h3 (by omega)) (by omega)
  have q1 := pr a c ha.1 a0.1 hc.1 c0.1
  have q2 := pr (t * t * a) (t * t * c) a0.2 ha.2 c0.2 hc.2
  have e1 : IntKind.i64.wrap (x - x') = x - x' := wr_in (by omega) (by omega)
  have e2 : IntKind.i64.wrap (y - y') = y - y' := wr_in (by omega) (by omega)
  have e3 : IntKind.i64.wrap (t * x - t * x') = t * x - t * x' := wr_in (by omega) (by omega)
  have e4 : IntKind.i64.wrap (t * y - t * y') = t * y - t * y' := wr_in (by omega) (by omega)
  have f1 : (t * x - t * x') * (t * x - t * x') = t * t * ((x - x') * (x - x')) := by grind
  have f2 : (t * y - t * y') * (t * y - t * y') = t * t * ((y - y') * (y - y')) := by grind
  unfold bothR
  simp only [e1, e2, e3, e4]
  rw [f1] at s3 ⊢
  rw [f2] at s4 ⊢
  generalize (x - x') * (x - x') = X at s1 s3 ⊢
  generalize (y - y') * (y - y') = Y at s2 s4 ⊢
  have b1 := sq_le (k := X + Y - a - c) (M := 4000000) (by omega) (by omega)
  have b2 := sq_le (k := t * t * X + t * t * Y - t * t * a - t * t * c) (M := 4000000) (by omega) (by omega)
  rw [wr_in (k := X) (by omega) (by omega), wr_in (k := Y) (by omega) (by omega), wr_in (k := X + Y) (by omega) (by omega), wr_in (k := X + Y - a) (by omega) (by omega), wr_in (k := X + Y - a - c) (by omega) (by omega), wr_in (k := a + c) (by omega) (by omega), wr_in (k := 4 * a) (by omega) (by omega), wr_in (k := 4 * a * c) (by omega) (by omega), wr_in (k := (X + Y - a - c) * (X + Y - a - c)) (by omega) (by omega)]
  rw [wr_in (k := t * t * X) (by omega) (by omega), wr_in (k := t * t * Y) (by omega) (by omega), wr_in (k := t * t * X + t * t * Y) (by omega) (by omega), wr_in (k := t * t * X + t * t * Y - t * t * a) (by omega) (by omega), wr_in (k := t * t * X + t * t * Y - t * t * a - t * t * c) (by omega) (by omega), wr_in (k := t * t * a + t * t * c) (by omega) (by omega), wr_in (k := 4 * (t * t * a)) (by omega) (by omega), wr_in (k := 4 * (t * t * a) * (t * t * c)) (by omega) (by omega), wr_in (k := (t * t * X + t * t * Y - t * t * a - t * t * c) * (t * t * X + t * t * Y - t * t * a - t * t * c)) (by omega) (by omega)]
  have g1 : t * t * X + t * t * Y = t * t * (X + Y) := by grind
  have g2 : t * t * a + t * t * c = t * t * (a + c) := by grind
  have g3 : (t * t * X + t * t * Y - t * t * a - t * t * c) * (t * t * X + t * t * Y - t * t * a - t * t * c) = t * t * (t * t) * ((X + Y - a - c) * (X + Y - a - c)) := by grind
  have g4 : 4 * (t * t * a) * (t * t * c) = t * t * (t * t) * (4 * a * c) := by grind
  rw [g3, g4, g1, g2]
  have t4 : 1 ≤ t * t * (t * t) := by
    have : t = 1 ∨ t = 2 ∨ t = 3 ∨ t = 4 ∨ t = 5 := by omega
    rcases this with rfl | rfl | rfl | rfl | rfl <;> omega
  simp only [le_scl tt.1, le_scl t4]
theorem scl_touch {so so' : Int → Int} {p q : Int} {zd' : Nat → Int} {ld' : Nat} (h : chkB w ls ld zs zd = 0) (h' : chkB (t * w) ls ld' (sclZ t zs ls) zd' = 0) (ht : 1 ≤ t ∧ t ≤ 5) (hB : TouchB ls zs so p q) (hB' : TouchB ls (sclZ t zs ls) so' p q) (hs : ∀ s, so' s = t * t * so s) : touchT (t * w) (sclZ t zs ls) so' p q = touchT w zs so p q := by
  obtain ⟨h1, h2, h3, h4⟩ := hB
  obtain ⟨_, _, _, h4'⟩ := hB'
  have tt := tt_in ht
  have nz : ∀ s, (so' s = 0) = (so s = 0) := fun s => by
    rw [hs, eq_iff_iff]
    have : t = 1 ∨ t = 2 ∨ t = 3 ∨ t = 4 ∨ t = 5 := by omega
    rcases this with rfl | rfl | rfl | rfl | rfl <;> omega
  have c1 := chk_ok h
  have c2 := chk_ok h'
  unfold touchT
  split
  · rfl
  · rename_i hn
    dsimp only
    generalize hsE : (if p < 0 then q else p) = s
    generalize hoE : (if p < 0 then p else q) = o
    have ls0 : 0 ≤ s ∧ s < ls := by split at hsE <;> omega
    have lo : -2 ≤ o ∧ o < ls := by split at hoE <;> omega
    have b1 := spots_in h (show s.toNat < ls by omega)
    have b2 := spots_in h' (show s.toNat < ls by omega)
    have z := sclZ_0 h ht (show s.toNat < ls by omega)
    rw [z.1, z.2] at b2
    have z0 : sclZ t zs ls (0 * 2) = sclZ t zs ls (0 * 2) := rfl
    simp only [nz]
    by_cases hz : so s = 0
    · rw [if_pos hz, if_pos hz]
    · rw [if_neg hz, if_neg hz]
      by_cases e1 : o = -2
      · rw [if_pos e1, if_pos e1, z.1, hs]
        have e2 : t * w - t * zs (s.toNat * 2) = t * (w - zs (s.toNat * 2)) := by grind
        have q1 := sq_le (k := w - zs (s.toNat * 2)) (M := 1000) (by omega) (by omega)
        have q2 := sq_le (k := t * w - t * zs (s.toNat * 2)) (M := 1000) (by omega) (by omega)
        rw [wr_in (k := w - zs (s.toNat * 2)) (by omega) (by omega), wr_in (k := t * w - t * zs (s.toNat * 2)) (by omega) (by omega), wr_in (by omega) (by omega), wr_in (by omega) (by omega), e2, sq_scl]
        simp only [le_scl tt.1]
      · rw [if_neg e1, if_neg e1]
        by_cases e2 : 0 ≤ o
        · rw [if_pos e2, if_pos e2]
          have d1 := spots_in h (show o.toNat < ls by omega)
          have d2 := spots_in h' (show o.toNat < ls by omega)
          have y := sclZ_0 h ht (show o.toNat < ls by omega)
          rw [y.1, y.2] at d2
          have k1 := h4' s
          have k2 := h4' o
          have k3 := h4 s
          have k4 := h4 o
          rw [hs] at k1 k2
          rw [z.1, z.2, y.1, y.2, hs, hs, both_eq k1 k2 (by omega) (by omega) (by omega) (by omega), both_eq k3 k4 (by omega) (by omega) (by omega) (by omega), bothR_scl ht ⟨k3.1, k1.2⟩ ⟨k4.1, k2.2⟩ (by omega) (by omega) (by omega) (by omega) (by omega) (by omega) (by omega) (by omega), ← hs o]
          simp only [nz]
        · rw [if_neg e2, if_neg e2, z.1, hs]
          have q1 := sq_le (k := zs (s.toNat * 2)) (M := 1000) (by omega) (by omega)
          have q2 := sq_le (k := t * zs (s.toNat * 2)) (M := 1000) (by omega) (by omega)
          rw [wr_in (by omega) (by omega), wr_in (by omega) (by omega), sq_scl]
          simp only [le_scl tt.1]
theorem scl_knd {p q : Int} {m : Nat} (h : chkB w ls ld zs zd = 0) (h' : chkB (t * w) ls ld (sclZ t zs ls) (scdZ t zd ld) = 0) (ht : 1 ≤ t ∧ t ≤ 5) (hp : -2 ≤ p ∧ p < ls) (hq : -2 ≤ q ∧ q < ls) (hm : m ≤ ld) : kndR (t * w) m (sclZ t zs ls) (scdZ t zd ld) p q = kndR w m zs zd p q := by
  unfold kndR
  rw [scl_touch h h' ht (kndB_m h hp hq hm false) (kndB_m h' hp hq hm false) (fun s => scl_sz h ht false s hm), scl_touch h h' ht (kndB_m h hp hq hm true) (kndB_m h' hp hq hm true) (fun s => scl_sz h ht true s hm)]
end
end Go.Eng
end
