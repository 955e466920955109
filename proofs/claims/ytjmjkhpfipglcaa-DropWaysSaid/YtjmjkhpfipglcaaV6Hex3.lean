/- Drop: the law DropTold: what its code finds. -/
import Derived.Test.YtjmjkhpfipglcaaV6Kex19
import Derived.Test.YtjmjkhpfipglcaaV6Kax7
section
namespace Go.Eng
open Go.Proofs
set_option linter.unusedVariables false
set_option linter.unusedSimpArgs false
set_option maxRecDepth 100000
theorem bothR_sym {a c x y x' y' : Int} (ha : 0 ≤ a ∧ a ≤ 1000000) (hc : 0 ≤ c ∧ c ≤ 1000000) (hx : 0 ≤ x ∧ x ≤ 1000) (hy : 0 ≤ y ∧ y ≤ 1000) (hx' : 0 ≤ x' ∧ x' ≤ 1000) (hy' : 0 ≤ y' ∧ y' ≤ 1000) : bothR a c x y x' y' = bothR c a x' y' x y := by
 have s1 := sq_le (k := x - x') (M := 1000) (by omega) (by omega)
 have s2 := sq_le (k := y - y') (M := 1000) (by omega) (by omega)
 have e1 : IntKind.i64.wrap (x - x') = x - x' := wr_in (by omega) (by omega)
 have e2 : IntKind.i64.wrap (y - y') = y - y' := wr_in (by omega) (by omega)
 have e3 : IntKind.i64.wrap (x' - x) = -(x - x') := by rw [wr_in (by omega) (by omega)]; omega
 have e4 : IntKind.i64.wrap (y' - y) = -(y - y') := by rw [wr_in (by omega) (by omega)]; omega
 have pr : ∀ u v : Int, 0 ≤ u → u ≤ 1000000 → 0 ≤ v → v ≤ 1000000 → 0 ≤ 4 * u * v ∧ 4 * u * v ≤ 4000000000000 := fun u v h1 h2 h3 h4 => by
  constructor
  · exact Int.mul_nonneg (by omega) h3
  · exact Int.le_trans (Int.mul_le_mul (show 4 * u ≤ 4000000 by omega) h4 h3 (by omega)) (by omega)
 have q1 := pr a c ha.1 ha.2 hc.1 hc.2
 have q2 : 4 * c * a = 4 * a * c := by rw [Int.mul_assoc, Int.mul_comm c a, ← Int.mul_assoc]
 unfold bothR
 simp only [e1, e2, e3, e4, Int.neg_mul_neg]
 generalize (x - x') * (x - x') = X at s1 ⊢
 generalize (y - y') * (y - y') = Y at s2 ⊢
 rw [wr_in (k := X) (by omega) (by omega), wr_in (k := Y) (by omega) (by omega), wr_in (k := X + Y) (by omega) (by omega), wr_in (k := X + Y - a) (by omega) (by omega), wr_in (k := X + Y - c) (by omega) (by omega), wr_in (k := X + Y - a - c) (by omega) (by omega), show X + Y - c - a = X + Y - a - c by omega, wr_in (k := X + Y - a - c) (by omega) (by omega), Int.add_comm c a, wr_in (k := 4 * a) (by omega) (by omega), wr_in (k := 4 * c) (by omega) (by omega), q2]
theorem touch_sym {w : Int} {ls : Nat} {zs : Nat → Int} {so : Int → Int} {p q : Int} (hB : TouchB ls zs so p q) (hp : 0 ≤ p) (hq : 0 ≤ q) : touchT w zs so p q = touchT w zs so q p := by
 obtain ⟨h1, h2, h3, h4⟩ := hB
 have g1 := h3 p.toNat (by omega)
 have g2 := h3 q.toNat (by omega)
 unfold spotB at g1 g2
 unfold touchT
 simp only [show ¬ p < 0 by omega, show ¬ q < 0 by omega, and_self, if_false, show ¬ q = -2 by omega, show ¬ p = -2 by omega, if_pos hq, if_pos hp]
 rw [both_eq (h4 p) (h4 q) (by omega) (by omega) (by omega) (by omega), both_eq (h4 q) (h4 p) (by omega) (by omega) (by omega) (by omega), bothR_sym (h4 p) (h4 q) (by omega) (by omega) (by omega) (by omega)]
 by_cases z1 : so p = 0 <;> by_cases z2 : so q = 0 <;> simp [z1, z2]
end Go.Eng
end
section
namespace Go.Eng
open Go.Proofs
set_option linter.unusedVariables false
set_option linter.unusedSimpArgs false
structure StI (N : Nat) (hl : Int → Int → Bool) (t j : Nat) (z : Nat → Int) : Prop where
 one : z t = 1
 rng : ∀ i, 0 ≤ z i ∧ z i ≤ j + 1
 uni : ∀ i, z i = 1 → i = t
 prev : ∀ i, 2 ≤ z i → i < N ∧ ∃ k, k < N ∧ k ≠ i ∧ hl ((i : Int) - 2) ((k : Int) - 2) = true ∧ z k = z i - 1
 fro : ∀ i k, i < N → k < N → k ≠ i → hl ((i : Int) - 2) ((k : Int) - 2) = true → z i = 0 → z k = 0 ∨ z k = j + 1
theorem StI.next {N : Nat} {hl : Int → Int → Bool} {t j : Nat} {z : Nat → Int} (h : StI N hl t j z) : StI N hl t (j + 1) (stpS z ((j : Int) + 1) hl N) := by
 have hit : ∀ i k, hitK z ((j : Int) + 1) hl i k = true ↔ k ≠ i ∧ z k = j + 1 ∧ hl ((i : Int) - 2) ((k : Int) - 2) = true := fun i k => by
  unfold hitK; simp
 have val : ∀ i, (z i = 0 ∧ i < N ∧ (∃ k, k < N ∧ k ≠ i ∧ z k = j + 1 ∧ hl ((i : Int) - 2) ((k : Int) - 2) = true) ∧ stpS z ((j : Int) + 1) hl N i = j + 2) ∨ (stpS z ((j : Int) + 1) hl N i = z i ∧ (z i = 0 → i < N → ¬ ∃ k, k < N ∧ k ≠ i ∧ z k = j + 1 ∧ hl ((i : Int) - 2) ((k : Int) - 2) = true)) := fun i => by
  unfold stpS
  by_cases hi : i < N
  · rw [if_pos hi]
    unfold stpI
    by_cases hc : z i = 0 ∧ exN (hitK z ((j : Int) + 1) hl i) N = true
    · rw [if_pos hc]
      obtain ⟨k, k1, k2⟩ := (exN_iff _ _).1 hc.2
      have := (hit i k).1 k2
      exact .inl ⟨hc.1, hi, ⟨k, k1, this⟩, by omega⟩
    · rw [if_neg hc]
      refine .inr ⟨rfl, fun h0 _ hx => hc ⟨h0, ?_⟩⟩
      obtain ⟨k, k1, k2⟩ := hx
      exact (exN_iff _ _).2 ⟨k, k1, (hit i k).2 k2⟩
  · rw [if_neg hi]
    exact .inr ⟨rfl, fun _ x => absurd x hi⟩
 generalize stpS z ((j : Int) + 1) hl N = y at *
 have keep : ∀ i, z i ≠ 0 → y i = z i := fun i hi => by
  rcases val i with v | v
  · exact absurd v.1 hi
  · exact v.1
 refine ⟨?_, fun i => ?_, fun i hi => ?_, fun i hi => ?_, fun i k hi hk hki hh h0 => ?_⟩
 · rw [keep t (by rw [h.one]; decide)]; exact h.one
 · have := h.rng i
   rcases val i with v | v
   · omega
   · rw [v.1]; omega
 · rcases val i with v | v
   · omega
   · exact h.uni i (by rw [← v.1]; exact hi)
 · rcases val i with v | v
   · obtain ⟨v1, v2, ⟨k, k1, k2, k3, k4⟩, v4⟩ := v
     exact ⟨v2, k, k1, k2, k4, by rw [keep k (by omega), k3, v4]; omega⟩
   · rw [v.1] at hi ⊢
     obtain ⟨g1, k, k1, k2, k3, k4⟩ := h.prev i hi
     exact ⟨g1, k, k1, k2, k3, by rw [keep k (by omega)]; exact k4⟩
 · rcases val i with v | v
   · omega
   · rw [v.1] at h0
     have hz := h.fro i k hi hk hki hh h0
     have hn := v.2 h0 hi
     have hz0 : z k = 0 := by
      rcases hz with x | x
      · exact x
      · exact absurd ⟨k, hk, hki, x, hh⟩ hn
     rcases val k with u | u
     · right; rw [u.2.2.2]; omega
     · left; rw [u.1]; exact hz0
theorem st_inv {N : Nat} {hl : Int → Int → Bool} {p : Int} (hp : -2 ≤ p) : ∀ j, StI N hl (p + 2).toNat j (stJ (st0 p) hl N j)
 | 0 => by
   have v : ∀ i, (stJ (st0 p) hl N 0 i = 1 ∧ i = (p + 2).toNat) ∨ (stJ (st0 p) hl N 0 i = 0 ∧ i ≠ (p + 2).toNat) := fun i => by
    show (st0 p i = 1 ∧ _) ∨ (st0 p i = 0 ∧ _)
    unfold st0
    by_cases e : (i : Int) = p + 2
    · rw [if_pos e]; left; exact ⟨rfl, by omega⟩
    · rw [if_neg e]; right; exact ⟨rfl, by omega⟩
   generalize stJ (st0 p) hl N 0 = y at *
   refine ⟨?_, fun i => ?_, fun i hi => ?_, fun i hi => ?_, fun i k hi hk hki hh h0 => ?_⟩
   · rcases v (p + 2).toNat with x | x
     · exact x.1
     · exact absurd rfl x.2
   · rcases v i with x | x <;> omega
   · rcases v i with x | x <;> omega
   · rcases v i with x | x <;> omega
   · rcases v k with x | x <;> omega
 | j + 1 => (st_inv hp j).next
theorem StI.count {N : Nat} {hl : Int → Int → Bool} {t j : Nat} {z : Nat → Int} (h : StI N hl t j z) (ht : t < N) : ∀ s : Nat, 1 ≤ s → (∃ i, z i = s) → ∃ l : List Int, l.Nodup ∧ l.length = s ∧ ∀ q ∈ l, ∃ i : Nat, q = i ∧ i < N ∧ 1 ≤ z i ∧ z i ≤ s
 | 0, hs, _ => by omega
 | 1, _, _ => ⟨[(t : Int)], by simp, rfl, fun q hq => by
    simp at hq
    exact ⟨t, hq, ht, by rw [h.one]; omega, by rw [h.one]; omega⟩⟩
 | s + 2, _, ⟨i, hi⟩ => by
   obtain ⟨g1, k, k1, k2, k3, k4⟩ := h.prev i (by omega)
   obtain ⟨l, l1, l2, l3⟩ := h.count ht (s + 1) (by omega) ⟨k, by omega⟩
   refine ⟨(i : Int) :: l, List.nodup_cons.2 ⟨fun hm => ?_, l1⟩, by simp [l2], fun q hq => ?_⟩
   · obtain ⟨i', e1, _, _, e4⟩ := l3 _ hm
     have : i = i' := by omega
     subst this
     omega
   · rcases List.mem_cons.1 hq with e | e
     · exact ⟨i, e, g1, by omega, by omega⟩
     · obtain ⟨i', e1, e2, e3, e4⟩ := l3 _ e
       exact ⟨i', e1, e2, e3, by omega⟩
theorem StI.closed {N : Nat} {hl : Int → Int → Bool} {t : Nat} {z : Nat → Int} (h : StI N hl t (N - 1) z) (ht : t < N) {i k : Nat} (hi : i < N) (hk : k < N) (hki : k ≠ i) (hh : hl ((i : Int) - 2) ((k : Int) - 2) = true) (h0 : 0 < z k) : 0 < z i := by
 have r := h.rng i
 by_cases e : z i = 0
 · exfalso
   have hz := h.fro i k hi hk hki hh e
   obtain ⟨l, l1, l2, l3⟩ := h.count ht N (by omega) ⟨k, by omega⟩
   have := nd_len N 0 ((i : Int) :: l) (List.nodup_cons.2 ⟨fun hm => ?_, l1⟩) (fun q hq => ?_)
   · have e5 : ((i : Int) :: l).length = N + 1 := by simp [l2]
     omega
   · obtain ⟨i', e1, _, e3, _⟩ := l3 _ hm
     have : i = i' := by omega
     subst this
     omega
   · rcases List.mem_cons.1 hq with x | x
     · omega
     · obtain ⟨i', e1, e2, _, _⟩ := l3 _ x
       omega
 · omega
section
variable (ls : Nat) (kd : Nat → Int) (sure : Bool) (p : Int)
end
section
variable {w : Int} {ls ld : Nat} {zs zd : Nat → Int} {sure : Bool}
theorem knd_sym (h : chkB w ls ld zs zd = 0) {p q : Int} (hp : -2 ≤ p ∧ p < ls) (hq : -2 ≤ q ∧ q < ls) : kndR w ld zs zd p q = kndR w ld zs zd q p := by
 have ip : isPl ls p = true := by simp [isPl]; omega
 have iq : isPl ls q = true := by simp [isPl]; omega
 have k1 := (knd_ok (p := p) (q := q) h ip iq).2
 have s : ∀ b, touchT w zs (szE b zd ld) p q = touchT w zs (szE b zd ld) q p := fun b => by
  by_cases h1 : p < 0
  · by_cases h2 : q < 0
    · unfold touchT; rw [if_pos ⟨h1, h2⟩, if_pos ⟨h2, h1⟩]
    · unfold touchT
      simp only [h1, h2, and_false, false_and, if_false, if_true]
  · by_cases h2 : q < 0
    · unfold touchT
      simp only [h1, h2, and_false, false_and, if_false, if_true]
    · exact touch_sym (k1 b) (by omega) (by omega)
 unfold kndR
 rw [s false, s true]
theorem hlK_F (h : chkB w ls ld zs zd = 0) {p q : Int} (hp : -2 ≤ p ∧ p < ls) (hq : -2 ≤ q ∧ q < ls) (hpq : p ≠ q) : hlK (kdT w ls ld zs zd) sure p q = hlF w ld zs zd sure p q := by
 have := kd_knd (p := p) (q := q) h (by simp [isPl]; omega) (by simp [isPl]; omega) hpq
 unfold hlK hlF kdT
 unfold kix at this
 rw [this]
theorem hlK_d (h : chkB w ls ld zs zd = 0) {p : Int} (hp : -2 ≤ p ∧ p < ls) : hlK (kdT w ls ld zs zd) sure p p = false := by
 have hc := chk_drops h
 have := kdO_get (w := w) (zs := zs) (sz := szs zd ld) hc.1 hp.1 hp (ls + 2) (by omega)
 unfold kix at this
 unfold hlK kdT
 have hv : kv w zs (szs zd ld) p p 0 = 0 := by unfold kv; rw [if_pos rfl]
 rw [this, hv, ite_self]
 cases sure <;> rfl
end
end Go.Eng
end
section
namespace Go.Eng
open Go.Proofs
set_option linter.unusedVariables false
set_option linter.unusedSimpArgs false
set_option maxRecDepth 100000
section
variable (n : Nat) (w : Int) (ls ld lm : Nat) (zs zd zm sz kd : Nat → Int) (H : Heap) (p q i cur : Int) (sure : Bool)
theorem il85 : (il (ctG noCt 85 (gIn inN)) (n + 2) 0).Ok (cd (n + 2)) := by
 refine il_ok _ (n + 2) 0 (fun k => ctG_ok (noCt_ok _) (fun args p v hg hp H => ?_))
 unfold gIn at hg
 split at hg
 · simp only [Option.some.injEq, Prod.mk.injEq] at hg
   obtain ⟨rfl, rfl⟩ := hg
   obtain ⟨rfl, hp⟩ := hp
   rw [leN_eq, decide_eq_true_eq] at hp
   rw [show n + 2 + k = n + k + 2 by omega]
   exact c85 _ H _ _ _ _ hp
 · cases hg
theorem plT_ok (h : plE w ls ld zs zd p q = 0) : tabV w ls ld zs zd (szs zd ld) (kdT w ls ld zs zd) = plT w ls ld zs zd p q := by
 unfold plT
 rw [if_neg (fun x => x h)]; rfl
end
end Go.Eng
end
