/- Drop: both ways are the same: plain laws. -/
import Derived.Test.YtjmjkhpfipglcaaV6Wh
import Derived.Test.YtjmjkhpfipglcaaV6Wf
import Derived.Test.YtjmjkhpfipglcaaV6Wg
import Derived.Test.YtjmjkhpfipglcaaV6DrLx3
import Derived.Test.YtjmjkhpfipglcaaV6EngPostx4
import Derived.Test.YtjmjkhpfipglcaaRows
import Derived.Test.YtjmjkhpfipglcaaChecked
import Derived.ProofKit
import Derived.Test.YtjmjkhpfipglcaaV6EngYx4
import Derived.Test.YtjmjkhpfipglcaaV6EngTgx3
import Derived.Test.YtjmjkhpfipglcaaProg
import Derived.KernelRfl
section
namespace Go.Eng
open Go.Proofs
set_option linter.unusedVariables false
set_option linter.unusedSimpArgs false
section
variable {w : Int} {ls ld : Nat} {zs zd : Nat → Int} {sure : Bool}
theorem hlF_sym (h : chkB w ls ld zs zd = 0) {a b : Int} (ha : -2 ≤ a ∧ a < ls) (hb : -2 ≤ b ∧ b < ls) : hlF w ld zs zd sure a b = hlF w ld zs zd sure b a := by
 unfold hlF; rw [knd_sym h ha hb]
theorem hlK_iff (h : chkB w ls ld zs zd = 0) {a b : Int} (ha : -2 ≤ a ∧ a < ls) (hb : -2 ≤ b ∧ b < ls) : hlK (kdT w ls ld zs zd) sure a b = true ↔ a ≠ b ∧ hlF w ld zs zd sure a b = true := by
 by_cases e : a = b
 · subst e; rw [hlK_d h ha]; simp
 · rw [hlK_F h ha hb e]; simp [e]
theorem zi_of (h : chkB w ls ld zs zd = 0) {q : Int} (hq : -2 ≤ q ∧ q < ls) : ZI ls (hlK (kdT w ls ld zs zd) sure) (q + 2).toNat (stZ w ls ld zs zd sure q) := by
 have hI := st_inv (N := ls + 2) (hl := hlF w ld zs zd sure) (p := q) hq.1 (ls + 1)
 have hL := st_lip (N := ls + 2) (hl := hlF w ld zs zd sure) (p := q) hq.1 (ls + 1)
 have hz : stJ (st0 q) (hlF w ld zs zd sure) (ls + 2) (ls + 1) = stZ w ls ld zs zd sure q := rfl
 rw [hz] at hI hL
 refine ⟨by omega, fun i => ⟨hI.uni i, fun e => by rw [e]; exact hI.one⟩, fun i => by have := hI.rng i; omega, fun i k hi hk hh h0 => ?_, fun i hi => ?_, fun i hi => ?_⟩
 · obtain ⟨hne, hh⟩ := (hlK_iff h (by omega) (by omega)).1 hh
   rw [hlF_sym h (by omega) (by omega)] at hh
   have hki : k ≠ i := fun e => hne (by rw [e])
   have h1 := StI.closed (N := ls + 2) hI (by omega) hi hk hki hh h0
   exact ⟨h1, hL i k hi hk hki hh (by omega) (by omega)⟩
 · obtain ⟨g1, k, k1, k2, k3, k4⟩ := hI.prev i hi
   refine ⟨g1, k, k1, ?_, k4⟩
   rw [hlF_sym h (by omega) (by omega)] at k3
   exact (hlK_iff h (by omega) (by omega)).2 ⟨by omega, k3⟩
 · have r := hI.rng i
   by_cases e1 : stZ w ls ld zs zd sure q i = 1
   · have := hI.uni i e1; omega
   · by_cases e2 : 2 ≤ stZ w ls ld zs zd sure q i
     · have := (hI.prev i e2).1; omega
     · omega
end
theorem ZI.below {ls t : Nat} {hl : Int → Int → Bool} {z : Nat → Int} (hZ : ZI ls hl t z) : ∀ (v i : Nat), z i = v → ∀ u : Nat, 1 ≤ u → u ≤ v → ∃ i, z i = u
 | 0, i, _, u, h1, h2 => by omega
 | v + 1, i, e, u, h1, h2 => by
   by_cases eu : u = v + 1
   · subst eu; exact ⟨i, e⟩
   · obtain ⟨_, k, _, _, k3⟩ := hZ.prev i (by omega)
     exact hZ.below v k (by omega) u h1 (by omega)
theorem ws_end {kd : Nat → Int} {sure : Bool} {ls : Nat} {q : Int} (hls : ls ≤ 10) (hq : -2 ≤ q ∧ q < ls) {z : Nat → Int} (hZ : ZI ls (hlK kd sure) (q + 2).toNat z) :
 ∃ N, N + 1 ≤ 900 ∧ (∀ k, k < N + 1 → 0 < (wsL kd sure ls q k).cW) ∧ (wsL kd sure ls q (N + 1)).cW = 0 ∧ ∀ i, z i ≤ ((N + 1 : Nat) : Int) := by
 obtain ⟨_, s2, s3, s4⟩ := fN_spec (fun k => !exN (fun i => decide (z i = (k : Int) + 1)) (ls + 2)) (ls + 3) 0
 generalize fN (fun k => !exN (fun i => decide (z i = (k : Int) + 1)) (ls + 2)) (ls + 3) 0 = K at *
 have lt : ∀ i v : Nat, z i = (v : Int) + 1 → i < ls + 2 := fun i v e => by
  by_cases hi : i < ls + 2
  · exact hi
  · have := hZ.out i (by omega); omega
 have P : ∀ k : Nat, exN (fun i => decide (z i = (k : Int) + 1)) (ls + 2) = true ↔ ∃ i, z i = (k : Int) + 1 := fun k => by
  rw [exN_iff]
  exact ⟨fun ⟨i, _, h⟩ => ⟨i, of_decide_eq_true h⟩, fun ⟨i, h⟩ => ⟨i, lt i k h, decide_eq_true h⟩⟩
 have p0 : ∃ i, z i = ((0 : Nat) : Int) + 1 := ⟨_, (hZ.one _).2 rfl⟩
 have hK3 : K < ls + 3 := by
  by_cases e : K < ls + 3
  · exact e
  · have := s3 (ls + 2) (by omega) (by omega)
    have : exN (fun i => decide (z i = ((ls + 2 : Nat) : Int) + 1)) (ls + 2) = true := by simpa using this
    obtain ⟨i, hi⟩ := (P _).1 this
    have := hZ.rng i; omega
 have hKn : ¬ ∃ i, z i = (K : Int) + 1 := fun hx => by
  have := s4 (by omega)
  rw [(P K).2 hx] at this; cases this
 have hKy : ∀ k, k < K → ∃ i, z i = (k : Int) + 1 := fun k hk => by
  have := s3 k (by omega) hk
  exact (P k).1 (by simpa using this)
 have hK1 : 1 ≤ K := by
  by_cases e : 1 ≤ K
  · exact e
  · have : K = 0 := by omega
    subst this; exact absurd p0 hKn
 obtain ⟨N, rfl⟩ : ∃ N, K = N + 1 := ⟨K - 1, by omega⟩
 refine ⟨N, by omega, fun k hk => ?_, ?_, fun i => ?_⟩
 · obtain ⟨i, hi⟩ := hKy k hk
   have hb := ws_bi hq hZ k
   have hil := lt i k hi
   have := (hb.pW ((i : Int) - 2)).2 ⟨by omega, .inl ⟨by rw [show ((i : Int) - 2 + 2).toNat = i by omega]; exact hi, by omega⟩⟩
   rw [hb.cW]
   exact cntR_pos (by omega) this _ (by omega)
 · have hb := ws_bi hq hZ (N + 1)
   rw [hb.cW]
   refine cntR_none (fun x => ?_) _
   cases hx : (wsL kd sure ls q (N + 1)).hW x with
   | false => rfl
   | true =>
     exfalso
     rcases ((hb.pW x).1 hx).2 with b | ⟨_, i, i1, _⟩
     · exact hKn ⟨_, b.1⟩
     · omega
 · have := hZ.rng i
   by_cases e : z i ≤ ((N + 1 : Nat) : Int)
   · exact e
   · exfalso
     obtain ⟨i', hi'⟩ := hZ.below (z i).toNat i (by omega) (N + 2) (by omega) (by omega)
     exact hKn ⟨i', by omega⟩
theorem rX_spec (z : Nat → Int) (hl : Int → Int → Bool) (a : Int) : ∀ N, (rX z hl a N = -3 ∧ ∀ i, i < N → rC z hl a i = false) ∨ ∃ i : Nat, i < N ∧ rC z hl a i = true ∧ (∀ i', i' < i → rC z hl a i' = false) ∧ rX z hl a N = (i : Int) - 2
 | 0 => .inl ⟨rfl, fun i hi => by omega⟩
 | N + 1 => by
   have e : rX z hl a (N + 1) = if rX z hl a N = -3 ∧ rC z hl a N = true then (N : Int) - 2 else rX z hl a N := rfl
   rw [e]
   rcases rX_spec z hl a N with ⟨h1, h2⟩ | ⟨i, i1, i2, i3, i4⟩
   · by_cases hc : rC z hl a N = true
     · rw [if_pos ⟨h1, hc⟩]
       exact .inr ⟨N, by omega, hc, h2, rfl⟩
     · rw [if_neg (fun x => hc x.2)]
       refine .inl ⟨h1, fun i hi => ?_⟩
       by_cases ei : i = N
       · subst ei; simpa using hc
       · exact h2 i (by omega)
   · rw [if_neg (fun x => by omega)]
     exact .inr ⟨i, by omega, i2, i3, i4⟩
section
variable {w : Int} {ls ld : Nat} {zs zd : Nat → Int} {sure : Bool}
theorem walk_eq (h : chkB w ls ld zs zd = 0) {p q : Int} (hp : -2 ≤ p ∧ p < ls) (hq : -2 ≤ q ∧ q < ls) {N : Nat} (hN : ∀ i, stZ w ls ld zs zd sure q i ≤ ((N + 1 : Nat) : Int)) (h0 : 0 < stZ w ls ld zs zd sure q (p + 2).toNat) :
 ∀ k : Nat, (k : Int) ≤ stZ w ls ld zs zd sure q (p + 2).toNat - 1 →
  wAt (kdT w ls ld zs zd) sure ls (wsL (kdT w ls ld zs zd) sure ls q (N + 1)) p k = rAt (stZ w ls ld zs zd sure q) (hlF w ld zs zd sure) ls p k ∧
  (-2 ≤ rAt (stZ w ls ld zs zd sure q) (hlF w ld zs zd sure) ls p k ∧ rAt (stZ w ls ld zs zd sure q) (hlF w ld zs zd sure) ls p k < ls) ∧
  stZ w ls ld zs zd sure q (rAt (stZ w ls ld zs zd sure q) (hlF w ld zs zd sure) ls p k + 2).toNat = stZ w ls ld zs zd sure q (p + 2).toNat - k
 | 0, _ => ⟨rfl, hp, by show stZ w ls ld zs zd sure q (p + 2).toNat = _; omega⟩
 | k + 1, hk => by
   obtain ⟨i1, i2, i3⟩ := walk_eq h hp hq hN h0 k (by omega)
   have hZ := zi_of (sure := sure) h hq
   have hb := ws_bi hq hZ (N + 1)
   have hs : ∀ x : Int, -2 ≤ x ∧ x < ls → ((wsL (kdT w ls ld zs zd) sure ls q (N + 1)).hS x = true ↔ 0 < stZ w ls ld zs zd sure q (x + 2).toNat) := fun x hx => by
    rw [hb.pS]
    have := hN (x + 2).toNat
    constructor
    · rintro ⟨_, b | ⟨_, i, i1, _⟩⟩ <;> omega
    · intro e; exact ⟨hx, .inl (by omega)⟩
   have hgp : (wsL (kdT w ls ld zs zd) sure ls q (N + 1)).gS p = stZ w ls ld zs zd sure q (p + 2).toNat - 1 := hb.vS p ((hs p hp).2 h0)
   have eW : wAt (kdT w ls ld zs zd) sure ls (wsL (kdT w ls ld zs zd) sure ls q (N + 1)) p (k + 1) = wFs (kdT w ls ld zs zd) sure ls (wsL (kdT w ls ld zs zd) sure ls q (N + 1)) ((wsL (kdT w ls ld zs zd) sure ls q (N + 1)).gS p - ((k + 1 : Nat) : Int)) (wAt (kdT w ls ld zs zd) sure ls (wsL (kdT w ls ld zs zd) sure ls q (N + 1)) p k) := rfl
   have eR : rAt (stZ w ls ld zs zd sure q) (hlF w ld zs zd sure) ls p (k + 1) = rX (stZ w ls ld zs zd sure q) (hlF w ld zs zd sure) (rAt (stZ w ls ld zs zd sure q) (hlF w ld zs zd sure) ls p k) (ls + 2) := rfl
   rw [eW, eR, i1, hgp]
   generalize rAt (stZ w ls ld zs zd sure q) (hlF w ld zs zd sure) ls p k = a at *
   generalize wsL (kdT w ls ld zs zd) sure ls q (N + 1) = S at *
   have same : ∀ j, j < ls + 2 → nrH (kdT w ls ld zs zd) sure a (fun j => !wGo S (stZ w ls ld zs zd sure q (p + 2).toNat - 1 - ((k + 1 : Nat) : Int)) ((j : Int) - 2)) j = rC (stZ w ls ld zs zd sure q) (hlF w ld zs zd sure) a j := fun j hj => by
    rw [Bool.eq_iff_iff]
    unfold nrH rC wGo
    simp only [Bool.and_eq_true, Bool.not_not, decide_eq_true_eq]
    rw [hlK_iff h i2 (by omega), hs _ (by omega)]
    have ejj : ((j : Int) - 2 + 2).toNat = j := by omega
    constructor
    · rintro ⟨⟨a1, a2⟩, a3, a4⟩
      have := hb.vS ((j : Int) - 2) ((hs _ (by omega)).2 a3)
      rw [ejj] at this a3
      exact ⟨fun x => a1 x.symm, by omega, a3, a2⟩
    · rintro ⟨a1, a2, a3, a4⟩
      have h3 : 0 < stZ w ls ld zs zd sure q ((j : Int) - 2 + 2).toNat := by rw [ejj]; exact a3
      have := hb.vS ((j : Int) - 2) ((hs _ (by omega)).2 h3)
      rw [ejj] at this
      exact ⟨⟨fun x => a1 x.symm, a4⟩, h3, by omega⟩
   obtain ⟨_, j, j1, j2, j3⟩ := hZ.prev (a + 2).toNat (by omega)
   have hcj : rC (stZ w ls ld zs zd sure q) (hlF w ld zs zd sure) a j = true := by
    rw [show (((a + 2).toNat : Nat) : Int) - 2 = a by omega] at j2
    obtain ⟨b1, b2⟩ := (hlK_iff h (by omega) i2).1 j2
    rw [hlF_sym h (by omega) i2] at b2
    unfold rC
    simp only [Bool.and_eq_true, decide_eq_true_eq]
    exact ⟨b1, j3, by omega, b2⟩
   rcases rX_spec (stZ w ls ld zs zd sure q) (hlF w ld zs zd sure) a (ls + 2) with ⟨_, c2⟩ | ⟨i, c1, c2, c3, c4⟩
   · rw [c2 j j1] at hcj; cases hcj
   · have hex : exN (nrH (kdT w ls ld zs zd) sure a (fun j => !wGo S (stZ w ls ld zs zd sure q (p + 2).toNat - 1 - ((k + 1 : Nat) : Int)) ((j : Int) - 2))) (ls + 2) = true := (exN_iff _ _).2 ⟨i, c1, by rw [same i c1]; exact c2⟩
     obtain ⟨d1, d2, d3, d4⟩ := fN_spec (nrH (kdT w ls ld zs zd) sure a (fun j => !wGo S (stZ w ls ld zs zd sure q (p + 2).toNat - 1 - ((k + 1 : Nat) : Int)) ((j : Int) - 2))) (ls + 2) 0
     have hfi : fN (nrH (kdT w ls ld zs zd) sure a (fun j => !wGo S (stZ w ls ld zs zd sure q (p + 2).toNat - 1 - ((k + 1 : Nat) : Int)) ((j : Int) - 2))) (ls + 2) 0 = i := by
      generalize fN (nrH (kdT w ls ld zs zd) sure a (fun j => !wGo S (stZ w ls ld zs zd sure q (p + 2).toNat - 1 - ((k + 1 : Nat) : Int)) ((j : Int) - 2))) (ls + 2) 0 = F at *
      by_cases e1 : F < i
      · have := d4 (by omega); rw [same F (by omega), c3 F e1] at this; cases this
      · by_cases e2 : i < F
        · have := d3 i (by omega) e2; rw [same i c1, c2] at this; cases this
        · omega
     refine ⟨?_, by omega, ?_⟩
     · unfold wFs
       rw [if_pos hex, hfi, c4]
     · rw [c4, show ((i : Int) - 2 + 2).toNat = i by omega]
       unfold rC at c2
       simp only [Bool.and_eq_true, decide_eq_true_eq] at c2
       have := c2.2.1
       omega
theorem cw_eq (m : Nat) (z : Nat → Int) : cwE w ls ld zs zd (hlK (kdT w ls ld zs zd) sure) m z = cwE w ls ld zs zd (hlF w ld zs zd sure) m z := by
 unfold cwE
 by_cases hx : chkB w ls ld zs zd ≠ 0
 · rw [if_pos hx, if_pos hx]
 · have h : chkB w ls ld zs zd = 0 := by omega
   rw [if_neg hx, if_neg hx]
   by_cases hm : m < 2 ∨ 12 < m
   · rw [if_pos hm, if_pos hm]
   · rw [if_neg hm, if_neg hm]
     cases hq : exN (cwN ls z) m with
     | true => rfl
     | false =>
       cases hi : exN (cwI z) m with
       | true => rfl
       | false =>
         have hz : ∀ i, i < m → -2 ≤ z i ∧ z i < ls := fun i hi => by
          cases hp : isPl ls (z i) with
          | true => simpa [isPl] using hp
          | false =>
            have := (exN_iff (cwN ls z) m).2 ⟨i, hi, by unfold cwN; rw [hp]; rfl⟩
            rw [this] at hq; cases hq
         have e : exN (cwH (hlK (kdT w ls ld zs zd) sure) z) (m - 1) = exN (cwH (hlF w ld zs zd sure) z) (m - 1) := exN_congr (fun k hk => by
          unfold cwH
          rw [hlK_F h (hz k (by omega)) (hz (k + 1) (by omega)) (fun x => by
           have : exN (cwI z) m = true := (exN_iff _ _).2 ⟨k + 1, by omega, by
            unfold cwI
            exact (exN_iff _ _).2 ⟨k, by omega, by unfold cwQ; exact decide_eq_true x.symm⟩⟩
           rw [hi] at this; cases this)])
         rw [e]
end
end Go.Eng
end
section
namespace Go.Eng
open Go.Proofs
set_option linter.unusedVariables false
set_option linter.unusedSimpArgs false
set_option maxRecDepth 100000
def gW4 (B A : AV) (P Q e : Int) (sure : Bool) : List AV → Option (Prop × AV)
 | [b, .int .i64 p, .int .i64 q, .bool s] => some (b = B ∧ p = P ∧ q = Q ∧ s = sure, .tup [A, .int .i64 e])
 | _ => none
def gW3 (B S : AV) (e : Int) (sure : Bool) : List AV → Option (Prop × AV)
 | [b, x, .bool s] => some (b = B ∧ x = S ∧ s = sure, .int .i64 e)
 | _ => none
def gWT (A C : AV) : List AV → Option (Prop × AV)
 | [a, c] => some (a = A ∧ c = C, .bool true)
 | _ => none
theorem u6n (n : Nat) (w : Int) (ls ld lm : Nat) (zs zd zm : Nat → Int) (H : Heap) (p q e1 e3 : Int) (sure : Bool) : bodyT Try.prog (cd (n+19)) 100000 6 Try.f6 (Kt.kt 6) (il (ctG (ctG (ctG (ctG (ctG (ctG noCt 16 g16) 29 (gW4 (bathA w ls zs ld zd) .nils p q e1 sure)) 30 (gW4 (bathA w ls zs ld zd) .nils p q e1 sure)) 31 (gWT .nils .nils)) 32 (gW3 (bathA w ls zs ld zd) (sl1 lm zm false) e3 sure)) 33 (gW3 (bathA w ls zs ld zd) (sl1 lm zm false) e3 sure)) (n+18) 1) noBT noRT [(bathA w ls zs ld zd, none), (.int .i64 p, none), (.int .i64 q, none), (sl1 lm zm false, none), (.bool sure, none)] H =
 Tr.ite (ltI (Int.ofNat 15) (Int.ofNat ls)) (Tr.reqP True (Tr.ok ((AV.bool true, none), H))) (Tr.ite (ltI (Int.ofNat 50) (Int.ofNat ld)) (Tr.reqP True (Tr.ok ((AV.bool true, none), H))) (Tr.ite (ltI (Int.ofNat 20) (Int.ofNat lm)) (Tr.reqP True (Tr.ok ((AV.bool true, none), H))) (Tr.reqP (bathA w ls zs ld zd = bathA w ls zs ld zd ∧ p = p ∧ q = q ∧ sure = sure) (Tr.reqP (bathA w ls zs ld zd = bathA w ls zs ld zd ∧ p = p ∧ q = q ∧ sure = sure) (Tr.reqP (AV.nils = AV.nils ∧ AV.nils = AV.nils) (Tr.ite true (Tr.ite (eqI e1 e1) (Tr.reqP (bathA w ls zs ld zd = bathA w ls zs ld zd ∧ AV.slcT none (Row.M [Seg.arr .i64 zm lm]) 1 lm false = AV.slcT none (Row.M [Seg.arr .i64 zm lm]) 1 lm false ∧ sure = sure) (Tr.reqP (bathA w ls zs ld zd = bathA w ls zs ld zd ∧ AV.slcT none (Row.M [Seg.arr .i64 zm lm]) 1 lm false = AV.slcT none (Row.M [Seg.arr .i64 zm lm]) 1 lm false ∧ sure = sure) (Tr.ite (eqI e3 e3) (Tr.reqP True (Tr.ok ((AV.bool true, none), H))) (Tr.ok ((AV.bool false, some 1), H))))) (Tr.ok ((AV.bool false, some 1), H))) (Tr.ok ((AV.bool false, some 1), H)))))))) := by kernel_rfl
theorem u6l (n : Nat) (w : Int) (ls ld lm : Nat) (zs zd zm : Nat → Int) (H : Heap) (p q e1 e3 : Int) (sure : Bool) (m : Nat) (y z : Nat → Int) : bodyT Try.prog (cd (n+19)) 100000 6 Try.f6 (Kt.kt 6) (il (ctG (ctG (ctG (ctG (ctG (ctG noCt 16 g16) 29 (gW4 (bathA w ls zs ld zd) (sl1 m y true) p q e1 sure)) 30 (gW4 (bathA w ls zs ld zd) (sl1 m z false) p q e1 sure)) 31 (gWT (sl1 m y true) (sl1 m z false))) 32 (gW3 (bathA w ls zs ld zd) (sl1 lm zm false) e3 sure)) 33 (gW3 (bathA w ls zs ld zd) (sl1 lm zm false) e3 sure)) (n+18) 1) noBT noRT [(bathA w ls zs ld zd, none), (.int .i64 p, none), (.int .i64 q, none), (sl1 lm zm false, none), (.bool sure, none)] H =
 Tr.ite (ltI (Int.ofNat 15) (Int.ofNat ls)) (Tr.reqP True (Tr.ok ((AV.bool true, none), H))) (Tr.ite (ltI (Int.ofNat 50) (Int.ofNat ld)) (Tr.reqP True (Tr.ok ((AV.bool true, none), H))) (Tr.ite (ltI (Int.ofNat 20) (Int.ofNat lm)) (Tr.reqP True (Tr.ok ((AV.bool true, none), H))) (Tr.reqP (bathA w ls zs ld zd = bathA w ls zs ld zd ∧ p = p ∧ q = q ∧ sure = sure) (Tr.reqP (bathA w ls zs ld zd = bathA w ls zs ld zd ∧ p = p ∧ q = q ∧ sure = sure) (Tr.reqP (AV.slcT none (Row.M [Seg.arr .i64 y m]) 1 m true = AV.slcT none (Row.M [Seg.arr .i64 y m]) 1 m true ∧ AV.slcT none (Row.M [Seg.arr .i64 z m]) 1 m false = AV.slcT none (Row.M [Seg.arr .i64 z m]) 1 m false) (Tr.ite true (Tr.ite (eqI e1 e1) (Tr.reqP (bathA w ls zs ld zd = bathA w ls zs ld zd ∧ AV.slcT none (Row.M [Seg.arr .i64 zm lm]) 1 lm false = AV.slcT none (Row.M [Seg.arr .i64 zm lm]) 1 lm false ∧ sure = sure) (Tr.reqP (bathA w ls zs ld zd = bathA w ls zs ld zd ∧ AV.slcT none (Row.M [Seg.arr .i64 zm lm]) 1 lm false = AV.slcT none (Row.M [Seg.arr .i64 zm lm]) 1 lm false ∧ sure = sure) (Tr.ite (eqI e3 e3) (Tr.reqP True (Tr.ok ((AV.bool true, none), H))) (Tr.ok ((AV.bool false, some 1), H))))) (Tr.ok ((AV.bool false, some 1), H))) (Tr.ok ((AV.bool false, some 1), H)))))))) := by kernel_rfl
theorem wLs_congr {A B : Nat → Int} : ∀ k : Nat, (∀ i, i ≤ k → A i = B i) → wLs A k = wLs B k
 | 0, h => by show [A 0] = [B 0]; rw [h 0 (by omega)]
 | k + 1, h => by
   show wLs A k ++ [A (k + 1)] = wLs B k ++ [B (k + 1)]
   rw [wLs_congr k (fun i hi => h i (by omega)), h (k + 1) (by omega)]
section
variable (n : Nat) (w : Int) (ls ld lm : Nat) (zs zd zm : Nat → Int) (H : Heap) (p q : Int) (sure : Bool)
theorem way_cases : ∃ e A1 A2, (∀ k H, cd (k + 16) (.fn 29) [bathA w ls zs ld zd, .int .i64 p, .int .i64 q, .bool sure] H = some (.tup [A1, .int .i64 e], H)) ∧ (∀ k H, cd (k + 9) (.fn 30) [bathA w ls zs ld zd, .int .i64 p, .int .i64 q, .bool sure] H = some (.tup [A2, .int .i64 e], H)) ∧
 ((A1 = .nils ∧ A2 = .nils) ∨ ∃ m y z, m ≤ 1000 ∧ (∀ j, j < m → y j = z j) ∧ A1 = sl1 m y true ∧ A2 = sl1 m z false) := by
 by_cases he : plE w ls ld zs zd p q = 0
 · obtain ⟨h, h1, h2, h3⟩ := plE_zero he
   simp only [isPl, Bool.and_eq_true, decide_eq_true_eq] at h1 h2
   have hc := chk_drops h
   have hZ := zi_of (sure := sure) h h2
   obtain ⟨N, n1, n2, n3, n4⟩ := ws_end hc.1 h2 hZ
   have hb := ws_bi h2 hZ (N + 1)
   have hs : (wsL (kdT w ls ld zs zd) sure ls q (N + 1)).hS p = true ↔ 0 < stZ w ls ld zs zd sure q (p + 2).toNat := by
    rw [hb.pS]
    have := n4 (p + 2).toNat
    constructor
    · rintro ⟨_, b | ⟨_, i, i1, _⟩⟩ <;> omega
    · intro e; exact ⟨h1, .inl (by omega)⟩
   by_cases h0 : stZ w ls ld zs zd sure q (p + 2).toNat = 0
   · have hp : (wsL (kdT w ls ld zs zd) sure ls q (N + 1)).hS p = false := by
      cases hx : (wsL (kdT w ls ld zs zd) sure ls q (N + 1)).hS p with
      | false => rfl
      | true => have := hs.1 hx; omega
     refine ⟨5, .nils, .nils, fun k H => c29n k w ls ld zs zd H p q sure he (fun k' H => ?_), fun k H => c30n k w ls ld zs zd H p q sure he h0, .inl ⟨rfl, rfl⟩⟩
     have := c80n (k + k') w ls ld zs zd (szs zd ld) (kdT w ls ld zs zd) H p q sure hc.1 N n1 n2 n3 hp
     rw [show k + k' + 15 = k + 15 + k' by omega] at this
     exact this
   · have hr := hZ.rng (p + 2).toNat
     have hpos : 0 < stZ w ls ld zs zd sure q (p + 2).toNat := by omega
     have hne1 : stZ w ls ld zs zd sure q (p + 2).toNat ≠ 1 := fun e => by have := (hZ.one _).1 e; omega
     have hW := walk_eq (sure := sure) h h1 h2 n4 hpos
     have hgp := hb.vS p (hs.2 hpos)
     obtain ⟨M, hM⟩ : ∃ M : Nat, stZ w ls ld zs zd sure q (p + 2).toNat = (M : Int) + 2 := ⟨(stZ w ls ld zs zd sure q (p + 2).toNat - 2).toNat, by omega⟩
     have hA : ∀ k, k < M + 1 → -2 ≤ rAt (stZ w ls ld zs zd sure q) (hlF w ld zs zd sure) ls p k ∧ rAt (stZ w ls ld zs zd sure q) (hlF w ld zs zd sure) ls p k < ls ∧ rAt (stZ w ls ld zs zd sure q) (hlF w ld zs zd sure) ls p k ≠ q := fun k hk => by
      obtain ⟨_, i2, i3⟩ := hW k (by omega)
      refine ⟨i2.1, i2.2, fun e => ?_⟩
      rw [e, (hZ.one _).2 rfl] at i3; omega
     have hE : rAt (stZ w ls ld zs zd sure q) (hlF w ld zs zd sure) ls p (M + 1) = q := by
      obtain ⟨_, i2, i3⟩ := hW (M + 1) (by omega)
      have := (hZ.one (rAt (stZ w ls ld zs zd sure q) (hlF w ld zs zd sure) ls p (M + 1) + 2).toNat).1 (by omega)
      omega
     have hL : wLs (wAt (kdT w ls ld zs zd) sure ls (wsL (kdT w ls ld zs zd) sure ls q (N + 1)) p) (M + 1) = wLs (rAt (stZ w ls ld zs zd sure q) (hlF w ld zs zd sure) ls p) (M + 1) := wLs_congr (M + 1) (fun i hi => (hW i (by omega)).1)
     have h80 : ∀ k H, cd (k + 15) (.fn 80) [tabV w ls ld zs zd (szs zd ld) (kdT w ls ld zs zd), .int .i64 p, .int .i64 q, .bool sure] H = some (sl1 (M + 2) (lstO (wLs (rAt (stZ w ls ld zs zd sure q) (hlF w ld zs zd sure) ls p) (M + 1))) false, H) := fun k H => by
      have := c80y k w ls ld zs zd (szs zd ld) (kdT w ls ld zs zd) H p q sure hc.1 N n1 n2 n3 (hs.2 hpos) M (by omega) ⟨by omega, by omega⟩ (fun k hk => by rw [(hW k (by omega)).1]; exact hA k hk) (by rw [(hW (M + 1) (by omega)).1]; exact hE)
      rw [hL] at this
      exact this
     obtain ⟨y, y1, y2⟩ := c29z w ls ld zs zd p q sure he (M + 2) ⟨by omega, by omega⟩ (lstO (wLs (rAt (stZ w ls ld zs zd sure q) (hlF w ld zs zd sure) ls p) (M + 1))) h80
     refine ⟨0, sl1 (M + 2) y true, _, y2, fun k H => c30y k w ls ld zs zd H p q sure he (fun j => by have := hZ.rng j; omega) h0 M (by omega) hA hE, .inr ⟨M + 2, y, _, by omega, y1, rfl, rfl⟩⟩
 · exact ⟨_, _, _, fun k H => c29x k w ls ld zs zd H p q sure he, fun k H => c30x k w ls ld zs zd H p q sure he, .inl ⟨rfl, rfl⟩⟩
theorem ctW4 {f k : Nat} {A : AV} {e : Int} {t : Ctr} (ht : t.Ok (cd k)) (h : ∀ H, cd k (.fn f) [bathA w ls zs ld zd, .int .i64 p, .int .i64 q, .bool sure] H = some (.tup [A, .int .i64 e], H)) : (ctG t f (gW4 (bathA w ls zs ld zd) A p q e sure)).Ok (cd k) := by
 refine ctG_ok ht (fun args x v hg hp H => ?_)
 unfold gW4 at hg
 split at hg
 · simp only [Option.some.injEq, Prod.mk.injEq] at hg
   obtain ⟨rfl, rfl⟩ := hg
   obtain ⟨rfl, rfl, rfl, rfl⟩ := hp
   exact h H
 · cases hg
theorem ctW3 {f k : Nat} {e : Int} {t : Ctr} (ht : t.Ok (cd k)) (h : ∀ H, cd k (.fn f) [bathA w ls zs ld zd, sl1 lm zm false, .bool sure] H = some (.int .i64 e, H)) : (ctG t f (gW3 (bathA w ls zs ld zd) (sl1 lm zm false) e sure)).Ok (cd k) := by
 refine ctG_ok ht (fun args x v hg hp H => ?_)
 unfold gW3 at hg
 split at hg
 · simp only [Option.some.injEq, Prod.mk.injEq] at hg
   obtain ⟨rfl, rfl⟩ := hg
   obtain ⟨rfl, rfl, rfl⟩ := hp
   exact h H
 · cases hg
theorem ctWT {f k : Nat} {A C : AV} {t : Ctr} (ht : t.Ok (cd k)) (h : ∀ H, cd k (.fn f) [A, C] H = some (.bool true, H)) : (ctG t f (gWT A C)).Ok (cd k) := by
 refine ctG_ok ht (fun args x v hg hp H => ?_)
 unfold gWT at hg
 split at hg
 · simp only [Option.some.injEq, Prod.mk.injEq] at hg
   obtain ⟨rfl, rfl⟩ := hg
   obtain ⟨rfl, rfl⟩ := hp
   exact h H
 · cases hg
theorem c6 : cd (n + 20) (.fn 6) [bathA w ls zs ld zd, .int .i64 p, .int .i64 q, sl1 lm zm false, .bool sure] H = some (.bool true, H) := by
 obtain ⟨e1, A1, A2, h1, h2, hA⟩ := way_cases w ls ld zs zd p q sure
 have h5 : ∀ n H, cd (n + 1) (.fn 31) [A1, A2] H = some (.bool true, H) := fun n H => by
  rcases hA with ⟨rfl, rfl⟩ | ⟨m, y, z, hm, hy, rfl, rfl⟩
  · exact c31n n H
  · exact c31 n H m y z true false hm hy
 have hct : ∀ k, (ctG (ctG (ctG (ctG (ctG (ctG noCt 16 g16) 29 (gW4 (bathA w ls zs ld zd) A1 p q e1 sure)) 30 (gW4 (bathA w ls zs ld zd) A2 p q e1 sure)) 31 (gWT A1 A2)) 32 (gW3 (bathA w ls zs ld zd) (sl1 lm zm false) (cwE w ls ld zs zd (hlF w ld zs zd sure) lm zm) sure)) 33 (gW3 (bathA w ls zs ld zd) (sl1 lm zm false) (cwE w ls ld zs zd (hlF w ld zs zd sure) lm zm) sure)).Ok (cd (n + 18 + k)) := fun k => by
  refine ctW3 _ _ _ _ _ _ _ _ (ctW3 _ _ _ _ _ _ _ _ (ctWT (ctW4 _ _ _ _ _ _ _ _ (ctW4 _ _ _ _ _ _ _ _ ?_ (fun H => ?_)) (fun H => ?_)) (fun H => ?_)) (fun H => ?_)) (fun H => ?_)
  · rw [show n + 18 + k = n + 17 + k + 1 by omega]; exact ctW (noCt_ok _)
  · rw [show n + 18 + k = n + 2 + k + 16 by omega]; exact h1 _ H
  · rw [show n + 18 + k = n + 9 + k + 9 by omega]; exact h2 _ H
  · rw [show n + 18 + k = n + 17 + k + 1 by omega]; exact h5 _ H
  · rw [show n + 18 + k = n + 2 + k + 16 by omega, ← cw_eq]; exact c32 _ w ls ld lm zs zd zm H sure
  · rw [show n + 18 + k = n + 9 + k + 9 by omega]; exact c33 _ w ls ld lm zs zd zm H sure
 rcases hA with ⟨rfl, rfl⟩ | ⟨m, y, z, hm, hy, rfl, rfl⟩
 · refine fn_all (n := n + 19) Try.func6 rfl rfl rfl (u6n n w ls ld lm zs zd zm H p q e1 (cwE w ls ld zs zd (hlF w ld zs zd sure) lm zm) sure) (il_ok _ (n + 18) 1 hct) (noBT_ok _ _) (noRT_ok _ _) ?_
   repeat' first | (refine Tr.all_ite (fun hc => ?_) (fun hc => ?_) <;> (try simp (disch := omega) only [nV, mulO_eq, Int.cast_ofNat_Int, eq_self, and_self, and_true, true_and] at hc) <;> (try (exfalso; omega))) | (refine Tr.all_req ?_ ?_; · ((try simp (disch := omega) only [nV, mulO_eq, Int.cast_ofNat_Int, eq_self, and_self, and_true, true_and]); try omega)) | (refine Tr.all_reqP ?_ ?_; · first | exact trivial | rfl | exact ⟨rfl, rfl⟩ | exact ⟨rfl, rfl, rfl⟩ | (simp (disch := omega) only [nV, mulO_eq, Int.cast_ofNat_Int, eq_self, and_self, and_true, true_and]; done) | ((try simp (disch := omega) only [nV, mulO_eq, Int.cast_ofNat_Int, eq_self, and_self, and_true, true_and]); omega)) | fail
   all_goals exact Tr.all_ok ⟨rfl, rfl⟩
 · refine fn_all (n := n + 19) Try.func6 rfl rfl rfl (u6l n w ls ld lm zs zd zm H p q e1 (cwE w ls ld zs zd (hlF w ld zs zd sure) lm zm) sure m y z) (il_ok _ (n + 18) 1 hct) (noBT_ok _ _) (noRT_ok _ _) ?_
   repeat' first | (refine Tr.all_ite (fun hc => ?_) (fun hc => ?_) <;> (try simp (disch := omega) only [nV, mulO_eq, Int.cast_ofNat_Int, eq_self, and_self, and_true, true_and] at hc) <;> (try (exfalso; omega))) | (refine Tr.all_req ?_ ?_; · ((try simp (disch := omega) only [nV, mulO_eq, Int.cast_ofNat_Int, eq_self, and_self, and_true, true_and]); try omega)) | (refine Tr.all_reqP ?_ ?_; · first | exact trivial | rfl | exact ⟨rfl, rfl⟩ | exact ⟨rfl, rfl, rfl⟩ | (simp (disch := omega) only [nV, mulO_eq, Int.cast_ofNat_Int, eq_self, and_self, and_true, true_and]; done) | ((try simp (disch := omega) only [nV, mulO_eq, Int.cast_ofNat_Int, eq_self, and_self, and_true, true_and]); omega)) | fail
   all_goals exact Tr.all_ok ⟨rfl, rfl⟩
end
end Go.Eng
end
section
namespace Go.Eng
open Go.Proofs Go.ChangeShapes
set_option linter.unusedVariables false
set_option maxRecDepth 100000

theorem toM {p : Pst} {M : Mu} {k : IntKind} {z : Nat → Int} {N sz len : Nat} {full : Bool} {v : Value} (h : VRel p M (.slcT none (.F (fun j => .int k (z j)) N) sz len full) v) : VRel p M (.slcT none (.M [.arr k z N]) sz len full) v := by
 cases h with
 | slcN => exact .slcN
 | slcT vs h0 h1 hv hl hf hx =>
   have e : ∀ j, j < (Row.M [Seg.arr k z N]).len → j < N := fun j hj => by simpa [Row.len, lenM, segLen] using hj
   refine .slcT vs (fun j hj => h0 j (e j hj)) (fun j hj => h1 j (e j hj)) (fun j hj => ?_) hl hf hx
   have := hv j (e j hj)
   simp only [Row.get, getM, if_pos (e j hj)] at this ⊢
   exact this.anyInt _ _
theorem flat2 : FlatI Try.prog 2 1 := flat_int Try.underlying2
theorem flat3 : FlatI Try.prog 3 1 := flat_int Try.underlying3
theorem flat74 : FlatI Try.prog 74 2 := flat_struct2 Try.underlying74 flat2 flat2 rfl rfl (by kernel_rfl) (by kernel_rfl) (by kernel_rfl)
theorem flat29 : FlatI Try.prog 29 2 := flat_struct2 Try.underlying29 flat2 flat2 rfl rfl (by kernel_rfl) (by kernel_rfl) (by kernel_rfl)
theorem flat62 : FlatI Try.prog 62 3 := flat_struct2 Try.underlying62 flat3 flat29 rfl rfl (by kernel_rfl) (by kernel_rfl) (by kernel_rfl)

theorem slice_spot {P : Program} {w : World} {r : Reach} {base : Nat} {t e : TypeId} {v : Value} (ht : P.underlying t = some (.slice e)) (h : Cell.okWide P w r base t v) : ∀ a l c, v = .slice (some a) l c → a.spot = none := by
 rintro a l c rfl
 simp only [Cell.okWide, ht, Cell.ok] at h
 exact h.2.2.2.1

theorem slice_arg {t e n : Nat} (ht : Try.prog.underlying t = some (.slice e)) (he : FlatI Try.prog e n) (hn : 0 < n) (hc : Try.prog.cellsOf e = n) {H : Type} {enc : TypeId × Value → H} {w : World} {r : Reach} {b0 base : Nat} {sp : Nat → Bool} {held : Bool} {fuel : Nat} {v : Value} {x : DataW H × List MemPlace}
 (hv : Cell.okWide Try.prog w r b0 t v) (h : DataW.trod enc Try.prog w base sp held fuel t [v] = some x) : ∃ len z, VRel (Pw w) Mu.no (slA n len z) v ∧ v.oneCell' = true := by
 rcases slice_flat ht he hn hc (slice_spot ht hv) h with rfl | ⟨zs, len, h1, h2⟩
 · exact ⟨0, fun _ => 0, .slcN, rfl⟩
 · refine ⟨len, zs, ?_, ?_⟩
   · unfold slA
     rw [mulS_eq]
     exact toM h1
   · cases h1 <;> rfl

theorem bath_arg {H : Type} {enc : TypeId × Value → H} {w : World} {r : Reach} {b0 base : Nat} {sp : Nat → Bool} {held : Bool} {v : Value} {d : DataW H} {ps : List MemPlace} (hv : Value.okWide Try.prog w r b0 25 v) (h : DataW.Trod enc Try.prog w base sp held 25 v d ps) :
 ∃ (wd : Int) (ls : Nat) (zs : Nat → Int) (ld : Nat) (zd : Nat → Int), VRel (Pw w) Mu.no (bathA wd ls zs ld zd) v := by
 have hts : Try.prog.cellTypes Try.prog.depth 25 = some [2, 22, 23] := by kernel_rfl
 have hc25 : Try.prog.cellsOf 25 = 3 := by kernel_rfl
 have hc2 : Try.prog.cellsOf 2 = 1 := by kernel_rfl
 have hc22 : Try.prog.cellsOf 22 = 1 := by kernel_rfl
 have hc23 : Try.prog.cellsOf 23 = 1 := by kernel_rfl
 have hc74 : Try.prog.cellsOf 74 = 2 := by kernel_rfl
 have hc62 : Try.prog.cellsOf 62 = 3 := by kernel_rfl
 simp only [Value.okWide, Try.underlying25] at hv
 obtain ⟨cs, rfl, hsz, ts, ht, _, hcell⟩ := hv
 rw [hts] at ht
 obtain rfl := Option.some.inj ht
 rw [hc25] at hsz
 obtain ⟨fuel, hf⟩ := h
 obtain ⟨xs, n, _, _, _, hxl, hfield⟩ := DataW.trod_struct Try.underlying25 hf
 have e3 : ∃ c0 c1 c2, cs = #[c0, c1, c2] := by
  refine ⟨cs[0], cs[1], cs[2], ?_⟩
  apply Array.ext
  · simpa using hsz
  · intro i h1 h2
    simp at h2
    match i, h2 with
    | 0, _ => rfl
    | 1, _ => rfl
    | 2, _ => rfl
 obtain ⟨c0, c1, c2, rfl⟩ := e3
 have some_of : ∀ i, i < 3 → ∃ y, xs[i]? = some y := fun i hi => by
  have : i < xs.length := by rw [hxl]; simpa using hi
  exact ⟨xs[i], List.getElem?_eq_getElem this⟩
 obtain ⟨y0, hy0⟩ := some_of 0 (by omega)
 obtain ⟨y1, hy1⟩ := some_of 1 (by omega)
 obtain ⟨y2, hy2⟩ := some_of 2 (by omega)
 have f0 := hfield 0 _ rfl
 have f1 := hfield 1 _ rfl
 have f2 := hfield 2 _ rfl
 rw [hy0] at f0
 rw [hy1] at f1
 rw [hy2] at f2
 simp only [Value.cells] at f0 f1 f2
 have g0 : DataW.trod enc Try.prog w base sp held n 2 [c0] = some y0 := by simpa [hc2] using f0
 have g1 : DataW.trod enc Try.prog w base sp held n 22 [c1] = some y1 := by simpa [hc22] using f1
 have g2 : DataW.trod enc Try.prog w base sp held n 23 [c2] = some y2 := by simpa [hc23] using f2
 obtain ⟨wd, e0, _, hw⟩ := DataW.trod_int Try.underlying2 g0
 simp only [List.cons.injEq, and_true] at e0
 subst e0
 obtain ⟨u1, hu1, k1⟩ := hcell 1 c1 rfl
 obtain ⟨u2, hu2, k2⟩ := hcell 2 c2 rfl
 simp at hu1 hu2
 subst hu1; subst hu2
 obtain ⟨ls, zs, r1, o1⟩ := slice_arg Try.underlying22 flat74 (by omega) hc74 k1 g1
 obtain ⟨ld, zd, r2, o2⟩ := slice_arg Try.underlying23 flat62 (by omega) hc62 k2 g2
 refine ⟨wd, ls, zs, ld, zd, ?_⟩
 refine .agg rfl (fun j hj => ?_) (fun j hj => ?_)
 · have hj' : j < 3 := hj
   match j, hj' with
   | 0, _ => rfl
   | 1, _ => exact o1
   | 2, _ => exact o2
 · have hj' : j < 3 := hj
   match j, hj' with
   | 0, _ => exact .int _ _
   | 1, _ => exact r1
   | 2, _ => exact r2

end Go.Eng
end
section
namespace Go.Proofs.Ytjmjkhpfipglcaa.Known
open Go.Eng Go.Proofs
set_option maxRecDepth 100000
theorem named : Named Try.prog := by
 have h : (Try.prog.funcs.toList.all fun fn => fn.body.isNone || !(fn.name == "runtime.NumGoroutine")) = true := by kernel_rfl
 intro f fn hf hb
 have := List.all_eq_true.1 h fn (by simpa using Array.mem_of_getElem? hf)
 rw [hb] at this
 simpa using this
theorem mixed : Try.prog.follows .mixedOrders = true := by kernel_rfl
def bathB : AV := .agg (.G [.int .i64 100, .slcT none (.I .i64 [20, 50, 50, 50, 80, 50]) 2 3 true, .slcT none (.I .i64 [0, 100, 144, 1, 225, 400, 0, 200, 300, 2, 100, 100]) 3 4 true])
def bathC : AV := .agg (.G [.int .i64 100, .slcT none (.I .i64 [20, 50, 50, 50, 80, 50]) 2 3 true, .slcT none (.I .i64 [0, 100, 144, 2, 100, 100]) 3 2 true])
def E0 : Ora := ⟨77, [bathB], .ptrT (some 0) (.G [.int .i64 100, .slcT none (.I .i64 [20, 50, 50, 50, 80, 50]) 2 3 true, .slcT none (.I .i64 [0, 100, 144, 1, 225, 400, 0, 200, 300, 2, 100, 100]) 3 4 true, .slcT none (.I .i64 [300, 444, 225, 400, 100, 100]) 2 3 true, .int .i64 0, .int .i64 0, .int .i64 0, .int .i64 0, .int .i64 0, .int .i64 0, .int .i64 0, .int .i64 0, .int .i64 0, .int .i64 0, .int .i64 0, .int .i64 0, .int .i64 0, .int .i64 0, .int .i64 1, .int .i64 0, .int .i64 0, .int .i64 0, .int .i64 0, .int .i64 0, .int .i64 0, .int .i64 0, .int .i64 0, .int .i64 0, .int .i64 0, .int .i64 1, .int .i64 0, .int .i64 2, .int .i64 0, .int .i64 0, .int .i64 0, .int .i64 0, .int .i64 0, .int .i64 0, .int .i64 0, .int .i64 0, .int .i64 0, .int .i64 0, .int .i64 2, .int .i64 0, .int .i64 1, .int .i64 0, .int .i64 0, .int .i64 0, .int .i64 0, .int .i64 0, .int .i64 0, .int .i64 0, .int .i64 0, .int .i64 0, .int .i64 0, .int .i64 1, .int .i64 0, .int .i64 0, .int .i64 0, .int .i64 0, .int .i64 0, .int .i64 0, .int .i64 0, .int .i64 0, .int .i64 0, .int .i64 0, .int .i64 0, .int .i64 0, .int .i64 0, .int .i64 0, .int .i64 0, .int .i64 0, .int .i64 0, .int .i64 0, .int .i64 0, .int .i64 0, .int .i64 0, .int .i64 0, .int .i64 0, .int .i64 0, .int .i64 0, .int .i64 0, .int .i64 0, .int .i64 0, .int .i64 0, .int .i64 0, .int .i64 0, .int .i64 0, .int .i64 0, .int .i64 0, .int .i64 0, .int .i64 0, .int .i64 0, .int .i64 0, .int .i64 0, .int .i64 0, .int .i64 0, .int .i64 0, .int .i64 0, .int .i64 0, .int .i64 0, .int .i64 0, .int .i64 0, .int .i64 0, .int .i64 0, .int .i64 0, .int .i64 0, .int .i64 0, .int .i64 0, .int .i64 0, .int .i64 0, .int .i64 0, .int .i64 0, .int .i64 0, .int .i64 0, .int .i64 0, .int .i64 0, .int .i64 0, .int .i64 0, .int .i64 0, .int .i64 0, .int .i64 0, .int .i64 0, .int .i64 0, .int .i64 0, .int .i64 0, .int .i64 0, .int .i64 0, .int .i64 0, .int .i64 0, .int .i64 0, .int .i64 0, .int .i64 0, .int .i64 0, .int .i64 0, .int .i64 0, .int .i64 0, .int .i64 0, .int .i64 0, .int .i64 0, .int .i64 0, .int .i64 0, .int .i64 0, .int .i64 0, .int .i64 0, .int .i64 0, .int .i64 0, .int .i64 0]) 0⟩
def E1 : Ora := ⟨77, [bathC], .ptrT (some 0) (.G [.int .i64 100, .slcT none (.I .i64 [20, 50, 50, 50, 80, 50]) 2 3 true, .slcT none (.I .i64 [0, 100, 144, 2, 100, 100]) 3 2 true, .slcT none (.I .i64 [100, 144, 0, 0, 100, 100]) 2 3 true, .int .i64 0, .int .i64 0, .int .i64 0, .int .i64 0, .int .i64 0, .int .i64 0, .int .i64 0, .int .i64 0, .int .i64 0, .int .i64 0, .int .i64 0, .int .i64 0, .int .i64 0, .int .i64 0, .int .i64 0, .int .i64 0, .int .i64 0, .int .i64 0, .int .i64 0, .int .i64 0, .int .i64 0, .int .i64 0, .int .i64 0, .int .i64 0, .int .i64 0, .int .i64 0, .int .i64 0, .int .i64 0, .int .i64 0, .int .i64 0, .int .i64 0, .int .i64 0, .int .i64 0, .int .i64 0, .int .i64 0, .int .i64 0, .int .i64 0, .int .i64 0, .int .i64 0, .int .i64 0, .int .i64 0, .int .i64 0, .int .i64 0, .int .i64 0, .int .i64 0, .int .i64 0, .int .i64 0, .int .i64 0, .int .i64 0, .int .i64 0, .int .i64 0, .int .i64 0, .int .i64 0, .int .i64 0, .int .i64 0, .int .i64 0, .int .i64 0, .int .i64 0, .int .i64 0, .int .i64 0, .int .i64 0, .int .i64 0, .int .i64 0, .int .i64 0, .int .i64 0, .int .i64 0, .int .i64 0, .int .i64 0, .int .i64 0, .int .i64 0, .int .i64 0, .int .i64 0, .int .i64 0, .int .i64 0, .int .i64 0, .int .i64 0, .int .i64 0, .int .i64 0, .int .i64 0, .int .i64 0, .int .i64 0, .int .i64 0, .int .i64 0, .int .i64 0, .int .i64 0, .int .i64 0, .int .i64 0, .int .i64 0, .int .i64 0, .int .i64 0, .int .i64 0, .int .i64 0, .int .i64 0, .int .i64 0, .int .i64 0, .int .i64 0, .int .i64 0, .int .i64 0, .int .i64 0, .int .i64 0, .int .i64 0, .int .i64 0, .int .i64 0, .int .i64 0, .int .i64 0, .int .i64 0, .int .i64 0, .int .i64 0, .int .i64 0, .int .i64 0, .int .i64 0, .int .i64 0, .int .i64 0, .int .i64 0, .int .i64 0, .int .i64 0, .int .i64 0, .int .i64 0, .int .i64 0, .int .i64 0, .int .i64 0, .int .i64 0, .int .i64 0, .int .i64 0, .int .i64 0, .int .i64 0, .int .i64 0, .int .i64 0, .int .i64 0, .int .i64 0, .int .i64 0, .int .i64 0, .int .i64 0, .int .i64 0, .int .i64 0, .int .i64 0, .int .i64 0, .int .i64 0, .int .i64 0, .int .i64 0, .int .i64 0, .int .i64 0, .int .i64 0, .int .i64 0]) 0⟩
theorem none_ok : ∀ e ∈ ([] : List Ora), OneOk Try.prog e := fun e h => by cases h
theorem ok0 : OneOk Try.prog E0 := one_of named mixed none_ok Kt.kt 100000 40 (H' := [⟨true, []⟩]) (by kernel_rfl) (by kernel_rfl)
theorem ok1 : OneOk Try.prog E1 := one_of named mixed none_ok Kt.kt 100000 40 (H' := [⟨true, []⟩]) (by kernel_rfl) (by kernel_rfl)
def tab1 : List Ora := [E0, E1]
theorem tab1_ok : ∀ e ∈ tab1, OneOk Try.prog e := by
 intro e h
 simp only [tab1, List.mem_cons, List.not_mem_nil, or_false] at h
 rcases h with rfl | rfl
 · exact ok0
 · exact ok1
end Go.Proofs.Ytjmjkhpfipglcaa.Known
end
section
namespace Go.Proofs.Ytjmjkhpfipglcaa.Known
open Go.Eng Go.Proofs
set_option maxRecDepth 100000
def E2 : Ora := ⟨17, [bathB, .int .i64 0], .tup [.agg (.I .i64 [300, 444]), .int .i64 0]⟩
theorem ok2 : OneOk Try.prog E2 := one_of named mixed tab1_ok Kt.kt 100000 40 (H' := [⟨true, []⟩]) (by kernel_rfl) (by kernel_rfl)
def E3 : Ora := ⟨21, [bathB, .int .i64 1, .int .i64 2], .tup [.int .i64 1, .int .i64 0]⟩
theorem ok3 : OneOk Try.prog E3 := one_of named mixed tab1_ok Kt.kt 100000 40 (H' := [⟨true, []⟩]) (by kernel_rfl) (by kernel_rfl)
def E4 : Ora := ⟨23, [bathB, .int .i64 0, .int .i64 2], .tup [.int .i64 2, .int .i64 0]⟩
theorem ok4 : OneOk Try.prog E4 := one_of named mixed tab1_ok Kt.kt 100000 40 (H' := [⟨true, []⟩]) (by kernel_rfl) (by kernel_rfl)
def E7 : Ora := ⟨27, [bathC, .int .i64 1], .tup [.int .i64 323, .int .i64 0]⟩
theorem ok7 : OneOk Try.prog E7 := one_of named mixed tab1_ok Kt.kt 100000 40 (H' := [⟨true, []⟩]) (by kernel_rfl) (by kernel_rfl)
def E8 : Ora := ⟨27, [bathB, .int .i64 2], .tup [.int .i64 0, .int .i64 10]⟩
theorem ok8 : OneOk Try.prog E8 := one_of named mixed tab1_ok Kt.kt 100000 40 (H' := [⟨true, []⟩]) (by kernel_rfl) (by kernel_rfl)
def E9 : Ora := ⟨29, [bathB, .int .i64 (-1), .int .i64 2, .bool false], .tup [.slcT none (.I .i64 [-1, 0, 1, 2]) 1 4 true, .int .i64 0]⟩
theorem ok9 : OneOk Try.prog E9 := one_of named mixed tab1_ok Kt.kt 100000 40 (H' := [⟨true, []⟩]) (by kernel_rfl) (by kernel_rfl)
def E10 : Ora := ⟨29, [bathB, .int .i64 (-1), .int .i64 2, .bool true], .tup [.nils, .int .i64 5]⟩
theorem ok10 : OneOk Try.prog E10 := one_of named mixed tab1_ok Kt.kt 100000 40 (H' := [⟨true, []⟩]) (by kernel_rfl) (by kernel_rfl)
def E11 : Ora := ⟨34, [bathB, .int .i64 0, .int .i64 2, .bool true], .tup [.slcT none (.I .i64 [0, 1]) 1 2 false, .int .i64 0]⟩
theorem ok11 : OneOk Try.prog E11 := one_of named mixed tab1_ok Kt.kt 100000 40 (H' := [⟨true, []⟩]) (by kernel_rfl) (by kernel_rfl)
def E12 : Ora := ⟨34, [bathB, .int .i64 0, .int .i64 2, .bool false], .tup [.nils, .int .i64 11]⟩
theorem ok12 : OneOk Try.prog E12 := one_of named mixed tab1_ok Kt.kt 100000 40 (H' := [⟨true, []⟩]) (by kernel_rfl) (by kernel_rfl)
def E13 : Ora := ⟨36, [bathB, .bool true], .tup [.slcT (some 0) (.G [.slcT none (.I .i64 [-2]) 1 1 true, .slcT none (.I .i64 [-1]) 1 1 true, .slcT none (.I .i64 [0, 1]) 1 2 false, .slcT none (.I .i64 [2]) 1 1 true]) 1 4 false, .int .i64 0]⟩
theorem ok13 : OneOk Try.prog E13 := one_of named mixed tab1_ok Kt.kt 100000 40 (H' := [⟨true, []⟩]) (by kernel_rfl) (by kernel_rfl)
end Go.Proofs.Ytjmjkhpfipglcaa.Known
end
section
namespace Go.Proofs.Ytjmjkhpfipglcaa.Known
open Go.Eng Go.Proofs
set_option maxRecDepth 100000
def E5 : Ora := ⟨25, [bathB, .int .i64 0, .int .i64 1], .tup [.agg (.I .i64 [2, 3]), .int .i64 0]⟩
theorem ok5 : OneOk Try.prog E5 := one_of named mixed tab1_ok Kt.kt 100000 40 (H' := [⟨true, []⟩]) (by kernel_rfl) (by kernel_rfl)
end Go.Proofs.Ytjmjkhpfipglcaa.Known
end
section
namespace Go.Proofs.Ytjmjkhpfipglcaa.Known
open Go.Eng Go.Proofs
set_option maxRecDepth 100000
def E6 : Ora := ⟨25, [bathB, .int .i64 0, .int .i64 2], .tup [.agg (.I .i64 [0, 0]), .int .i64 17]⟩
theorem ok6 : OneOk Try.prog E6 := one_of named mixed tab1_ok Kt.kt 100000 40 (H' := [⟨true, []⟩]) (by kernel_rfl) (by kernel_rfl)
end Go.Proofs.Ytjmjkhpfipglcaa.Known
end
section
namespace Go.Proofs.Ytjmjkhpfipglcaa.Known
open Go.Eng Go.Proofs
set_option maxRecDepth 100000
def tabW : List Ora := [E2, E3, E4, E5, E6, E7, E8, E9, E10, E11, E12, E13, E0, E1]
theorem tabW_ok : ∀ e ∈ tabW, OneOk Try.prog e := by
 intro e h
 simp only [tabW, List.mem_cons, List.not_mem_nil, or_false] at h
 rcases h with rfl | rfl | rfl | rfl | rfl | rfl | rfl | rfl | rfl | rfl | rfl | rfl | rfl | rfl
 · exact ok2
 · exact ok3
 · exact ok4
 · exact ok5
 · exact ok6
 · exact ok7
 · exact ok8
 · exact ok9
 · exact ok10
 · exact ok11
 · exact ok12
 · exact ok13
 · exact ok0
 · exact ok1
def E14 : Ora := ⟨16, [], .bool true⟩
theorem ok14 : OneOk Try.prog E14 := one_of named mixed tabW_ok Kt.kt 100000 40 (H' := [⟨true, []⟩]) (by kernel_rfl) (by kernel_rfl)
end Go.Proofs.Ytjmjkhpfipglcaa.Known
end
