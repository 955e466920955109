/- Drop: the law DropTold. -/
import Derived.Test.YtjmjkhpfipglcaaV8Hcx3
import Derived.Test.YtjmjkhpfipglcaaV8DrMx2
import Derived.Test.YtjmjkhpfipglcaaV8EngKtx2
import Derived.Test.YtjmjkhpfipglcaaRows
import Derived.Test.YtjmjkhpfipglcaaChecked
import Derived.ProofKit
import Derived.Test.YtjmjkhpfipglcaaV8EngOrax2
import Derived.Test.YtjmjkhpfipglcaaProg
import Derived.KernelRfl
import Derived.Test.YtjmjkhpfipglcaaV8DrAx4
section
namespace Go.Eng
open Go.Proofs
set_option linter.unusedVariables false
set_option linter.unusedSimpArgs false
set_option maxRecDepth 100000
section
variable (n : Nat) (w : Int) (ls ld lb : Nat) (zs zd zb : Nat → Int) (H : Heap) (a b c d : Int)
def sdT (ls : Nat) (p q : Int) : Prop := isPl ls p = true ∧ isPl ls q = true
theorem il8 (T : AV) (hT : T = truV lb zb zd ld) (h : chkB w ls ld zs zd = 0) (hlb : lb < 2 ^ 40) (hb : ∀ i, 0 ≤ zb i ∧ zb i ≤ 65535) (g23 : List AV → Option (Prop × AV)) (h23 : g23 = (fun _ => none) ∨ g23 = gKf (bathA w ls zs ld zd) (fun _ _ => True) (bsK w ls ld zs zd) (bsE w ls ld zs zd)) (p q : Int) (ha : 0 ≤ a ∧ a ≤ 255) (hbb : 0 ≤ b ∧ b ≤ 255) (hp : p = plN ls a) (hq : q = twoP ls a b) :
    (il (ctG (ctG (ctG (ctG (ctG (ctG (ctG noCt 16 g16) 20 (g20 (bathA w ls zs ld zd) (chkB w ls ld zs zd))) 21 (gKf (bathA w ls zs ld zd) (sdT ls) (touK w ls ld zs zd) (plE w ls ld zs zd))) 23 g23) 42 (g42 (bathA w ls zs ld zd) (slU lb zb) T)) 43 (g43t (bathA w ls zs ld zd) a b p q)) 44 (g44 (bathA w ls zs ld zd) T (sdT ls) (tldB w ld zs zd (soT lb zb zd ld)))) (n+18) 2).Ok (cd (n + 20)) := by
  subst hT hp hq
  obtain ⟨h1, h2, h3, h4, h5, h6⟩ := chk_ok h
  refine il_ok _ (n + 18) 2 (fun k => ctG_ok (ctG_ok (ctG_ok (ctG_ok (ctG_ok ?_ (fun args p v hg hp H => ?_)) (fun args p v hg hp H => ?_)) (fun args p v hg hp H => ?_)) (fun args p v hg hp H => ?_)) (fun args p v hg hp H => ?_))
  · have h1 : (ctG noCt 16 g16).Ok (cd (n + 17 + k + 1)) := ctW (noCt_ok _)
    have := ct20 (n + 16) w ls ld zs zd k _ (by rw [show n + 16 + 2 + k = n + 17 + k + 1 by omega]; exact h1)
    rwa [show n + 16 + 2 + k = n + 18 + k by omega] at this
  · unfold gKf at hg
    split at hg
    · simp only [Option.some.injEq, Prod.mk.injEq] at hg
      obtain ⟨rfl, rfl⟩ := hg
      obtain ⟨rfl, _⟩ := hp
      rw [show n + 18 + k = n + 2 + k + 16 by omega]
      exact c21 _ w ls ld zs zd H _ _
    · cases hg
  · rcases h23 with rfl | rfl
    · cases hg
    unfold gKf at hg
    split at hg
    · simp only [Option.some.injEq, Prod.mk.injEq] at hg
      obtain ⟨rfl, rfl⟩ := hg
      obtain ⟨rfl, _⟩ := hp
      rw [show n + 18 + k = n + 2 + k + 16 by omega]
      exact c23 _ w ls ld zs zd H _ _
    · cases hg
  · unfold g42 at hg
    split at hg
    · simp only [Option.some.injEq, Prod.mk.injEq] at hg
      obtain ⟨rfl, rfl⟩ := hg
      obtain ⟨rfl, rfl⟩ := hp
      rw [show n + 18 + k = n + 17 + k + 1 by omega]
      exact c42 _ w ls ld lb zs zd zb H h2 hlb hb h6
    · cases hg
  · unfold g43t at hg
    split at hg
    · simp only [Option.some.injEq, Prod.mk.injEq] at hg
      obtain ⟨rfl, rfl⟩ := hg
      obtain ⟨rfl, rfl, rfl⟩ := hp
      rw [show n + 18 + k = n + 15 + k + 3 by omega]
      exact c43 _ w ls ld zs zd H _ _ (by omega) ha hbb
    · cases hg
  · unfold g44 at hg
    split at hg
    · simp only [Option.some.injEq, Prod.mk.injEq] at hg
      obtain ⟨rfl, rfl⟩ := hg
      obtain ⟨rfl, rfl, hp⟩ := hp
      rw [show n + 18 + k = n + 13 + k + 5 by omega]
      exact c44 _ w ls ld lb zs zd zb H _ _ _ ⟨knd_ok h hp.1 hp.2, tru_touchB h hb hp.1 hp.2⟩
    · cases hg
theorem b8 : ((blocksOf (bodyOf Try.f8)).filter fun x => Nat.beq x.1 0 || Nat.beq x.1 2) = [(0, .loop (part Try.f8 [1, 1, 1, 1, 1, 1, 0, 1, 0, 0])), (2, .loop (part Try.f8 [1, 1, 1, 1, 1, 1, 1, 1, 1, 1, 1, 1, 1, 0, 1, 0, 0]))] := by kernel_rfl
theorem b8a : ∀ b, (0, b) ∈ blocksOf (bodyOf Try.f8) → b = .loop (part Try.f8 [1, 1, 1, 1, 1, 1, 0, 1, 0, 0]) := by
  intro b hb
  have hm : (0, b) ∈ ((blocksOf (bodyOf Try.f8)).filter fun x => Nat.beq x.1 0 || Nat.beq x.1 2) := List.mem_filter.2 ⟨hb, rfl⟩
  rw [b8] at hm; simpa using hm
theorem b8b : ∀ b, (2, b) ∈ blocksOf (bodyOf Try.f8) → b = .loop (part Try.f8 [1, 1, 1, 1, 1, 1, 1, 1, 1, 1, 1, 1, 1, 0, 1, 0, 0]) := by
  intro b hb
  have hm : (2, b) ∈ ((blocksOf (bodyOf Try.f8)).filter fun x => Nat.beq x.1 0 || Nat.beq x.1 2) := List.mem_filter.2 ⟨hb, rfl⟩
  rw [b8] at hm; simpa using hm
/-- The law DropTold. -/
theorem c8 (hb : ∀ i, 0 ≤ zb i ∧ zb i ≤ 65535) (ha : 0 ≤ a ∧ a ≤ 255) (hbb : 0 ≤ b ∧ b ≤ 255) (hc : 0 ≤ c ∧ c ≤ 255) (hd : 0 ≤ d ∧ d ≤ 255) : cd (n + 21) (.fn 8) [bathA w ls zs ld zd, slU lb zb, .agg (.I .u8 [a, b]), .agg (.I .u8 [c, d])] H = some (.bool true, H) := by
  by_cases hx : chkB w ls ld zs zd = 0 ∧ lb ≤ 60
  · obtain ⟨h, hl⟩ := hx
    have hlb : lb < 2 ^ 40 := by omega
    obtain ⟨h1, h2, h3, h4, h5, h6⟩ := chk_ok h
    obtain ⟨t1, t2, t3⟩ := two_ok (ls := ls) (a := a) (b := b) (by omega) ha.1 hbb.1
    have e0 := (pl_ok h t1 t2 t3).1
    have k0 := (pl_ok h t1 t2 t3).2
    have i1 : isPl ls (plN ls a) = true := by simp [isPl]; omega
    have i2 : isPl ls (twoP ls a b) = true := by simp [isPl]; omega
    have s0 : sdT ls (plN ls a) (twoP ls a b) := ⟨i1, i2⟩
    have v0 := tld_knd (lb := lb) (zb := zb) h hb i1 i2
    rw [← k0] at v0
    generalize hP : plN ls a = P at *
    generalize hQ : twoP ls a b = Q at *
    have l0 := l8a n w ls ld lb zs zd zb H a b c d h hb
    cases ld with
    | zero =>
      refine fn_all (n := n + 20) Try.func8 rfl rfl rfl (u8n n w ls 0 lb zs zd zb H a b c d P Q (chkB w ls 0 zs zd) (touK w ls 0 zs zd) (plE w ls 0 zs zd) (tldB w 0 zs zd (soT lb zb zd 0)) (sdT ls)) (il8 n w ls 0 lb zs zd zb a b .nils rfl h hlb hb _ (.inl rfl) P Q ha hbb hP.symm hQ.symm) (blkE_ok (noBT_ok _ _) b8a (fun x hx => by rw [← Tr.ok_some hx]; simp only [Res.st, hints_eq]; exact l0)) (noRT_ok _ _) ?_
      repeat' first | (refine Tr.all_ite (fun hc => ?_) (fun hc => ?_) <;> (try simp (disch := omega) only [nV, mulO_eq, Int.cast_ofNat_Int, eq_self, h, e0, v0, s0] at hc) <;> (try (exfalso; omega))) | (refine Tr.all_req ?_ ?_; · ((try simp (disch := omega) only [nV, mulO_eq, Int.cast_ofNat_Int, eq_self, h, e0, v0, s0]); try omega)) | (refine Tr.all_reqP ?_ ?_; · first | exact trivial | rfl | exact ⟨rfl, rfl⟩ | exact ⟨rfl, rfl, rfl⟩ | (simp (disch := omega) only [nV, mulO_eq, Int.cast_ofNat_Int, eq_self, h, e0, v0, s0]; done) | ((try simp (disch := omega) only [nV, mulO_eq, Int.cast_ofNat_Int, eq_self, h, e0, v0, s0]); omega)) | fail
      all_goals exact Tr.all_ok ⟨rfl, rfl⟩
    | succ m =>
      have f8 : ∀ D F : Int, (0 ≤ D ∧ D < ((m + 1 : Nat) : Int)) → (0 ≤ F ∧ F < ((m + 1 : Nat) : Int)) → (2 ≤ m + 1 → D ≠ F ∧ remI .i64 (wrI .i64 c) (Int.ofNat (m + 1)) = D ∧ remI .i64 (addI .i64 (addI .i64 D (Int.ofNat 1)) (remI .i64 (wrI .i64 d) (subI .i64 (Int.ofNat (m + 1)) (Int.ofNat 1)))) (Int.ofNat (m + 1)) = F) → cd (n + 21) (.fn 8) [bathA w ls zs (m + 1) zd, slU lb zb, .agg (.I .u8 [a, b]), .agg (.I .u8 [c, d])] H = some (.bool true, H) := by
        intro D F hD hF hR
        refine fn_all (n := n + 20) Try.func8 rfl rfl rfl (u8a n w ls (m + 1) lb (m + 1) zs zd zb (upto (truS lb zb zd) (m + 1)) H a b c d P Q (chkB w ls (m + 1) zs zd) D F (bwN zd D F (m + 1)) (fsN zd D F (m + 1)) (touK w ls (m + 1) zs zd) (plE w ls (m + 1) zs zd) (bsK w ls (m + 1) zs zd) (bsE w ls (m + 1) zs zd) (tldB w (m + 1) zs zd (soT lb zb zd (m + 1))) (sdT ls)) (il8 n w ls (m + 1) lb zs zd zb a b (slA 1 (m + 1) (upto (truS lb zb zd) (m + 1))) rfl h hlb hb _ (.inr rfl) P Q ha hbb hP.symm hQ.symm) (blkE_ok (blkE_ok (noBT_ok _ _) b8b (fun x hx => by rw [← Tr.ok_some hx]; simp only [Res.st, hints_eq]; exact l8b n w ls (m + 1) (m + 1) zs zd _ H a b c d D F _ h2 hD hF)) b8a (fun x hx => by rw [← Tr.ok_some hx]; simp only [Res.st, hints_eq]; exact l0)) (noRT_ok _ _) ?_
        by_cases hm : 2 ≤ m + 1
        · obtain ⟨hn, r1, r2⟩ := hR hm
          obtain ⟨x0, x1, x2, x3⟩ := bes_told (lb := lb) (zb := zb) h hb hD hF hn
          have hq := (chk_drops h).2.2
          have d1 := hq D.toNat (by omega)
          have d2 := hq F.toNat (by omega)
          have sD : sdT ls (zd (D.toNat * 3)) (zd (F.toNat * 3)) := ⟨by simp [isPl]; omega, by simp [isPl]; omega⟩
          have y1 : zd (D.toNat * 3) = zd (F.toNat * 3) → eqB (eqI (bsK w ls (m + 1) zs zd D F) 2) (notB (bwN zd D F (m + 1))) = true := fun e => by
            rw [x1 e]; cases bwN zd D F (m + 1) <;> simp [eqB_eq, eqI_dec, notB_eq]
          have y2 : zd (D.toNat * 3) = zd (F.toNat * 3) → eqB (eqI (bsK w ls (m + 1) zs zd D F) 0) (bwN zd D F (m + 1)) = true := fun e => by
            rw [x1 e]; cases bwN zd D F (m + 1) <;> simp [eqB_eq, eqI_dec]
          clear x1 hR hP hQ l0 hb
          generalize bwN zd D F (m + 1) = BW at *
          have ld2 : ((m + 1 : Nat) : Int) ≤ 40 := by omega
          cases hf : fsN zd D F (m + 1) with
          | false =>
            have z3 : zd (D.toNat * 3) ≠ zd (F.toNat * 3) → bsK w ls (m + 1) zs zd D F = 0 := fun e => x2 e hf
            rw [r1, r2]
            repeat' first | (refine Tr.all_ite (fun hc => ?_) (fun hc => ?_) <;> (try simp (disch := omega) only [nV, mulO_eq, Int.cast_ofNat_Int, eq_self, h, e0, v0, s0, x0, y1, y2, z3, sD, and_self] at hc) <;> (try (exfalso; omega))) | (refine Tr.all_req ?_ ?_; · ((try simp (disch := omega) only [nV, mulO_eq, Int.cast_ofNat_Int, eq_self, h, e0, v0, s0, x0, y1, y2, z3, sD, and_self]); try omega)) | (refine Tr.all_reqP ?_ ?_; · first | exact trivial | rfl | exact ⟨rfl, rfl⟩ | exact ⟨rfl, rfl, rfl⟩ | (simp (disch := omega) only [nV, mulO_eq, Int.cast_ofNat_Int, eq_self, h, e0, v0, s0, x0, y1, y2, z3, sD, and_self]; done) | ((try simp (disch := omega) only [nV, mulO_eq, Int.cast_ofNat_Int, eq_self, h, e0, v0, s0, x0, y1, y2, z3, sD, and_self]); omega)) | fail
            all_goals exact Tr.all_ok ⟨rfl, rfl⟩
          | true =>
            have z3 : zd (D.toNat * 3) ≠ zd (F.toNat * 3) → tldB w (m + 1) zs zd (soT lb zb zd (m + 1)) (zd (D.toNat * 3)) (zd (F.toNat * 3)) (bsK w ls (m + 1) zs zd D F) = true := fun e => x3 e hf
            rw [r1, r2]
            repeat' first | (refine Tr.all_ite (fun hc => ?_) (fun hc => ?_) <;> (try simp (disch := omega) only [nV, mulO_eq, Int.cast_ofNat_Int, eq_self, h, e0, v0, s0, x0, y1, y2, z3, sD, and_self] at hc) <;> (try (exfalso; omega))) | (refine Tr.all_req ?_ ?_; · ((try simp (disch := omega) only [nV, mulO_eq, Int.cast_ofNat_Int, eq_self, h, e0, v0, s0, x0, y1, y2, z3, sD, and_self]); try omega)) | (refine Tr.all_reqP ?_ ?_; · first | exact trivial | rfl | exact ⟨rfl, rfl⟩ | exact ⟨rfl, rfl, rfl⟩ | (simp (disch := omega) only [nV, mulO_eq, Int.cast_ofNat_Int, eq_self, h, e0, v0, s0, x0, y1, y2, z3, sD, and_self]; done) | ((try simp (disch := omega) only [nV, mulO_eq, Int.cast_ofNat_Int, eq_self, h, e0, v0, s0, x0, y1, y2, z3, sD, and_self]); omega)) | fail
            all_goals exact Tr.all_ok ⟨rfl, rfl⟩
        · repeat' first | (refine Tr.all_ite (fun hc => ?_) (fun hc => ?_) <;> (try simp (disch := omega) only [nV, mulO_eq, Int.cast_ofNat_Int, eq_self, h, e0, v0, s0] at hc) <;> (try (exfalso; omega))) | (refine Tr.all_req ?_ ?_; · ((try simp (disch := omega) only [nV, mulO_eq, Int.cast_ofNat_Int, eq_self, h, e0, v0, s0]); try omega)) | (refine Tr.all_reqP ?_ ?_; · first | exact trivial | rfl | exact ⟨rfl, rfl⟩ | exact ⟨rfl, rfl, rfl⟩ | (simp (disch := omega) only [nV, mulO_eq, Int.cast_ofNat_Int, eq_self, h, e0, v0, s0]; done) | ((try simp (disch := omega) only [nV, mulO_eq, Int.cast_ofNat_Int, eq_self, h, e0, v0, s0]); omega)) | fail
          all_goals exact Tr.all_ok ⟨rfl, rfl⟩
      by_cases hm : 2 ≤ m + 1
      · have w1 : wrI .i64 c = c := wr_64' (by omega) (by omega)
        have w2 : wrI .i64 d = d := wr_64' (by omega) (by omega)
        have g1 := Int.emod_nonneg c (show ((m + 1 : Nat) : Int) ≠ 0 by omega)
        have g2 := Int.emod_lt_of_pos c (show 0 < ((m + 1 : Nat) : Int) by omega)
        have g3 := Int.emod_nonneg d (show (m : Int) ≠ 0 by omega)
        have g4 := Int.emod_lt_of_pos d (show 0 < (m : Int) by omega)
        have r1 : remI .i64 (wrI .i64 c) (Int.ofNat (m + 1)) = c % ((m + 1 : Nat) : Int) := by rw [w1, rem_mod hc.1]; rfl
        have r3 : subI .i64 (Int.ofNat (m + 1)) (Int.ofNat 1) = (m : Int) := by
          rw [subI_eq, show Int.ofNat (m + 1) - Int.ofNat 1 = (m : Int) by rw [ofNat_cast, ofNat_cast]; omega]; exact wr_64 (by omega) (by omega)
        have r4 : addI .i64 (addI .i64 (c % ((m + 1 : Nat) : Int)) (Int.ofNat 1)) (d % (m : Int)) = c % ((m + 1 : Nat) : Int) + 1 + d % (m : Int) := by
          rw [addI_eq, addI_eq, show Int.ofNat 1 = 1 from rfl, wr_64 (k := c % ((m + 1 : Nat) : Int) + 1) (by omega) (by omega), wr_64 (by omega) (by omega)]
        generalize hD : c % ((m + 1 : Nat) : Int) = D at *
        generalize hG : d % (m : Int) = G at *
        have g5 := Int.emod_nonneg (D + 1 + G) (show ((m + 1 : Nat) : Int) ≠ 0 by omega)
        have g6 := Int.emod_lt_of_pos (D + 1 + G) (show 0 < ((m + 1 : Nat) : Int) by omega)
        refine f8 D ((D + 1 + G) % ((m + 1 : Nat) : Int)) ⟨by omega, by omega⟩ ⟨by omega, by omega⟩ (fun _ => ⟨?_, r1, ?_⟩)
        · by_cases x : D + 1 + G < ((m + 1 : Nat) : Int)
          · rw [Int.emod_eq_of_lt (by omega) x]; omega
          · have : (D + 1 + G) % ((m + 1 : Nat) : Int) = D + 1 + G - ((m + 1 : Nat) : Int) := by
              rw [← Int.emod_eq_of_lt (show 0 ≤ D + 1 + G - ((m + 1 : Nat) : Int) by omega) (show D + 1 + G - ((m + 1 : Nat) : Int) < ((m + 1 : Nat) : Int) by omega), Int.sub_emod_right]
            omega
        · rw [w2, r3, rem_mod hd.1, hG, r4, rem_mod (by omega)]; rfl
      · exact f8 0 0 ⟨by omega, by omega⟩ ⟨by omega, by omega⟩ (fun x => absurd x hm)
  · refine fn_all (n := n + 20) Try.func8 rfl rfl rfl (u8x n w ls ld lb zs zd zb H a b c d (chkB w ls ld zs zd)) (il_ok _ (n + 18) 2 (fun k => ctG_ok ?_ (fun args p v hg hp H => by cases hg))) (noBT_ok _ _) (noRT_ok _ _) ?_
    · have h1 : (ctG noCt 16 g16).Ok (cd (n + 17 + k + 1)) := ctW (noCt_ok _)
      have := ct20 (n + 16) w ls ld zs zd k _ (by rw [show n + 16 + 2 + k = n + 17 + k + 1 by omega]; exact h1)
      rwa [show n + 16 + 2 + k = n + 18 + k by omega] at this
    · repeat' first | (refine Tr.all_ite (fun hc => ?_) (fun hc => ?_) <;> (try simp (disch := omega) only [nV, mulO_eq, Int.cast_ofNat_Int, eq_self] at hc) <;> (try (exfalso; omega))) | (refine Tr.all_req ?_ ?_; · ((try simp (disch := omega) only [nV, mulO_eq, Int.cast_ofNat_Int, eq_self]); try omega)) | (refine Tr.all_reqP ?_ ?_; · first | exact trivial | rfl | exact ⟨rfl, rfl⟩ | exact ⟨rfl, rfl, rfl⟩ | (simp (disch := omega) only [nV, mulO_eq, Int.cast_ofNat_Int, eq_self]; done) | ((try simp (disch := omega) only [nV, mulO_eq, Int.cast_ofNat_Int, eq_self]); omega)) | fail
      all_goals exact Tr.all_ok ⟨rfl, rfl⟩
end
end Go.Eng
end
section
namespace Go.Eng
open Go.Proofs Go.ChangeShapes
set_option linter.unusedVariables false
set_option maxRecDepth 100000

theorem toM {p : Pst} {M : Mu} {k : IntKind} {z : Nat → Int} {N sz len : Nat} {full : Bool} {v : Value} (h : VRel p M (.slcT none (.F (fun j => .int k (z j)) N) sz len full) v) : VRel p M (.slcT none (.M [.arr k z N]) sz len full) v := by
  cases h with
  | slcN => exact .slcN
  | slcT vs h0 h1 hv hl hf hx =>
    have e : ∀ j, j < (Row.M [Seg.arr k z N]).len → j < N := fun j hj => by simpa [Row.len, lenM, segLen] using hj
    refine .slcT vs (fun j hj => h0 j (e j hj)) (fun j hj => h1 j (e j hj)) (fun j hj => ?_) hl hf hx
    have := hv j (e j hj)
    simp only [Row.get, getM, if_pos (e j hj)] at this ⊢
    exact this.anyInt _ _
theorem flat2 : FlatI Try.prog 2 1 := flat_int Try.underlying2
theorem flat3 : FlatI Try.prog 3 1 := flat_int Try.underlying3
theorem flat74 : FlatI Try.prog 74 2 := flat_struct2 Try.underlying74 flat2 flat2 rfl rfl (by kernel_rfl) (by kernel_rfl) (by kernel_rfl)
theorem flat29 : FlatI Try.prog 29 2 := flat_struct2 Try.underlying29 flat2 flat2 rfl rfl (by kernel_rfl) (by kernel_rfl) (by kernel_rfl)
theorem flat62 : FlatI Try.prog 62 3 := flat_struct2 Try.underlying62 flat3 flat29 rfl rfl (by kernel_rfl) (by kernel_rfl) (by kernel_rfl)

theorem slice_spot {P : Program} {w : World} {r : Reach} {base : Nat} {t e : TypeId} {v : Value} (ht : P.underlying t = some (.slice e)) (h : Cell.okWide P w r base t v) : ∀ a l c, v = .slice (some a) l c → a.spot = none := by
  rintro a l c rfl
  simp only [Cell.okWide, ht, Cell.ok] at h
  exact h.2.2.2.1

theorem slice_arg {t e n : Nat} (ht : Try.prog.underlying t = some (.slice e)) (he : FlatI Try.prog e n) (hn : 0 < n) (hc : Try.prog.cellsOf e = n) {H : Type} {enc : TypeId × Value → H} {w : World} {r : Reach} {b0 base : Nat} {sp : Nat → Bool} {held : Bool} {fuel : Nat} {v : Value} {x : DataW H × List MemPlace}
    (hv : Cell.okWide Try.prog w r b0 t v) (h : DataW.trod enc Try.prog w base sp held fuel t [v] = some x) : ∃ len z, VRel (Pw w) Mu.no (slA n len z) v ∧ v.oneCell' = true := by
  rcases slice_flat ht he hn hc (slice_spot ht hv) h with rfl | ⟨zs, len, h1, h2⟩
  · exact ⟨0, fun _ => 0, .slcN, rfl⟩
  · refine ⟨len, zs, ?_, ?_⟩
    · unfold slA
      rw [mulS_eq]
      exact toM h1
    · cases h1 <;> rfl

theorem bath_arg {H : Type} {enc : TypeId × Value → H} {w : World} {r : Reach} {b0 base : Nat} {sp : Nat → Bool} {held : Bool} {v : Value} {d : DataW H} {ps : List MemPlace} (hv : Value.okWide Try.prog w r b0 25 v) (h : DataW.Trod enc Try.prog w base sp held 25 v d ps) :
    ∃ (wd : Int) (ls : Nat) (zs : Nat → Int) (ld : Nat) (zd : Nat → Int), VRel (Pw w) Mu.no (bathA wd ls zs ld zd) v := by
  have hts : Try.prog.cellTypes Try.prog.depth 25 = some [2, 22, 23] := by kernel_rfl
  have hc25 : Try.prog.cellsOf 25 = 3 := by kernel_rfl
  have hc2 : Try.prog.cellsOf 2 = 1 := by kernel_rfl
  have hc22 : Try.prog.cellsOf 22 = 1 := by kernel_rfl
  have hc23 : Try.prog.cellsOf 23 = 1 := by kernel_rfl
  have hc74 : Try.prog.cellsOf 74 = 2 := by kernel_rfl
  have hc62 : Try.prog.cellsOf 62 = 3 := by kernel_rfl
  simp only [Value.okWide, Try.underlying25] at hv
  obtain ⟨cs, rfl, hsz, ts, ht, _, hcell⟩ := hv
  rw [hts] at ht
  obtain rfl := Option.some.inj ht
  rw [hc25] at hsz
  obtain ⟨fuel, hf⟩ := h
  obtain ⟨xs, n, _, _, _, hxl, hfield⟩ := DataW.trod_struct Try.underlying25 hf
  have e3 : ∃ c0 c1 c2, cs = #[c0, c1, c2] := by
    refine ⟨cs[0], cs[1], cs[2], ?_⟩
    apply Array.ext
    · simpa using hsz
    · intro i h1 h2
      simp at h2
      match i, h2 with
      | 0, _ => rfl
      | 1, _ => rfl
      | 2, _ => rfl
  obtain ⟨c0, c1, c2, rfl⟩ := e3
  have some_of : ∀ i, i < 3 → ∃ y, xs[i]? = some y := fun i hi => by
    have : i < xs.length := by rw [hxl]; simpa using hi
    exact ⟨xs[i], List.getElem?_eq_getElem this⟩
  obtain ⟨y0, hy0⟩ := some_of 0 (by omega)
  obtain ⟨y1, hy1⟩ := some_of 1 (by omega)
  obtain ⟨y2, hy2⟩ := some_of 2 (by omega)
  have f0 := hfield 0 _ rfl
  have f1 := hfield 1 _ rfl
  have f2 := hfield 2 _ rfl
  rw [hy0] at f0
  rw [hy1] at f1
  rw [hy2] at f2
  simp only [Value.cells] at f0 f1 f2
  have g0 : DataW.trod enc Try.prog w base sp held n 2 [c0] = some y0 := by simpa [hc2] using f0
  have g1 : DataW.trod enc Try.prog w base sp held n 22 [c1] = some y1 := by simpa [hc22] using f1
  have g2 : DataW.trod enc Try.prog w base sp held n 23 [c2] = some y2 := by simpa [hc23] using f2
  obtain ⟨wd, e0, _, hw⟩ := DataW.trod_int Try.underlying2 g0
  simp only [List.cons.injEq, and_true] at e0
  subst e0
  obtain ⟨u1, hu1, k1⟩ := hcell 1 c1 rfl
  obtain ⟨u2, hu2, k2⟩ := hcell 2 c2 rfl
  simp at hu1 hu2
  subst hu1; subst hu2
  obtain ⟨ls, zs, r1, o1⟩ := slice_arg Try.underlying22 flat74 (by omega) hc74 k1 g1
  obtain ⟨ld, zd, r2, o2⟩ := slice_arg Try.underlying23 flat62 (by omega) hc62 k2 g2
  refine ⟨wd, ls, zs, ld, zd, ?_⟩
  refine .agg rfl (fun j hj => ?_) (fun j hj => ?_)
  · have hj' : j < 3 := hj
    match j, hj' with
    | 0, _ => rfl
    | 1, _ => exact o1
    | 2, _ => exact o2
  · have hj' : j < 3 := hj
    match j, hj' with
    | 0, _ => exact .int _ _
    | 1, _ => exact r1
    | 2, _ => exact r2

/-- The call of the law DropBaths: it returns true, and what was there is as it was. -/
theorem baths_calls (hN : Named Try.prog) (hm : Try.prog.follows .mixedOrders = true) (hW : OneOk Try.prog ⟨16, [], .bool true⟩) {H : Type} {enc : TypeId × Value → H} {w : World} {r : Reach} {b0 base : Nat} {sp : Nat → Bool} {held : Bool} {v v' : Value} {d : DataW H} {ps : List MemPlace}
    (hv : Value.okWide Try.prog w r b0 25 v) (hv' : Value.okWide Try.prog w r b0 3 v') (h : DataW.Trod enc Try.prog w base sp held 25 v d ps) :
    Calls Try.prog 3 #[v, v'] w (fun e w' => e = .returned (.bool true) ∧ Go.RowKit.Below w.heap.size w w') := by
  obtain ⟨wd, ls, zs, ld, zd, hr⟩ := bath_arg hv h
  obtain ⟨s, rfl⟩ := WideShapes.okWide_int Try.underlying3 hv'
  have hk : CallOk Try.prog (cd 15) := callN_rel hN (drawOk hN hm) (oraS_ok _ (fun e he => by
    simp only [List.mem_singleton] at he
    subst he
    exact hW)) Kt.kt 100000 15
  refine calls_law hk (c3 0 wd ls ld zs zd [⟨true, []⟩] s) ?_
  refine ⟨rfl, fun j hj => ?_⟩
  have hj' : j < 2 := hj
  match j, hj' with
  | 0, _ => exact hr
  | 1, _ => exact .int _ _
end Go.Eng
end
section
namespace Go.Proofs.Ytjmjkhpfipglcaa.Known
open Go.Eng Go.Proofs
set_option maxRecDepth 100000
theorem named : Named Try.prog := by
  have h : (Try.prog.funcs.toList.all fun fn => fn.body.isNone || !(fn.name == "runtime.NumGoroutine")) = true := by kernel_rfl
  intro f fn hf hb
  have := List.all_eq_true.1 h fn (by simpa using Array.mem_of_getElem? hf)
  rw [hb] at this
  simpa using this
theorem mixed : Try.prog.follows .mixedOrders = true := by kernel_rfl
def bathB : AV := .agg (.G [.int .i64 100, .slcT none (.I .i64 [20, 50, 50, 50, 80, 50]) 2 3 true, .slcT none (.I .i64 [0, 100, 144, 1, 225, 400, 0, 200, 300, 2, 100, 100]) 3 4 true])
def bathC : AV := .agg (.G [.int .i64 100, .slcT none (.I .i64 [20, 50, 50, 50, 80, 50]) 2 3 true, .slcT none (.I .i64 [0, 100, 144, 2, 100, 100]) 3 2 true])
def E0 : Ora := ⟨77, [bathB], .ptrT (some 0) (.G [.int .i64 100, .slcT none (.I .i64 [20, 50, 50, 50, 80, 50]) 2 3 true, .slcT none (.I .i64 [0, 100, 144, 1, 225, 400, 0, 200, 300, 2, 100, 100]) 3 4 true, .slcT none (.I .i64 [300, 444, 225, 400, 100, 100]) 2 3 true, .int .i64 0, .int .i64 0, .int .i64 0, .int .i64 0, .int .i64 0, .int .i64 0, .int .i64 0, .int .i64 0, .int .i64 0, .int .i64 0, .int .i64 0, .int .i64 0, .int .i64 0, .int .i64 0, .int .i64 1, .int .i64 0, .int .i64 0, .int .i64 0, .int .i64 0, .int .i64 0, .int .i64 0, .int .i64 0, .int .i64 0, .int .i64 0, .int .i64 0, .int .i64 1, .int .i64 0, .int .i64 2, .int .i64 0, .int .i64 0, .int .i64 0, .int .i64 0, .int .i64 0, .int .i64 0, .int .i64 0, .int .i64 0, .int .i64 0, .int .i64 0, .int .i64 2, .int .i64 0, .int .i64 1, .int .i64 0, .int .i64 0, .int .i64 0, .int .i64 0, .int .i64 0, .int .i64 0, .int .i64 0, .int .i64 0, .int .i64 0, .int .i64 0, .int .i64 1, .int .i64 0, .int .i64 0, .int .i64 0, .int .i64 0, .int .i64 0, .int .i64 0, .int .i64 0, .int .i64 0, .int .i64 0, .int .i64 0, .int .i64 0, .int .i64 0, .int .i64 0, .int .i64 0, .int .i64 0, .int .i64 0, .int .i64 0, .int .i64 0, .int .i64 0, .int .i64 0, .int .i64 0, .int .i64 0, .int .i64 0, .int .i64 0, .int .i64 0, .int .i64 0, .int .i64 0, .int .i64 0, .int .i64 0, .int .i64 0, .int .i64 0, .int .i64 0, .int .i64 0, .int .i64 0, .int .i64 0, .int .i64 0, .int .i64 0, .int .i64 0, .int .i64 0, .int .i64 0, .int .i64 0, .int .i64 0, .int .i64 0, .int .i64 0, .int .i64 0, .int .i64 0, .int .i64 0, .int .i64 0, .int .i64 0, .int .i64 0, .int .i64 0, .int .i64 0, .int .i64 0, .int .i64 0, .int .i64 0, .int .i64 0, .int .i64 0, .int .i64 0, .int .i64 0, .int .i64 0, .int .i64 0, .int .i64 0, .int .i64 0, .int .i64 0, .int .i64 0, .int .i64 0, .int .i64 0, .int .i64 0, .int .i64 0, .int .i64 0, .int .i64 0, .int .i64 0, .int .i64 0, .int .i64 0, .int .i64 0, .int .i64 0, .int .i64 0, .int .i64 0, .int .i64 0, .int .i64 0, .int .i64 0, .int .i64 0, .int .i64 0, .int .i64 0, .int .i64 0, .int .i64 0, .int .i64 0, .int .i64 0, .int .i64 0, .int .i64 0, .int .i64 0, .int .i64 0]) 0⟩
def E1 : Ora := ⟨77, [bathC], .ptrT (some 0) (.G [.int .i64 100, .slcT none (.I .i64 [20, 50, 50, 50, 80, 50]) 2 3 true, .slcT none (.I .i64 [0, 100, 144, 2, 100, 100]) 3 2 true, .slcT none (.I .i64 [100, 144, 0, 0, 100, 100]) 2 3 true, .int .i64 0, .int .i64 0, .int .i64 0, .int .i64 0, .int .i64 0, .int .i64 0, .int .i64 0, .int .i64 0, .int .i64 0, .int .i64 0, .int .i64 0, .int .i64 0, .int .i64 0, .int .i64 0, .int .i64 0, .int .i64 0, .int .i64 0, .int .i64 0, .int .i64 0, .int .i64 0, .int .i64 0, .int .i64 0, .int .i64 0, .int .i64 0, .int .i64 0, .int .i64 0, .int .i64 0, .int .i64 0, .int .i64 0, .int .i64 0, .int .i64 0, .int .i64 0, .int .i64 0, .int .i64 0, .int .i64 0, .int .i64 0, .int .i64 0, .int .i64 0, .int .i64 0, .int .i64 0, .int .i64 0, .int .i64 0, .int .i64 0, .int .i64 0, .int .i64 0, .int .i64 0, .int .i64 0, .int .i64 0, .int .i64 0, .int .i64 0, .int .i64 0, .int .i64 0, .int .i64 0, .int .i64 0, .int .i64 0, .int .i64 0, .int .i64 0, .int .i64 0, .int .i64 0, .int .i64 0, .int .i64 0, .int .i64 0, .int .i64 0, .int .i64 0, .int .i64 0, .int .i64 0, .int .i64 0, .int .i64 0, .int .i64 0, .int .i64 0, .int .i64 0, .int .i64 0, .int .i64 0, .int .i64 0, .int .i64 0, .int .i64 0, .int .i64 0, .int .i64 0, .int .i64 0, .int .i64 0, .int .i64 0, .int .i64 0, .int .i64 0, .int .i64 0, .int .i64 0, .int .i64 0, .int .i64 0, .int .i64 0, .int .i64 0, .int .i64 0, .int .i64 0, .int .i64 0, .int .i64 0, .int .i64 0, .int .i64 0, .int .i64 0, .int .i64 0, .int .i64 0, .int .i64 0, .int .i64 0, .int .i64 0, .int .i64 0, .int .i64 0, .int .i64 0, .int .i64 0, .int .i64 0, .int .i64 0, .int .i64 0, .int .i64 0, .int .i64 0, .int .i64 0, .int .i64 0, .int .i64 0, .int .i64 0, .int .i64 0, .int .i64 0, .int .i64 0, .int .i64 0, .int .i64 0, .int .i64 0, .int .i64 0, .int .i64 0, .int .i64 0, .int .i64 0, .int .i64 0, .int .i64 0, .int .i64 0, .int .i64 0, .int .i64 0, .int .i64 0, .int .i64 0, .int .i64 0, .int .i64 0, .int .i64 0, .int .i64 0, .int .i64 0, .int .i64 0, .int .i64 0, .int .i64 0, .int .i64 0, .int .i64 0, .int .i64 0, .int .i64 0, .int .i64 0]) 0⟩
theorem none_ok : ∀ e ∈ ([] : List Ora), OneOk Try.prog e := fun e h => by cases h
theorem ok0 : OneOk Try.prog E0 := one_of named mixed none_ok Kt.kt 100000 40 (H' := [⟨true, []⟩]) (by kernel_rfl) (by kernel_rfl)
theorem ok1 : OneOk Try.prog E1 := one_of named mixed none_ok Kt.kt 100000 40 (H' := [⟨true, []⟩]) (by kernel_rfl) (by kernel_rfl)
def tab1 : List Ora := [E0, E1]
theorem tab1_ok : ∀ e ∈ tab1, OneOk Try.prog e := by
  intro e h
  simp only [tab1, List.mem_cons, List.not_mem_nil, or_false] at h
  rcases h with rfl | rfl
  · exact ok0
  · exact ok1
end Go.Proofs.Ytjmjkhpfipglcaa.Known
end
section
namespace Go.Proofs.Ytjmjkhpfipglcaa.Known
open Go.Eng Go.Proofs
set_option maxRecDepth 100000
def E2 : Ora := ⟨17, [bathB, .int .i64 0], .tup [.agg (.I .i64 [300, 444]), .int .i64 0]⟩
theorem ok2 : OneOk Try.prog E2 := one_of named mixed tab1_ok Kt.kt 100000 40 (H' := [⟨true, []⟩]) (by kernel_rfl) (by kernel_rfl)
def E3 : Ora := ⟨21, [bathB, .int .i64 1, .int .i64 2], .tup [.int .i64 1, .int .i64 0]⟩
theorem ok3 : OneOk Try.prog E3 := one_of named mixed tab1_ok Kt.kt 100000 40 (H' := [⟨true, []⟩]) (by kernel_rfl) (by kernel_rfl)
def E4 : Ora := ⟨23, [bathB, .int .i64 0, .int .i64 2], .tup [.int .i64 2, .int .i64 0]⟩
theorem ok4 : OneOk Try.prog E4 := one_of named mixed tab1_ok Kt.kt 100000 40 (H' := [⟨true, []⟩]) (by kernel_rfl) (by kernel_rfl)
def E7 : Ora := ⟨27, [bathC, .int .i64 1], .tup [.int .i64 323, .int .i64 0]⟩
theorem ok7 : OneOk Try.prog E7 := one_of named mixed tab1_ok Kt.kt 100000 40 (H' := [⟨true, []⟩]) (by kernel_rfl) (by kernel_rfl)
def E8 : Ora := ⟨27, [bathB, .int .i64 2], .tup [.int .i64 0, .int .i64 10]⟩
theorem ok8 : OneOk Try.prog E8 := one_of named mixed tab1_ok Kt.kt 100000 40 (H' := [⟨true, []⟩]) (by kernel_rfl) (by kernel_rfl)
def E9 : Ora := ⟨29, [bathB, .int .i64 (-1), .int .i64 2, .bool false], .tup [.slcT none (.I .i64 [-1, 0, 1, 2]) 1 4 true, .int .i64 0]⟩
theorem ok9 : OneOk Try.prog E9 := one_of named mixed tab1_ok Kt.kt 100000 40 (H' := [⟨true, []⟩]) (by kernel_rfl) (by kernel_rfl)
def E10 : Ora := ⟨29, [bathB, .int .i64 (-1), .int .i64 2, .bool true], .tup [.nils, .int .i64 5]⟩
theorem ok10 : OneOk Try.prog E10 := one_of named mixed tab1_ok Kt.kt 100000 40 (H' := [⟨true, []⟩]) (by kernel_rfl) (by kernel_rfl)
def E11 : Ora := ⟨34, [bathB, .int .i64 0, .int .i64 2, .bool true], .tup [.slcT none (.I .i64 [0, 1]) 1 2 false, .int .i64 0]⟩
theorem ok11 : OneOk Try.prog E11 := one_of named mixed tab1_ok Kt.kt 100000 40 (H' := [⟨true, []⟩]) (by kernel_rfl) (by kernel_rfl)
def E12 : Ora := ⟨34, [bathB, .int .i64 0, .int .i64 2, .bool false], .tup [.nils, .int .i64 11]⟩
theorem ok12 : OneOk Try.prog E12 := one_of named mixed tab1_ok Kt.kt 100000 40 (H' := [⟨true, []⟩]) (by kernel_rfl) (by kernel_rfl)
def E13 : Ora := ⟨36, [bathB, .bool true], .tup [.slcT (some 0) (.G [.slcT none (.I .i64 [-2]) 1 1 true, .slcT none (.I .i64 [-1]) 1 1 true, .slcT none (.I .i64 [0, 1]) 1 2 false, .slcT none (.I .i64 [2]) 1 1 true]) 1 4 false, .int .i64 0]⟩
theorem ok13 : OneOk Try.prog E13 := one_of named mixed tab1_ok Kt.kt 100000 40 (H' := [⟨true, []⟩]) (by kernel_rfl) (by kernel_rfl)
end Go.Proofs.Ytjmjkhpfipglcaa.Known
end
section
namespace Go.Proofs.Ytjmjkhpfipglcaa.Known
open Go.Eng Go.Proofs
set_option maxRecDepth 100000
def E5 : Ora := ⟨25, [bathB, .int .i64 0, .int .i64 1], .tup [.agg (.I .i64 [2, 3]), .int .i64 0]⟩
theorem ok5 : OneOk Try.prog E5 := one_of named mixed tab1_ok Kt.kt 100000 40 (H' := [⟨true, []⟩]) (by kernel_rfl) (by kernel_rfl)
end Go.Proofs.Ytjmjkhpfipglcaa.Known
end
section
namespace Go.Proofs.Ytjmjkhpfipglcaa.Known
open Go.Eng Go.Proofs
set_option maxRecDepth 100000
def E6 : Ora := ⟨25, [bathB, .int .i64 0, .int .i64 2], .tup [.agg (.I .i64 [0, 0]), .int .i64 17]⟩
theorem ok6 : OneOk Try.prog E6 := one_of named mixed tab1_ok Kt.kt 100000 40 (H' := [⟨true, []⟩]) (by kernel_rfl) (by kernel_rfl)
end Go.Proofs.Ytjmjkhpfipglcaa.Known
end
section
namespace Go.Proofs.Ytjmjkhpfipglcaa.Known
open Go.Eng Go.Proofs
set_option maxRecDepth 100000
def tabW : List Ora := [E2, E3, E4, E5, E6, E7, E8, E9, E10, E11, E12, E13, E0, E1]
theorem tabW_ok : ∀ e ∈ tabW, OneOk Try.prog e := by
  intro e h
  simp only [tabW, List.mem_cons, List.not_mem_nil, or_false] at h
  rcases h with rfl | rfl | rfl | rfl | rfl | rfl | rfl | rfl | rfl | rfl | rfl | rfl | rfl | rfl
  · exact ok2
  · exact ok3
  · exact ok4
  · exact ok5
  · exact ok6
  · exact ok7
  · exact ok8
  · exact ok9
  · exact ok10
  · exact ok11
  · exact ok12
  · exact ok13
  · exact ok0
  · exact ok1
def E14 : Ora := ⟨16, [], .bool true⟩
theorem ok14 : OneOk Try.prog E14 := one_of named mixed tabW_ok Kt.kt 100000 40 (H' := [⟨true, []⟩]) (by kernel_rfl) (by kernel_rfl)
end Go.Proofs.Ytjmjkhpfipglcaa.Known
end
section
namespace Go.Eng
open Go.Proofs Go.ChangeShapes Go.WideShapes Go.ChangeAt Go.RowKit
set_option linter.unusedVariables false
set_option maxRecDepth 100000
/-- Arguments of this type are among these. -/
def ArgOk (t : TypeId) (A : AV → Prop) : Prop := ∀ (H : Type) (enc : TypeId × Value → H) (w : World) (r : Reach) (b0 base : Nat) (sp : Nat → Bool) (held : Bool) (v : Value) (d : DataW H) (ps : List MemPlace),
  Value.okWide Try.prog w r b0 t v → DataW.Trod enc Try.prog w base sp held t v d ps → ∃ a, A a ∧ VRel (Pw w) Mu.no a v
def AllA : List (AV → Prop) → List AV → Prop
  | [], [] => True
  | A :: As, a :: xs => A a ∧ AllA As xs
  | _, _ => False
theorem allA_cons {A : AV → Prop} {As : List (AV → Prop)} {xs : List AV} (h : AllA (A :: As) xs) : ∃ a ys, xs = a :: ys ∧ A a ∧ AllA As ys := by
  cases xs with
  | nil => exact h.elim
  | cons a ys => exact ⟨a, ys, rfl, h.1, h.2⟩
theorem allA_nil {xs : List AV} (h : AllA [] xs) : xs = [] := by
  cases xs with
  | nil => rfl
  | cons a ys => exact h.elim
def AllT : List TypeId → List (AV → Prop) → Prop
  | [], [] => True
  | t :: ts, A :: As => ArgOk t A ∧ AllT ts As
  | _, _ => False
theorem args_ok {H : Type} {enc : TypeId × Value → H} {w : World} {r : Reach} {b0 base : Nat} {sp : Nat → Bool} {held : Bool} : ∀ (ts : List TypeId) (As : List (AV → Prop)) (vs : List Value) (ds : List (DataW H)) (ps : List MemPlace), AllT ts As →
    (∀ (j : Nat) t v, ts[j]? = some t → vs[j]? = some v → Value.okWide Try.prog w r b0 t v) → DataW.TrodAll enc Try.prog w base sp held ts vs ds ps → ∃ xs, AllA As xs ∧ vs.length = xs.length ∧ ∀ j, j < xs.length → VRel (Pw w) Mu.no (xs.getD j .undef) (vs.getD j undef)
  | [], [], vs, ds, ps, _, _, h => by
    obtain ⟨rfl, rfl, rfl⟩ := trodAll_nil h
    exact ⟨[], trivial, rfl, fun j hj => by simp at hj⟩
  | t :: ts, A :: As, vs, ds, ps, hT, hv, h => by
    obtain ⟨v, vs', d, ds', p, q, rfl, rfl, rfl, h1, h2⟩ := trodAll_cons h
    obtain ⟨a, ha, hr⟩ := hT.1 H enc w r b0 base sp held v d p (hv 0 t v rfl rfl) h1
    obtain ⟨xs, hA, hl, hR⟩ := args_ok ts As vs' ds' q hT.2 (fun j t' v' e1 e2 => hv (j + 1) t' v' (by simpa using e1) (by simpa using e2)) h2
    refine ⟨a :: xs, ⟨ha, hA⟩, by simp [hl], fun j hj => ?_⟩
    cases j with
    | zero => exact hr
    | succ j => simpa using hR j (by simpa using hj)
  | [], _ :: _, _, _, _, hT, _, _ => hT.elim
  | _ :: _, [], _, _, _, hT, _, _ => hT.elim
theorem stays_all {H : Type} {enc : TypeId × Value → H} {W W' : World} {base : Nat} {sp' : Nat → Bool} (hl : laidOutB Try.prog = true) : ∀ (ts : List TypeId) (vs : List Value) (ds : List (DataW H)) (ps : List MemPlace), (∀ t ∈ ts, Try.prog.readableRec t = true ∧ t < Try.prog.types.size) →
    DataW.TrodAll enc Try.prog W base (fun _ => true) true ts vs ds ps → (∀ p ∈ ps, W.sameAt W' p) → (∀ p ∈ ps, sp' p.block = true) → DataW.TrodAll enc Try.prog W' base sp' true ts vs ds ps
  | [], vs, ds, ps, _, h, _, _ => by
    obtain ⟨rfl, rfl, rfl⟩ := trodAll_nil h
    exact trodAll_mk0
  | t :: ts, vs, ds, ps, ht, h, hs, hp => by
    obtain ⟨v, vs', d, ds', p, q, rfl, rfl, rfl, h1, h2⟩ := trodAll_cons h
    obtain ⟨r1, r2⟩ := ht t (by simp)
    refine ⟨p, q, ?_, stays_all hl ts vs' ds' q (fun t' h' => ht t' (List.mem_cons_of_mem _ h')) h2 (fun x hx => hs x (List.mem_append_right _ hx)) (fun x hx => hp x (List.mem_append_right _ hx)), rfl⟩
    exact WideElems.Trod_stays hl r1 r2 h1 (fun x hx => hs x (List.mem_append_left _ hx)) (fun x hx => hp x (List.mem_append_left _ hx))
theorem cd_ok (hN : Named Try.prog) (hm : Try.prog.follows .mixedOrders = true) (hW : OneOk Try.prog ⟨16, [], .bool true⟩) (n : Nat) : CallOk Try.prog (cd n) :=
  callN_rel hN (drawOk hN hm) (oraS_ok _ (fun e he => by
    simp only [List.mem_singleton] at he
    subst he
    exact hW)) Kt.kt 100000 n
/-- A law's call: it returns true, and what was there is as it was. -/
theorem law_calls {f : FuncId} {ts : List TypeId} {As : List (AV → Prop)} (hT : AllT ts As) {n : Nat} (hlaw : ∀ xs, AllA As xs → ∃ H', cd n (.fn f) xs [⟨true, []⟩] = some (.bool true, H')) {H : Type} {enc : TypeId × Value → H} {w : World} {r : Reach} {b0 base : Nat} {sp : Nat → Bool} {held : Bool} {args : Array Value} {ds : List (DataW H)} {ps : List MemPlace}
    (hv : ∀ (j : Nat) t v, ts[j]? = some t → args[j]? = some v → Value.okWide Try.prog w r b0 t v) (h : DataW.TrodAll enc Try.prog w base sp held ts args.toList ds ps) :
    Calls Try.prog f args w (fun e w' => e = .returned (.bool true) ∧ Go.RowKit.Below w.heap.size w w') := by
  obtain ⟨xs, hA, hl, hR⟩ := args_ok ts As args.toList ds ps hT (fun j t v e1 e2 => hv j t v e1 (by simpa using e2)) h
  obtain ⟨H', hc⟩ := hlaw xs hA
  refine calls_law (cd_ok Ytjmjkhpfipglcaa.Known.named Ytjmjkhpfipglcaa.Known.mixed Ytjmjkhpfipglcaa.Known.ok14 n) hc ⟨by simpa using hl, fun j hj => ?_⟩
  have := hR j hj
  have e : args.toList.getD j undef = args.getD j undef := by
    rw [Array.getD_eq_getD_getElem?, List.getD_eq_getElem?_getD, Array.getElem?_toList]
  rwa [e] at this
/-! ### Arguments -/
def ABath (a : AV) : Prop := ∃ w ls zs ld zd, a = bathA w ls zs ld zd
def AInt (a : AV) : Prop := ∃ n : Int, a = .int .i64 n ∧ -9223372036854775808 ≤ n ∧ n ≤ 9223372036854775807
def ABool (a : AV) : Prop := ∃ b, a = .bool b
theorem argBath : ArgOk 25 ABath := fun H enc w r b0 base sp held v d ps hv h => by
  obtain ⟨wd, ls, zs, ld, zd, hr⟩ := bath_arg hv h
  exact ⟨_, ⟨wd, ls, zs, ld, zd, rfl⟩, hr⟩
theorem argInt : ArgOk 3 AInt := fun H enc w r b0 base sp held v d ps hv h => by
  obtain ⟨fuel, hf⟩ := h
  obtain ⟨n, e, _, hw⟩ := DataW.trod_int Try.underlying3 hf
  have e3 : Try.prog.cellsOf 3 = 1 := by kernel_rfl
  obtain ⟨s, rfl⟩ := WideShapes.okWide_int Try.underlying3 hv
  have : s = n := by simpa [Value.cells] using e
  subst this
  refine ⟨_, ⟨s, rfl, ?_⟩, .int _ _⟩
  simp [Lit.wf, IntKind.min, IntKind.max, IntKind.signed, IntKind.bits] at hw
  omega
theorem argIntK {t : TypeId} {k : IntKind} (ht : Try.prog.underlying t = some (.int k)) : ArgOk t (fun a => ∃ n : Int, a = .int k n ∧ (Lit.int k n).wf = true) := fun H enc w r b0 base sp held v d ps hv h => by
  obtain ⟨fuel, hf⟩ := h
  obtain ⟨n, e, _, hw⟩ := DataW.trod_int ht hf
  obtain ⟨s, rfl⟩ := WideShapes.okWide_int ht hv
  have : s = n := by simpa [Value.cells] using e
  subst this
  exact ⟨_, ⟨s, rfl, hw⟩, .int _ _⟩
def AU8 (a : AV) : Prop := ∃ n : Int, a = .int .u8 n ∧ 0 ≤ n ∧ n ≤ 255
def AU16 (a : AV) : Prop := ∃ n : Int, a = .int .u16 n ∧ 0 ≤ n ∧ n ≤ 65535
theorem argU8 : ArgOk 5 AU8 := fun H enc w r b0 base sp held v d ps hv h => by
  obtain ⟨a, ⟨n, rfl, hw⟩, hr⟩ := argIntK Try.underlying5 H enc w r b0 base sp held v d ps hv h
  simp [Lit.wf, IntKind.min, IntKind.max, IntKind.signed, IntKind.bits] at hw
  exact ⟨_, ⟨n, rfl, by omega, by omega⟩, hr⟩
theorem argU16 : ArgOk 66 AU16 := fun H enc w r b0 base sp held v d ps hv h => by
  obtain ⟨a, ⟨n, rfl, hw⟩, hr⟩ := argIntK Try.underlying66 H enc w r b0 base sp held v d ps hv h
  simp [Lit.wf, IntKind.min, IntKind.max, IntKind.signed, IntKind.bits] at hw
  exact ⟨_, ⟨n, rfl, by omega, by omega⟩, hr⟩
theorem own : ownKnob Try.prog.godebug = none := by kernel_rfl
theorem laidOut : laidOutB Try.prog = true := by kernel_rfl
end Go.Eng
end
