/- Drop: the law DropTurned. -/
import Derived.Test.YtjmjkhpfipglcaaV12Jdx2
import Derived.Test.YtjmjkhpfipglcaaV12DrMx2
import Derived.Test.YtjmjkhpfipglcaaV12EngKtx2
import Derived.Test.YtjmjkhpfipglcaaRows
import Derived.Test.YtjmjkhpfipglcaaChecked
import Derived.ProofKit
import Derived.Test.YtjmjkhpfipglcaaV12EngOrax2
import Derived.Test.YtjmjkhpfipglcaaProg
import Derived.KernelRfl
import Derived.Test.YtjmjkhpfipglcaaV12DrAx4
import Derived.OpenShut
section
namespace Go.Eng
open Go.Proofs
set_option linter.unusedVariables false
set_option linter.unusedSimpArgs false
set_option maxRecDepth 100000
theorem mirZ_nil (w : Int) (zs : Nat → Int) : (fun _ => Int.ofNat 0) = mirZ w zs 0 := by funext i; simp [mirZ, upto]
theorem sclZ_nil (t : Int) (zs : Nat → Int) : (fun _ => Int.ofNat 0) = sclZ t zs 0 := by funext i; simp [sclZ, upto]
theorem scdZ_nil (t : Int) (zd : Nat → Int) : (fun _ => Int.ofNat 0) = scdZ t zd 0 := by funext i; simp [scdZ, upto]
section
variable (n : Nat) (w : Int) (ls ld : Nat) (zs zd : Nat → Int) (H : Heap) (a b c : Int)
set_option maxHeartbeats 1000000 in
/-- The law DropTurned. -/
theorem c12 (ha : 0 ≤ a ∧ a ≤ 255) (hb : 0 ≤ b ∧ b ≤ 255) (hc : 0 ≤ c ∧ c ≤ 255) : cd (n + 21) (.fn 12) [bathA w ls zs ld zd, .agg (.I .u8 [a, b]), .int .u8 c] H = some (.bool true, H) := by
  by_cases h : chkB w ls ld zs zd = 0
  · obtain ⟨h1, h2, h3, h4, h5, h6⟩ := chk_ok h
    obtain ⟨t1, t2, t3⟩ := two_ok (ls := ls) (a := a) (b := b) (by omega) ha.1 hb.1
    obtain ⟨P, hP⟩ : ∃ P, P = plN ls a := ⟨_, rfl⟩
    obtain ⟨Q, hQ⟩ : ∃ Q, Q = twoP ls a b := ⟨_, rfl⟩
    rw [← hP] at t1 t3; rw [← hQ] at t2 t3
    obtain ⟨cf, hcf⟩ : ∃ f : Int → Nat → (Nat → Int) → Nat → (Nat → Int) → Int, ∀ w k y m z, f w k y m z = chkB w k m y z := ⟨_, fun _ _ _ _ _ => rfl⟩
    obtain ⟨kf, hkf⟩ : ∃ f : Int → Nat → (Nat → Int) → Nat → (Nat → Int) → Int → Int → Int, ∀ w k y m z p q, f w k y m z p q = touK w k m y z p q := ⟨_, fun _ _ _ _ _ _ _ => rfl⟩
    obtain ⟨ef, hef⟩ : ∃ f : Int → Nat → (Nat → Int) → Nat → (Nat → Int) → Int → Int → Int, ∀ w k y m z p q, f w k y m z p q = plE w k m y z p q := ⟨_, fun _ _ _ _ _ _ _ => rfl⟩
    obtain ⟨fa, hfa⟩ : ∃ f : Int → Nat → (Nat → Int) → Nat → (Nat → Int) → Int → Int → Int, ∀ w k y m z p q, f w k y m z p q = (firN w k m y z p q).1 := ⟨_, fun _ _ _ _ _ _ _ => rfl⟩
    obtain ⟨fb, hfb⟩ : ∃ f : Int → Nat → (Nat → Int) → Nat → (Nat → Int) → Int → Int → Int, ∀ w k y m z p q, f w k y m z p q = (firN w k m y z p q).2.1 := ⟨_, fun _ _ _ _ _ _ _ => rfl⟩
    obtain ⟨fe, hfe⟩ : ∃ f : Int → Nat → (Nat → Int) → Nat → (Nat → Int) → Int → Int → Int, ∀ w k y m z p q, f w k y m z p q = (firN w k m y z p q).2.2 := ⟨_, fun _ _ _ _ _ _ _ => rfl⟩
    have il := il12_ok n w ls ld zs zd a b (by omega) ha hb P Q hP hQ hcf hkf hef hfa hfb hfe
    -- how many times as great
    obtain ⟨t, et⟩ : ∃ t : Int, t = 1 + c % 5 := ⟨_, rfl⟩
    have ht : 1 ≤ t ∧ t ≤ 5 := by omega
    have ht' : addI .i64 (Int.ofNat 1) (remI .i64 (wrI .i64 c) (Int.ofNat 5)) = t := by
      rw [wr_64' (by omega) (by omega), rem_mod hc.1, addI_eq, show Int.ofNat 1 = 1 from rfl, show Int.ofNat 5 = 5 from rfl, wr_in (by omega) (by omega), et]
    have m0 := mul_in ht (x := w) (by omega)
    have hw' : mulI .i64 t w = t * w := by rw [mulI_eq, wr_in (by omega) (by omega)]
    -- what holds of the three baths
    have c0 : cf w ls zs ld zd = 0 := by rw [hcf]; exact h
    have p0 := pl_ok h t1 t2 t3
    have e0 : ef w ls zs ld zd P Q = 0 := by rw [hef]; exact p0.1
    have v1 : wlw P = wl P := wlw_wl (by omega)
    have v2 : wlw Q = wl Q := wlw_wl (by omega)
    have hx := mir_chk h
    have px := pl_ok hx (wl_in t1) (wl_in t2) (wl_ne t1.1 t2.1 t3)
    have e1 : ef w ls (mirZ w zs ls) ld zd (wl P) (wl Q) = 0 := by rw [hef]; exact px.1
    have k1 : kf w ls (mirZ w zs ls) ld zd (wl P) (wl Q) = kf w ls zs ld zd P Q := by
      rw [hkf, hkf, px.2, p0.2]; exact mir_knd h t1 t2 (Nat.le_refl _)
    have fx : firN w ls ld (mirZ w zs ls) zd (wl P) (wl Q) = firN w ls ld zs zd P Q := fir_same (fun m hm => mir_knd h t1 t2 hm) (px.1.trans p0.1.symm)
    have x1 : fa w ls (mirZ w zs ls) ld zd (wl P) (wl Q) = fa w ls zs ld zd P Q := by rw [hfa, hfa, fx]
    have x2 : fb w ls (mirZ w zs ls) ld zd (wl P) (wl Q) = fb w ls zs ld zd P Q := by rw [hfb, hfb, fx]
    have x3 : fe w ls (mirZ w zs ls) ld zd (wl P) (wl Q) = fe w ls zs ld zd P Q := by rw [hfe, hfe, fx]
    have yy : cf (t * w) ls (sclZ t zs ls) ld (scdZ t zd ld) = 0 → ef (t * w) ls (sclZ t zs ls) ld (scdZ t zd ld) P Q = 0 ∧ kf (t * w) ls (sclZ t zs ls) ld (scdZ t zd ld) P Q = kf w ls zs ld zd P Q ∧ fa (t * w) ls (sclZ t zs ls) ld (scdZ t zd ld) P Q = fa w ls zs ld zd P Q ∧ fb (t * w) ls (sclZ t zs ls) ld (scdZ t zd ld) P Q = fb w ls zs ld zd P Q ∧ fe (t * w) ls (sclZ t zs ls) ld (scdZ t zd ld) P Q = fe w ls zs ld zd P Q := fun hy => by
      rw [hcf] at hy
      have py := pl_ok hy t1 t2 t3
      have fy : firN (t * w) ls ld (sclZ t zs ls) (scdZ t zd ld) P Q = firN w ls ld zs zd P Q := fir_same (fun m hm => scl_knd h hy ht t1 t2 hm) (py.1.trans p0.1.symm)
      refine ⟨by rw [hef]; exact py.1, ?_, by rw [hfa, hfa, fy], by rw [hfb, hfb, fy], by rw [hfe, hfe, fy]⟩
      rw [hkf, hkf, py.2, p0.2]; exact scl_knd h hy ht t1 t2 (Nat.le_refl _)
    have y0 := fun hy => (yy hy).1
    have y1 := fun hy => (yy hy).2.1
    have y2 := fun hy => (yy hy).2.2.1
    have y3 := fun hy => (yy hy).2.2.2.1
    have y4 := fun hy => (yy hy).2.2.2.2
    have l1 := l12a n w ls ld zs zd H a b P Q t (t * w) h1
    have d0 : ls = 0 → ld = 0 := fun e => by
      cases ld with
      | zero => rfl
      | succ m => have := drops_in h (show 0 < m + 1 by omega); omega
    clear hcf hkf hef hfa hfb hfe hP hQ h5 h6 hx px p0 fx yy
    cases ls with
    | zero =>
      obtain rfl := d0 rfl
      refine fn_all (n := n + 20) Try.func12 rfl rfl rfl (u12n n w 0 0 zs zd H a b c P Q (t * w) t cf kf ef fa fb fe wlw) il (blkE_ok (blkE_ok (noBT_ok _ _) b12b (fun x hx => by rw [← Tr.ok_some hx]; simp only [Res.st, hints_eq]; exact l14n n w 0 zs zd H a b _ _ P Q t (t * w) 0 0)) b12a (fun x hx => by rw [← Tr.ok_some hx]; simp only [Res.st, hints_eq]; exact l1)) (noRT_ok _ _) ?_
      rw [ht', hw', v1, v2]
      rw [← mirZ_nil] at e1 k1 x1 x2 x3
      rw [← sclZ_nil, ← scdZ_nil] at y0 y1 y2 y3 y4
      generalize (fun _ : Nat => Int.ofNat 0) = Z at *
      repeat' first | (refine Tr.all_ite (fun hc => ?_) (fun hc => ?_) <;> (try simp (disch := omega) only [nV, mulO_eq, Int.cast_ofNat_Int, eq_self, c0, e0, e1, k1, x1, x2, x3, y0, y1, y2, y3, y4, and_self] at hc) <;> (try (exfalso; omega))) | (refine Tr.all_req ?_ ?_; · ((try simp (disch := omega) only [nV, mulO_eq, Int.cast_ofNat_Int, eq_self, c0, e0, e1, k1, x1, x2, x3, y0, y1, y2, y3, y4, and_self]); try omega)) | (refine Tr.all_reqP ?_ ?_; · first | exact trivial | rfl | exact ⟨rfl, rfl⟩ | exact ⟨rfl, rfl, rfl⟩ | (simp (disch := omega) only [nV, mulO_eq, Int.cast_ofNat_Int, eq_self, c0, e0, e1, k1, x1, x2, x3, y0, y1, y2, y3, y4, and_self]; done) | ((try simp (disch := omega) only [nV, mulO_eq, Int.cast_ofNat_Int, eq_self, c0, e0, e1, k1, x1, x2, x3, y0, y1, y2, y3, y4, and_self]); omega)) | fail
      all_goals exact Tr.all_ok ⟨rfl, rfl⟩
    | succ k =>
      have z1 : upto (mir w zs) ((k + 1) * 2) = mirZ w zs (k + 1) := rfl
      have z2 : upto (scl t zs) ((k + 1) * 2) = sclZ t zs (k + 1) := rfl
      have z4 : (k + 1) * 2 = mulO (k + 1) 2 := (mulO_eq _ _).symm
      simp only [lvS] at l1
      rw [z1, z2, z4] at l1
      cases ld with
      | zero =>
        have l2 := l14 n w (k + 1) 0 zs zd H a b (shO (mirZ w zs (k + 1)) 0) (shO (sclZ t zs (k + 1)) 0) P Q t (t * w) (mulO (k + 1) 2) (k + 1) k (by omega)
        refine fn_all (n := n + 20) Try.func12 rfl rfl rfl (u12z n w (k + 1) 0 zs zd H a b c P Q (t * w) t (k + 1) (mirZ w zs (k + 1)) (sclZ t zs (k + 1)) k cf kf ef fa fb fe wlw) il (blkE_ok (blkE_ok (noBT_ok _ _) b12b (fun x hx => by rw [← Tr.ok_some hx]; simp only [Res.st, hints_eq]; exact l2)) b12a (fun x hx => by rw [← Tr.ok_some hx]; simp only [Res.st, hints_eq]; exact l1)) (noRT_ok _ _) ?_
        rw [ht', hw', v1, v2, shO_zero, shO_zero]
        rw [← scdZ_nil] at y0 y1 y2 y3 y4
        generalize (fun _ : Nat => Int.ofNat 0) = Z at *
        repeat' first | (refine Tr.all_ite (fun hc => ?_) (fun hc => ?_) <;> (try simp (disch := omega) only [nV, mulO_eq, Int.cast_ofNat_Int, eq_self, c0, e0, e1, k1, x1, x2, x3, y0, y1, y2, y3, y4, and_self] at hc) <;> (try (exfalso; omega))) | (refine Tr.all_req ?_ ?_; · ((try simp (disch := omega) only [nV, mulO_eq, Int.cast_ofNat_Int, eq_self, c0, e0, e1, k1, x1, x2, x3, y0, y1, y2, y3, y4, and_self]); try omega)) | (refine Tr.all_reqP ?_ ?_; · first | exact trivial | rfl | exact ⟨rfl, rfl⟩ | exact ⟨rfl, rfl, rfl⟩ | (simp (disch := omega) only [nV, mulO_eq, Int.cast_ofNat_Int, eq_self, c0, e0, e1, k1, x1, x2, x3, y0, y1, y2, y3, y4, and_self]; done) | ((try simp (disch := omega) only [nV, mulO_eq, Int.cast_ofNat_Int, eq_self, c0, e0, e1, k1, x1, x2, x3, y0, y1, y2, y3, y4, and_self]); omega)) | fail
        all_goals exact Tr.all_ok ⟨rfl, rfl⟩
      | succ m =>
        have l2 := l14 n w (k + 1) (m + 1) zs zd H a b (shO (mirZ w zs (k + 1)) 0) (shO (sclZ t zs (k + 1)) 0) P Q t (t * w) (mulO (k + 1) 2) (k + 1) k (by omega)
        have z5 : upto (scd t zd) ((m + 1) * 3) = scdZ t zd (m + 1) := rfl
        have z6 : (m + 1) * 3 = mulO (m + 1) 3 := (mulO_eq _ _).symm
        simp only [lvDr] at l2
        rw [z5, z6] at l2
        refine fn_all (n := n + 20) Try.func12 rfl rfl rfl (u12p n w (k + 1) (m + 1) zs zd H a b c P Q (t * w) t (k + 1) (mirZ w zs (k + 1)) (sclZ t zs (k + 1)) k m (m + 1) (scdZ t zd (m + 1)) cf kf ef fa fb fe wlw) il (blkE_ok (blkE_ok (noBT_ok _ _) b12b (fun x hx => by rw [← Tr.ok_some hx]; simp only [Res.st, hints_eq]; exact l2)) b12a (fun x hx => by rw [← Tr.ok_some hx]; simp only [Res.st, hints_eq]; exact l1)) (noRT_ok _ _) ?_
        rw [ht', hw', v1, v2, shO_zero, shO_zero, shO_zero]
        repeat' first | (refine Tr.all_ite (fun hc => ?_) (fun hc => ?_) <;> (try simp (disch := omega) only [nV, mulO_eq, Int.cast_ofNat_Int, eq_self, c0, e0, e1, k1, x1, x2, x3, y0, y1, y2, y3, y4, and_self] at hc) <;> (try (exfalso; omega))) | (refine Tr.all_req ?_ ?_; · ((try simp (disch := omega) only [nV, mulO_eq, Int.cast_ofNat_Int, eq_self, c0, e0, e1, k1, x1, x2, x3, y0, y1, y2, y3, y4, and_self]); try omega)) | (refine Tr.all_reqP ?_ ?_; · first | exact trivial | rfl | exact ⟨rfl, rfl⟩ | exact ⟨rfl, rfl, rfl⟩ | (simp (disch := omega) only [nV, mulO_eq, Int.cast_ofNat_Int, eq_self, c0, e0, e1, k1, x1, x2, x3, y0, y1, y2, y3, y4, and_self]; done) | ((try simp (disch := omega) only [nV, mulO_eq, Int.cast_ofNat_Int, eq_self, c0, e0, e1, k1, x1, x2, x3, y0, y1, y2, y3, y4, and_self]); omega)) | fail
        all_goals exact Tr.all_ok ⟨rfl, rfl⟩
  · refine fn_all (n := n + 20) Try.func12 rfl rfl rfl (u12x n w ls ld zs zd H a b c (chkB w ls ld zs zd)) (il_ok _ (n + 18) 2 (fun k => ctG_ok ?_ (fun args p v hg hp H => by cases hg))) (noBT_ok _ _) (noRT_ok _ _) ?_
    · have h1 : (ctG noCt 16 g16).Ok (cd (n + 17 + k + 1)) := ctW (noCt_ok _)
      have := ct20 (n + 16) w ls ld zs zd k _ (by rw [show n + 16 + 2 + k = n + 17 + k + 1 by omega]; exact h1)
      rwa [show n + 16 + 2 + k = n + 18 + k by omega] at this
    · repeat' first | (refine Tr.all_ite (fun hc => ?_) (fun hc => ?_) <;> (try simp (disch := omega) only [nV, mulO_eq, Int.cast_ofNat_Int, eq_self] at hc) <;> (try (exfalso; omega))) | (refine Tr.all_req ?_ ?_; · ((try simp (disch := omega) only [nV, mulO_eq, Int.cast_ofNat_Int, eq_self]); try omega)) | (refine Tr.all_reqP ?_ ?_; · first | exact trivial | rfl | exact ⟨rfl, rfl⟩ | exact ⟨rfl, rfl, rfl⟩ | (simp (disch := omega) only [nV, mulO_eq, Int.cast_ofNat_Int, eq_self]; done) | ((try simp (disch := omega) only [nV, mulO_eq, Int.cast_ofNat_Int, eq_self]); omega)) | fail
      all_goals exact Tr.all_ok ⟨rfl, rfl⟩
end
end Go.Eng
end
section
namespace Go.Eng
open Go.Proofs Go.ChangeShapes
set_option linter.unusedVariables false
set_option maxRecDepth 100000

theorem toM {p : Pst} {M : Mu} {k : IntKind} {z : Nat → Int} {N sz len : Nat} {full : Bool} {v : Value} (h : VRel p M (.slcT none (.F (fun j => .int k (z j)) N) sz len full) v) : VRel p M (.slcT none (.M [.arr k z N]) sz len full) v := by
  cases h with
  | slcN => exact .slcN
  | slcT vs h0 h1 hv hl hf hx =>
    have e : ∀ j, j < (Row.M [Seg.arr k z N]).len → j < N := fun j hj => by simpa [Row.len, lenM, segLen] using hj
    refine .slcT vs (fun j hj => h0 j (e j hj)) (fun j hj => h1 j (e j hj)) (fun j hj => ?_) hl hf hx
    have := hv j (e j hj)
    simp only [Row.get, getM, if_pos (e j hj)] at this ⊢
    exact this.anyInt _ _
theorem flat2 : FlatI Try.prog 2 1 := flat_int Try.underlying2
theorem flat3 : FlatI Try.prog 3 1 := flat_int Try.underlying3
theorem flat74 : FlatI Try.prog 74 2 := flat_struct2 Try.underlying74 flat2 flat2 rfl rfl (by kernel_rfl) (by kernel_rfl) (by kernel_rfl)
theorem flat29 : FlatI Try.prog 29 2 := flat_struct2 Try.underlying29 flat2 flat2 rfl rfl (by kernel_rfl) (by kernel_rfl) (by kernel_rfl)
theorem flat62 : FlatI Try.prog 62 3 := flat_struct2 Try.underlying62 flat3 flat29 rfl rfl (by kernel_rfl) (by kernel_rfl) (by kernel_rfl)

theorem slice_spot {P : Program} {w : World} {r : Reach} {base : Nat} {t e : TypeId} {v : Value} (ht : P.underlying t = some (.slice e)) (h : Cell.okWide P w r base t v) : ∀ a l c, v = .slice (some a) l c → a.spot = none := by
  rintro a l c rfl
  simp only [Cell.okWide, ht, Cell.ok] at h
  exact h.2.2.2.1

theorem slice_arg {t e n : Nat} (ht : Try.prog.underlying t = some (.slice e)) (he : FlatI Try.prog e n) (hn : 0 < n) (hc : Try.prog.cellsOf e = n) {H : Type} {enc : TypeId × Value → H} {w : World} {r : Reach} {b0 base : Nat} {sp : Nat → Bool} {held : Bool} {fuel : Nat} {v : Value} {x : DataW H × List MemPlace}
    (hv : Cell.okWide Try.prog w r b0 t v) (h : DataW.trod enc Try.prog w base sp held fuel t [v] = some x) : ∃ len z, VRel (Pw w) Mu.no (slA n len z) v ∧ v.oneCell' = true := by
  rcases slice_flat ht he hn hc (slice_spot ht hv) h with rfl | ⟨zs, len, h1, h2⟩
  · exact ⟨0, fun _ => 0, .slcN, rfl⟩
  · refine ⟨len, zs, ?_, ?_⟩
    · unfold slA
      rw [mulS_eq]
      exact toM h1
    · cases h1 <;> rfl

theorem bath_arg {H : Type} {enc : TypeId × Value → H} {w : World} {r : Reach} {b0 base : Nat} {sp : Nat → Bool} {held : Bool} {v : Value} {d : DataW H} {ps : List MemPlace} (hv : Value.okWide Try.prog w r b0 25 v) (h : DataW.Trod enc Try.prog w base sp held 25 v d ps) :
    ∃ (wd : Int) (ls : Nat) (zs : Nat → Int) (ld : Nat) (zd : Nat → Int), VRel (Pw w) Mu.no (bathA wd ls zs ld zd) v := by
  have hts : Try.prog.cellTypes Try.prog.depth 25 = some [2, 22, 23] := by kernel_rfl
  have hc25 : Try.prog.cellsOf 25 = 3 := by kernel_rfl
  have hc2 : Try.prog.cellsOf 2 = 1 := by kernel_rfl
  have hc22 : Try.prog.cellsOf 22 = 1 := by kernel_rfl
  have hc23 : Try.prog.cellsOf 23 = 1 := by kernel_rfl
  have hc74 : Try.prog.cellsOf 74 = 2 := by kernel_rfl
  have hc62 : Try.prog.cellsOf 62 = 3 := by kernel_rfl
  simp only [Value.okWide, Try.underlying25] at hv
  obtain ⟨cs, rfl, hsz, ts, ht, _, hcell⟩ := hv
  rw [hts] at ht
  obtain rfl := Option.some.inj ht
  rw [hc25] at hsz
  obtain ⟨fuel, hf⟩ := h
  obtain ⟨xs, n, _, _, _, hxl, hfield⟩ := DataW.trod_struct Try.underlying25 hf
  have e3 : ∃ c0 c1 c2, cs = #[c0, c1, c2] := by
    refine ⟨cs[0], cs[1], cs[2], ?_⟩
    apply Array.ext
    · simpa using hsz
    · intro i h1 h2
      simp at h2
      match i, h2 with
      | 0, _ => rfl
      | 1, _ => rfl
      | 2, _ => rfl
  obtain ⟨c0, c1, c2, rfl⟩ := e3
  have some_of : ∀ i, i < 3 → ∃ y, xs[i]? = some y := fun i hi => by
    have : i < xs.length := by rw [hxl]; simpa using hi
    exact ⟨xs[i], List.getElem?_eq_getElem this⟩
  obtain ⟨y0, hy0⟩ := some_of 0 (by omega)
  obtain ⟨y1, hy1⟩ := some_of 1 (by omega)
  obtain ⟨y2, hy2⟩ := some_of 2 (by omega)
  have f0 := hfield 0 _ rfl
  have f1 := hfield 1 _ rfl
  have f2 := hfield 2 _ rfl
  rw [hy0] at f0
  rw [hy1] at f1
  rw [hy2] at f2
  simp only [Value.cells] at f0 f1 f2
  have g0 : DataW.trod enc Try.prog w base sp held n 2 [c0] = some y0 := by simpa [hc2] using f0
  have g1 : DataW.trod enc Try.prog w base sp held n 22 [c1] = some y1 := by simpa [hc22] using f1
  have g2 : DataW.trod enc Try.prog w base sp held n 23 [c2] = some y2 := by simpa [hc23] using f2
  obtain ⟨wd, e0, _, hw⟩ := DataW.trod_int Try.underlying2 g0
  simp only [List.cons.injEq, and_true] at e0
  subst e0
  obtain ⟨u1, hu1, k1⟩ := hcell 1 c1 rfl
  obtain ⟨u2, hu2, k2⟩ := hcell 2 c2 rfl
  simp at hu1 hu2
  subst hu1; subst hu2
  obtain ⟨ls, zs, r1, o1⟩ := slice_arg Try.underlying22 flat74 (by omega) hc74 k1 g1
  obtain ⟨ld, zd, r2, o2⟩ := slice_arg Try.underlying23 flat62 (by omega) hc62 k2 g2
  refine ⟨wd, ls, zs, ld, zd, ?_⟩
  refine .agg rfl (fun j hj => ?_) (fun j hj => ?_)
  · have hj' : j < 3 := hj
    match j, hj' with
    | 0, _ => rfl
    | 1, _ => exact o1
    | 2, _ => exact o2
  · have hj' : j < 3 := hj
    match j, hj' with
    | 0, _ => exact .int _ _
    | 1, _ => exact r1
    | 2, _ => exact r2

/-- The call of the law DropBaths: it returns true, and what was there is as it was. -/
theorem baths_calls (hN : Named Try.prog) (hm : Try.prog.follows .mixedOrders = true) (hW : OneOk Try.prog ⟨16, [], .bool true⟩) {H : Type} {enc : TypeId × Value → H} {w : World} {r : Reach} {b0 base : Nat} {sp : Nat → Bool} {held : Bool} {v v' : Value} {d : DataW H} {ps : List MemPlace}
    (hv : Value.okWide Try.prog w r b0 25 v) (hv' : Value.okWide Try.prog w r b0 3 v') (h : DataW.Trod enc Try.prog w base sp held 25 v d ps) :
    Calls Try.prog 3 #[v, v'] w (fun e w' => e = .returned (.bool true) ∧ Go.RowKit.Below w.heap.size w w') := by
  obtain ⟨wd, ls, zs, ld, zd, hr⟩ := bath_arg hv h
  obtain ⟨s, rfl⟩ := WideShapes.okWide_int Try.underlying3 hv'
  have hk : CallOk Try.prog (cd 15) := callN_rel hN (drawOk hN hm) (oraS_ok _ (fun e he => by
    simp only [List.mem_singleton] at he
    subst he
    exact hW)) Kt.kt 100000 15
  refine calls_law hk (c3 0 wd ls ld zs zd [⟨true, []⟩] s) ?_
  refine ⟨rfl, fun j hj => ?_⟩
  have hj' : j < 2 := hj
  match j, hj' with
  | 0, _ => exact hr
  | 1, _ => exact .int _ _
end Go.Eng
end
section
namespace Go.Proofs.Ytjmjkhpfipglcaa.Known
open Go.Eng Go.Proofs
set_option maxRecDepth 100000
theorem named : Named Try.prog := by
  have h : (Try.prog.funcs.toList.all fun fn => fn.body.isNone || !(fn.name == "runtime.NumGoroutine")) = true := by kernel_rfl
  intro f fn hf hb
  have := List.all_eq_true.1 h fn (by simpa using Array.mem_of_getElem? hf)
  rw [hb] at this
  simpa using this
theorem mixed : Try.prog.follows .mixedOrders = true := by kernel_rfl
def bathB : AV := .agg (.G [.int .i64 100, .slcT none (.I .i64 [20, 50, 50, 50, 80, 50]) 2 3 true, .slcT none (.I .i64 [0, 100, 144, 1, 225, 400, 0, 200, 300, 2, 100, 100]) 3 4 true])
def bathC : AV := .agg (.G [.int .i64 100, .slcT none (.I .i64 [20, 50, 50, 50, 80, 50]) 2 3 true, .slcT none (.I .i64 [0, 100, 144, 2, 100, 100]) 3 2 true])
def E0 : Ora := ⟨77, [bathB], .ptrT (some 0) (.G [.int .i64 100, .slcT none (.I .i64 [20, 50, 50, 50, 80, 50]) 2 3 true, .slcT none (.I .i64 [0, 100, 144, 1, 225, 400, 0, 200, 300, 2, 100, 100]) 3 4 true, .slcT none (.I .i64 [300, 444, 225, 400, 100, 100]) 2 3 true, .int .i64 0, .int .i64 0, .int .i64 0, .int .i64 0, .int .i64 0, .int .i64 0, .int .i64 0, .int .i64 0, .int .i64 0, .int .i64 0, .int .i64 0, .int .i64 0, .int .i64 0, .int .i64 0, .int .i64 1, .int .i64 0, .int .i64 0, .int .i64 0, .int .i64 0, .int .i64 0, .int .i64 0, .int .i64 0, .int .i64 0, .int .i64 0, .int .i64 0, .int .i64 1, .int .i64 0, .int .i64 2, .int .i64 0, .int .i64 0, .int .i64 0, .int .i64 0, .int .i64 0, .int .i64 0, .int .i64 0, .int .i64 0, .int .i64 0, .int .i64 0, .int .i64 2, .int .i64 0, .int .i64 1, .int .i64 0, .int .i64 0, .int .i64 0, .int .i64 0, .int .i64 0, .int .i64 0, .int .i64 0, .int .i64 0, .int .i64 0, .int .i64 0, .int .i64 1, .int .i64 0, .int .i64 0, .int .i64 0, .int .i64 0, .int .i64 0, .int .i64 0, .int .i64 0, .int .i64 0, .int .i64 0, .int .i64 0, .int .i64 0, .int .i64 0, .int .i64 0, .int .i64 0, .int .i64 0, .int .i64 0, .int .i64 0, .int .i64 0, .int .i64 0, .int .i64 0, .int .i64 0, .int .i64 0, .int .i64 0, .int .i64 0, .int .i64 0, .int .i64 0, .int .i64 0, .int .i64 0, .int .i64 0, .int .i64 0, .int .i64 0, .int .i64 0, .int .i64 0, .int .i64 0, .int .i64 0, .int .i64 0, .int .i64 0, .int .i64 0, .int .i64 0, .int .i64 0, .int .i64 0, .int .i64 0, .int .i64 0, .int .i64 0, .int .i64 0, .int .i64 0, .int .i64 0, .int .i64 0, .int .i64 0, .int .i64 0, .int .i64 0, .int .i64 0, .int .i64 0, .int .i64 0, .int .i64 0, .int .i64 0, .int .i64 0, .int .i64 0, .int .i64 0, .int .i64 0, .int .i64 0, .int .i64 0, .int .i64 0, .int .i64 0, .int .i64 0, .int .i64 0, .int .i64 0, .int .i64 0, .int .i64 0, .int .i64 0, .int .i64 0, .int .i64 0, .int .i64 0, .int .i64 0, .int .i64 0, .int .i64 0, .int .i64 0, .int .i64 0, .int .i64 0, .int .i64 0, .int .i64 0, .int .i64 0, .int .i64 0, .int .i64 0, .int .i64 0, .int .i64 0, .int .i64 0, .int .i64 0, .int .i64 0, .int .i64 0, .int .i64 0, .int .i64 0]) 0⟩
def E1 : Ora := ⟨77, [bathC], .ptrT (some 0) (.G [.int .i64 100, .slcT none (.I .i64 [20, 50, 50, 50, 80, 50]) 2 3 true, .slcT none (.I .i64 [0, 100, 144, 2, 100, 100]) 3 2 true, .slcT none (.I .i64 [100, 144, 0, 0, 100, 100]) 2 3 true, .int .i64 0, .int .i64 0, .int .i64 0, .int .i64 0, .int .i64 0, .int .i64 0, .int .i64 0, .int .i64 0, .int .i64 0, .int .i64 0, .int .i64 0, .int .i64 0, .int .i64 0, .int .i64 0, .int .i64 0, .int .i64 0, .int .i64 0, .int .i64 0, .int .i64 0, .int .i64 0, .int .i64 0, .int .i64 0, .int .i64 0, .int .i64 0, .int .i64 0, .int .i64 0, .int .i64 0, .int .i64 0, .int .i64 0, .int .i64 0, .int .i64 0, .int .i64 0, .int .i64 0, .int .i64 0, .int .i64 0, .int .i64 0, .int .i64 0, .int .i64 0, .int .i64 0, .int .i64 0, .int .i64 0, .int .i64 0, .int .i64 0, .int .i64 0, .int .i64 0, .int .i64 0, .int .i64 0, .int .i64 0, .int .i64 0, .int .i64 0, .int .i64 0, .int .i64 0, .int .i64 0, .int .i64 0, .int .i64 0, .int .i64 0, .int .i64 0, .int .i64 0, .int .i64 0, .int .i64 0, .int .i64 0, .int .i64 0, .int .i64 0, .int .i64 0, .int .i64 0, .int .i64 0, .int .i64 0, .int .i64 0, .int .i64 0, .int .i64 0, .int .i64 0, .int .i64 0, .int .i64 0, .int .i64 0, .int .i64 0, .int .i64 0, .int .i64 0, .int .i64 0, .int .i64 0, .int .i64 0, .int .i64 0, .int .i64 0, .int .i64 0, .int .i64 0, .int .i64 0, .int .i64 0, .int .i64 0, .int .i64 0, .int .i64 0, .int .i64 0, .int .i64 0, .int .i64 0, .int .i64 0, .int .i64 0, .int .i64 0, .int .i64 0, .int .i64 0, .int .i64 0, .int .i64 0, .int .i64 0, .int .i64 0, .int .i64 0, .int .i64 0, .int .i64 0, .int .i64 0, .int .i64 0, .int .i64 0, .int .i64 0, .int .i64 0, .int .i64 0, .int .i64 0, .int .i64 0, .int .i64 0, .int .i64 0, .int .i64 0, .int .i64 0, .int .i64 0, .int .i64 0, .int .i64 0, .int .i64 0, .int .i64 0, .int .i64 0, .int .i64 0, .int .i64 0, .int .i64 0, .int .i64 0, .int .i64 0, .int .i64 0, .int .i64 0, .int .i64 0, .int .i64 0, .int .i64 0, .int .i64 0, .int .i64 0, .int .i64 0, .int .i64 0, .int .i64 0, .int .i64 0, .int .i64 0, .int .i64 0, .int .i64 0, .int .i64 0, .int .i64 0, .int .i64 0]) 0⟩
theorem none_ok : ∀ e ∈ ([] : List Ora), OneOk Try.prog e := fun e h => by cases h
theorem ok0 : OneOk Try.prog E0 := one_of named mixed none_ok Kt.kt 100000 40 (H' := [⟨true, []⟩]) (by kernel_rfl) (by kernel_rfl)
theorem ok1 : OneOk Try.prog E1 := one_of named mixed none_ok Kt.kt 100000 40 (H' := [⟨true, []⟩]) (by kernel_rfl) (by kernel_rfl)
def tab1 : List Ora := [E0, E1]
theorem tab1_ok : ∀ e ∈ tab1, OneOk Try.prog e := by
  intro e h
  simp only [tab1, List.mem_cons, List.not_mem_nil, or_false] at h
  rcases h with rfl | rfl
  · exact ok0
  · exact ok1
end Go.Proofs.Ytjmjkhpfipglcaa.Known
end
section
namespace Go.Proofs.Ytjmjkhpfipglcaa.Known
open Go.Eng Go.Proofs
set_option maxRecDepth 100000
def E2 : Ora := ⟨17, [bathB, .int .i64 0], .tup [.agg (.I .i64 [300, 444]), .int .i64 0]⟩
theorem ok2 : OneOk Try.prog E2 := one_of named mixed tab1_ok Kt.kt 100000 40 (H' := [⟨true, []⟩]) (by kernel_rfl) (by kernel_rfl)
def E3 : Ora := ⟨21, [bathB, .int .i64 1, .int .i64 2], .tup [.int .i64 1, .int .i64 0]⟩
theorem ok3 : OneOk Try.prog E3 := one_of named mixed tab1_ok Kt.kt 100000 40 (H' := [⟨true, []⟩]) (by kernel_rfl) (by kernel_rfl)
def E4 : Ora := ⟨23, [bathB, .int .i64 0, .int .i64 2], .tup [.int .i64 2, .int .i64 0]⟩
theorem ok4 : OneOk Try.prog E4 := one_of named mixed tab1_ok Kt.kt 100000 40 (H' := [⟨true, []⟩]) (by kernel_rfl) (by kernel_rfl)
def E7 : Ora := ⟨27, [bathC, .int .i64 1], .tup [.int .i64 323, .int .i64 0]⟩
theorem ok7 : OneOk Try.prog E7 := one_of named mixed tab1_ok Kt.kt 100000 40 (H' := [⟨true, []⟩]) (by kernel_rfl) (by kernel_rfl)
def E8 : Ora := ⟨27, [bathB, .int .i64 2], .tup [.int .i64 0, .int .i64 10]⟩
theorem ok8 : OneOk Try.prog E8 := one_of named mixed tab1_ok Kt.kt 100000 40 (H' := [⟨true, []⟩]) (by kernel_rfl) (by kernel_rfl)
def E9 : Ora := ⟨29, [bathB, .int .i64 (-1), .int .i64 2, .bool false], .tup [.slcT none (.I .i64 [-1, 0, 1, 2]) 1 4 true, .int .i64 0]⟩
theorem ok9 : OneOk Try.prog E9 := one_of named mixed tab1_ok Kt.kt 100000 40 (H' := [⟨true, []⟩]) (by kernel_rfl) (by kernel_rfl)
def E10 : Ora := ⟨29, [bathB, .int .i64 (-1), .int .i64 2, .bool true], .tup [.nils, .int .i64 5]⟩
theorem ok10 : OneOk Try.prog E10 := one_of named mixed tab1_ok Kt.kt 100000 40 (H' := [⟨true, []⟩]) (by kernel_rfl) (by kernel_rfl)
def E11 : Ora := ⟨34, [bathB, .int .i64 0, .int .i64 2, .bool true], .tup [.slcT none (.I .i64 [0, 1]) 1 2 false, .int .i64 0]⟩
theorem ok11 : OneOk Try.prog E11 := one_of named mixed tab1_ok Kt.kt 100000 40 (H' := [⟨true, []⟩]) (by kernel_rfl) (by kernel_rfl)
def E12 : Ora := ⟨34, [bathB, .int .i64 0, .int .i64 2, .bool false], .tup [.nils, .int .i64 11]⟩
theorem ok12 : OneOk Try.prog E12 := one_of named mixed tab1_ok Kt.kt 100000 40 (H' := [⟨true, []⟩]) (by kernel_rfl) (by kernel_rfl)
def E13 : Ora := ⟨36, [bathB, .bool true], .tup [.slcT (some 0) (.G [.slcT none (.I .i64 [-2]) 1 1 true, .slcT none (.I .i64 [-1]) 1 1 true, .slcT none (.I .i64 [0, 1]) 1 2 false, .slcT none (.I .i64 [2]) 1 1 true]) 1 4 false, .int .i64 0]⟩
theorem ok13 : OneOk Try.prog E13 := one_of named mixed tab1_ok Kt.kt 100000 40 (H' := [⟨true, []⟩]) (by kernel_rfl) (by kernel_rfl)
end Go.Proofs.Ytjmjkhpfipglcaa.Known
end
section
namespace Go.Proofs.Ytjmjkhpfipglcaa.Known
open Go.Eng Go.Proofs
set_option maxRecDepth 100000
def E5 : Ora := ⟨25, [bathB, .int .i64 0, .int .i64 1], .tup [.agg (.I .i64 [2, 3]), .int .i64 0]⟩
theorem ok5 : OneOk Try.prog E5 := one_of named mixed tab1_ok Kt.kt 100000 40 (H' := [⟨true, []⟩]) (by kernel_rfl) (by kernel_rfl)
end Go.Proofs.Ytjmjkhpfipglcaa.Known
end
section
namespace Go.Proofs.Ytjmjkhpfipglcaa.Known
open Go.Eng Go.Proofs
set_option maxRecDepth 100000
def E6 : Ora := ⟨25, [bathB, .int .i64 0, .int .i64 2], .tup [.agg (.I .i64 [0, 0]), .int .i64 17]⟩
theorem ok6 : OneOk Try.prog E6 := one_of named mixed tab1_ok Kt.kt 100000 40 (H' := [⟨true, []⟩]) (by kernel_rfl) (by kernel_rfl)
end Go.Proofs.Ytjmjkhpfipglcaa.Known
end
section
namespace Go.Proofs.Ytjmjkhpfipglcaa.Known
open Go.Eng Go.Proofs
set_option maxRecDepth 100000
def tabW : List Ora := [E2, E3, E4, E5, E6, E7, E8, E9, E10, E11, E12, E13, E0, E1]
theorem tabW_ok : ∀ e ∈ tabW, OneOk Try.prog e := by
  intro e h
  simp only [tabW, List.mem_cons, List.not_mem_nil, or_false] at h
  rcases h with rfl | rfl | rfl | rfl | rfl | rfl | rfl | rfl | rfl | rfl | rfl | rfl | rfl | rfl
  · exact ok2
  · exact ok3
  · exact ok4
  · exact ok5
  · exact ok6
  · exact ok7
  · exact ok8
  · exact ok9
  · exact ok10
  · exact ok11
  · exact ok12
  · exact ok13
  · exact ok0
  · exact ok1
def E14 : Ora := ⟨16, [], .bool true⟩
theorem ok14 : OneOk Try.prog E14 := one_of named mixed tabW_ok Kt.kt 100000 40 (H' := [⟨true, []⟩]) (by kernel_rfl) (by kernel_rfl)
end Go.Proofs.Ytjmjkhpfipglcaa.Known
end
section
namespace Go.Eng
open Go.Proofs Go.ChangeShapes Go.WideShapes Go.ChangeAt Go.RowKit
set_option linter.unusedVariables false
set_option maxRecDepth 100000
/-- Arguments of this type are among these. -/
def ArgOk (t : TypeId) (A : AV → Prop) : Prop := ∀ (H : Type) (enc : TypeId × Value → H) (w : World) (r : Reach) (b0 base : Nat) (sp : Nat → Bool) (held : Bool) (v : Value) (d : DataW H) (ps : List MemPlace),
  Value.okWide Try.prog w r b0 t v → DataW.Trod enc Try.prog w base sp held t v d ps → ∃ a, A a ∧ VRel (Pw w) Mu.no a v
def AllA : List (AV → Prop) → List AV → Prop
  | [], [] => True
  | A :: As, a :: xs => A a ∧ AllA As xs
  | _, _ => False
theorem allA_cons {A : AV → Prop} {As : List (AV → Prop)} {xs : List AV} (h : AllA (A :: As) xs) : ∃ a ys, xs = a :: ys ∧ A a ∧ AllA As ys := by
  cases xs with
  | nil => exact h.elim
  | cons a ys => exact ⟨a, ys, rfl, h.1, h.2⟩
theorem allA_nil {xs : List AV} (h : AllA [] xs) : xs = [] := by
  cases xs with
  | nil => rfl
  | cons a ys => exact h.elim
def AllT : List TypeId → List (AV → Prop) → Prop
  | [], [] => True
  | t :: ts, A :: As => ArgOk t A ∧ AllT ts As
  | _, _ => False
theorem args_ok {H : Type} {enc : TypeId × Value → H} {w : World} {r : Reach} {b0 base : Nat} {sp : Nat → Bool} {held : Bool} : ∀ (ts : List TypeId) (As : List (AV → Prop)) (vs : List Value) (ds : List (DataW H)) (ps : List MemPlace), AllT ts As →
    (∀ (j : Nat) t v, ts[j]? = some t → vs[j]? = some v → Value.okWide Try.prog w r b0 t v) → DataW.TrodAll enc Try.prog w base sp held ts vs ds ps → ∃ xs, AllA As xs ∧ vs.length = xs.length ∧ ∀ j, j < xs.length → VRel (Pw w) Mu.no (xs.getD j .undef) (vs.getD j undef)
  | [], [], vs, ds, ps, _, _, h => by
    obtain ⟨rfl, rfl, rfl⟩ := trodAll_nil h
    exact ⟨[], trivial, rfl, fun j hj => by simp at hj⟩
  | t :: ts, A :: As, vs, ds, ps, hT, hv, h => by
    obtain ⟨v, vs', d, ds', p, q, rfl, rfl, rfl, h1, h2⟩ := trodAll_cons h
    obtain ⟨a, ha, hr⟩ := hT.1 H enc w r b0 base sp held v d p (hv 0 t v rfl rfl) h1
    obtain ⟨xs, hA, hl, hR⟩ := args_ok ts As vs' ds' q hT.2 (fun j t' v' e1 e2 => hv (j + 1) t' v' (by simpa using e1) (by simpa using e2)) h2
    refine ⟨a :: xs, ⟨ha, hA⟩, by simp [hl], fun j hj => ?_⟩
    cases j with
    | zero => exact hr
    | succ j => simpa using hR j (by simpa using hj)
  | [], _ :: _, _, _, _, hT, _, _ => hT.elim
  | _ :: _, [], _, _, _, hT, _, _ => hT.elim
theorem stays_all {H : Type} {enc : TypeId × Value → H} {W W' : World} {base : Nat} {sp' : Nat → Bool} (hl : laidOutB Try.prog = true) : ∀ (ts : List TypeId) (vs : List Value) (ds : List (DataW H)) (ps : List MemPlace), (∀ t ∈ ts, Try.prog.readableRec t = true ∧ t < Try.prog.types.size) →
    DataW.TrodAll enc Try.prog W base (fun _ => true) true ts vs ds ps → (∀ p ∈ ps, W.sameAt W' p) → (∀ p ∈ ps, sp' p.block = true) → DataW.TrodAll enc Try.prog W' base sp' true ts vs ds ps
  | [], vs, ds, ps, _, h, _, _ => by
    obtain ⟨rfl, rfl, rfl⟩ := trodAll_nil h
    exact trodAll_mk0
  | t :: ts, vs, ds, ps, ht, h, hs, hp => by
    obtain ⟨v, vs', d, ds', p, q, rfl, rfl, rfl, h1, h2⟩ := trodAll_cons h
    obtain ⟨r1, r2⟩ := ht t (by simp)
    refine ⟨p, q, ?_, stays_all hl ts vs' ds' q (fun t' h' => ht t' (List.mem_cons_of_mem _ h')) h2 (fun x hx => hs x (List.mem_append_right _ hx)) (fun x hx => hp x (List.mem_append_right _ hx)), rfl⟩
    exact WideElems.Trod_stays hl r1 r2 h1 (fun x hx => hs x (List.mem_append_left _ hx)) (fun x hx => hp x (List.mem_append_left _ hx))
theorem cd_ok (hN : Named Try.prog) (hm : Try.prog.follows .mixedOrders = true) (hW : OneOk Try.prog ⟨16, [], .bool true⟩) (n : Nat) : CallOk Try.prog (cd n) :=
  callN_rel hN (drawOk hN hm) (oraS_ok _ (fun e he => by
    simp only [List.mem_singleton] at he
    subst he
    exact hW)) Kt.kt 100000 n
/-- A law's call: it returns true, and what was there is as it was. -/
theorem law_calls {f : FuncId} {ts : List TypeId} {As : List (AV → Prop)} (hT : AllT ts As) {n : Nat} (hlaw : ∀ xs, AllA As xs → ∃ H', cd n (.fn f) xs [⟨true, []⟩] = some (.bool true, H')) {H : Type} {enc : TypeId × Value → H} {w : World} {r : Reach} {b0 base : Nat} {sp : Nat → Bool} {held : Bool} {args : Array Value} {ds : List (DataW H)} {ps : List MemPlace}
    (hv : ∀ (j : Nat) t v, ts[j]? = some t → args[j]? = some v → Value.okWide Try.prog w r b0 t v) (h : DataW.TrodAll enc Try.prog w base sp held ts args.toList ds ps) :
    Calls Try.prog f args w (fun e w' => e = .returned (.bool true) ∧ Go.RowKit.Below w.heap.size w w') := by
  obtain ⟨xs, hA, hl, hR⟩ := args_ok ts As args.toList ds ps hT (fun j t v e1 e2 => hv j t v e1 (by simpa using e2)) h
  obtain ⟨H', hc⟩ := hlaw xs hA
  refine calls_law (cd_ok Ytjmjkhpfipglcaa.Known.named Ytjmjkhpfipglcaa.Known.mixed Ytjmjkhpfipglcaa.Known.ok14 n) hc ⟨by simpa using hl, fun j hj => ?_⟩
  have := hR j hj
  have e : args.toList.getD j undef = args.getD j undef := by
    rw [Array.getD_eq_getD_getElem?, List.getD_eq_getElem?_getD, Array.getElem?_toList]
  rwa [e] at this
/-! ### Arguments -/
def ABath (a : AV) : Prop := ∃ w ls zs ld zd, a = bathA w ls zs ld zd
def AInt (a : AV) : Prop := ∃ n : Int, a = .int .i64 n ∧ -9223372036854775808 ≤ n ∧ n ≤ 9223372036854775807
def ABool (a : AV) : Prop := ∃ b, a = .bool b
theorem argBath : ArgOk 25 ABath := fun H enc w r b0 base sp held v d ps hv h => by
  obtain ⟨wd, ls, zs, ld, zd, hr⟩ := bath_arg hv h
  exact ⟨_, ⟨wd, ls, zs, ld, zd, rfl⟩, hr⟩
theorem argInt : ArgOk 3 AInt := fun H enc w r b0 base sp held v d ps hv h => by
  obtain ⟨fuel, hf⟩ := h
  obtain ⟨n, e, _, hw⟩ := DataW.trod_int Try.underlying3 hf
  have e3 : Try.prog.cellsOf 3 = 1 := by kernel_rfl
  obtain ⟨s, rfl⟩ := WideShapes.okWide_int Try.underlying3 hv
  have : s = n := by simpa [Value.cells] using e
  subst this
  refine ⟨_, ⟨s, rfl, ?_⟩, .int _ _⟩
  simp [Lit.wf, IntKind.min, IntKind.max, IntKind.signed, IntKind.bits] at hw
  omega
theorem argIntK {t : TypeId} {k : IntKind} (ht : Try.prog.underlying t = some (.int k)) : ArgOk t (fun a => ∃ n : Int, a = .int k n ∧ (Lit.int k n).wf = true) := fun H enc w r b0 base sp held v d ps hv h => by
  obtain ⟨fuel, hf⟩ := h
  obtain ⟨n, e, _, hw⟩ := DataW.trod_int ht hf
  obtain ⟨s, rfl⟩ := WideShapes.okWide_int ht hv
  have : s = n := by simpa [Value.cells] using e
  subst this
  exact ⟨_, ⟨s, rfl, hw⟩, .int _ _⟩
def AU8 (a : AV) : Prop := ∃ n : Int, a = .int .u8 n ∧ 0 ≤ n ∧ n ≤ 255
def AU16 (a : AV) : Prop := ∃ n : Int, a = .int .u16 n ∧ 0 ≤ n ∧ n ≤ 65535
theorem argU8 : ArgOk 5 AU8 := fun H enc w r b0 base sp held v d ps hv h => by
  obtain ⟨a, ⟨n, rfl, hw⟩, hr⟩ := argIntK Try.underlying5 H enc w r b0 base sp held v d ps hv h
  simp [Lit.wf, IntKind.min, IntKind.max, IntKind.signed, IntKind.bits] at hw
  exact ⟨_, ⟨n, rfl, by omega, by omega⟩, hr⟩
theorem argU16 : ArgOk 66 AU16 := fun H enc w r b0 base sp held v d ps hv h => by
  obtain ⟨a, ⟨n, rfl, hw⟩, hr⟩ := argIntK Try.underlying66 H enc w r b0 base sp held v d ps hv h
  simp [Lit.wf, IntKind.min, IntKind.max, IntKind.signed, IntKind.bits] at hw
  exact ⟨_, ⟨n, rfl, by omega, by omega⟩, hr⟩
theorem own : ownKnob Try.prog.godebug = none := by kernel_rfl
theorem laidOut : laidOutB Try.prog = true := by kernel_rfl
end Go.Eng
end
section
namespace Go.Eng
open Go.Proofs Go.ChangeShapes Go.WideShapes Go.ChangeAt Go.RowKit
set_option linter.unusedVariables false
set_option maxRecDepth 100000
theorem flat_array {P : Program} {k : IntKind} {t e : TypeId} {n m : Nat} (ht : P.underlying t = some (.array n e)) (he : FlatK k P e m) (hm : 0 < m) (hc : P.cellsOf e = m) (hct : P.cellsOf t = n * m) : FlatK k P t (n * m) := by
  intro H enc w base sp held fuel cs x h
  obtain ⟨xs, f, _, _, hl, hxl, hel⟩ := DataW.trod_array ht h
  refine ⟨by rw [hl, hct], fun j hj => ?_⟩
  have hi : j / m < n := by rw [Nat.div_lt_iff_lt_mul hm]; exact hj
  have hm' := Nat.mod_lt j hm
  have g := hel (j / m) hi
  have : j / m < xs.length := by omega
  rw [List.getElem?_eq_getElem this] at g
  obtain ⟨_, k1⟩ := he _ _ _ _ _ _ _ _ _ g
  obtain ⟨z, hz, hw⟩ := k1 (j % m) hm'
  refine ⟨z, ?_, hw⟩
  rw [hc, List.getElem?_take, if_pos hm', List.getElem?_drop] at hz
  have hd := Nat.div_add_mod j m
  rw [Nat.mul_comm] at hd
  rwa [hd] at hz
/-- Flat rows of n integers of a kind. -/
def AFlat (k : IntKind) (n : Nat) (a : AV) : Prop := ∃ l : List Int, a = .agg (.I k l) ∧ l.length = n ∧ ∀ x ∈ l, (Lit.int k x).wf = true
theorem argFlat {t : TypeId} {k : IntKind} {n : Nat} (hs : ∀ w r b v, Value.okWide Try.prog w r b t v → ∃ cs, v = .agg cs) (hf : FlatK k Try.prog t n) : ArgOk t (AFlat k n) := fun H enc w r b0 base sp held v d ps hv h => by
  obtain ⟨cs, rfl⟩ := hs _ _ _ _ hv
  obtain ⟨fuel, hd⟩ := h
  obtain ⟨hl, hz⟩ := hf _ _ _ _ _ _ _ _ _ hd
  simp only [Value.cells, Array.length_toList] at hl
  have cell : ∀ j (hj : j < n), ∃ z : Int, cs.getD j undef = .int k z ∧ (Lit.int k z).wf = true := fun j hj => by
    obtain ⟨z, h1, h2⟩ := hz j hj
    simp only [Value.cells] at h1
    refine ⟨z, ?_, h2⟩
    rw [Array.getD_eq_getD_getElem?, ← Array.getElem?_toList, h1]; rfl
  obtain ⟨zs, hzs⟩ : ∃ zs : Nat → Int, ∀ j, j < n → cs.getD j undef = .int k (zs j) ∧ (Lit.int k (zs j)).wf = true :=
    ⟨fun j => if h : j < n then Classical.choose (cell j h) else 0, fun j hj => by
      have := Classical.choose_spec (cell j hj)
      simp only [dif_pos hj]; exact this⟩
  refine ⟨.agg (.I k ((List.range n).map zs)), ⟨_, rfl, by simp, fun x hx => ?_⟩, .agg (by simp [Row.len, hl]) (fun j hj => ?_) (fun j hj => ?_)⟩
  · obtain ⟨j, hj, rfl⟩ := List.mem_map.1 hx
    exact (hzs j (by simpa using hj)).2
  · have hj : j < n := by simpa [Row.len] using hj
    rw [(hzs j hj).1]; rfl
  · have hj : j < n := by simpa [Row.len] using hj
    rw [(hzs j hj).1]
    have e : (Row.I k ((List.range n).map zs)).get j = .int k (zs j) := by
      simp only [Row.get]
      rw [List.getD_eq_getElem?_getD]
      simp [hj]
    rw [e]; exact .int _ _
theorem okAgg_struct {t : TypeId} {fs : Array Field} (ht : Try.prog.underlying t = some (.struct fs)) : ∀ w r b v, Value.okWide Try.prog w r b t v → ∃ cs, v = .agg cs := fun w r b v h => by
  simp only [Value.okWide, ht] at h
  obtain ⟨cs, h1, _⟩ := h
  exact ⟨cs, h1⟩
theorem okAgg_array {t e : TypeId} {n : Nat} (ht : Try.prog.underlying t = some (.array n e)) : ∀ w r b v, Value.okWide Try.prog w r b t v → ∃ cs, v = .agg cs := fun w r b v h => by
  simp only [Value.okWide, ht] at h
  obtain ⟨cs, h1, _⟩ := h
  exact ⟨cs, h1⟩
/-- A drop; two numbers. -/
def ADrop (a : AV) : Prop := ∃ m1 m2 m3 : Int, a = .agg (.I .i64 [m1, m2, m3])
def AP16 (a : AV) : Prop := ∃ x y : Int, a = .agg (.I .u16 [x, y]) ∧ (0 ≤ x ∧ x ≤ 65535) ∧ (0 ≤ y ∧ y ≤ 65535)
def AP8 (a : AV) : Prop := ∃ x y : Int, a = .agg (.I .u8 [x, y]) ∧ (0 ≤ x ∧ x ≤ 255) ∧ (0 ≤ y ∧ y ≤ 255)
theorem argDrop : ArgOk 62 ADrop := fun H enc w r b0 base sp held v d ps hv h => by
  obtain ⟨a, ⟨l, rfl, hl, _⟩, hr⟩ := argFlat (okAgg_struct Try.underlying62) flat62 H enc w r b0 base sp held v d ps hv h
  match l, hl with
  | [x, y, z], _ => exact ⟨_, ⟨x, y, z, rfl⟩, hr⟩
theorem pair_of {a : AV} {k : IntKind} (h : AFlat k 2 a) : ∃ x y : Int, a = .agg (.I k [x, y]) ∧ (Lit.int k x).wf = true ∧ (Lit.int k y).wf = true := by
  obtain ⟨l, rfl, hl, hw⟩ := h
  match l, hl with
  | [x, y], _ => exact ⟨x, y, rfl, hw _ (by simp), hw _ (by simp)⟩
theorem argP16 : ArgOk 67 AP16 := fun H enc w r b0 base sp held v d ps hv h => by
  obtain ⟨a, ha, hr⟩ := argFlat (okAgg_array Try.underlying67) (flat_array Try.underlying67 (flat_int Try.underlying66) (by omega) (by kernel_rfl) (by kernel_rfl)) H enc w r b0 base sp held v d ps hv h
  obtain ⟨x, y, rfl, h1, h2⟩ := pair_of ha
  simp [Lit.wf, IntKind.min, IntKind.max, IntKind.signed, IntKind.bits] at h1 h2
  exact ⟨_, ⟨x, y, rfl, ⟨by omega, by omega⟩, by omega, by omega⟩, hr⟩
theorem argP8 : ArgOk 54 AP8 := fun H enc w r b0 base sp held v d ps hv h => by
  obtain ⟨a, ha, hr⟩ := argFlat (okAgg_array Try.underlying54) (flat_array Try.underlying54 (flat_int Try.underlying5) (by omega) (by kernel_rfl) (by kernel_rfl)) H enc w r b0 base sp held v d ps hv h
  obtain ⟨x, y, rfl, h1, h2⟩ := pair_of ha
  simp [Lit.wf, IntKind.min, IntKind.max, IntKind.signed, IntKind.bits] at h1 h2
  exact ⟨_, ⟨x, y, rfl, ⟨by omega, by omega⟩, by omega, by omega⟩, hr⟩
theorem argSlice {t e n : Nat} {k : IntKind} (ht : Try.prog.underlying t = some (.slice e)) (he : FlatK k Try.prog e n) (hn : 0 < n) (hc : Try.prog.cellsOf e = n) : ArgOk t (fun a => ∃ (len : Nat) (z : Nat → Int), a = .slcT none (.M [.arr k z (len * n)]) n len false ∧ ∀ j, (Lit.int k (z j)).wf = true) := fun H enc w r b0 base sp held v d ps hv h => by
  simp only [Value.okWide, ht] at hv
  have hcell : v.cells.toList = [v] := by
    simp only [Cell.okWide, ht] at hv
    cases v <;> simp_all [Cell.ok] <;> rfl
  obtain ⟨fuel, hf⟩ := h
  rw [hcell] at hf
  have h0 : (Lit.int k 0).wf = true := by cases k <;> rfl
  rcases slice_flat ht he hn hc (slice_spot ht hv) hf with rfl | ⟨zs, len, h1, h2⟩
  · exact ⟨_, ⟨0, fun _ => 0, rfl, fun _ => h0⟩, .slcN⟩
  · refine ⟨_, ⟨len, fun j => if j < len * n then zs j else 0, rfl, fun j => ?_⟩, ?_⟩
    · dsimp only
      split
      · exact h2 _ (by assumption)
      · exact h0
    · have h3 := toM h1
      cases h3 with
      | slcN => exact .slcN
      | slcT vs a0 a1 hv' hl hf' hx =>
        refine .slcT vs a0 a1 (fun j hj => ?_) hl hf' hx
        have := hv' j hj
        have hj' : j < len * n := by simpa [Row.len, lenM, segLen] using hj
        simp only [Row.get, getM, if_pos hj'] at this ⊢
        exact this.anyInt _ _
def AU16s (a : AV) : Prop := ∃ (len : Nat) (z : Nat → Int), a = .slcT none (.M [.arr .u16 z len]) 1 len false ∧ ∀ j, 0 ≤ z j ∧ z j ≤ 65535
theorem argU16s : ArgOk 53 AU16s := fun H enc w r b0 base sp held v d ps hv h => by
  obtain ⟨a, ⟨len, z, rfl, hz⟩, hr⟩ := argSlice Try.underlying53 (flat_int Try.underlying66) (by omega) (by kernel_rfl) H enc w r b0 base sp held v d ps hv h
  refine ⟨_, ⟨len, z, by rw [Nat.mul_one], fun j => ?_⟩, hr⟩
  have := hz j
  simp [Lit.wf, IntKind.min, IntKind.max, IntKind.signed, IntKind.bits] at this
  omega
end Go.Eng
end
