/- Drop: arguments that are flat rows: structs and arrays of integers, slices of integers. -/
import Derived.Test.YtjmjkhpfipglcaaV8Hfx8
import Derived.OpenShut
namespace Go.Eng
open Go.Proofs Go.ChangeShapes Go.WideShapes Go.ChangeAt Go.RowKit
set_option linter.unusedVariables false
set_option maxRecDepth 100000
theorem flat_array {P : Program} {k : IntKind} {t e : TypeId} {n m : Nat} (ht : P.underlying t = some (.array n e)) (he : FlatK k P e m) (hm : 0 < m) (hc : P.cellsOf e = m) (hct : P.cellsOf t = n * m) : FlatK k P t (n * m) := by
  intro H enc w base sp held fuel cs x h
  obtain ⟨xs, f, _, _, hl, hxl, hel⟩ := DataW.trod_array ht h
  refine ⟨by rw [hl, hct], fun j hj => ?_⟩
  have hi : j / m < n := by rw [Nat.div_lt_iff_lt_mul hm]; exact hj
  have hm' := Nat.mod_lt j hm
  have g := hel (j / m) hi
  have : j / m < xs.length := by omega
  rw [List.getElem?_eq_getElem this] at g
  obtain ⟨_, k1⟩ := he _ _ _ _ _ _ _ _ _ g
  obtain ⟨z, hz, hw⟩ := k1 (j % m) hm'
  refine ⟨z, ?_, hw⟩
  rw [hc, List.getElem?_take, if_pos hm', List.getElem?_drop] at hz
  have hd := Nat.div_add_mod j m
  rw [Nat.mul_comm] at hd
  rwa [hd] at hz
/-- Flat rows of n integers of a kind. -/
def AFlat (k : IntKind) (n : Nat) (a : AV) : Prop := ∃ l : List Int, a = .agg (.I k l) ∧ l.length = n ∧ ∀ x ∈ l, (Lit.int k x).wf = true
theorem argFlat {t : TypeId} {k : IntKind} {n : Nat} (hs : ∀ w r b v, Value.okWide Try.prog w r b t v → ∃ cs, v = .agg cs) (hf : FlatK k Try.prog t n) : ArgOk t (AFlat k n) := fun H enc w r b0 base sp held v d ps hv h => by
  obtain ⟨cs, rfl⟩ := hs _ _ _ _ hv
  obtain ⟨fuel, hd⟩ := h
  obtain ⟨hl, hz⟩ := hf _ _ _ _ _ _ _ _ _ hd
  simp only [Value.cells, Array.length_toList] at hl
  have cell : ∀ j (hj : j < n), ∃ z : Int, cs.getD j undef = .int k z ∧ (Lit.int k z).wf = true := fun j hj => by
    obtain ⟨z, h1, h2⟩ := hz j hj
    simp only [Value.cells] at h1
    refine ⟨z, ?_, h2⟩
    rw [Array.getD_eq_getD_getElem?, ← Array.getElem?_toList, h1]; rfl
  obtain ⟨zs, hzs⟩ : ∃ zs : Nat → Int, ∀ j, j < n → cs.getD j undef = .int k (zs j) ∧ (Lit.int k (zs j)).wf = true :=
    ⟨fun j => if h : j < n then Classical.choose (cell j h) else 0, fun j hj => by
      have := Classical.choose_spec (cell j hj)
      simp only [dif_pos hj]; exact this⟩
  refine ⟨.agg (.I k ((List.range n).map zs)), ⟨_, rfl, by simp, fun x hx => ?_⟩, .agg (by simp [Row.len, hl]) (fun j hj => ?_) (fun j hj => ?_)⟩
  · obtain ⟨j, hj, rfl⟩ := List.mem_map.1 hx
    exact (hzs j (by simpa using hj)).2
  · have hj : j < n := by simpa [Row.len] using hj
    rw [(hzs j hj).1]; rfl
  · have hj : j < n := by simpa [Row.len] using hj
    rw [(hzs j hj).1]
    have e : (Row.I k ((List.range n).map zs)).get j = .int k (zs j) := by
      simp only [Row.get]
      rw [List.getD_eq_getElem?_getD]
      simp [hj]
    rw [e]; exact .int _ _
theorem okAgg_struct {t : TypeId} {fs : Array Field} (ht : Try.prog.underlying t = some (.struct fs)) : ∀ w r b v, Value.okWide Try.prog w r b t v → ∃ cs, v = .agg cs := fun w r b v h => by
  simp only [Value.okWide, ht] at h
  obtain ⟨cs, h1, _⟩ := h
  exact ⟨cs, h1⟩
theorem okAgg_array {t e : TypeId} {n : Nat} (ht : Try.prog.underlying t = some (.array n e)) : ∀ w r b v, Value.okWide Try.prog w r b t v → ∃ cs, v = .agg cs := fun w r b v h => by
  simp only [Value.okWide, ht] at h
  obtain ⟨cs, h1, _⟩ := h
  exact ⟨cs, h1⟩
/-- A drop; two numbers. -/
def ADrop (a : AV) : Prop := ∃ m1 m2 m3 : Int, a = .agg (.I .i64 [m1, m2, m3])
def AP16 (a : AV) : Prop := ∃ x y : Int, a = .agg (.I .u16 [x, y]) ∧ (0 ≤ x ∧ x ≤ 65535) ∧ (0 ≤ y ∧ y ≤ 65535)
def AP8 (a : AV) : Prop := ∃ x y : Int, a = .agg (.I .u8 [x, y]) ∧ (0 ≤ x ∧ x ≤ 255) ∧ (0 ≤ y ∧ y ≤ 255)
theorem argDrop : ArgOk 62 ADrop := fun H enc w r b0 base sp held v d ps hv h => by
  obtain ⟨a, ⟨l, rfl, hl, _⟩, hr⟩ := argFlat (okAgg_struct Try.underlying62) flat62 H enc w r b0 base sp held v d ps hv h
  match l, hl with
  | [x, y, z], _ => exact ⟨_, ⟨x, y, z, rfl⟩, hr⟩
theorem pair_of {a : AV} {k : IntKind} (h : AFlat k 2 a) : ∃ x y : Int, a = .agg (.I k [x, y]) ∧ (Lit.int k x).wf = true ∧ (Lit.int k y).wf = true := by
  obtain ⟨l, rfl, hl, hw⟩ := h
  match l, hl with
  | [x, y], _ => exact ⟨x, y, rfl, hw _ (by simp), hw _ (by simp)⟩
theorem argP16 : ArgOk 67 AP16 := fun H enc w r b0 base sp held v d ps hv h => by
  obtain ⟨a, ha, hr⟩ := argFlat (okAgg_array Try.underlying67) (flat_array Try.underlying67 (flat_int Try.underlying66) (by omega) (by kernel_rfl) (by kernel_rfl)) H enc w r b0 base sp held v d ps hv h
  obtain ⟨x, y, rfl, h1, h2⟩ := pair_of ha
  simp [Lit.wf, IntKind.min, IntKind.max, IntKind.signed, IntKind.bits] at h1 h2
  exact ⟨_, ⟨x, y, rfl, ⟨by omega, by omega⟩, by omega, by omega⟩, hr⟩
theorem argP8 : ArgOk 54 AP8 := fun H enc w r b0 base sp held v d ps hv h => by
  obtain ⟨a, ha, hr⟩ := argFlat (okAgg_array Try.underlying54) (flat_array Try.underlying54 (flat_int Try.underlying5) (by omega) (by kernel_rfl) (by kernel_rfl)) H enc w r b0 base sp held v d ps hv h
  obtain ⟨x, y, rfl, h1, h2⟩ := pair_of ha
  simp [Lit.wf, IntKind.min, IntKind.max, IntKind.signed, IntKind.bits] at h1 h2
  exact ⟨_, ⟨x, y, rfl, ⟨by omega, by omega⟩, by omega, by omega⟩, hr⟩
theorem argSlice {t e n : Nat} {k : IntKind} (ht : Try.prog.underlying t = some (.slice e)) (he : FlatK k Try.prog e n) (hn : 0 < n) (hc : Try.prog.cellsOf e = n) : ArgOk t (fun a => ∃ (len : Nat) (z : Nat → Int), a = .slcT none (.M [.arr k z (len * n)]) n len false ∧ ∀ j, (Lit.int k (z j)).wf = true) := fun H enc w r b0 base sp held v d ps hv h => by
  simp only [Value.okWide, ht] at hv
  have hcell : v.cells.toList = [v] := by
    simp only [Cell.okWide, ht] at hv
    cases v <;> simp_all [Cell.ok] <;> rfl
  obtain ⟨fuel, hf⟩ := h
  rw [hcell] at hf
  have h0 : (Lit.int k 0).wf = true := by cases k <;> rfl
  rcases slice_flat ht he hn hc (slice_spot ht hv) hf with rfl | ⟨zs, len, h1, h2⟩
  · exact ⟨_, ⟨0, fun _ => 0, rfl, fun _ => h0⟩, .slcN⟩
  · refine ⟨_, ⟨len, fun j => if j < len * n then zs j else 0, rfl, fun j => ?_⟩, ?_⟩
    · dsimp only
      split
      · exact h2 _ (by assumption)
      · exact h0
    · have h3 := toM h1
      cases h3 with
      | slcN => exact .slcN
      | slcT vs a0 a1 hv' hl hf' hx =>
        refine .slcT vs a0 a1 (fun j hj => ?_) hl hf' hx
        have := hv' j hj
        have hj' : j < len * n := by simpa [Row.len, lenM, segLen] using hj
        simp only [Row.get, getM, if_pos hj'] at this ⊢
        exact this.anyInt _ _
def AU16s (a : AV) : Prop := ∃ (len : Nat) (z : Nat → Int), a = .slcT none (.M [.arr .u16 z len]) 1 len false ∧ ∀ j, 0 ≤ z j ∧ z j ≤ 65535
theorem argU16s : ArgOk 53 AU16s := fun H enc w r b0 base sp held v d ps hv h => by
  obtain ⟨a, ⟨len, z, rfl, hz⟩, hr⟩ := argSlice Try.underlying53 (flat_int Try.underlying66) (by omega) (by kernel_rfl) H enc w r b0 base sp held v d ps hv h
  refine ⟨_, ⟨len, z, by rw [Nat.mul_one], fun j => ?_⟩, hr⟩
  have := hz j
  simp [Lit.wf, IntKind.min, IntKind.max, IntKind.signed, IntKind.bits] at this
  omega
end Go.Eng
