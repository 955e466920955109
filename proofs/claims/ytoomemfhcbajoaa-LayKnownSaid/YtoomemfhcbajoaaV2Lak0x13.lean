/- Closed calls of the seat: what they lean on. -/
import Derived.Test.YtoomemfhcbajoaaV2EngRn6x2
import Derived.Test.YtoomemfhcbajoaaProg
import Derived.KernelRfl
import Derived.Test.YtoomemfhcbajoaaChecked
section
namespace Go.Proofs.Ytoomemfhcbajoaa.Known
open Go.Eng Go.Proofs
set_option maxRecDepth 100000
theorem named : Named Try.prog := by
  have h : (Try.prog.funcs.toList.all fun fn => fn.body.isNone || !(fn.name == "runtime.NumGoroutine")) = true := by kernel_rfl
  intro f fn hf hb
  have := List.all_eq_true.1 h fn (by simpa using Array.mem_of_getElem? hf)
  rw [hb] at this
  simpa using this
theorem mixed : Try.prog.follows .mixedOrders = true := by kernel_rfl
theorem none_ok : ∀ e ∈ ([] : List Ora), OneOk Try.prog e := fun e h => by cases h
theorem cons_ok {e : Ora} {t : List Ora} (h : OneOk Try.prog e) (k : ∀ x ∈ t, OneOk Try.prog x) : ∀ x ∈ e :: t, OneOk Try.prog x := fun x hx => by
  rcases List.mem_cons.1 hx with rfl | hx
  · exact h
  · exact k x hx
def tab0 : List Ora := []
theorem tab0_ok : ∀ e ∈ tab0, OneOk Try.prog e := none_ok
/-- A part of code: along a road of lefts (0) and rights (1). -/
def navB : List Nat → Code → Code
  | [], c => c
  | x :: p, c => match c with
    | .seq a b => match x with
      | 0 => navB p a
      | _ => navB p b
    | .cond _ a b => match x with
      | 0 => navB p a
      | _ => navB p b
    | .block _ b => navB p b
    | .loop b => navB p b
    | .scope b => navB p b
    | .rangeFunc _ _ a b => match x with
      | 0 => navB p a
      | _ => navB p b
    | c => c
/-- A body's part. -/
def opsB : Code → Array Oper
  | .region _ ops _ => ops
  | _ => #[]
noncomputable def bd90 : Code := Try.f90.body.getD .skip
def hdO (l : List Oper) : Oper := l.headD { dst := none, op := .move (.tmp 0), type := 0, pos := "", after := #[], guard := none }
noncomputable def pickS : RStart := { id0 := 3, ops0 := opsB (navB [1,1,1,0,0] bd90), pre := (opsB (navB [1,1,1,0,0] bd90)).toList.take 1, ro := hdO ((opsB (navB [1,1,1,0,0] bd90)).toList.drop 1), m := 9, ty := 95 }
noncomputable def pickL : RLoop := { out := 0, id1 := 4, id2 := 5, nxt := 1, ops1 := opsB (navB [1,1,1,0,1,0,0,0] bd90), ops2 := opsB (navB [1,1,1,0,1,0,0,1,1,0,0] bd90), no := hdO (opsB (navB [1,1,1,0,1,0,0,0] bd90)).toList, eo := hdO (opsB (navB [1,1,1,0,1,0,0,1,1,0,0] bd90)).toList, t1 := (opsB (navB [1,1,1,0,1,0,0,0] bd90)).toList.tail, t2 := (opsB (navB [1,1,1,0,1,0,0,1,1,0,0] bd90)).toList.tail, it := 10, nx := 11, mo := 12, en := 13, rest := navB [1,1,1,0,1,0,0,1,1,0,1] bd90, km := 16775424 }
noncomputable def pick : RFun := { f := 90, pre := [navB [0] bd90, navB [1,0] bd90, navB [1,1,0] bd90], S := pickS, L := pickL, suf := navB [1,1,1,1] bd90 }
theorem pick_b : Try.f90.body = some (assemble pick.pre (pickS.code pickL) pick.suf) := by kernel_rfl
theorem pick_l0 : pickS.ops0.toList = pickS.pre ++ [pickS.ro] := by kernel_rfl
theorem pick_o0 : pickS.ro.op = .range pickS.ty (.tmp pickS.m) := by kernel_rfl
theorem pick_d0 : pickS.ro.dst = some pickL.it := by kernel_rfl
theorem pick_g0 : pickS.ro.guard = none := by kernel_rfl
theorem pick_l1 : pickL.ops1.toList = pickL.no :: pickL.t1 := by kernel_rfl
theorem pick_o1 : pickL.no.op = .next (.tmp pickL.it) false := by kernel_rfl
theorem pick_d1 : pickL.no.dst = some pickL.nx := by kernel_rfl
theorem pick_g1 : pickL.no.guard = none := by kernel_rfl
theorem pick_l2 : pickL.ops2.toList = pickL.eo :: pickL.t2 := by kernel_rfl
theorem pick_o2 : pickL.eo.op = .entry (.tmp pickL.it) := by kernel_rfl
theorem pick_d2 : pickL.eo.dst = some pickL.en := by kernel_rfl
theorem pick_g2 : pickL.eo.guard = none := by kernel_rfl
theorem pick_ok : pick.Ok Try.prog := ⟨⟨Try.f90, Try.func90, pick_b⟩, ⟨pick_l0, pick_o0, pick_d0, pick_g0, ⟨_, _, Try.underlying95⟩⟩, ⟨pick_l1, pick_o1, pick_d1, pick_g1, pick_l2, pick_o2, pick_d2, pick_g2⟩⟩
noncomputable def rs : List RFun := [pick]
theorem rs_ok : ∀ r ∈ rs, r.Ok Try.prog := fun r h => by
  rcases List.mem_cons.1 h with rfl | h
  · exact pick_ok
  · cases h
end Go.Proofs.Ytoomemfhcbajoaa.Known
end
section
namespace Go.Proofs.Ytoomemfhcbajoaa.Known
open Go.Eng Go.Proofs
set_option maxRecDepth 100000
noncomputable def E1 : Ora := ⟨50, [.int .i64 5], .agg (.G [.slcT none (.I .i64 [2, 2, 6, 5, 5, 6, -1]) 1 7 true, .slcT none (.I .i64 [5, 5, 5, 5, 5, 5, 5]) 1 7 true])⟩
theorem ok1 : OneOk Try.prog E1 := one_ofO named mixed tab0_ok rs_ok [54, 95] KtL.kt 100000 40 (H' := [⟨true, []⟩]) (by kernel_rfl) (by kernel_rfl)
noncomputable def tab1 : List Ora := E1 :: tab0
theorem tab1_ok : ∀ e ∈ tab1, OneOk Try.prog e := cons_ok ok1 tab0_ok
noncomputable def E2 : Ora := ⟨50, [.int .i64 4], .agg (.G [.slcT none (.I .i64 [2, 2, 6, 5, 5, 6, -1]) 1 7 true, .slcT none (.I .i64 [4, 4, 4, 4, 4, 4, 4]) 1 7 true])⟩
theorem ok2 : OneOk Try.prog E2 := one_ofO named mixed tab1_ok rs_ok [54, 95] KtL.kt 100000 40 (H' := [⟨true, []⟩]) (by kernel_rfl) (by kernel_rfl)
noncomputable def tab2 : List Ora := E2 :: tab1
theorem tab2_ok : ∀ e ∈ tab2, OneOk Try.prog e := cons_ok ok2 tab1_ok
end Go.Proofs.Ytoomemfhcbajoaa.Known
end
section
namespace Go.Proofs.Ytoomemfhcbajoaa.Known
open Go.Eng Go.Proofs
set_option maxRecDepth 100000
noncomputable def E3 : Ora := ⟨50, [.int .i64 3], .agg (.G [.slcT none (.I .i64 [2, 2, 6, 5, 5, 6, -1]) 1 7 true, .slcT none (.I .i64 [3, 3, 3, 3, 3, 3, 3]) 1 7 true])⟩
theorem ok3 : OneOk Try.prog E3 := one_ofO named mixed tab2_ok rs_ok [54, 95] KtL.kt 100000 40 (H' := [⟨true, []⟩]) (by kernel_rfl) (by kernel_rfl)
noncomputable def tab3 : List Ora := E3 :: tab2
theorem tab3_ok : ∀ e ∈ tab3, OneOk Try.prog e := cons_ok ok3 tab2_ok
noncomputable def E4 : Ora := ⟨21, [.agg (.G [.slcT none (.I .i64 [2, 2, 6, 5, 5, 6, -1]) 1 7 true, .slcT none (.I .i64 [5, 5, 5, 5, 5, 5, 5]) 1 7 true])], .int .i64 0⟩
theorem ok4 : OneOk Try.prog E4 := one_ofO named mixed tab3_ok rs_ok [54, 95] KtL.kt 100000 40 (H' := [⟨true, []⟩]) (by kernel_rfl) (by kernel_rfl)
noncomputable def tab4 : List Ora := E4 :: tab3
theorem tab4_ok : ∀ e ∈ tab4, OneOk Try.prog e := cons_ok ok4 tab3_ok
end Go.Proofs.Ytoomemfhcbajoaa.Known
end
section
namespace Go.Proofs.Ytoomemfhcbajoaa.Known
open Go.Eng Go.Proofs
set_option maxRecDepth 100000
noncomputable def E5 : Ora := ⟨17, [.agg (.G [.slcT none (.I .i64 [2, 2, 6, 5, 5, 6, -1]) 1 7 true, .slcT none (.I .i64 [5, 5, 5, 5, 5, 5, 5]) 1 7 true])], .tup [.slcT none (.I .i64 [3, 3, 2, 3, 3, 2, 1]) 1 7 false, .int .i64 0]⟩
theorem ok5 : OneOk Try.prog E5 := one_ofO named mixed tab4_ok rs_ok [54, 95] KtL.kt 100000 40 (H' := [⟨true, []⟩]) (by kernel_rfl) (by kernel_rfl)
noncomputable def tab5 : List Ora := E5 :: tab4
theorem tab5_ok : ∀ e ∈ tab5, OneOk Try.prog e := cons_ok ok5 tab4_ok
noncomputable def E6 : Ora := ⟨19, [.agg (.G [.slcT none (.I .i64 [2, 2, 6, 5, 5, 6, -1]) 1 7 true, .slcT none (.I .i64 [5, 5, 5, 5, 5, 5, 5]) 1 7 true])], .tup [.slcT none (.I .i64 [3, 3, 4, 3, 3, 4, 5]) 1 7 false, .int .i64 0]⟩
theorem ok6 : OneOk Try.prog E6 := one_ofO named mixed tab5_ok rs_ok [54, 95] KtL.kt 100000 40 (H' := [⟨true, []⟩]) (by kernel_rfl) (by kernel_rfl)
noncomputable def tab6 : List Ora := E6 :: tab5
theorem tab6_ok : ∀ e ∈ tab6, OneOk Try.prog e := cons_ok ok6 tab5_ok
end Go.Proofs.Ytoomemfhcbajoaa.Known
end
section
namespace Go.Proofs.Ytoomemfhcbajoaa.Known
open Go.Eng Go.Proofs
set_option maxRecDepth 100000
noncomputable def E7 : Ora := ⟨21, [.agg (.G [.slcT none (.I .i64 [2, 2, 6, 5, 5, 6, -1]) 1 7 true, .slcT none (.I .i64 [4, 4, 4, 4, 4, 4, 4]) 1 7 true])], .int .i64 0⟩
theorem ok7 : OneOk Try.prog E7 := one_ofO named mixed tab6_ok rs_ok [54, 95] KtL.kt 100000 40 (H' := [⟨true, []⟩]) (by kernel_rfl) (by kernel_rfl)
noncomputable def tab7 : List Ora := E7 :: tab6
theorem tab7_ok : ∀ e ∈ tab7, OneOk Try.prog e := cons_ok ok7 tab6_ok
noncomputable def E8 : Ora := ⟨21, [.agg (.G [.slcT none (.I .i64 [2, 2, 6, 5, 5, 6, -1]) 1 7 true, .slcT none (.I .i64 [3, 3, 3, 3, 3, 3, 3]) 1 7 true])], .int .i64 0⟩
theorem ok8 : OneOk Try.prog E8 := one_ofO named mixed tab7_ok rs_ok [54, 95] KtL.kt 100000 40 (H' := [⟨true, []⟩]) (by kernel_rfl) (by kernel_rfl)
noncomputable def tab8 : List Ora := E8 :: tab7
theorem tab8_ok : ∀ e ∈ tab8, OneOk Try.prog e := cons_ok ok8 tab7_ok
end Go.Proofs.Ytoomemfhcbajoaa.Known
end
section
namespace Go.Proofs.Ytoomemfhcbajoaa.Known
open Go.Eng Go.Proofs
set_option maxRecDepth 100000
noncomputable def E9 : Ora := ⟨32, [.agg (.G [.slcT none (.I .i64 [2, 2, 6, 5, 5, 6, -1]) 1 7 true, .slcT none (.I .i64 [3, 3, 3, 3, 3, 3, 3]) 1 7 true]), .int .i64 2], .tup [.int .i64 1, .int .i64 0]⟩
theorem ok9 : OneOk Try.prog E9 := one_ofO named mixed tab8_ok rs_ok [54, 95] KtL.kt 100000 40 (H' := [⟨true, []⟩]) (by kernel_rfl) (by kernel_rfl)
noncomputable def tab9 : List Ora := E9 :: tab8
theorem tab9_ok : ∀ e ∈ tab9, OneOk Try.prog e := cons_ok ok9 tab8_ok
noncomputable def E10 : Ora := ⟨32, [.agg (.G [.slcT none (.I .i64 [2, 2, 6, 5, 5, 6, -1]) 1 7 true, .slcT none (.I .i64 [4, 4, 4, 4, 4, 4, 4]) 1 7 true]), .int .i64 2], .tup [.int .i64 0, .int .i64 5]⟩
theorem ok10 : OneOk Try.prog E10 := one_ofO named mixed tab9_ok rs_ok [54, 95] KtL.kt 100000 40 (H' := [⟨true, []⟩]) (by kernel_rfl) (by kernel_rfl)
noncomputable def tab10 : List Ora := E10 :: tab9
theorem tab10_ok : ∀ e ∈ tab10, OneOk Try.prog e := cons_ok ok10 tab9_ok
end Go.Proofs.Ytoomemfhcbajoaa.Known
end
section
namespace Go.Proofs.Ytoomemfhcbajoaa.Known
open Go.Eng Go.Proofs
set_option maxRecDepth 100000
noncomputable def E11 : Ora := ⟨34, [.agg (.G [.slcT none (.I .i64 [2, 2, 6, 5, 5, 6, -1]) 1 7 true, .slcT none (.I .i64 [3, 3, 3, 3, 3, 3, 3]) 1 7 true])], .tup [.int .i64 4, .int .i64 0]⟩
theorem ok11 : OneOk Try.prog E11 := one_ofO named mixed tab10_ok rs_ok [54, 95] KtL.kt 100000 40 (H' := [⟨true, []⟩]) (by kernel_rfl) (by kernel_rfl)
noncomputable def tab11 : List Ora := E11 :: tab10
theorem tab11_ok : ∀ e ∈ tab11, OneOk Try.prog e := cons_ok ok11 tab10_ok
noncomputable def E12 : Ora := ⟨36, [.agg (.G [.slcT none (.I .i64 [2, 2, 6, 5, 5, 6, -1]) 1 7 true, .slcT none (.I .i64 [5, 5, 5, 5, 5, 5, 5]) 1 7 true]), .int .i64 4], .tup [.int .i64 3, .int .i64 0]⟩
theorem ok12 : OneOk Try.prog E12 := one_ofO named mixed tab11_ok rs_ok [54, 95] KtL.kt 100000 40 (H' := [⟨true, []⟩]) (by kernel_rfl) (by kernel_rfl)
noncomputable def tab12 : List Ora := E12 :: tab11
theorem tab12_ok : ∀ e ∈ tab12, OneOk Try.prog e := cons_ok ok12 tab11_ok
end Go.Proofs.Ytoomemfhcbajoaa.Known
end
section
namespace Go.Proofs.Ytoomemfhcbajoaa.Known
open Go.Eng Go.Proofs
set_option maxRecDepth 100000
noncomputable def E13 : Ora := ⟨39, [.agg (.G [.slcT none (.I .i64 [2, 2, 6, 5, 5, 6, -1]) 1 7 true, .slcT none (.I .i64 [4, 4, 4, 4, 4, 4, 4]) 1 7 true]), .int .i64 2, .int .i64 5], .tup [.int .i64 3, .int .i64 0]⟩
theorem ok13 : OneOk Try.prog E13 := one_ofO named mixed tab12_ok rs_ok [54, 95] KtL.kt 100000 40 (H' := [⟨true, []⟩]) (by kernel_rfl) (by kernel_rfl)
noncomputable def tab13 : List Ora := E13 :: tab12
theorem tab13_ok : ∀ e ∈ tab13, OneOk Try.prog e := cons_ok ok13 tab12_ok
noncomputable def E14 : Ora := ⟨41, [.agg (.G [.slcT none (.I .i64 [2, 2, 6, 5, 5, 6, -1]) 1 7 true, .slcT none (.I .i64 [5, 5, 5, 5, 5, 5, 5]) 1 7 true]), .int .i64 2], .tup [.slcT none (.I .i64 [1, 2, 3, 4, 5]) 1 5 false, .int .i64 0]⟩
theorem ok14 : OneOk Try.prog E14 := one_ofO named mixed tab13_ok rs_ok [54, 95] KtL.kt 100000 40 (H' := [⟨true, []⟩]) (by kernel_rfl) (by kernel_rfl)
noncomputable def tab14 : List Ora := E14 :: tab13
theorem tab14_ok : ∀ e ∈ tab14, OneOk Try.prog e := cons_ok ok14 tab13_ok
end Go.Proofs.Ytoomemfhcbajoaa.Known
end
section
namespace Go.Proofs.Ytoomemfhcbajoaa.Known
open Go.Eng Go.Proofs
set_option maxRecDepth 100000
noncomputable def E15 : Ora := ⟨37, [.agg (.G [.slcT none (.I .i64 [2, 2, 6, 5, 5, 6, -1]) 1 7 true, .slcT none (.I .i64 [3, 3, 3, 3, 3, 3, 3]) 1 7 true]), .int .i64 2, .int .i64 1], .int .i64 0⟩
theorem ok15 : OneOk Try.prog E15 := one_ofO named mixed tab14_ok rs_ok [54, 95] KtL.kt 100000 40 (H' := [⟨true, []⟩]) (by kernel_rfl) (by kernel_rfl)
noncomputable def tab15 : List Ora := E15 :: tab14
theorem tab15_ok : ∀ e ∈ tab15, OneOk Try.prog e := cons_ok ok15 tab14_ok
noncomputable def E16 : Ora := ⟨37, [.agg (.G [.slcT none (.I .i64 [2, 2, 6, 5, 5, 6, -1]) 1 7 true, .slcT none (.I .i64 [4, 4, 4, 4, 4, 4, 4]) 1 7 true]), .int .i64 2, .int .i64 1], .int .i64 14⟩
theorem ok16 : OneOk Try.prog E16 := one_ofO named mixed tab15_ok rs_ok [54, 95] KtL.kt 100000 40 (H' := [⟨true, []⟩]) (by kernel_rfl) (by kernel_rfl)
noncomputable def tab16 : List Ora := E16 :: tab15
theorem tab16_ok : ∀ e ∈ tab16, OneOk Try.prog e := cons_ok ok16 tab15_ok
end Go.Proofs.Ytoomemfhcbajoaa.Known
end
section
namespace Go.Proofs.Ytoomemfhcbajoaa.Known
open Go.Eng Go.Proofs
set_option maxRecDepth 100000
noncomputable def E17 : Ora := ⟨34, [.agg (.G [.slcT none (.I .i64 [2, 2, 6, 5, 5, 6, -1]) 1 7 true, .slcT none (.I .i64 [5, 5, 5, 5, 5, 5, 5]) 1 7 true])], .tup [.int .i64 2, .int .i64 0]⟩
theorem ok17 : OneOk Try.prog E17 := one_ofO named mixed tab16_ok rs_ok [54, 95] KtL.kt 100000 40 (H' := [⟨true, []⟩]) (by kernel_rfl) (by kernel_rfl)
noncomputable def tab17 : List Ora := E17 :: tab16
theorem tab17_ok : ∀ e ∈ tab17, OneOk Try.prog e := cons_ok ok17 tab16_ok
noncomputable def E18 : Ora := ⟨34, [.agg (.G [.slcT none (.I .i64 [2, 2, 6, 5, 5, 6, -1]) 1 7 true, .slcT none (.I .i64 [4, 4, 4, 4, 4, 4, 4]) 1 7 true])], .tup [.int .i64 2, .int .i64 0]⟩
theorem ok18 : OneOk Try.prog E18 := one_ofO named mixed tab17_ok rs_ok [54, 95] KtL.kt 100000 40 (H' := [⟨true, []⟩]) (by kernel_rfl) (by kernel_rfl)
noncomputable def tab18 : List Ora := E18 :: tab17
theorem tab18_ok : ∀ e ∈ tab18, OneOk Try.prog e := cons_ok ok18 tab17_ok
end Go.Proofs.Ytoomemfhcbajoaa.Known
end
section
namespace Go.Proofs.Ytoomemfhcbajoaa.Known
open Go.Eng Go.Proofs
set_option maxRecDepth 100000
noncomputable def E19 : Ora := ⟨36, [.agg (.G [.slcT none (.I .i64 [2, 2, 6, 5, 5, 6, -1]) 1 7 true, .slcT none (.I .i64 [5, 5, 5, 5, 5, 5, 5]) 1 7 true]), .int .i64 2], .tup [.int .i64 4, .int .i64 0]⟩
theorem ok19 : OneOk Try.prog E19 := one_ofO named mixed tab18_ok rs_ok [54, 95] KtL.kt 100000 40 (H' := [⟨true, []⟩]) (by kernel_rfl) (by kernel_rfl)
noncomputable def tab19 : List Ora := E19 :: tab18
theorem tab19_ok : ∀ e ∈ tab19, OneOk Try.prog e := cons_ok ok19 tab18_ok
noncomputable def E20 : Ora := ⟨36, [.agg (.G [.slcT none (.I .i64 [2, 2, 6, 5, 5, 6, -1]) 1 7 true, .slcT none (.I .i64 [5, 5, 5, 5, 5, 5, 5]) 1 7 true]), .int .i64 3], .tup [.int .i64 4, .int .i64 0]⟩
theorem ok20 : OneOk Try.prog E20 := one_ofO named mixed tab19_ok rs_ok [54, 95] KtL.kt 100000 40 (H' := [⟨true, []⟩]) (by kernel_rfl) (by kernel_rfl)
noncomputable def tab20 : List Ora := E20 :: tab19
theorem tab20_ok : ∀ e ∈ tab20, OneOk Try.prog e := cons_ok ok20 tab19_ok
end Go.Proofs.Ytoomemfhcbajoaa.Known
end
section
namespace Go.Proofs.Ytoomemfhcbajoaa.Known
open Go.Eng Go.Proofs
set_option maxRecDepth 100000
noncomputable def E21 : Ora := ⟨39, [.agg (.G [.slcT none (.I .i64 [2, 2, 6, 5, 5, 6, -1]) 1 7 true, .slcT none (.I .i64 [5, 5, 5, 5, 5, 5, 5]) 1 7 true]), .int .i64 2, .int .i64 5], .tup [.int .i64 2, .int .i64 0]⟩
theorem ok21 : OneOk Try.prog E21 := one_ofO named mixed tab20_ok rs_ok [54, 95] KtL.kt 100000 40 (H' := [⟨true, []⟩]) (by kernel_rfl) (by kernel_rfl)
noncomputable def tab21 : List Ora := E21 :: tab20
theorem tab21_ok : ∀ e ∈ tab21, OneOk Try.prog e := cons_ok ok21 tab20_ok
noncomputable def E22 : Ora := ⟨41, [.agg (.G [.slcT none (.I .i64 [2, 2, 6, 5, 5, 6, -1]) 1 7 true, .slcT none (.I .i64 [4, 4, 4, 4, 4, 4, 4]) 1 7 true]), .int .i64 2], .tup [.nils, .int .i64 0]⟩
theorem ok22 : OneOk Try.prog E22 := one_ofO named mixed tab21_ok rs_ok [54, 95] KtL.kt 100000 40 (H' := [⟨true, []⟩]) (by kernel_rfl) (by kernel_rfl)
noncomputable def tab22 : List Ora := E22 :: tab21
theorem tab22_ok : ∀ e ∈ tab22, OneOk Try.prog e := cons_ok ok22 tab21_ok
end Go.Proofs.Ytoomemfhcbajoaa.Known
end
section
namespace Go.Proofs.Ytoomemfhcbajoaa.Known
open Go.Eng Go.Proofs
set_option maxRecDepth 100000
noncomputable def EW : Ora := ⟨16, [], .bool true⟩
theorem okW : OneOk Try.prog EW := one_ofO named mixed tab22_ok rs_ok [54, 95] KtL.kt 100000 40 (H' := [⟨true, []⟩]) (by kernel_rfl) (by kernel_rfl)
noncomputable def tabW : List Ora := EW :: tab22
theorem tabW_ok : ∀ e ∈ tabW, OneOk Try.prog e := cons_ok okW tab22_ok
theorem known_calls (w : World) : Calls Try.prog 14 #[] w (fun e w' => e = .returned (.bool true) ∧ Go.RowKit.Below w.heap.size w w') := bool_ofO named mixed tabW_ok rs_ok [54, 95] KtL.kt 100000 40 (H' := [⟨true, []⟩]) (by kernel_rfl) w
end Go.Proofs.Ytoomemfhcbajoaa.Known
end
