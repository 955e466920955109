/- Closed calls of the seat: what they lean on. -/
import Derived.Test.YtigmfpmabgekoaaGreatV2EngRn4x3
import Derived.Test.YtigmfpmabgekoaaGreatV2EngKtB
import Derived.Test.YtigmfpmabgekoaaGreatProg
import Derived.KernelRfl
import Derived.Test.YtigmfpmabgekoaaGreatChecked
section
namespace Go.Proofs.YtigmfpmabgekoaaGreat.Known
open Go.Eng Go.Proofs
set_option maxRecDepth 100000
theorem named : Named Tryz.prog := by
  have h : (Tryz.prog.funcs.toList.all fun fn => fn.body.isNone || !(fn.name == "runtime.NumGoroutine")) = true := by kernel_rfl
  intro f fn hf hb
  have := List.all_eq_true.1 h fn (by simpa using Array.mem_of_getElem? hf)
  rw [hb] at this
  simpa using this
theorem mixed : Tryz.prog.follows .mixedOrders = true := by kernel_rfl
theorem none_ok : ∀ e ∈ ([] : List Ora), OneOk Tryz.prog e := fun e h => by cases h
theorem cons_ok {e : Ora} {t : List Ora} (h : OneOk Tryz.prog e) (k : ∀ x ∈ t, OneOk Tryz.prog x) : ∀ x ∈ e :: t, OneOk Tryz.prog x := fun x hx => by
  rcases List.mem_cons.1 hx with rfl | hx
  · exact h
  · exact k x hx
def tab0 : List Ora := []
theorem tab0_ok : ∀ e ∈ tab0, OneOk Tryz.prog e := none_ok
/-- A part of code: along a road of lefts (0) and rights (1). -/
def navB : List Nat → Code → Code
  | [], c => c
  | x :: p, c => match c with
    | .seq a b => match x with
      | 0 => navB p a
      | _ => navB p b
    | .cond _ a b => match x with
      | 0 => navB p a
      | _ => navB p b
    | .block _ b => navB p b
    | .loop b => navB p b
    | .scope b => navB p b
    | .rangeFunc _ _ a b => match x with
      | 0 => navB p a
      | _ => navB p b
    | c => c
/-- A body's part. -/
def opsB : Code → Array Oper
  | .region _ ops _ => ops
  | _ => #[]
noncomputable def bd79 : Code := Tryz.f79.body.getD .skip
def hdO (l : List Oper) : Oper := l.headD { dst := none, op := .move (.tmp 0), type := 0, pos := "", after := #[], guard := none }
noncomputable def mostS : RStart := { id0 := 24, ops0 := opsB (navB [1,1,1,1,1,1,0,0] bd79), pre := (opsB (navB [1,1,1,1,1,1,0,0] bd79)).toList.take 1, ro := hdO ((opsB (navB [1,1,1,1,1,1,0,0] bd79)).toList.drop 1), m := 90, ty := 122 }
noncomputable def mostL : RLoop := { out := 6, id1 := 25, id2 := 26, nxt := 7, ops1 := opsB (navB [1,1,1,1,1,1,0,1,0,0,0] bd79), ops2 := opsB (navB [1,1,1,1,1,1,0,1,0,0,1,1,0,0] bd79), no := hdO (opsB (navB [1,1,1,1,1,1,0,1,0,0,0] bd79)).toList, eo := hdO (opsB (navB [1,1,1,1,1,1,0,1,0,0,1,1,0,0] bd79)).toList, t1 := (opsB (navB [1,1,1,1,1,1,0,1,0,0,0] bd79)).toList.tail, t2 := (opsB (navB [1,1,1,1,1,1,0,1,0,0,1,1,0,0] bd79)).toList.tail, it := 91, nx := 92, mo := 93, en := 94, rest := navB [1,1,1,1,1,1,0,1,0,0,1,1,0,1] bd79, km := 1361129467678802093696356908627478183936 }
noncomputable def most : RFun := { f := 79, pre := [navB [0] bd79, navB [1,0] bd79, navB [1,1,0] bd79, navB [1,1,1,0] bd79, navB [1,1,1,1,0] bd79, navB [1,1,1,1,1,0] bd79], S := mostS, L := mostL, suf := navB [1,1,1,1,1,1,1] bd79 }
theorem most_b : Tryz.f79.body = some (assemble most.pre (mostS.code mostL) most.suf) := by kernel_rfl
theorem most_l0 : mostS.ops0.toList = mostS.pre ++ [mostS.ro] := by kernel_rfl
theorem most_o0 : mostS.ro.op = .range mostS.ty (.tmp mostS.m) := by kernel_rfl
theorem most_d0 : mostS.ro.dst = some mostL.it := by kernel_rfl
theorem most_g0 : mostS.ro.guard = none := by kernel_rfl
theorem most_l1 : mostL.ops1.toList = mostL.no :: mostL.t1 := by kernel_rfl
theorem most_o1 : mostL.no.op = .next (.tmp mostL.it) false := by kernel_rfl
theorem most_d1 : mostL.no.dst = some mostL.nx := by kernel_rfl
theorem most_g1 : mostL.no.guard = none := by kernel_rfl
theorem most_l2 : mostL.ops2.toList = mostL.eo :: mostL.t2 := by kernel_rfl
theorem most_o2 : mostL.eo.op = .entry (.tmp mostL.it) := by kernel_rfl
theorem most_d2 : mostL.eo.dst = some mostL.en := by kernel_rfl
theorem most_g2 : mostL.eo.guard = none := by kernel_rfl
theorem most_ok : most.Ok Tryz.prog := ⟨⟨Tryz.f79, Tryz.func79, most_b⟩, ⟨most_l0, most_o0, most_d0, most_g0, ⟨_, _, Tryz.underlying122⟩⟩, ⟨most_l1, most_o1, most_d1, most_g1, most_l2, most_o2, most_d2, most_g2⟩⟩
noncomputable def rs : List RFun := [most]
theorem rs_ok : ∀ r ∈ rs, r.Ok Tryz.prog := fun r h => by
  rcases List.mem_cons.1 h with rfl | h
  · exact most_ok
  · cases h
end Go.Proofs.YtigmfpmabgekoaaGreat.Known
end
section
namespace Go.Proofs.YtigmfpmabgekoaaGreat.Known
open Go.Eng Go.Proofs
set_option maxRecDepth 100000
noncomputable def E1 : Ora := ⟨51, [], .slcT none (.I .i64 [100, 110, 20, 60, 5, 90, 90, 10, 30, 3, 150, 150, 0, 40, 4, 130, 140, 30, 35, 6]) 5 4 true⟩
theorem ok1 : OneOk Tryz.prog E1 := one_ofO named mixed tab0_ok rs_ok [50] KtB.kt 100000 40 (H' := [⟨true, []⟩]) (by kernel_rfl) (by kernel_rfl)
noncomputable def tab1 : List Ora := E1 :: tab0
theorem tab1_ok : ∀ e ∈ tab1, OneOk Tryz.prog e := cons_ok ok1 tab0_ok
noncomputable def E2 : Ora := ⟨18, [.slcT none (.I .i64 [100, 110, 20, 60, 5, 90, 90, 10, 30, 3, 150, 150, 0, 40, 4, 130, 130, 25, 50, 6]) 5 4 true, .int .i64 80], .tup [.slcT none (.I .i64 [0, 1, 3]) 1 3 false, .int .i64 0]⟩
theorem ok2 : OneOk Tryz.prog E2 := one_ofO named mixed tab1_ok rs_ok [68] KtB.kt 100000 40 (H' := [⟨true, []⟩]) (by kernel_rfl) (by kernel_rfl)
noncomputable def tab2 : List Ora := E2 :: tab1
theorem tab2_ok : ∀ e ∈ tab2, OneOk Tryz.prog e := cons_ok ok2 tab1_ok
noncomputable def E3 : Ora := ⟨23, [.slcT none (.I .i64 [100, 110, 20, 60, 5, 90, 90, 10, 30, 3, 150, 150, 0, 40, 4, 130, 130, 25, 50, 6]) 5 4 true], .tup [.slcT none (.I .i64 [80, 150]) 1 2 true, .int .i64 0]⟩
theorem ok3 : OneOk Tryz.prog E3 := one_ofO named mixed tab2_ok rs_ok [68] KtB.kt 100000 40 (H' := [⟨true, []⟩]) (by kernel_rfl) (by kernel_rfl)
noncomputable def tab3 : List Ora := E3 :: tab2
theorem tab3_ok : ∀ e ∈ tab3, OneOk Tryz.prog e := cons_ok ok3 tab2_ok
end Go.Proofs.YtigmfpmabgekoaaGreat.Known
end
section
namespace Go.Proofs.YtigmfpmabgekoaaGreat.Known
open Go.Eng Go.Proofs
set_option maxRecDepth 100000
noncomputable def E4 : Ora := ⟨32, [.slcT none (.I .i64 [100, 110, 20, 60, 5, 90, 90, 10, 30, 3, 150, 150, 0, 40, 4, 130, 130, 25, 50, 6]) 5 4 true], .tup [.slcT none (.I .i64 [0, 2]) 1 2 false, .int .i64 0]⟩
theorem ok4 : OneOk Tryz.prog E4 := one_ofO named mixed tab3_ok rs_ok [68] KtB.kt 100000 40 (H' := [⟨true, []⟩]) (by kernel_rfl) (by kernel_rfl)
noncomputable def tab4 : List Ora := E4 :: tab3
theorem tab4_ok : ∀ e ∈ tab4, OneOk Tryz.prog e := cons_ok ok4 tab3_ok
noncomputable def E5 : Ora := ⟨25, [.slcT none (.I .i64 [100, 110, 20, 60, 5, 90, 90, 10, 30, 3, 150, 150, 0, 40, 4, 130, 130, 25, 50, 6]) 5 4 true], .tup [.slcT none (.I .i64 [2]) 1 1 false, .int .i64 0]⟩
theorem ok5 : OneOk Tryz.prog E5 := one_ofO named mixed tab4_ok rs_ok [68] KtB.kt 100000 40 (H' := [⟨true, []⟩]) (by kernel_rfl) (by kernel_rfl)
noncomputable def tab5 : List Ora := E5 :: tab4
theorem tab5_ok : ∀ e ∈ tab5, OneOk Tryz.prog e := cons_ok ok5 tab4_ok
noncomputable def E6 : Ora := ⟨36, [.slcT none (.I .i64 [100, 110, 20, 60, 5, 90, 90, 10, 30, 3, 150, 150, 0, 40, 4, 130, 130, 25, 50, 6]) 5 4 true, .int .i64 1], .tup [.int .i64 14, .slcT none (.I .i64 [80]) 1 1 false, .int .i64 0]⟩
theorem ok6 : OneOk Tryz.prog E6 := one_ofO named mixed tab5_ok rs_ok [68] KtB.kt 100000 40 (H' := [⟨true, []⟩]) (by kernel_rfl) (by kernel_rfl)
noncomputable def tab6 : List Ora := E6 :: tab5
theorem tab6_ok : ∀ e ∈ tab6, OneOk Tryz.prog e := cons_ok ok6 tab5_ok
end Go.Proofs.YtigmfpmabgekoaaGreat.Known
end
section
namespace Go.Proofs.YtigmfpmabgekoaaGreat.Known
open Go.Eng Go.Proofs
set_option maxRecDepth 100000
noncomputable def E7 : Ora := ⟨43, [.slcT none (.I .i64 [100, 110, 20, 60, 5, 90, 90, 10, 30, 3, 150, 150, 0, 40, 4, 130, 130, 25, 50, 6]) 5 4 true, .int .i64 1], .tup [.int .i64 4, .slcT none (.I .i64 [1, 3, 4, 0]) 1 4 true, .int .i64 0]⟩
theorem ok7 : OneOk Tryz.prog E7 := one_ofO named mixed tab6_ok rs_ok [68] KtB.kt 100000 40 (H' := [⟨true, []⟩]) (by kernel_rfl) (by kernel_rfl)
noncomputable def tab7 : List Ora := E7 :: tab6
theorem tab7_ok : ∀ e ∈ tab7, OneOk Tryz.prog e := cons_ok ok7 tab6_ok
noncomputable def E8 : Ora := ⟨45, [.slcT none (.I .i64 [100, 110, 20, 60, 5, 90, 90, 10, 30, 3, 150, 150, 0, 40, 4, 130, 130, 25, 50, 6]) 5 4 true, .int .i64 1, .int .i64 4, .slcT none (.I .i64 [1, 3, 4, 0]) 1 4 true], .tup [.int .i64 14, .int .i64 0]⟩
theorem ok8 : OneOk Tryz.prog E8 := one_ofO named mixed tab7_ok rs_ok [68] KtB.kt 100000 40 (H' := [⟨true, []⟩]) (by kernel_rfl) (by kernel_rfl)
noncomputable def tab8 : List Ora := E8 :: tab7
theorem tab8_ok : ∀ e ∈ tab8, OneOk Tryz.prog e := cons_ok ok8 tab7_ok
noncomputable def E9 : Ora := ⟨34, [.slcT none (.I .i64 [100, 110, 20, 60, 5, 90, 90, 10, 30, 3, 150, 150, 0, 40, 4, 130, 130, 25, 50, 6]) 5 4 true, .slcT none (.I .i64 [0, 2]) 1 2 false], .int .i64 0⟩
theorem ok9 : OneOk Tryz.prog E9 := one_ofO named mixed tab8_ok rs_ok [68] KtB.kt 100000 40 (H' := [⟨true, []⟩]) (by kernel_rfl) (by kernel_rfl)
noncomputable def tab9 : List Ora := E9 :: tab8
theorem tab9_ok : ∀ e ∈ tab9, OneOk Tryz.prog e := cons_ok ok9 tab8_ok
end Go.Proofs.YtigmfpmabgekoaaGreat.Known
end
section
namespace Go.Proofs.YtigmfpmabgekoaaGreat.Known
open Go.Eng Go.Proofs
set_option maxRecDepth 100000
noncomputable def E10 : Ora := ⟨39, [.slcT none (.I .i64 [100, 110, 20, 60, 5, 90, 90, 10, 30, 3, 150, 150, 0, 40, 4, 130, 130, 25, 50, 6]) 5 4 true, .slcT none (.I .i64 [80]) 1 1 false], .int .i64 14⟩
theorem ok10 : OneOk Tryz.prog E10 := one_ofO named mixed tab9_ok rs_ok [68] KtB.kt 100000 40 (H' := [⟨true, []⟩]) (by kernel_rfl) (by kernel_rfl)
noncomputable def tab10 : List Ora := E10 :: tab9
theorem tab10_ok : ∀ e ∈ tab10, OneOk Tryz.prog e := cons_ok ok10 tab9_ok
noncomputable def E11 : Ora := ⟨36, [.slcT none (.I .i64 [100, 110, 20, 60, 5, 90, 90, 10, 30, 3, 150, 150, 0, 40, 4, 130, 130, 25, 50, 6]) 5 4 true, .int .i64 0], .tup [.int .i64 0, .nils, .int .i64 0]⟩
theorem ok11 : OneOk Tryz.prog E11 := one_ofO named mixed tab10_ok rs_ok [68] KtB.kt 100000 40 (H' := [⟨true, []⟩]) (by kernel_rfl) (by kernel_rfl)
noncomputable def tab11 : List Ora := E11 :: tab10
theorem tab11_ok : ∀ e ∈ tab11, OneOk Tryz.prog e := cons_ok ok11 tab10_ok
noncomputable def E12 : Ora := ⟨36, [.slcT none (.I .i64 [100, 110, 20, 60, 5, 90, 90, 10, 30, 3, 150, 150, 0, 40, 4, 130, 130, 25, 50, 6]) 5 4 true, .int .i64 2], .tup [.int .i64 18, .slcT none (.I .i64 [80, 110]) 1 2 false, .int .i64 0]⟩
theorem ok12 : OneOk Tryz.prog E12 := one_ofO named mixed tab11_ok rs_ok [68] KtB.kt 100000 40 (H' := [⟨true, []⟩]) (by kernel_rfl) (by kernel_rfl)
noncomputable def tab12 : List Ora := E12 :: tab11
theorem tab12_ok : ∀ e ∈ tab12, OneOk Tryz.prog e := cons_ok ok12 tab11_ok
end Go.Proofs.YtigmfpmabgekoaaGreat.Known
end
section
namespace Go.Proofs.YtigmfpmabgekoaaGreat.Known
open Go.Eng Go.Proofs
set_option maxRecDepth 100000
noncomputable def E13 : Ora := ⟨18, [.slcT none (.I .i64 [100, 110, 20, 60, 5, 90, 90, 10, 30, 3, 150, 150, 0, 40, 4, 130, 130, 25, 50, 6]) 5 4 true, .int .i64 81], .tup [.slcT none (.I .i64 [3]) 1 1 false, .int .i64 0]⟩
theorem ok13 : OneOk Tryz.prog E13 := one_ofO named mixed tab12_ok rs_ok [68] KtB.kt 100000 40 (H' := [⟨true, []⟩]) (by kernel_rfl) (by kernel_rfl)
noncomputable def tab13 : List Ora := E13 :: tab12
theorem tab13_ok : ∀ e ∈ tab13, OneOk Tryz.prog e := cons_ok ok13 tab12_ok
noncomputable def E14 : Ora := ⟨36, [.slcT none (.I .i64 [100, 110, 20, 60, 5, 90, 90, 10, 30, 3, 150, 150, 0, 40, 4, 130, 140, 30, 35, 6]) 5 4 true, .int .i64 1], .tup [.int .i64 8, .slcT none (.I .i64 [60]) 1 1 false, .int .i64 0]⟩
theorem ok14 : OneOk Tryz.prog E14 := one_ofO named mixed tab13_ok rs_ok [68] KtB.kt 100000 40 (H' := [⟨true, []⟩]) (by kernel_rfl) (by kernel_rfl)
noncomputable def tab14 : List Ora := E14 :: tab13
theorem tab14_ok : ∀ e ∈ tab14, OneOk Tryz.prog e := cons_ok ok14 tab13_ok
end Go.Proofs.YtigmfpmabgekoaaGreat.Known
end
section
namespace Go.Proofs.YtigmfpmabgekoaaGreat.Known
open Go.Eng Go.Proofs
set_option maxRecDepth 100000
noncomputable def EW : Ora := ⟨15, [], .bool true⟩
theorem okW : OneOk Tryz.prog EW := one_ofO named mixed tab14_ok rs_ok [68] KtB.kt 100000 40 (H' := [⟨true, []⟩]) (by kernel_rfl) (by kernel_rfl)
noncomputable def tabW : List Ora := EW :: tab14
theorem tabW_ok : ∀ e ∈ tabW, OneOk Tryz.prog e := cons_ok okW tab14_ok
theorem known_calls (w : World) : Calls Tryz.prog 13 #[] w (fun e w' => e = .returned (.bool true) ∧ Go.RowKit.Below w.heap.size w w') := bool_ofO named mixed tabW_ok rs_ok [68] KtB.kt 100000 40 (H' := [⟨true, []⟩]) (by kernel_rfl) w
end Go.Proofs.YtigmfpmabgekoaaGreat.Known
end
