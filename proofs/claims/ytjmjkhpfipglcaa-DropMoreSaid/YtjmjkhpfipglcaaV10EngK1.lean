/- Closed calls of the drop laws: those of Works. -/
import Derived.Test.YtjmjkhpfipglcaaV10EngK0
namespace Go.Proofs.Ytjmjkhpfipglcaa.Known
open Go.Eng Go.Proofs
set_option maxRecDepth 100000
def E2 : Ora := ⟨17, [bathB, .int .i64 0], .tup [.agg (.I .i64 [300, 444]), .int .i64 0]⟩
theorem ok2 : OneOk Try.prog E2 := one_of named mixed tab1_ok Kt.kt 100000 40 (H' := [⟨true, []⟩]) (by kernel_rfl) (by kernel_rfl)
def E3 : Ora := ⟨21, [bathB, .int .i64 1, .int .i64 2], .tup [.int .i64 1, .int .i64 0]⟩
theorem ok3 : OneOk Try.prog E3 := one_of named mixed tab1_ok Kt.kt 100000 40 (H' := [⟨true, []⟩]) (by kernel_rfl) (by kernel_rfl)
def E4 : Ora := ⟨23, [bathB, .int .i64 0, .int .i64 2], .tup [.int .i64 2, .int .i64 0]⟩
theorem ok4 : OneOk Try.prog E4 := one_of named mixed tab1_ok Kt.kt 100000 40 (H' := [⟨true, []⟩]) (by kernel_rfl) (by kernel_rfl)
def E7 : Ora := ⟨27, [bathC, .int .i64 1], .tup [.int .i64 323, .int .i64 0]⟩
theorem ok7 : OneOk Try.prog E7 := one_of named mixed tab1_ok Kt.kt 100000 40 (H' := [⟨true, []⟩]) (by kernel_rfl) (by kernel_rfl)
def E8 : Ora := ⟨27, [bathB, .int .i64 2], .tup [.int .i64 0, .int .i64 10]⟩
theorem ok8 : OneOk Try.prog E8 := one_of named mixed tab1_ok Kt.kt 100000 40 (H' := [⟨true, []⟩]) (by kernel_rfl) (by kernel_rfl)
def E9 : Ora := ⟨29, [bathB, .int .i64 (-1), .int .i64 2, .bool false], .tup [.slcT none (.I .i64 [-1, 0, 1, 2]) 1 4 true, .int .i64 0]⟩
theorem ok9 : OneOk Try.prog E9 := one_of named mixed tab1_ok Kt.kt 100000 40 (H' := [⟨true, []⟩]) (by kernel_rfl) (by kernel_rfl)
def E10 : Ora := ⟨29, [bathB, .int .i64 (-1), .int .i64 2, .bool true], .tup [.nils, .int .i64 5]⟩
theorem ok10 : OneOk Try.prog E10 := one_of named mixed tab1_ok Kt.kt 100000 40 (H' := [⟨true, []⟩]) (by kernel_rfl) (by kernel_rfl)
def E11 : Ora := ⟨34, [bathB, .int .i64 0, .int .i64 2, .bool true], .tup [.slcT none (.I .i64 [0, 1]) 1 2 false, .int .i64 0]⟩
theorem ok11 : OneOk Try.prog E11 := one_of named mixed tab1_ok Kt.kt 100000 40 (H' := [⟨true, []⟩]) (by kernel_rfl) (by kernel_rfl)
def E12 : Ora := ⟨34, [bathB, .int .i64 0, .int .i64 2, .bool false], .tup [.nils, .int .i64 11]⟩
theorem ok12 : OneOk Try.prog E12 := one_of named mixed tab1_ok Kt.kt 100000 40 (H' := [⟨true, []⟩]) (by kernel_rfl) (by kernel_rfl)
def E13 : Ora := ⟨36, [bathB, .bool true], .tup [.slcT (some 0) (.G [.slcT none (.I .i64 [-2]) 1 1 true, .slcT none (.I .i64 [-1]) 1 1 true, .slcT none (.I .i64 [0, 1]) 1 2 false, .slcT none (.I .i64 [2]) 1 1 true]) 1 4 false, .int .i64 0]⟩
theorem ok13 : OneOk Try.prog E13 := one_of named mixed tab1_ok Kt.kt 100000 40 (H' := [⟨true, []⟩]) (by kernel_rfl) (by kernel_rfl)
end Go.Proofs.Ytjmjkhpfipglcaa.Known
