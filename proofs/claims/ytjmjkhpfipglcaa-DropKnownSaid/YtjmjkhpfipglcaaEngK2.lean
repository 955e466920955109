/- Closed calls of the drop laws: those of DropKnown. -/
import Derived.Test.YtjmjkhpfipglcaaEngK0
namespace Go.Proofs.Ytjmjkhpfipglcaa.Known
open Go.Eng Go.Proofs
set_option maxRecDepth 100000
def E15 : Ora := ⟨17, [bathC, .int .i64 1], .tup [.agg (.I .i64 [0, 0]), .int .i64 0]⟩
theorem ok15 : OneOk Try.prog E15 := one_of named mixed tab1_ok Kt.kt 100000 40 (H' := [⟨true, []⟩]) (by kernel_rfl) (by kernel_rfl)
def E16 : Ora := ⟨21, [bathB, .int .i64 (-1), .int .i64 0], .tup [.int .i64 1, .int .i64 0]⟩
theorem ok16 : OneOk Try.prog E16 := one_of named mixed tab1_ok Kt.kt 100000 40 (H' := [⟨true, []⟩]) (by kernel_rfl) (by kernel_rfl)
def E17 : Ora := ⟨21, [bathB, .int .i64 2, .int .i64 (-2)], .tup [.int .i64 0, .int .i64 0]⟩
theorem ok17 : OneOk Try.prog E17 := one_of named mixed tab1_ok Kt.kt 100000 40 (H' := [⟨true, []⟩]) (by kernel_rfl) (by kernel_rfl)
def E18 : Ora := ⟨23, [bathB, .int .i64 2, .int .i64 1], .tup [.int .i64 0, .int .i64 0]⟩
theorem ok18 : OneOk Try.prog E18 := one_of named mixed tab1_ok Kt.kt 100000 40 (H' := [⟨true, []⟩]) (by kernel_rfl) (by kernel_rfl)
def E19 : Ora := ⟨23, [bathB, .int .i64 1, .int .i64 3], .tup [.int .i64 1, .int .i64 0]⟩
theorem ok19 : OneOk Try.prog E19 := one_of named mixed tab1_ok Kt.kt 100000 40 (H' := [⟨true, []⟩]) (by kernel_rfl) (by kernel_rfl)
def E21 : Ora := ⟨27, [bathC, .int .i64 0], .tup [.int .i64 255, .int .i64 0]⟩
theorem ok21 : OneOk Try.prog E21 := one_of named mixed tab1_ok Kt.kt 100000 40 (H' := [⟨true, []⟩]) (by kernel_rfl) (by kernel_rfl)
def E22 : Ora := ⟨27, [bathC, .int .i64 2], .tup [.int .i64 299, .int .i64 0]⟩
theorem ok22 : OneOk Try.prog E22 := one_of named mixed tab1_ok Kt.kt 100000 40 (H' := [⟨true, []⟩]) (by kernel_rfl) (by kernel_rfl)
def E23 : Ora := ⟨34, [bathB, .int .i64 0, .int .i64 (-2), .bool false], .tup [.slcT none (.I .i64 [-1, 0, 1, 2]) 1 4 false, .int .i64 0]⟩
theorem ok23 : OneOk Try.prog E23 := one_of named mixed tab1_ok Kt.kt 100000 40 (H' := [⟨true, []⟩]) (by kernel_rfl) (by kernel_rfl)
def E24 : Ora := ⟨36, [bathB, .bool false], .tup [.slcT (some 0) (.G [.slcT none (.I .i64 [-2]) 1 1 true, .slcT none (.I .i64 [-1, 0, 1, 2]) 1 4 false]) 1 2 false, .int .i64 0]⟩
theorem ok24 : OneOk Try.prog E24 := one_of named mixed tab1_ok Kt.kt 100000 40 (H' := [⟨true, []⟩]) (by kernel_rfl) (by kernel_rfl)
end Go.Proofs.Ytjmjkhpfipglcaa.Known
