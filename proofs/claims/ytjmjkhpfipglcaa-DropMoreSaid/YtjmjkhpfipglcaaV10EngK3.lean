/- Closed calls of the drop laws: First. -/
import Derived.Test.YtjmjkhpfipglcaaV10EngK0
namespace Go.Proofs.Ytjmjkhpfipglcaa.Known
open Go.Eng Go.Proofs
set_option maxRecDepth 100000
def E5 : Ora := ⟨25, [bathB, .int .i64 0, .int .i64 1], .tup [.agg (.I .i64 [2, 3]), .int .i64 0]⟩
theorem ok5 : OneOk Try.prog E5 := one_of named mixed tab1_ok Kt.kt 100000 40 (H' := [⟨true, []⟩]) (by kernel_rfl) (by kernel_rfl)
end Go.Proofs.Ytjmjkhpfipglcaa.Known
