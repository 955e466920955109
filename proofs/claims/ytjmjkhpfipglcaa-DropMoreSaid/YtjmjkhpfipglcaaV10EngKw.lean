/- Closed calls of the drop laws: Works. -/
import Derived.Test.YtjmjkhpfipglcaaV10EngK1
import Derived.Test.YtjmjkhpfipglcaaV10EngK3
import Derived.Test.YtjmjkhpfipglcaaV10EngK4
namespace Go.Proofs.Ytjmjkhpfipglcaa.Known
open Go.Eng Go.Proofs
set_option maxRecDepth 100000
def tabW : List Ora := [E2, E3, E4, E5, E6, E7, E8, E9, E10, E11, E12, E13, E0, E1]
theorem tabW_ok : ∀ e ∈ tabW, OneOk Try.prog e := by
  intro e h
  simp only [tabW, List.mem_cons, List.not_mem_nil, or_false] at h
  rcases h with rfl | rfl | rfl | rfl | rfl | rfl | rfl | rfl | rfl | rfl | rfl | rfl | rfl | rfl
  · exact ok2
  · exact ok3
  · exact ok4
  · exact ok5
  · exact ok6
  · exact ok7
  · exact ok8
  · exact ok9
  · exact ok10
  · exact ok11
  · exact ok12
  · exact ok13
  · exact ok0
  · exact ok1
def E14 : Ora := ⟨16, [], .bool true⟩
theorem ok14 : OneOk Try.prog E14 := one_of named mixed tabW_ok Kt.kt 100000 40 (H' := [⟨true, []⟩]) (by kernel_rfl) (by kernel_rfl)
end Go.Proofs.Ytjmjkhpfipglcaa.Known
