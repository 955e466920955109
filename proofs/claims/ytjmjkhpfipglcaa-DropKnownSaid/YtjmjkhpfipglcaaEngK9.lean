/- Closed calls of the drop laws: Works and DropKnown. -/
import Derived.Test.YtjmjkhpfipglcaaEngK1
import Derived.Test.YtjmjkhpfipglcaaEngK2
import Derived.Test.YtjmjkhpfipglcaaEngK3
import Derived.Test.YtjmjkhpfipglcaaEngK4
import Derived.Test.YtjmjkhpfipglcaaEngK5
namespace Go.Proofs.Ytjmjkhpfipglcaa.Known
open Go.Eng Go.Proofs
set_option maxRecDepth 100000
def tabW : List Ora := [E2, E3, E4, E5, E6, E7, E8, E9, E10, E11, E12, E13, E0, E1]
theorem tabW_ok : ∀ e ∈ tabW, OneOk Try.prog e := by
  intro e h
  simp only [tabW, List.mem_cons, List.not_mem_nil, or_false] at h
  rcases h with rfl | rfl | rfl | rfl | rfl | rfl | rfl | rfl | rfl | rfl | rfl | rfl | rfl | rfl
  · exact ok2
  · exact ok3
  · exact ok4
  · exact ok5
  · exact ok6
  · exact ok7
  · exact ok8
  · exact ok9
  · exact ok10
  · exact ok11
  · exact ok12
  · exact ok13
  · exact ok0
  · exact ok1
def E14 : Ora := ⟨16, [], .bool true⟩
theorem ok14 : OneOk Try.prog E14 := one_of named mixed tabW_ok Kt.kt 100000 40 (H' := [⟨true, []⟩]) (by kernel_rfl) (by kernel_rfl)
def tabK : List Ora := [E14, E15, E16, E17, E18, E19, E20, E21, E22, E23, E24, E0, E1]
theorem tabK_ok : ∀ e ∈ tabK, OneOk Try.prog e := by
  intro e h
  simp only [tabK, List.mem_cons, List.not_mem_nil, or_false] at h
  rcases h with rfl | rfl | rfl | rfl | rfl | rfl | rfl | rfl | rfl | rfl | rfl | rfl | rfl
  · exact ok14
  · exact ok15
  · exact ok16
  · exact ok17
  · exact ok18
  · exact ok19
  · exact ok20
  · exact ok21
  · exact ok22
  · exact ok23
  · exact ok24
  · exact ok0
  · exact ok1
theorem known_calls (w : World) : Calls Try.prog 14 #[] w (fun e w' => e = .returned (.bool true) ∧ Go.RowKit.Below w.heap.size w w') := bool_of named mixed tabK_ok Kt.kt 100000 40 (H' := [⟨true, []⟩]) (by kernel_rfl) w
end Go.Proofs.Ytjmjkhpfipglcaa.Known
