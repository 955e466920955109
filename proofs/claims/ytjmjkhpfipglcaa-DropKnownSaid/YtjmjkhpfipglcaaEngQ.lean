/- The engine, part Q: the top. -/
import Derived.Test.YtjmjkhpfipglcaaEngP
namespace Go.Eng
set_option linter.unusedVariables false

theorem HRel.top (w : World) : HRel (fun _ _ => none) Mu.no [⟨true, []⟩] w where
  pers := fun b o v h => by cases h
  live := fun d i v B hg hB => by
    cases d <;> simp [hGet, nthBlk] at hg <;> exact absurd hg.2.symm hB
  apart := fun d i v B d' i' v' B' b o t o' t' hg hB hg' hB' hm hm' => by cases hm
  dom := fun d i v t hm => by cases hm

/-- What a call computes that needs nothing of the heap. -/
theorem calls_of {P : Program} {call : CallT} (hC : CallOk P call) {f : FuncId} {args : List AV} {v : AV} {H' : Heap} (h : call (.fn f) args [⟨true, []⟩] = some (v, H')) {cargs : Array Value} (hA : CRel (fun _ _ => none) Mu.no args cargs) (w : World) :
    Calls P f cargs w (fun e w' => ∃ cv p' M', e = .returned cv ∧ VRel p' M' v cv ∧ Stay (fun _ => True) w w') := by
  have := (hC (.fn f) args _ v H' h (by simp) _ _ w cargs (HRel.top w) hA).2
  refine (callsIn_wide.1 this).mono ?_
  rintro e w' ⟨cv, rfl, _, p', M', hE, hv⟩
  exact ⟨cv, p', M', rfl, hv, hE.stay.weaken (fun b _ _ d i v B _ _ _ o t hm => by cases hm)⟩

theorem Stay.below {w w' : World} (h : Stay (fun _ => True) w w') : Go.RowKit.Below w.heap.size w w' := ⟨h.os, h.tape, h.output, h.size, fun k hk => h.block k hk trivial⟩

/-- A closed call that answers a boolean. -/
theorem calls_bool {P : Program} {call : CallT} (hC : CallOk P call) {f : FuncId} {x : Bool} {H' : Heap} (h : call (.fn f) [] [⟨true, []⟩] = some (.bool x, H')) (w : World) :
    Calls P f #[] w (fun e w' => e = .returned (.bool x) ∧ Go.RowKit.Below w.heap.size w w') := by
  refine (calls_of hC h (cargs := #[]) ⟨rfl, fun j hj => absurd hj (by simp)⟩ w).mono ?_
  rintro e w' ⟨cv, p', M', rfl, hv, hs⟩
  cases hv
  exact ⟨rfl, hs.below⟩

end Go.Eng
