/- The engine, part R: regions that draw their order: what an operation looks at. -/
import Derived.Test.YtjmjkhpfipglcaaEngQ
namespace Go.Eng
set_option linter.unusedVariables false
set_option linter.unusedSimpArgs false

theorem opds_congr {fr fr' : Frm} : ∀ {l : List Operand}, (∀ x ∈ l, opd fr x = opd fr' x) → opds fr l = opds fr' l
  | [], _ => rfl
  | x :: l, h => by simp only [opds]; rw [h x (by simp), opds_congr (fun y hy => h y (by simp [hy]))]
theorem mapOpd_congr {fr fr' : Frm} : ∀ {l : List (Nat × Operand)}, (∀ x ∈ l, opd fr x.2 = opd fr' x.2) → mapOpd fr l = mapOpd fr' l
  | [], _ => rfl
  | (i, x) :: l, h => by
    simp only [mapOpd]
    have := h (i, x) (by simp)
    simp only at this
    rw [this, mapOpd_congr (fun y hy => h y (by simp [hy]))]

theorem callV_congr {P : Program} {call : CallT} {fr fr' : Frm} {H : Heap} {nx : Nat} {c : Call} (h : ∀ x ∈ c.operands.toList, opd fr x = opd fr' x) : callV P call fr H nx c = callV P call fr' H nx c := by
  have hargs : ∀ x ∈ c.args.toList, opd fr x = opd fr' x := fun x hx => h x (by unfold Call.operands; rw [Array.toList_append]; exact List.mem_append_right _ hx)
  unfold callV
  cases hc : c.callee with
  | value f =>
    have hf : opd fr f = opd fr' f := h f (by unfold Call.operands; rw [hc]; simp)
    dsimp only
    rw [hf, opds_congr hargs]
  | invoke r m => rfl
  | builtin b =>
    cases b <;> dsimp only <;> try rfl
    all_goals first
      | (rw [opds_congr hargs]; done)
      | (generalize c.args.toList = l at hargs
         generalize c.argTypes.toList = ts
         rcases ts with _ | ⟨t, _ | ⟨u, ts⟩⟩ <;> rcases l with _ | ⟨x, _ | ⟨y, l⟩⟩ <;> dsimp only <;>
           first
           | rfl
           | (rw [hargs x (by simp), hargs y (by simp)])
           | (rw [hargs x (by simp)]))

theorem evalOp_congr {P : Program} {call : CallT} {fr fr' : Frm} {H : Heap} {nx : Nat} {o : Oper} (h : ∀ x ∈ o.op.operands.toList, opd fr x = opd fr' x) : evalOp P call fr H nx o = evalOp P call fr' H nx o := by
  unfold evalOp
  cases ho : o.op <;> rw [ho] at h <;> simp only [Op.operands] at h
  all_goals try (simp at h; simp [h]; done)
  all_goals try rfl
  case build t ps =>
    dsimp only
    rw [mapOpd_congr (l := ps.toList) (fun x hx => h x.2 (by simp only [List.mem_map]; exact ⟨x, hx, rfl⟩))]
  case buildSlice t n ps =>
    dsimp only
    rw [mapOpd_congr (l := ps.toList) (fun x hx => h x.2 (by simp only [List.mem_map]; exact ⟨x, hx, rfl⟩))]
  case makeFunc f a b =>
    simp at h
    dsimp only
    rw [opds_congr (l := a.toList) (fun x hx => h x (.inl (by simpa using hx))), opds_congr (l := b.toList) (fun x hx => h x (.inr (by simpa using hx)))]
  case makeMap t r => cases r <;> rfl
  case slice t x lo hi mx =>
    cases lo <;> cases hi <;> cases mx <;> simp at h <;> simp [h]
  case call c => exact callV_congr h

end Go.Eng
