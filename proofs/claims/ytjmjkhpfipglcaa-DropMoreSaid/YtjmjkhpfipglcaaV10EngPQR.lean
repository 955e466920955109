/- The engine, part P: calls of whatever depth. -/
import Derived.Test.YtjmjkhpfipglcaaV10EngNO
section
namespace Go.Eng
set_option linter.unusedVariables false
set_option linter.unusedSimpArgs false

/-- What is left to show: regions that draw their order. -/
def DrawOk (P : Program) : Prop := ∀ (cx : Cx) (F : Fence), cx.P = P → CallOk P cx.call → Wide F → ∀ (id : Nat) (ops : Array Oper) (fr : Frm) (H : Heap) (fr' : Frm) (H' : Heap), slotsOk ops (Region.before ops) = true →
  drawOps cx.P cx.nt cx.call ops (Region.before ops) 0 ops.toList fr (hPad H (pushes ops.toList)) (hNext H) [] = some (fr', H') → CodeOk cx.P F cx.ro cx.nt (.region id ops true) fr H .normal fr' H'

/-- What is asked of the calls that are known beforehand. -/
def OraOk (P : Program) (ora : CallT → FuncId → List AV → Heap → Option (AV × Heap)) : Prop := ∀ (call : CallT), CallOk P call → ∀ (f : FuncId) (args : List AV) (H : Heap) (v : AV) (H' : Heap), ora call f args H = some (v, H') → H ≠ [] → ∀ (p : Pst) (M : Mu) (w : World) (cargs : Array Value), HRel p M H w → CRel p M args cargs →
  (∃ fn, P.funcs[f]? = some fn ∧ fn.body.isNone = false) ∧ CallsIn Fence.wide 0 P f cargs w (Post p M H w v H')
theorem OraOk.none (P : Program) : OraOk P (fun _ _ _ _ => none) := fun call _ f args H v H' h => by simp at h

theorem more {P : Program} (hN : Named P) (hD : DrawOk P) {call : CallT} (hC : CallOk P call) (cx : Cx) (F : Fence) (h1 : cx.P = P) (h2 : cx.call = call) (hW : Wide F) : CodeMore cx F := by
  subst h1; subst h2
  exact ⟨fun id ops fr H fr' H' hs hr => hD cx F rfl hC hW id ops fr H fr' H' hs hr, fun f ps assign body fr H e fr' H' h => range_rel hW hN hC f ps assign body fr H e fr' H' h⟩

theorem callN_rel {P : Program} (hN : Named P) (hD : DrawOk P) {ora : CallT → FuncId → List AV → Heap → Option (AV × Heap)} (hO : OraOk P ora) (KT : FuncId → Nat → Nat) (fu : Nat) : ∀ n, CallOk P (callN P ora KT fu n)
  | 0 => fun tgt args H v H' h _ _ _ _ _ _ _ => by cases tgt <;> first | trivial | simp [callN] at h
  | n + 1 => by
    have ih := callN_rel hN hD hO KT fu n
    intro tgt args H v H' h hne p M w cargs hH hA
    cases tgt with
    | fn f =>
      simp only [callN] at h
      cases ho : ora (callN P ora KT fu n) f args H with
      | some u =>
        rw [ho] at h
        dsimp only at h
        rw [Option.some.injEq] at h
        subst h
        exact hO _ ih f args H v H' ho hne p M w cargs hH hA
      | none =>
        rw [ho] at h
        simp only at h
        cases hf : P.funcs[f]? with
        | none => rw [hf] at h; simp at h
        | some fn =>
          rw [hf] at h
          simp only at h
          cases hb : fn.body with
          | none => rw [hb] at h; simp at h
          | some c =>
            rw [hb] at h
            simp only at h
            split at h
            · rename_i hle
              split at h
              · rename_i e fr l H1 he
                split at h
                · cases hv : resV P fr (l :: H1) fn.results.toList with
                  | none => rw [hv] at h; simp at h
                  | some vs =>
                    rw [hv] at h
                    simp only [Option.some.injEq, Prod.mk.injEq] at h
                    obtain ⟨rfl, rfl⟩ := h
                    exact ⟨⟨fn, hf, by rw [hb]; rfl⟩, func_rel hf hb (by simpa using hle) (.inl rfl) hv (exec_rel Wide.wide hN ih (more hN hD ih _ _ rfl rfl Wide.wide) _ _ _ _ _ _ he) hH hA⟩
                · cases hv : resV P fr (l :: H1) fn.results.toList with
                  | none => rw [hv] at h; simp at h
                  | some vs =>
                    rw [hv] at h
                    simp only [Option.some.injEq, Prod.mk.injEq] at h
                    obtain ⟨rfl, rfl⟩ := h
                    exact ⟨⟨fn, hf, by rw [hb]; rfl⟩, func_rel hf hb (by simpa using hle) (.inr rfl) hv (exec_rel Wide.wide hN ih (more hN hD ih _ _ rfl rfl Wide.wide) _ _ _ _ _ _ he) hH hA⟩
                · simp at h
              · simp at h
            · simp at h
    | mode => trivial
    | round d i =>
      intro b o t hm
      simp only [callN] at h
      split at h
      · rename_i l hg
        split at h
        · simp at h
        · rename_i hl
          split at h
          · rename_i hs
            split at h
            · rename_i fr hp
              split at h
              · rename_i fr1 H1 he1
                split at h
                · rename_i l1 hg1
                  split at h
                  · rename_i hs1
                    split at h
                    · rename_i e fr2 lv H2 he2
                      split at h
                      · rename_i l2 hg2
                        simp only [Option.some.injEq, Prod.mk.injEq] at h
                        obtain ⟨rfl, rfl⟩ := h
                        exact round_rel hN ih (fun cx F h1 h2 hW => more hN hD ih cx F h1 h2 hW) hg (by simpa using hl) hs hp he1 hg1 hs1 he2 hg2 hH hA hm
                      · simp at h
                    · simp at h
                  · simp at h
                · simp at h
              · simp at h
            · simp at h
          · simp at h
      · simp at h

end Go.Eng
end

section
namespace Go.Eng
set_option linter.unusedVariables false

theorem HRel.top (w : World) : HRel (fun _ _ => none) Mu.no [⟨true, []⟩] w where
  pers := fun b o v h => by cases h
  live := fun d i v B hg hB => by
    cases d <;> simp [hGet, nthBlk] at hg <;> exact absurd hg.2.symm hB
  apart := fun d i v B d' i' v' B' b o t o' t' hg hB hg' hB' hm hm' => by cases hm
  dom := fun d i v t hm => by cases hm

/-- What a call computes that needs nothing of the heap. -/
theorem calls_of {P : Program} {call : CallT} (hC : CallOk P call) {f : FuncId} {args : List AV} {v : AV} {H' : Heap} (h : call (.fn f) args [⟨true, []⟩] = some (v, H')) {cargs : Array Value} (hA : CRel (fun _ _ => none) Mu.no args cargs) (w : World) :
    Calls P f cargs w (fun e w' => ∃ cv p' M', e = .returned cv ∧ VRel p' M' v cv ∧ Stay (fun _ => True) w w') := by
  have := (hC (.fn f) args _ v H' h (by simp) _ _ w cargs (HRel.top w) hA).2
  refine (callsIn_wide.1 this).mono ?_
  rintro e w' ⟨cv, rfl, _, p', M', hE, hv⟩
  exact ⟨cv, p', M', rfl, hv, hE.stay.weaken (fun b _ _ d i v B _ _ _ o t hm => by cases hm)⟩

theorem Stay.below {w w' : World} (h : Stay (fun _ => True) w w') : Go.RowKit.Below w.heap.size w w' := ⟨h.os, h.tape, h.output, h.size, fun k hk => h.block k hk trivial⟩

/-- A closed call that answers a boolean. -/
theorem calls_bool {P : Program} {call : CallT} (hC : CallOk P call) {f : FuncId} {x : Bool} {H' : Heap} (h : call (.fn f) [] [⟨true, []⟩] = some (.bool x, H')) (w : World) :
    Calls P f #[] w (fun e w' => e = .returned (.bool x) ∧ Go.RowKit.Below w.heap.size w w') := by
  refine (calls_of hC h (cargs := #[]) ⟨rfl, fun j hj => absurd hj (by simp)⟩ w).mono ?_
  rintro e w' ⟨cv, p', M', rfl, hv, hs⟩
  cases hv
  exact ⟨rfl, hs.below⟩

end Go.Eng
end

section
namespace Go.Eng
set_option linter.unusedVariables false
set_option linter.unusedSimpArgs false

theorem opds_congr {fr fr' : Frm} : ∀ {l : List Operand}, (∀ x ∈ l, opd fr x = opd fr' x) → opds fr l = opds fr' l
  | [], _ => rfl
  | x :: l, h => by simp only [opds]; rw [h x (by simp), opds_congr (fun y hy => h y (by simp [hy]))]
theorem mapOpd_congr {fr fr' : Frm} : ∀ {l : List (Nat × Operand)}, (∀ x ∈ l, opd fr x.2 = opd fr' x.2) → mapOpd fr l = mapOpd fr' l
  | [], _ => rfl
  | (i, x) :: l, h => by
    simp only [mapOpd]
    have := h (i, x) (by simp)
    simp only at this
    rw [this, mapOpd_congr (fun y hy => h y (by simp [hy]))]

theorem callV_congr {P : Program} {call : CallT} {fr fr' : Frm} {H : Heap} {nx : Nat} {c : Call} (h : ∀ x ∈ c.operands.toList, opd fr x = opd fr' x) : callV P call fr H nx c = callV P call fr' H nx c := by
  have hargs : ∀ x ∈ c.args.toList, opd fr x = opd fr' x := fun x hx => h x (by unfold Call.operands; rw [Array.toList_append]; exact List.mem_append_right _ hx)
  unfold callV
  cases hc : c.callee with
  | value f =>
    have hf : opd fr f = opd fr' f := h f (by unfold Call.operands; rw [hc]; simp)
    dsimp only
    rw [hf, opds_congr hargs]
  | invoke r m => rfl
  | builtin b =>
    cases b <;> dsimp only <;> try rfl
    all_goals first
      | (rw [opds_congr hargs]; done)
      | (generalize c.args.toList = l at hargs
         generalize c.argTypes.toList = ts
         rcases ts with _ | ⟨t, _ | ⟨u, ts⟩⟩ <;> rcases l with _ | ⟨x, _ | ⟨y, l⟩⟩ <;> dsimp only <;>
           first
           | rfl
           | (rw [hargs x (by simp), hargs y (by simp)])
           | (rw [hargs x (by simp)]))

theorem evalOp_congr {P : Program} {call : CallT} {fr fr' : Frm} {H : Heap} {nx : Nat} {o : Oper} (h : ∀ x ∈ o.op.operands.toList, opd fr x = opd fr' x) : evalOp P call fr H nx o = evalOp P call fr' H nx o := by
  unfold evalOp
  cases ho : o.op <;> rw [ho] at h <;> simp only [Op.operands] at h
  all_goals try (simp at h; simp [h]; done)
  all_goals try rfl
  case build t ps =>
    dsimp only
    rw [mapOpd_congr (l := ps.toList) (fun x hx => h x.2 (by simp only [List.mem_map]; exact ⟨x, hx, rfl⟩))]
  case buildSlice t n ps =>
    dsimp only
    rw [mapOpd_congr (l := ps.toList) (fun x hx => h x.2 (by simp only [List.mem_map]; exact ⟨x, hx, rfl⟩))]
  case makeFunc f a b =>
    simp at h
    dsimp only
    rw [opds_congr (l := a.toList) (fun x hx => h x (.inl (by simpa using hx))), opds_congr (l := b.toList) (fun x hx => h x (.inr (by simpa using hx)))]
  case makeMap t r => cases r <;> rfl
  case slice t x lo hi mx =>
    cases lo <;> cases hi <;> cases mx <;> simp at h <;> simp [h]
  case call c => exact callV_congr h

end Go.Eng
end
