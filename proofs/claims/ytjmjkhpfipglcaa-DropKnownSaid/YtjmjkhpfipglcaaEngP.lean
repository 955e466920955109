/- The engine, part P: calls of whatever depth. -/
import Derived.Test.YtjmjkhpfipglcaaEngO
namespace Go.Eng
set_option linter.unusedVariables false
set_option linter.unusedSimpArgs false

/-- What is left to show: regions that draw their order. -/
def DrawOk (P : Program) : Prop := ∀ (cx : Cx) (F : Fence), cx.P = P → CallOk P cx.call → Wide F → ∀ (id : Nat) (ops : Array Oper) (fr : Frm) (H : Heap) (fr' : Frm) (H' : Heap), slotsOk ops (Region.before ops) = true →
  drawOps cx.P cx.nt cx.call ops (Region.before ops) 0 ops.toList fr (hPad H (pushes ops.toList)) (hNext H) [] = some (fr', H') → CodeOk cx.P F cx.ro cx.nt (.region id ops true) fr H .normal fr' H'

/-- What is asked of the calls that are known beforehand. -/
def OraOk (P : Program) (ora : FuncId → List AV → Option AV) : Prop := ∀ (f : FuncId) (args : List AV) (v : AV), ora f args = some v → ∀ (H : Heap), H ≠ [] → ∀ (p : Pst) (M : Mu) (w : World) (cargs : Array Value), HRel p M H w → CRel p M args cargs →
  (∃ fn, P.funcs[f]? = some fn ∧ fn.body.isNone = false) ∧ CallsIn Fence.wide 0 P f cargs w (Post p M H w v H)
theorem OraOk.none (P : Program) : OraOk P (fun _ _ => none) := fun f args v h => by simp at h

theorem more {P : Program} (hN : Named P) (hD : DrawOk P) {call : CallT} (hC : CallOk P call) (cx : Cx) (F : Fence) (h1 : cx.P = P) (h2 : cx.call = call) (hW : Wide F) : CodeMore cx F := by
  subst h1; subst h2
  exact ⟨fun id ops fr H fr' H' hs hr => hD cx F rfl hC hW id ops fr H fr' H' hs hr, fun f ps assign body fr H e fr' H' h => range_rel hW hN hC f ps assign body fr H e fr' H' h⟩

theorem callN_rel {P : Program} (hN : Named P) (hD : DrawOk P) {ora : FuncId → List AV → Option AV} (hO : OraOk P ora) (KT : FuncId → Nat → Nat) (fu : Nat) : ∀ n, CallOk P (callN P ora KT fu n)
  | 0 => fun tgt args H v H' h => by simp [callN] at h
  | n + 1 => by
    have ih := callN_rel hN hD hO KT fu n
    intro tgt args H v H' h hne p M w cargs hH hA
    cases tgt with
    | fn f =>
      simp only [callN] at h
      cases ho : ora f args with
      | some u =>
        rw [ho] at h
        simp only [Option.some.injEq, Prod.mk.injEq] at h
        obtain ⟨rfl, rfl⟩ := h
        exact hO f args _ ho H hne p M w cargs hH hA
      | none =>
        rw [ho] at h
        simp only at h
        cases hf : P.funcs[f]? with
        | none => rw [hf] at h; simp at h
        | some fn =>
          rw [hf] at h
          simp only at h
          cases hb : fn.body with
          | none => rw [hb] at h; simp at h
          | some c =>
            rw [hb] at h
            simp only at h
            split at h
            · rename_i hle
              split at h
              · rename_i e fr l H1 he
                split at h
                · cases hv : resV P fr (l :: H1) fn.results.toList with
                  | none => rw [hv] at h; simp at h
                  | some vs =>
                    rw [hv] at h
                    simp only [Option.some.injEq, Prod.mk.injEq] at h
                    obtain ⟨rfl, rfl⟩ := h
                    exact ⟨⟨fn, hf, by rw [hb]; rfl⟩, func_rel hf hb (by simpa using hle) (.inl rfl) hv (exec_rel Wide.wide hN ih (more hN hD ih _ _ rfl rfl Wide.wide) _ _ _ _ _ _ he) hH hA⟩
                · cases hv : resV P fr (l :: H1) fn.results.toList with
                  | none => rw [hv] at h; simp at h
                  | some vs =>
                    rw [hv] at h
                    simp only [Option.some.injEq, Prod.mk.injEq] at h
                    obtain ⟨rfl, rfl⟩ := h
                    exact ⟨⟨fn, hf, by rw [hb]; rfl⟩, func_rel hf hb (by simpa using hle) (.inr rfl) hv (exec_rel Wide.wide hN ih (more hN hD ih _ _ rfl rfl Wide.wide) _ _ _ _ _ _ he) hH hA⟩
                · simp at h
              · simp at h
            · simp at h
    | round d i =>
      intro b o t hm
      simp only [callN] at h
      split at h
      · rename_i l hg
        split at h
        · simp at h
        · rename_i hl
          split at h
          · rename_i hs
            split at h
            · rename_i fr hp
              split at h
              · rename_i fr1 H1 he1
                split at h
                · rename_i l1 hg1
                  split at h
                  · rename_i hs1
                    split at h
                    · rename_i e fr2 lv H2 he2
                      split at h
                      · rename_i l2 hg2
                        simp only [Option.some.injEq, Prod.mk.injEq] at h
                        obtain ⟨rfl, rfl⟩ := h
                        exact round_rel hN ih (fun cx F h1 h2 hW => more hN hD ih cx F h1 h2 hW) hg (by simpa using hl) hs hp he1 hg1 hs1 he2 hg2 hH hA hm
                      · simp at h
                    · simp at h
                  · simp at h
                · simp at h
              · simp at h
            · simp at h
          · simp at h
      · simp at h

end Go.Eng
