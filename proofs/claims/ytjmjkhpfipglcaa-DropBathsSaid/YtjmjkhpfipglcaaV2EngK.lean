/- The engine, part K: code. -/
import Derived.Test.YtjmjkhpfipglcaaV2EngJ
import Derived.LoopNIn
namespace Go.Eng
set_option linter.unusedVariables false
set_option linter.unusedSimpArgs false

def exR : Ex → Exit
  | .normal => .normal
  | .exit id => .exit id
  | .goto l => .goto l
  | .ret => .ret

/-- Where a walk stands, marks and all. -/
def Now (n0 : Nat) (p : Pst) (M : Mu) (H : Heap) (w : World) (nt : Nat) (fr' : Frm) (H' : Heap) (a' : Act) (w' : World) : Prop :=
  ∃ p' M', Evo p M H w p' M' H' w' ∧ FRel p' M' nt fr' a' ∧ Marks n0 M' H' w' a'.defers

/-- In a round of which loop does the code run? -/
def RoOk (F : Fence) (ro : Option (Nat × Nat)) (M : Mu) : Prop :=
  match ro with
  | none => F.round = none
  | some (d, i) => ∃ l o t, F.round = some l ∧ M d i 0 = some (l, o, t)
theorem RoOk.mono {F : Fence} {ro : Option (Nat × Nat)} {M N : Mu} (h : RoOk F ro M) (hM : Mu.le M N) : RoOk F ro N := by
  cases ro with
  | none => exact h
  | some x =>
    obtain ⟨l, o, t, h1, h2⟩ := h
    exact ⟨l, o, t, h1, hM _ _ _ _ h2⟩

/-- What is shown of a piece of code: from every world that stands for (fr, H), it comes to one that stands for (fr', H'), left by e. -/
def CodeOk (P : Program) (F : Fence) (ro : Option (Nat × Nat)) (nt : Nat) (c : Code) (fr : Frm) (H : Heap) (e : Ex) (fr' : Frm) (H' : Heap) : Prop :=
  ∀ (n0 : Nat) (p : Pst) (M : Mu) (a : Act) (w : World) (Q : Exit → Act → World → Prop), FRel p M nt fr a → HRel p M H w → H ≠ [] → RoOk F ro M → Marks n0 M H w a.defers →
    (∀ a' w', Now n0 p M H w nt fr' H' a' w' → Q (exR e) a' w') → c.wpIn F 0 P Q a w

/-- What is left to show of regions that draw their order, and of loops over functions. -/
structure CodeMore (cx : Cx) (F : Fence) : Prop where
  draw : ∀ (id : Nat) (ops : Array Oper) (fr : Frm) (H : Heap) (fr' : Frm) (H' : Heap), slotsOk ops (Region.before ops) = true → drawOps cx.P cx.nt cx.call ops (Region.before ops) 0 ops.toList fr (hPad H (pushes ops.toList)) (hNext H) [] = some (fr', H') →
    CodeOk cx.P F cx.ro cx.nt (.region id ops true) fr H .normal fr' H'
  range : ∀ (f : Operand) (params : Array Tmp) (assign body : Code) (fr : Frm) (H : Heap) (e : Ex) (fr' : Frm) (H' : Heap), exec cx (.rangeFunc f params assign body) fr H = some (e, fr', H') →
    CodeOk cx.P F cx.ro cx.nt (.rangeFunc f params assign body) fr H e fr' H'

theorem iter_rel {P : Program} {F : Fence} {ro : Option (Nat × Nat)} {nt : Nat} {c : Code} {body : Frm → Heap → Option (Ex × Frm × Heap)} (hb : ∀ fr H e fr' H', body fr H = some (e, fr', H') → CodeOk P F ro nt c fr H e fr' H')
    {n0 : Nat} {p : Pst} {M : Mu} {H : Heap} {w : World} (hH : HRel p M H w) (hne : H ≠ []) (hR : RoOk F ro M) {Q : Exit → Act → World → Prop} {e : Ex} {fr' : Frm} {H' : Heap} (hQ : ∀ a' w', Now n0 p M H w nt fr' H' a' w' → Q (exR e) a' w') :
    ∀ (fu : Nat) (fr1 : Frm) (H1 : Heap), iter body (hNext H) fu fr1 H1 = some (e, fr', H') → ∀ (a1 : Act) (w1 : World), Now n0 p M H w nt fr1 H1 a1 w1 → Code.roundsIn F 0 P c Q fu a1 w1
  | 0, fr1, H1, h, a1, w1, _ => by simp [iter] at h
  | fu + 1, fr1, H1, h, a1, w1, ⟨p1, M1, hE, hF, hM⟩ => by
    rw [roundsIn_succ]
    simp only [iter] at h
    cases hbd : body fr1 H1 with
    | none => rw [hbd] at h; simp at h
    | some r =>
      obtain ⟨e2, fr2, H2⟩ := r
      rw [hbd] at h
      have hc := hb _ _ _ _ _ hbd
      refine hc n0 p1 M1 a1 w1 _ hF hE.rel (hE.ne hne) (hR.mono hE.mu) hM (fun a2 w2 ⟨p2, M2, hE2, hF2, hM2⟩ => ?_)
      cases e2 with
      | normal =>
        simp only at h
        obtain ⟨M3, hE3, hF3, hM3⟩ := cut_rel (hE.trans hE2) hF2 hM2 (fun d i v t hm => (hH.dom d i v t hm).1)
        exact iter_rel hb hH hne hR hQ fu fr2 _ h a2 w2 ⟨p2, M3, hE3, hF3, hM3⟩
      | _ =>
        simp only [Option.some.injEq, Prod.mk.injEq] at h
        obtain ⟨rfl, rfl, rfl⟩ := h
        exact hQ a2 w2 ⟨p2, M2, hE.trans hE2, hF2, hM2⟩

theorem Now.trans {n0 : Nat} {p p' : Pst} {M M' : Mu} {H H' H'' : Heap} {w w' w'' : World} {nt : Nat} {fr'' : Frm} {a'' : Act} (hE : Evo p M H w p' M' H' w') (h : Now n0 p' M' H' w' nt fr'' H'' a'' w'') : Now n0 p M H w nt fr'' H'' a'' w'' :=
  let ⟨p2, M2, h1, h2, h3⟩ := h
  ⟨p2, M2, hE.trans h1, h2, h3⟩

theorem wpIn_scope {P : Program} {F : Fence} {n : Nat} {c : Code} {Q : Exit → Act → World → Prop} {a : Act} {w : World} (h : c.wpIn F n P (Exit.noGoto Q) a w) : (Code.scope c).wpIn F n P Q a w := by
  intro b k cs hro hb hr
  have h0 : (lone (b.atR a (.code (.scope c) :: k)) cs w).fenced P F := fenced_calm hb hr rfl
  obtain ⟨e, a₁, w₁, hq, harr⟩ := h b (.inScope c :: k) cs hro hb hr
  have s0 : step P (lone (b.atR a (.code (.scope c) :: k)) cs w) = .next (lone (b.atR a (.code c :: .inScope c :: k)) cs w) :=
    step_lone_go (by simp [stepG, stepG.exec, Frame.atR])
  cases e with
  | normal =>
    exact ⟨.normal, a₁, w₁, hq, .head h0 s0 (StepsIn.trans harr (.one (fenced_calm hb hr rfl) (step_lone_go (by simp [stepG, stepG.exec, Frame.atR]))))⟩
  | exit id =>
    have hx : exitTo id (.inScope c :: k) = exitTo id k := by simp [exitTo]
    exact ⟨.exit id, a₁, w₁, hq, fun k' hk => .head h0 s0 (harr.1 k' (by rw [hx]; exact hk)),
      fun hr' hk => let ⟨k₁, h1, h2⟩ := harr.2 hr' (by rw [hx]; exact hk); ⟨k₁, h1, .head h0 s0 h2⟩⟩
  | goto l => exact hq.elim
  | ret => exact ⟨_, a₁, w₁, hq, .of_steps (.one h0 s0) harr⟩
  | panic ch => exact ⟨_, a₁, w₁, hq, .of_steps (.one h0 s0) harr⟩
  | outgrown => exact ⟨_, a₁, w₁, hq, .of_steps (.one h0 s0) harr⟩

theorem exec_rel {cx : Cx} {F : Fence} (hFW : Wide F) (hN : Named cx.P) (hC : CallOk cx.P cx.call) (hX : CodeMore cx F) : ∀ (c : Code) (fr : Frm) (H : Heap) (e : Ex) (fr' : Frm) (H' : Heap), exec cx c fr H = some (e, fr', H') → CodeOk cx.P F cx.ro cx.nt c fr H e fr' H'
  | .skip, fr, H, e, fr', H', h => by
    simp only [exec, Option.some.injEq, Prod.mk.injEq] at h
    obtain ⟨rfl, rfl, rfl⟩ := h
    exact fun n0 p M a w Q hF hH hne hR hM hQ => wpIn_skip (hQ a w ⟨p, M, Evo.refl hH, hF, hM⟩)
  | .label l, fr, H, e, fr', H', h => by
    simp only [exec, Option.some.injEq, Prod.mk.injEq] at h
    obtain ⟨rfl, rfl, rfl⟩ := h
    exact fun n0 p M a w Q hF hH hne hR hM hQ => wpIn_label (hQ a w ⟨p, M, Evo.refl hH, hF, hM⟩)
  | .exit id, fr, H, e, fr', H', h => by
    simp only [exec, Option.some.injEq, Prod.mk.injEq] at h
    obtain ⟨rfl, rfl, rfl⟩ := h
    exact fun n0 p M a w Q hF hH hne hR hM hQ => wpIn_exit (hQ a w ⟨p, M, Evo.refl hH, hF, hM⟩)
  | .goto l, fr, H, e, fr', H', h => by
    simp only [exec, Option.some.injEq, Prod.mk.injEq] at h
    obtain ⟨rfl, rfl, rfl⟩ := h
    exact fun n0 p M a w Q hF hH hne hR hM hQ => wpIn_goto (hQ a w ⟨p, M, Evo.refl hH, hF, hM⟩)
  | .ret, fr, H, e, fr', H', h => by
    simp only [exec, Option.some.injEq, Prod.mk.injEq] at h
    obtain ⟨rfl, rfl, rfl⟩ := h
    exact fun n0 p M a w Q hF hH hne hR hM hQ => wpIn_ret (hQ a w ⟨p, M, Evo.refl hH, hF, hM⟩)
  | .refuse _, fr, H, e, fr', H', h => by simp [exec] at h
  | .rangeFunc f ps assign body, fr, H, e, fr', H', h => hX.range f ps assign body fr H e fr' H' h
  | .region id ops draw, fr, H, e, fr', H', h => by
    simp only [exec] at h
    split at h
    · rename_i fr1 H1 hr
      simp only [Option.some.injEq, Prod.mk.injEq] at h
      obtain ⟨rfl, rfl, rfl⟩ := h
      cases draw with
      | true =>
        simp only [if_true] at hr
        split at hr
        · rename_i hs
          have hd := hX.draw id ops fr H fr1 H1 hs hr
          intro n0 p M a w Q hF hH hne hR hM hQ
          exact hd n0 p M a w Q hF hH hne hR hM (fun a' w' ⟨p', M', k1, k2, k3⟩ => hQ a' w' ⟨p', M', k1, k2.kill _, k3⟩)
        · simp at hr
      | false =>
        simp only [Bool.false_eq_true, if_false] at hr
        intro n0 p M a w Q hF hH hne hR hM hQ
        refine wpIn_region_list (runOps_rel hFW hN hC _ fr H fr1 H1 hr p M a w hF hH hne (fun a' w' ⟨p', M', k1, k2, k3⟩ => hQ a' w' ⟨p', M', k1, k2.kill _, ?_⟩))
        rw [k3]; exact hM.evo k1
    · simp at h
  | .seq x y, fr, H, e, fr', H', h => by
    simp only [exec] at h
    intro n0 p M a w Q hF hH hne hR hM hQ
    cases hx : exec cx x fr H with
    | none => rw [hx] at h; simp at h
    | some r =>
      obtain ⟨e1, fr1, H1⟩ := r
      rw [hx] at h
      have ih := exec_rel hFW hN hC hX x fr H e1 fr1 H1 hx
      refine wpIn_seq (ih n0 p M a w _ hF hH hne hR hM (fun a1 w1 hn => ?_))
      cases e1 with
      | normal =>
        simp only at h
        obtain ⟨p1, M1, k1, k2, k3⟩ := hn
        exact exec_rel hFW hN hC hX y fr1 H1 e fr' H' h n0 p1 M1 a1 w1 Q k2 k1.rel (k1.ne hne) (hR.mono k1.mu) k3 (fun a2 w2 h2 => hQ a2 w2 (Now.trans k1 h2))
      | _ =>
        simp only [Option.some.injEq, Prod.mk.injEq] at h
        obtain ⟨rfl, rfl, rfl⟩ := h
        exact hQ a1 w1 hn
  | .cond c x y, fr, H, e, fr', H', h => by
    simp only [exec] at h
    intro n0 p M a w Q hF hH hne hR hM hQ
    have hc := hF.opd c
    split at h
    · rename_i hb
      rw [hb] at hc
      have he : a.eval c = .bool true := by generalize a.eval c = z at hc; cases hc; rfl
      exact wpIn_cond_true he (exec_rel hFW hN hC hX x fr H e fr' H' h n0 p M a w Q hF hH hne hR hM hQ)
    · rename_i hb
      rw [hb] at hc
      have he : a.eval c = .bool false := by generalize a.eval c = z at hc; cases hc; rfl
      exact wpIn_cond_false he (exec_rel hFW hN hC hX y fr H e fr' H' h n0 p M a w Q hF hH hne hR hM hQ)
    · simp at h
  | .block id b, fr, H, e, fr', H', h => by
    simp only [exec] at h
    intro n0 p M a w Q hF hH hne hR hM hQ
    cases hx : exec cx b fr H with
    | none => rw [hx] at h; simp at h
    | some r =>
      obtain ⟨e1, fr1, H1⟩ := r
      rw [hx] at h
      refine wpIn_block (exec_rel hFW hN hC hX b fr H e1 fr1 H1 hx n0 p M a w _ hF hH hne hR hM (fun a1 w1 hn => ?_))
      cases e1 with
      | exit id' =>
        simp only at h
        split at h
        · rename_i hid
          simp only [Option.some.injEq, Prod.mk.injEq] at h
          obtain ⟨rfl, rfl, rfl⟩ := h
          simp only [exR, Exit.inBlock]
          rw [if_pos (by simpa using hid)]
          exact hQ a1 w1 hn
        · rename_i hid
          simp only [Option.some.injEq, Prod.mk.injEq] at h
          obtain ⟨rfl, rfl, rfl⟩ := h
          simp only [exR, Exit.inBlock]
          rw [if_neg (by simpa using hid)]
          exact hQ a1 w1 hn
      | _ =>
        simp only [Option.some.injEq, Prod.mk.injEq] at h
        obtain ⟨rfl, rfl, rfl⟩ := h
        exact hQ a1 w1 hn
  | .loop b, fr, H, e, fr', H', h => by
    simp only [exec] at h
    intro n0 p M a w Q hF hH hne hR hM hQ
    exact wpIn_loop_rounds cx.fu (iter_rel (fun fr H e fr' H' h => exec_rel hFW hN hC hX b fr H e fr' H' h) hH hne hR hQ cx.fu fr H h a w ⟨p, M, Evo.refl hH, hF, hM⟩)
  | .scope b, fr, H, e, fr', H', h => by
    simp only [exec] at h
    intro n0 p M a w Q hF hH hne hR hM hQ
    cases hx : exec cx b fr H with
    | none => rw [hx] at h; simp at h
    | some r =>
      obtain ⟨e1, fr1, H1⟩ := r
      rw [hx] at h
      refine wpIn_scope (exec_rel hFW hN hC hX b fr H e1 fr1 H1 hx n0 p M a w _ hF hH hne hR hM (fun a1 w1 hn => ?_))
      cases e1 with
      | goto l => simp at h
      | _ =>
        simp only [Option.some.injEq, Prod.mk.injEq] at h
        obtain ⟨rfl, rfl, rfl⟩ := h
        exact hQ a1 w1 hn

end Go.Eng
