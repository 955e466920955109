/- The engine, part I: calls within operations; regions of a fixed order. -/
import Derived.Test.YtjmjkhpfipglcaaV2EngH
namespace Go.Eng
set_option linter.unusedVariables false
set_option linter.unusedSimpArgs false

/-- A fence that lets all in. -/
structure Wide (F : Fence) : Prop where
  fn : ∀ f, F.fn f
  depth : F.depth = none
  fenced : ∀ P : Program, Machine.fenced P F = Machine.fenced P Fence.wide
theorem Wide.wide : Wide Fence.wide := ⟨fun _ => trivial, rfl, fun _ => rfl⟩
theorem Wide.inRound (l : Nat) : Wide (Fence.wide.inRound l) := ⟨fun _ => trivial, rfl, fun _ => rfl⟩
theorem Wide.room {F : Fence} (h : Wide F) (n : Nat) : F.room n := fun d hd => by rw [h.depth] at hd; cases hd
theorem Wide.calls {F : Fence} (h : Wide F) {m n : Nat} {P : Program} {f : FuncId} {args : Array Value} {w : World} {R : Ending → World → Prop} (k : CallsIn Fence.wide m P f args w R) : CallsIn F n P f args w R :=
  ⟨h.fn f, fun cs _ => by rw [h.fenced]; exact k.2 cs (room_wide _)⟩
theorem Wide.rounds {F : Fence} (h : Wide F) {m n : Nat} {P : Program} {l : Nat} {f : FuncId} {tmps : Array Value} {x y : Code} {w : World} {R : Ending → World → Prop} (k : RoundIn Fence.wide m P l f tmps x y w R) : RoundIn F n P l f tmps x y w R :=
  ⟨h.fn f, fun c cs _ => by rw [h.fenced]; exact k.2 c cs (room_wide _)⟩

/-- Locked levels are as they were. -/
structure Still (H H' : Heap) : Prop where
  same : ∀ d i, hLock H d = true → hGet H' d i = hGet H d i
  next : ∀ d, hLock H d = true → hNextAt H' d = hNextAt H d
theorem Still.refl (H : Heap) : Still H H := ⟨fun _ _ _ => rfl, fun _ _ => rfl⟩
/-- What a call leaves. -/
def Post (p : Pst) (M : Mu) (H : Heap) (w : World) (v : AV) (H' : Heap) (e : Ending) (w' : World) : Prop :=
  ∃ cv, e = .returned cv ∧ Still H H' ∧ ∃ p' M', Evo p M H w p' M' H' w' ∧ VRel p' M' v cv

/-- A once-checked fact of the program: no function with a body bears the name that the machine answers itself. -/
def Named (P : Program) : Prop := ∀ (f : FuncId) (fn : Func), P.funcs[f]? = some fn → fn.body.isNone = false → (fn.name == "runtime.NumGoroutine") = false

/-- What is asked of a table of calls. -/
def CallOk (P : Program) (call : CallT) : Prop := ∀ (tgt : Tgt) (args : List AV) (H : Heap) (v : AV) (H' : Heap), call tgt args H = some (v, H') → H ≠ [] →
  ∀ (p : Pst) (M : Mu) (w : World) (cargs : Array Value), HRel p M H w → CRel p M args cargs →
    match tgt with
    | .fn f => (∃ fn, P.funcs[f]? = some fn ∧ fn.body.isNone = false) ∧ CallsIn Fence.wide 0 P f cargs w (Post p M H w v H')
    | .round d i => ∀ b o t, M d i 0 = some (b, o, t) → ∃ f tmps assign body, (Instr.yield b cargs).run P w = .ok (.round b f tmps assign body) w ∧ RoundIn Fence.wide 0 P b f tmps assign body w (Post p M H w v H')
    | .mode => True

theorem about_fn {F : Fence} (h : Wide F) (P : Program) (o : Oper) (w : World) (a : Act) : ∀ f, o.about P w a.eval = some f → F.fn f := fun f _ => h.fn f

theorem evalOp_defer {P : Program} {call : CallT} {fr : Frm} {H : Heap} {nx : Nat} {o : Oper} {x : AV × Delta} (h : evalOp P call fr H nx o = some x) : ∀ c, o.op ≠ .defer c := by
  intro c e
  unfold evalOp at h
  rw [e] at h
  simp at h

theorem op_run {P : Program} {F : Fence} (hFW : Wide F) (hN : Named P) {call : CallT} (hC : CallOk P call) {p : Pst} {M : Mu} {nt : Nat} {fr : Frm} {a : Act} {H : Heap} {o : Oper} {v : AV} {δ : Delta} {w : World} {nx : Nat} (h : evalOp P call fr H nx o = some (v, δ))
    (hF : FRel p M nt fr a) (hH : HRel p M H w) (hne : H ≠ []) {n : Nat} {next : Act → World → Prop} {Q : Exit → Act → World → Prop} (hnext : ∀ cv w', ((isCallV o = true ∧ Still H (δ.on H) ∧ ∃ p' M', Evo p M H w p' M' (δ.on H) w' ∧ VRel p' M' v cv) ∨ (isCallV o = false ∧ DRel p M H nx v δ cv w w')) → next (a.put o.dst cv) w') : o.wpIn F n P a w next Q := by
  refine ⟨about_fn hFW P o w a, ?_⟩
  rw [Oper.semAt_eq _ _ _ (evalOp_defer h)]
  by_cases hc : ∃ c f, o.op = .call c ∧ c.callee = .value f
  · obtain ⟨c, f, ho, hcal⟩ := hc
    have hcv : isCallV o = true := by unfold isCallV; rw [ho]; simp only [hcal]
    unfold evalOp at h
    rw [ho] at h
    simp only at h
    unfold callV at h
    rw [hcal] at h
    simp only at h
    have hf := hF.opd f
    have hargs := opds_rel hF c.args
    cases hfv : opd fr f <;> rw [hfv] at h hf <;> try (simp at h; done)
    case fn g x y =>
      cases g <;> try (simp at h; done)
      rename_i g
      obtain ⟨⟨v', H'⟩, hcall, he⟩ := Option.map_eq_some_iff.1 h
      simp only [Prod.mk.injEq] at he
      obtain ⟨rfl, rfl⟩ := he
      obtain ⟨cf, hcf⟩ : ∃ cf, cf = a.eval f := ⟨_, rfl⟩
      rw [← hcf] at hf
      cases hf
      rename_i cx cy hx vx hy vy
      have hcr : CRel p M (x ++ (opds fr c.args.toList ++ y)) (cx ++ (c.args.map a.eval ++ cy)) := CRel.app ⟨hx, vx⟩ (hargs.app ⟨hy, vy⟩)
      obtain ⟨⟨fn, hfn, hbody⟩, hcalls⟩ := hC (.fn g) _ H v' H' hcall hne p M w _ hH hcr
      have hexec : (execOp a.eval o).run P w = .ok (.enter g (cx ++ (c.args.map a.eval ++ cy))) w := by
        have hname := hN g fn hfn hbody
        simp only [execOp, ho, resolve, hcal, ← hcf, Deferred.ofValue, pure_bind, invoke, callFunc, Sem.run_bind, run_program, Result.andThen, hfn, hname, hbody, Bool.false_eq_true, if_false, Sem.run_pure, Array.append_assoc]
      rw [hexec, Oper.uponIn_enter]
      refine ⟨fun hd => by rw [hFW.depth] at hd; simp at hd, (hFW.calls hcalls).mono ?_⟩
      rintro e w' ⟨cv, rfl, hp⟩
      exact hnext cv w' (.inl ⟨hcv, hp⟩)
    case yld d i =>
      obtain ⟨⟨v', H'⟩, hcall, he⟩ := Option.map_eq_some_iff.1 h
      simp only [Prod.mk.injEq] at he
      obtain ⟨rfl, rfl⟩ := he
      obtain ⟨cf, hcf⟩ : ∃ cf, cf = a.eval f := ⟨_, rfl⟩
      rw [← hcf] at hf
      cases hf
      rename_i b o' t hm
      obtain ⟨f', tmps, assign, body, hy, hround⟩ := hC (.round d i) _ H v' H' hcall hne p M w _ hH hargs b o' t hm
      have hexec : (execOp a.eval o).run P w = .ok (.round b f' tmps assign body) w := by
        simp only [execOp, ho, resolve, hcal, ← hcf, Deferred.ofValue, pure_bind, invoke, Array.empty_append]
        exact hy
      rw [hexec, Oper.uponIn_round]
      refine ⟨fun hd => by rw [hFW.depth] at hd; simp at hd, (hFW.rounds hround).mono ?_⟩
      rintro e w' ⟨cv, rfl, hp⟩
      exact hnext cv w' (.inl ⟨hcv, hp⟩)
  · obtain ⟨cv, w', hrun, hd⟩ := evalOp_rel h (fun c f h1 h2 => hc ⟨c, f, h1, h2⟩) hF hH
    have hcv : isCallV o = false := by
      unfold isCallV
      cases ho : o.op <;> try rfl
      rename_i c
      dsimp only
      cases hcal : c.callee <;> try rfl
      rename_i f
      exact absurd ⟨c, f, ho, hcal⟩ hc
    have := hnext cv w' (.inr ⟨hcv, hd⟩)
    rcases hrun with hrun | ⟨hrun, rfl⟩
    · rw [hrun]; exact this
    · rw [hrun]; exact this

theorem op_runD {P : Program} {F : Fence} (hFW : Wide F) {call : CallT} {p : Pst} {M : Mu} {nt : Nat} {fr : Frm} {a : Act} {H : Heap} {o : Oper} {v : AV} {δ : Delta} {w : World} {nx : Nat} (h : evalOp P call fr H nx o = some (v, δ)) (hcv : isCallV o = false)
    (hF : FRel p M nt fr a) (hH : HRel p M H w) {n : Nat} {next : Act → World → Prop} {Q : Exit → Act → World → Prop} (hnext : ∀ cv w', DRel p M H nx v δ cv w w' → next (a.put o.dst cv) w') : o.wpIn F n P a w next Q := by
  refine ⟨about_fn hFW P o w a, ?_⟩
  rw [Oper.semAt_eq _ _ _ (evalOp_defer h)]
  obtain ⟨cv, w', hrun, hd⟩ := evalOp_rel h (fun c f h1 h2 => by unfold isCallV at hcv; rw [h1] at hcv; simp only [h2] at hcv; cases hcv) hF hH
  have := hnext cv w' hd
  rcases hrun with hrun | ⟨hrun, rfl⟩
  · rw [hrun]; exact this
  · rw [hrun]; exact this

theorem op_step {P : Program} {F : Fence} (hFW : Wide F) (hN : Named P) {call : CallT} (hC : CallOk P call) {p : Pst} {M : Mu} {nt : Nat} {fr : Frm} {a : Act} {H : Heap} {o : Oper} {v : AV} {δ : Delta} {w : World} (h : evalOp P call fr H (hNext H) o = some (v, δ))
    (hF : FRel p M nt fr a) (hH : HRel p M H w) (hne : H ≠ []) {n : Nat} {next : Act → World → Prop} {Q : Exit → Act → World → Prop} (hnext : ∀ cv w', (∃ p' M', Evo p M H w p' M' (δ.on H) w' ∧ VRel p' M' v cv) → next (a.put o.dst cv) w') : o.wpIn F n P a w next Q :=
  op_run hFW hN hC h hF hH hne fun cv w' hx => by
    rcases hx with ⟨_, _, hx⟩ | ⟨_, hx⟩
    · exact hnext cv w' hx
    · exact hnext cv w' (drel_on hne hH hx)

theorem want_rel {p : Pst} {M : Mu} {nt : Nat} {fr : Frm} {a : Act} (hF : FRel p M nt fr a) (ops : Array Oper) (o : Oper) : (wantV ops fr o = .run → Region.wanted o (yielded ops a.tmps) = true) ∧ (wantV ops fr o = .skip → Region.wanted o (yielded ops a.tmps) = false) := by
  unfold wantV Region.wanted
  cases hg : o.guard with
  | none => simp
  | some jw =>
    obtain ⟨j, want⟩ := jw
    simp only
    cases hd : (ops[j]?).bind (·.dst) with
    | none => simp
    | some d =>
      simp only
      have hv := hF.at_ d
      have hy : yielded ops a.tmps j = match a.tmps[d]? with | some (.bool b) => some b | _ => none := by
        unfold yielded; rw [hd]; rfl
      cases hfv : fGet fr d <;> rw [hfv] at hv <;> simp only [reduceCtorEq, false_implies, and_true, true_and, implies_true]
      case bool b =>
        have he : a.tmps.getD d Go.undef = .bool b := by generalize a.tmps.getD d Go.undef = z at hv; cases hv; rfl
        have he2 : a.tmps[d]? = some (.bool b) := by
          rw [Array.getD_eq_getD_getElem?] at he
          cases h : a.tmps[d]? with
          | none => rw [h] at he; simp [Go.undef] at he
          | some z => rw [h] at he; simp at he; rw [he]
        rw [hy, he2]
        by_cases e : b = want <;> simp [e]
      case tup l =>
        obtain ⟨cs, he⟩ : ∃ cs, a.tmps.getD d Go.undef = .tuple cs := by generalize a.tmps.getD d Go.undef = z at hv; cases hv; exact ⟨_, rfl⟩
        have : yielded ops a.tmps j = none := by
          rw [hy]
          rw [Array.getD_eq_getD_getElem?] at he
          cases h : a.tmps[d]? with
          | none => rfl
          | some z => rw [h] at he; simp at he; rw [he]
        rw [this]
        simp

theorem put_defers (a : Act) (dst : Option Tmp) (v : Value) : (a.put dst v).defers = a.defers := by cases dst <;> rfl
theorem undef_rel {p : Pst} {M : Mu} : VRel p M (.tup []) Go.undef := .tup rfl (fun j hj => absurd hj (by simp))

theorem Evo.ne {p p' : Pst} {M M' : Mu} {H H' : Heap} {w w' : World} (h : Evo p M H w p' M' H' w') (hne : H ≠ []) : H' ≠ [] := by
  intro e
  have := h.len
  rw [e] at this
  exact hne (List.length_eq_zero_iff.1 this.symm)

/-- Where a walk stands: the frame, the heap, as they have come from (p, M, H, w). -/
def At (p : Pst) (M : Mu) (H : Heap) (w : World) (nt : Nat) (ds : List Deferred) (fr' : Frm) (H' : Heap) (a' : Act) (w' : World) : Prop :=
  ∃ p' M', Evo p M H w p' M' H' w' ∧ FRel p' M' nt fr' a' ∧ a'.defers = ds

theorem runOps_rel {P : Program} {F : Fence} (hFW : Wide F) (hN : Named P) {call : CallT} (hC : CallOk P call) {nt : Nat} {ops : Array Oper} {n : Nat} {Q : Exit → Act → World → Prop} : ∀ (l : List Oper) (fr : Frm) (H : Heap) (fr' : Frm) (H' : Heap),
    runOps P nt call ops l fr H = some (fr', H') → ∀ (p : Pst) (M : Mu) (a : Act) (w : World), FRel p M nt fr a → HRel p M H w → H ≠ [] →
    (∀ a' w', At p M H w nt a.defers fr' H' a' w' → Q .normal a' w') → wpListIn F n P ops Q l a w
  | [], fr, H, fr', H', h, p, M, a, w, hF, hH, hne, hQ => by
    simp only [runOps, Option.some.injEq, Prod.mk.injEq] at h
    obtain ⟨rfl, rfl⟩ := h
    exact hQ a w ⟨p, M, Evo.refl hH, hF, rfl⟩
  | o :: l, fr, H, fr', H', h, p, M, a, w, hF, hH, hne, hQ => by
    simp only [runOps] at h
    have hw := want_rel hF ops o
    unfold wpListIn
    cases hwv : wantV ops fr o with
    | lost => rw [hwv] at h; simp at h
    | skip =>
      rw [hwv] at h
      simp only at h
      rw [if_neg (by rw [hw.2 hwv]; simp)]
      exact ⟨about_fn hFW P o w a, runOps_rel hFW hN hC l _ H fr' H' h p M _ w (hF.put o.dst undef_rel) hH hne (fun a' w' ha => hQ a' w' (by rw [put_defers] at ha; exact ha))⟩
    | run =>
      rw [hwv] at h
      simp only at h
      rw [if_pos (hw.1 hwv)]
      cases he : evalOp P call fr H (hNext H) o with
      | none => rw [he] at h; simp at h
      | some vd =>
        obtain ⟨v, δ⟩ := vd
        rw [he] at h
        simp only at h
        refine op_step hFW hN hC he hF hH hne (fun cv w' ⟨p', M', hE, hv⟩ => ?_)
        refine runOps_rel hFW hN hC l _ _ fr' H' h p' M' _ w' ((hF.mono hE.pst hE.mu).put o.dst hv) hE.rel (hE.ne hne) (fun a' w'' ⟨p'', M'', hE', hF', hd⟩ => ?_)
        exact hQ a' w'' ⟨p'', M'', hE.trans hE', hF', by rw [put_defers] at hd; exact hd⟩

end Go.Eng
