/- The engine, part N: loops over functions. -/
import Derived.Test.YtoomemfhcbajoaaV2EngKx3
import Derived.RangeFuncNested
import Derived.RangeFuncIn
section
namespace Go.Eng
set_option linter.unusedVariables false
set_option linter.unusedSimpArgs false

theorem keep_of_deferred {p : Pst} {M : Mu} {H : Heap} {w : World} (h : HRel p M H w) {r : Nat} {x : Option (List Deferred)} (hr : w.heap[r]? = some (.deferred x)) : keep M H r := by
  intro d i v B hg hB hl o t hm
  obtain ⟨b, o', t', k1, k2, k3⟩ := h.live d i v B hg hB
  rw [hm] at k1
  simp only [Option.some.injEq, Prod.mk.injEq] at k1
  obtain ⟨rfl, rfl, rfl⟩ := k1
  cases B with
  | dead => exact hB rfl
  | row r => obtain ⟨_, _, e, _⟩ := k2; rw [hr] at e; simp at e
  | map es => obtain ⟨_, _, e, _⟩ := k2; rw [hr] at e; simp at e
  | fmap kq f g c => obtain ⟨_, _, _, _, e, _⟩ := k2; rw [hr] at e; simp at e
  | loop l => obtain ⟨_, e, _⟩ := k2; rw [hr] at e; simp at e

/-- A block that is known is forgotten, and turned. -/
theorem Evo.forget {p : Pst} {M : Mu} {H : Heap} {w : World} (h : HRel p M H w) {i b o t v : Nat} {B : Blk} (hg : hGet H 0 i = (v, B)) (hB : B ≠ .dead) (hm : M 0 i v = some (b, o, t)) (hl : hLock H 0 = false) (x : Obj) :
    Evo p M H w p M (hKill H 0 i) (w.putObj b x) := by
  obtain ⟨b', o', t', k1, k2, k3⟩ := h.live 0 i v B hg hB
  rw [hm] at k1
  simp only [Option.some.injEq, Prod.mk.injEq] at k1
  obtain ⟨rfl, rfl, rfl⟩ := k1
  have hk := h.kill 0 i
  refine ⟨Pst.le.refl _, Mu.le.refl _, ⟨?_, ?_, hk.apart, hk.dom⟩, ⟨rfl, rfl, rfl, by rw [World.putObj_size]; exact Nat.le_refl _, ?_⟩, KeepTo.kill _ _ _ _ _, fun b o v hv => .inl hv, fun d i v b o t hm => .inr ⟨d, i, v, o, t, Nat.le_refl _, hm⟩, fun d => hLock_kill _ _ _ _, ?_, fun d _ _ => hNextAt_kill _ _ _ _, hKill_len _ _ _, fun d => Nat.le_of_eq (hNextAt_kill _ _ _ _).symm, fun _ _ _ _ hm => .inl hm⟩
  · intro b1 o1 v1 hp
    rw [← h.pers b1 o1 v1 hp]
    refine World.cell?_of_block (w := w) (World.putObj_heap_other ?_)
    rintro rfl
    rw [k3] at hp; cases hp
  · intro d1 i1 v1 B1 hg1 hB1
    obtain ⟨b1, o1, t1, j1, j2, j3⟩ := hk.live d1 i1 v1 B1 hg1 hB1
    refine ⟨b1, o1, t1, j1, j2.mono (Pst.le.refl _) (Mu.le.refl _) (World.putObj_heap_other ?_), j3⟩
    rintro rfl
    rw [hGet_kill] at hg1
    split at hg1
    · simp only [Prod.mk.injEq] at hg1; exact hB1 hg1.2.symm
    · rename_i e
      exact e (h.apart d1 i1 v1 B1 0 i v B _ o1 t1 _ _ hg1 hB1 hg hB j1 hm)
  · intro b1 hb1 hk1
    refine World.putObj_heap_other ?_
    rintro rfl
    exact hk1 0 i v B hg hB hl _ _ hm
  · intro d1 i1 hd1 _
    rw [hGet_kill, if_neg (fun e => hd1 e.1)]

/-- A block of the model's own is laid: nothing that is known turns. -/
theorem Evo.lay {p : Pst} {M : Mu} {H : Heap} {w : World} (h : HRel p M H w) (x : Obj) : Evo p M H w p M H (w.alloc x) :=
  { Evo.refl h with rel := h.stay (stay_alloc w x), stay := (stay_alloc w x).weaken (fun _ _ _ => trivial) }

/-- The loop's record is laid. -/
theorem Evo.record {p : Pst} {M : Mu} {H : Heap} {w : World} (h : HRel p M H w) (hne : H ≠ []) {nt : Nat} {fr : Frm} {a : Act} (hF : FRel p M nt fr a) (fn fn' : FuncId) (ps : Array Tmp) (assign body : Code) (dd : Nat) :
    Evo p M H w p (muSet M 0 (hNext H) 0 (w.heap.size, 0, 0)) (hPush H (.loop { state := .ready, pending := none, fn := fn, nt := nt, fr := fr, params := ps.toList, assign := assign, body := body }))
      (w.alloc (.loop { state := .ready, pending := none, fn := fn', tmps := a.tmps, params := ps, assign := assign, body := body, defers := dd })) := by
  have hb : BRel p M (.loop { state := .ready, pending := none, fn := fn, nt := nt, fr := fr, params := ps.toList, assign := assign, body := body }) w.heap.size 0 0
      (w.alloc (.loop { state := .ready, pending := none, fn := fn', tmps := a.tmps, params := ps, assign := assign, body := body, defers := dd })) :=
    ⟨_, World.alloc_heap_new _ _, rfl, rfl, rfl, rfl, rfl, ⟨hF.size, hF.at_⟩⟩
  have hs := stay_alloc w (.loop { state := .ready, pending := none, fn := fn', tmps := a.tmps, params := ps, assign := assign, body := body, defers := dd })
  obtain ⟨h1, h2⟩ := h.push (by simp) hb hs (by simp)
  refine ⟨Pst.le.refl _, h1, h2, hs.weaken (fun _ _ _ => trivial), KeepTo.push h hne, fun b o v hv => .inl hv, ?_, fun d => hLock_push H hne _ d, ?_, ?_, hPush_len H hne _, fun d => ?_, fun d i v u hm => ?_⟩
  · intro d i v b o t' hm
    simp only [muSet] at hm
    split at hm
    · simp only [Option.some.injEq, Prod.mk.injEq] at hm
      exact .inl (by omega)
    · exact .inr ⟨_, _, _, _, _, Nat.le_refl _, hm⟩
  · intro d i hd0 _
    rw [hGet_push, if_neg (fun e => hd0 e.1)]
  · intro d hd0 _
    rw [hNextAt_push, if_neg hd0]
  · rw [hNextAt_push]
    by_cases e : d = 0
    · subst e; rw [hNextAt_zero]; simp
    · rw [if_neg e]; exact Nat.le_refl _
  · simp only [muSet] at hm
    split at hm
    · rename_i e; obtain ⟨rfl, rfl, rfl⟩ := e
      exact .inr (.inl (by rw [hNextAt_zero]; exact Nat.le_refl _))
    · exact .inl hm

theorem enter_rel {cx : Cx} {F : Fence} {fr : Frm} {H : Heap} {n0 : Nat} {p : Pst} {M : Mu} {a : Act} {w : World} (hF : FRel p M cx.nt fr a) (hH : HRel p M H w) (hne : H ≠ []) (hR : RoOk F cx.ro M) (hM : Marks n0 M H w a.defers) (hhere : cx.here H = true)
    (ps : Array Tmp) (assign body : Code) (fn : FuncId) : ∃ l mark w1, (Instr.enterLoop fn a.tmps ps assign body F.round).run cx.P w = .ok (l, mark) w1 ∧
      ∃ M1, Evo p M H w p M1 (rangeStart fr H cx ps assign body) w1 ∧ M1 0 (hNext H) 0 = some (l, 0, 0) ∧ Marks n0 M1 (rangeStart fr H cx ps assign body) w1 (mark ++ a.defers) := by
  unfold RoOk at hR
  cases hro : cx.ro with
  | none =>
    rw [hro] at hR
    have hR : F.round = none := hR
    rw [hR]
    have e1 := Evo.lay hH (.deferred (some []))
    have e2 := Evo.record e1.rel hne (hF.mono (Pst.le.refl _) (Mu.le.refl _)) cx.fn fn ps assign body w.heap.size
    have e3 := e1.trans e2
    rw [World.size_alloc] at e3
    refine ⟨_, _, _, run_enterLoop_outer fn a.tmps ps assign body, _, e3, by simp [muSet], ?_⟩
    obtain ⟨rs, h1, h2, h0, h3⟩ := (hM.evo e3)
    have hlt : ∀ r ∈ rs, r < w.heap.size := by
      obtain ⟨rs', g1, g2, g0, g3⟩ := hM
      intro r hr
      have : rs = rs' := by
        have := h1.symm.trans g1
        have inj : ∀ (l m : List Nat), l.map (fun r => ({ target := .collected r, args := #[] } : Deferred)) = m.map (fun r => { target := .collected r, args := #[] }) → l = m := by
          intro l
          induction l with
          | nil => intro m h; cases m with
            | nil => rfl
            | cons _ _ => simp at h
          | cons x l ih => intro m h; cases m with
            | nil => simp at h
            | cons y m => simp at h; rw [h.1, ih m (by simpa using h.2)]
        exact inj _ _ this
      subst this
      exact (Array.getElem?_eq_some_iff.1 (g3 r hr).1).1
    have hnew : ((w.alloc (.deferred (some []))).alloc (.loop { state := .ready, pending := none, fn := fn, tmps := a.tmps, params := ps, assign := assign, body := body, defers := w.heap.size })).heap[w.heap.size]? = some (.deferred (some [])) := by
      rw [Go.RowKit.Below.heap_alloc _ _ _ (by simp)]
      exact World.alloc_heap_new _ _
    refine ⟨w.heap.size :: rs, by simp [h1], List.nodup_cons.2 ⟨fun hm => Nat.lt_irrefl _ (hlt _ hm), h2⟩, h0, fun r hr => ?_⟩
    rcases List.mem_cons.1 hr with rfl | hr
    · exact ⟨hnew, keep_of_deferred e3.rel hnew, hM.choose_spec.2.2.1⟩
    · exact h3 r hr
  | some x =>
    obtain ⟨d, i⟩ := x
    rw [hro] at hR
    obtain ⟨l0, o, t, hR, hm⟩ := hR
    rw [hR]
    have : ∃ r0, w.heap[l0]? = some (.loop r0) := by
      unfold Cx.here at hhere
      rw [hro] at hhere
      simp only at hhere
      split at hhere
      · rename_i lp hg
        obtain ⟨b, o', t', k1, k2, _⟩ := hH.live d i 0 _ hg (by simp)
        rw [hm] at k1
        simp only [Option.some.injEq, Prod.mk.injEq] at k1
        obtain ⟨rfl, rfl, rfl⟩ := k1
        obtain ⟨r0, e, _⟩ := k2
        exact ⟨r0, e⟩
      · simp at hhere
    obtain ⟨r0, hr0⟩ := this
    have e2 := Evo.record hH hne hF cx.fn fn ps assign body r0.defers
    refine ⟨_, _, _, run_enterLoop_inner hr0 fn a.tmps ps assign body, _, e2, by simp [muSet], ?_⟩
    exact hM.evo e2

theorem range_rel {cx : Cx} {F : Fence} (hFW : Wide F) (hN : Named cx.P) (hC : CallOk cx.P cx.call) (f : Operand) (ps : Array Tmp) (assign body : Code) (fr : Frm) (H : Heap) (e : Ex) (fr' : Frm) (H' : Heap) (h : exec cx (.rangeFunc f ps assign body) fr H = some (e, fr', H')) :
    CodeOk cx.P F cx.ro cx.nt (.rangeFunc f ps assign body) fr H e fr' H' := by
  intro n0 p M a w Q hF hH hne hR hM hQ
  simp only [exec] at h
  have hf := hF.opd f
  cases hfv : opd fr f <;> rw [hfv] at h hf <;> try (simp at h; done)
  rename_i g x y
  cases g <;> try (simp at h; done)
  rename_i g
  simp only at h
  split at h
  · simp at h
  · rename_i hcond
    have hcond : cx.here H = true ∧ hLock H 0 = false := by simpa using hcond
    obtain ⟨hhere, hlock⟩ := hcond
    cases hcall : cx.call (.fn g) (x ++ (.yld 0 (hNext H) :: y)) (rangeStart fr H cx ps assign body) with
    | none => rw [hcall] at h; simp at h
    | some r =>
      obtain ⟨v, H1⟩ := r
      rw [hcall] at h
      simp only at h
      split at h
      · rename_i lp hg
        split at h
        · simp at h
        · rename_i hbusy
          cases hend : endEx lp.pending with
          | none => rw [hend] at h; simp at h
          | some e' =>
            rw [hend] at h
            simp only [Option.some.injEq, Prod.mk.injEq] at h
            obtain ⟨rfl, rfl, rfl⟩ := h
            refine wpIn_rangeFunc (fun fn _ => ?_)
            obtain ⟨l, mark, w1, hent, M1, hE1, hm1, hM1⟩ := enter_rel hF hH hne hR hM hhere ps assign body fn
            obtain ⟨cf, hcf⟩ : ∃ cf, cf = a.eval f := ⟨_, rfl⟩
            rw [← hcf] at hf
            cases hf
            rename_i ca cb hx vx hy vy
            have hcr : CRel p M1 (x ++ (.yld 0 (hNext H) :: y)) (ca ++ (#[.func (.yield l) #[] #[]] ++ cb)) := by
              refine CRel.app ⟨hx, fun j hj => (vx j hj).mono (Pst.le.refl _) hE1.mu⟩ ?_
              exact CRel.app (l := [.yld 0 (hNext H)]) (cs := #[.func (.yield l) #[] #[]]) ⟨rfl, fun j hj => by
                obtain rfl : j = 0 := by simpa using hj
                exact .yld hm1⟩ ⟨hy, fun j hj => (vy j hj).mono (Pst.le.refl _) hE1.mu⟩
            obtain ⟨⟨gfn, hgfn, hgb⟩, hcalls⟩ := hC (.fn g) _ _ v H1 hcall (hE1.ne hne) p M1 w1 _ hE1.rel hcr
            have hname := hN g gfn hgfn hgb
            refine ⟨l, mark, w1, { target := .fn (.func g) cb, args := ca ++ #[.func (.yield l) #[] #[]] }, w1, g, _, w1, hent, ?_, fun f' _ => hFW.fn f', ?_, fun hd => by rw [hFW.depth] at hd; simp at hd, (hFW.calls hcalls).mono ?_⟩
            · have ha : ((#[Operand.const (.func (.yield l) #[] #[])] : Array Operand).map a.eval) = #[.func (.yield l) #[] #[]] := by simp [Act.eval]
              simp only [rangeCall, resolve, ha, ← hcf, Deferred.ofValue, Sem.run_pure]
            · simp only [invoke, callFunc, Sem.run_bind, run_program, Result.andThen, hgfn, hname, hgb, Bool.false_eq_true, if_false, Sem.run_pure, Array.append_assoc]
            · rintro en w3 ⟨cv, rfl, _, p2, M2, hE2, hv2⟩
              have hm2 := hE2.mu _ _ _ _ hm1
              obtain ⟨b', o', t', k1, k2, _⟩ := hE2.rel.live 0 (hNext H) 0 _ hg (by simp)
              rw [hm2] at k1
              simp only [Option.some.injEq, Prod.mk.injEq] at k1
              obtain ⟨rfl, rfl, rfl⟩ := k1
              obtain ⟨r, q1, q2, q3, _⟩ := k2
              have hl1 : hLock H1 0 = false := by rw [hE2.lock, hE1.lock]; exact hlock
              have hE3 := Evo.forget hE2.rel hg (by simp) hm2 hl1 (.loop { r with state := .exhausted })
              refine ⟨r.pending, _, run_endLoop q1 (by rw [q2]; intro e0; rw [e0] at hbusy; simp at hbusy), ?_⟩
              have hnow : Now n0 p M H w cx.nt fr (hKill H1 0 (hNext H)) { a with defers := mark ++ a.defers } (w3.putObj l (.loop { r with state := .exhausted })) :=
                ⟨p2, M2, hE1.trans (hE2.trans hE3), ⟨hF.size, fun z => (hF.at_ z).mono (hE1.pst.trans hE2.pst) (hE1.mu.trans hE2.mu)⟩, (hM1.evo hE2).evo hE3⟩
              generalize w3.putObj l (.loop { r with state := .exhausted }) = w4 at hnow ⊢
              have hq := hQ _ _ hnow
              rw [q3]
              cases hpd : lp.pending with
              | none =>
                rw [hpd] at hend
                simp only [endEx, Option.some.injEq] at hend
                subst hend
                exact hq
              | some c =>
                rw [hpd] at hend
                cases c <;> simp only [endEx, Option.some.injEq, reduceCtorEq] at hend
                · subst hend; exact wpIn_exit hq
                · subst hend; exact wpIn_goto hq
                · subst hend; exact wpIn_ret hq
      · simp at h

end Go.Eng
end
section
namespace Go.Eng
set_option linter.unusedVariables false
set_option linter.unusedSimpArgs false

/-- A loop's record turns. -/
theorem Evo.turn {p : Pst} {M : Mu} {H : Heap} {w : World} (h : HRel p M H w) (hne : H ≠ []) {d i b o t : Nat} {l l' : ALoop} {r r' : Loop} (hg : hGet H d i = (0, .loop l)) (hm : M d i 0 = some (b, o, t)) (hl : hLock H d = false) (hr : w.heap[b]? = some (.loop r))
    (hrel : BRel p (M.up d) (.loop l') b o t (w.putObj b (.loop r'))) : ∃ p' M', Evo p M H w p' M' (hSet H d i (0, .loop l')) (w.putObj b (.loop r')) := by
  have hd : DRel p M H (hNext H) .undef (.set d i (0, .loop l')) Go.undef w (w.putObj b (.loop r')) :=
    ⟨0, .loop l, b, o, t, b, o, t, hg, by simp, hl, hm, by simp, hrel, ⟨rfl, rfl, rfl, by rw [World.putObj_size]; exact Nat.le_refl _, fun y _ hy => World.putObj_heap_other hy⟩, .inl rfl, .undef _, .inl ⟨rfl, rfl, rfl, rfl⟩⟩
  obtain ⟨p', M', e1, _⟩ := drel_on hne h hd
  exact ⟨p', M', e1⟩

theorem fGet_upFrm : ∀ (fr : Frm) (k x : Nat), fGet (upFrm k fr) x = upV k (fGet fr x)
  | [], k, x => by cases k <;> rfl
  | (y, v) :: r, k, x => by
    simp only [upFrm, fGet, fGet_upFrm r k x]
    split <;> rfl
theorem upFrm_rel {p : Pst} {M : Mu} {nt k : Nat} {fr : Frm} {a : Act} (h : FRel p (M.up k) nt fr a) : FRel p M nt (upFrm k fr) a :=
  ⟨h.size, fun x => by rw [fGet_upFrm]; exact (h.at_ x).up⟩

/-- The parameters of a round are laid into its temporaries. -/
theorem putPs_rel {p : Pst} {M : Mu} {nt : Nat} : ∀ (ts : List Tmp) (vs : List AV) (cs : List Value) (fr fr' : Frm) (a : Act), putPs nt fr ts vs = some fr' → FRel p M nt fr a → cs.length = vs.length → (∀ j, j < vs.length → VRel p M (vs.getD j .undef) (cs.getD j Go.undef)) →
    cs.length = ts.length ∧ FRel p M nt fr' { tmps := (ts.zip cs).foldl (fun tmps (t, c) => tmps.setIfInBounds t c) a.tmps, defers := a.defers }
  | [], [], cs, fr, fr', a, h, hF, hl, _ => by
    simp only [putPs, Option.some.injEq] at h
    subst h
    have : cs = [] := List.length_eq_zero_iff.1 (by simpa using hl)
    subst this
    exact ⟨rfl, ⟨hF.size, hF.at_⟩⟩
  | t :: ts, [], cs, fr, fr', a, h, _, _, _ => by simp [putPs] at h
  | [], v :: vs, cs, fr, fr', a, h, _, _, _ => by simp [putPs] at h
  | t :: ts, v :: vs, cs, fr, fr', a, h, hF, hl, hv => by
    simp only [putPs] at h
    split at h
    · rename_i hlt
      cases cs with
      | nil => simp at hl
      | cons c cs =>
        have h0 := hF.put (some t) (v := v) (c := c) (by simpa using hv 0 (by simp))
        simp only [putO, hlt, if_true, Act.put] at h0
        have := putPs_rel ts vs cs _ fr' _ h h0 (by simpa using hl) (fun j hj => by have := hv (j + 1) (by simpa using hj); simpa using this)
        exact ⟨by simp [this.1], this.2⟩
    · simp at h

def RoundDone (P : Program) (b : Nat) (R : Ending → World → Prop) (j : Option Code) (w : World) : Prop := ∃ v w', (Instr.endRound b j).run P w = .ok v w' ∧ R (.returned v) w'
theorem roundPost_of {P : Program} {b : Nat} {R : Ending → World → Prop} {e : Ex} {a : Act} {w : World} (h : RoundDone P b R (jumpOf e) w) : roundPost P b R (exR e) a w := by
  cases e <;> exact h

theorem round_rel {P : Program} (hN : Named P) {call : CallT} (hC : CallOk P call) (hX : ∀ (cx : Cx) (F : Fence), cx.P = P → cx.call = call → Wide F → CodeMore cx F) {fu : Nat} {kt : Nat → Nat} {d i : Nat} {args : List AV} {H : Heap} {l l1 l2 : ALoop} {fr fr1 fr2 : Frm} {H1 H2 : Heap} {lv : Lvl} {e : Ex}
    (hg : hGet H d i = (0, .loop l)) (hl : hLock H d = false) (hs : l.state = .ready) (hp : putPs l.nt (upFrm (d + 1) l.fr) l.params (args.map (upV 1)) = some fr)
    (he1 : exec ⟨P, call, fu, l.fn, l.nt, kt, some (d + 1, i)⟩ l.assign fr (⟨false, []⟩ :: H) = some (.normal, fr1, H1)) (hg1 : hGet H1 (d + 1) i = (0, .loop l1)) (hs1 : l1.state = .ready)
    (he2 : exec ⟨P, call, fu, l.fn, l.nt, kt, some (d + 1, i)⟩ l.body fr1 (hSet H1 (d + 1) i (0, .loop { l1 with state := .busy })) = some (e, fr2, lv :: H2)) (hg2 : hGet H2 d i = (0, .loop l2))
    {p : Pst} {M : Mu} {w : World} {cargs : Array Value} (hH : HRel p M H w) (hA : CRel p M args cargs) {b o t : Nat} (hm : M d i 0 = some (b, o, t)) :
    ∃ f tmps assign body, (Instr.yield b cargs).run P w = .ok (.round b f tmps assign body) w ∧
      RoundIn Fence.wide 0 P b f tmps assign body w (Post p M H w (.bool (jumpOf e).isNone) (hSet H2 d i (0, .loop { l2 with state := if (jumpOf e).isNone then .ready else .done, pending := jumpOf e }))) := by
  have record : ∀ {p : Pst} {M : Mu} {H : Heap} {w : World} {d i : Nat} {l : ALoop} {b o t : Nat}, HRel p M H w → hGet H d i = (0, .loop l) → M d i 0 = some (b, o, t) → BRel p (M.up d) (.loop l) b o t w := by
    intro p M H w d i l b o t hH hg hm
    obtain ⟨b', o', t', k1, k2, _⟩ := hH.live d i 0 _ hg (by simp)
    rw [hm] at k1
    simp only [Option.some.injEq, Prod.mk.injEq] at k1
    obtain ⟨rfl, rfl, rfl⟩ := k1
    exact k2
  obtain ⟨r, q1, q2, q3, q4, q5, q6, q7⟩ := record hH hg hm
  have hF0 : FRel p (muDown M) l.nt (upFrm (d + 1) l.fr) ⟨r.tmps, []⟩ := upFrm_rel (k := d + 1) (M := muDown M) q7
  obtain ⟨z1, z2⟩ := putPs_rel l.params (args.map (upV 1)) cargs.toList _ fr _ hp hF0 (by simp [hA.1]) (fun j hj => by
    have hj' : j < args.length := by simpa using hj
    rw [getD_map_undef _ _ _ hj']
    have := VRel.up (M := muDown M) (k := 1) (hA.2 j hj')
    simpa using this)
  have hpar : r.params = l.params.toArray := by rw [← q4]
  have hsz : cargs.size = r.params.size := by rw [hpar]; simpa using z1
  refine ⟨_, _, _, _, run_yield q1 hsz, roundIn_of_wpIn trivial ?_⟩
  have htm : (r.params.zip cargs).foldl (fun tmps (t, a) => tmps.setIfInBounds t a) r.tmps = (l.params.zip cargs.toList).foldl (fun tmps (t, c) => tmps.setIfInBounds t c) r.tmps := by
    rw [hpar, ← Array.foldl_toList]
    simp
  rw [htm, q5, q6]
  have hW := Wide.inRound b
  have x1 := exec_rel (cx := ⟨P, call, fu, l.fn, l.nt, kt, some (d + 1, i)⟩) hW hN hC (hX _ _ rfl rfl hW) _ _ _ _ _ _ he1
  have hR : RoOk (Fence.wide.inRound b) (some (d + 1, i)) (muDown M) := ⟨b, o, t, rfl, hm⟩
  refine x1 w.heap.size p (muDown M) _ w _ z2 hH.down (by simp) hR (Marks.nil _ _ _) (fun a1 w1 ⟨p1, M1, k1, k2, k3⟩ => ?_)
  have hm1 : M1 (d + 1) i 0 = some (b, o, t) := k1.mu _ _ _ _ hm
  obtain ⟨r1, u1, u2, u3, u4, u5, u6, u7⟩ := record k1.rel hg1 hm1
  have hl1 : hLock H1 (d + 1) = false := by rw [k1.lock]; exact hl
  have hlt : ∀ {w : World} {b : Nat} {x : Obj}, w.heap[b]? = some x → b < w.heap.size := fun e => (Array.getElem?_eq_some_iff.1 e).1
  obtain ⟨p2, M2, t1⟩ := Evo.turn (l' := { l1 with state := .busy }) (r' := { r1 with state := .busy }) k1.rel (k1.ne (by simp)) hg1 hm1 hl1 u1 ⟨_, World.putObj_heap_same (hlt u1), rfl, u3, u4, u5, u6, u7⟩
  refine ⟨_, run_beginRound u1 (by rw [u2]; exact hs1), ?_⟩
  have x2 := exec_rel (cx := ⟨P, call, fu, l.fn, l.nt, kt, some (d + 1, i)⟩) hW hN hC (hX _ _ rfl rfl hW) _ _ _ _ _ _ he2
  have k12 := k1.trans t1
  refine x2 w.heap.size p2 M2 a1 _ _ (k2.mono t1.pst t1.mu) t1.rel (k12.ne (by simp)) (hR.mono k12.mu) (k3.evo t1) (fun a3 w3 ⟨p3, M3, v1, _, _⟩ => roundPost_of ?_)
  have kk := k12.trans v1
  have hm3 : (M3.up 1) d i 0 = some (b, o, t) := kk.mu (d + 1) i 0 _ hm
  have kp := kk.pop
  obtain ⟨r3, y1, y2, y3, y4, y5, y6, y7⟩ := record kp.rel hg2 hm3
  have hne : H ≠ [] := by intro e0; rw [e0] at hg; simp [hGet] at hg
  have hl3 : hLock H2 d = false := by rw [kp.lock]; exact hl
  obtain ⟨p4, M4, t4⟩ := Evo.turn (l' := { l2 with state := if (jumpOf e).isNone then .ready else .done, pending := jumpOf e }) (r' := { r3 with state := if (jumpOf e).isNone then .ready else .done, pending := jumpOf e }) kp.rel (kp.ne hne) hg2 hm3 hl3 y1
    ⟨_, World.putObj_heap_same (hlt y1), rfl, rfl, y4, y5, y6, y7⟩
  have st : Still H (hSet H2 d i (0, .loop { l2 with state := if (jumpOf e).isNone then .ready else .done, pending := jumpOf e })) := ⟨fun d1 i1 hk9 => by
      rw [hGet_set, if_neg (by rintro ⟨e9, _, _⟩; rw [e9, hl] at hk9; simp at hk9)]
      exact kk.same (d1 + 1) i1 (by omega) hk9, fun d1 hk9 => by
      rw [hNextAt_set]
      exact kk.next (d1 + 1) (by omega) hk9⟩
  exact ⟨_, _, run_endRound _ y1, _, rfl, st, p4, M4, kp.trans t4, .bool _⟩

end Go.Eng
end
section
namespace Go.Eng
set_option linter.unusedVariables false
set_option linter.unusedSimpArgs false

/-- What is left to show: regions that draw their order. -/
def DrawOk (P : Program) : Prop := ∀ (cx : Cx) (F : Fence), cx.P = P → CallOk P cx.call → Wide F → ∀ (id : Nat) (ops : Array Oper) (fr : Frm) (H : Heap) (fr' : Frm) (H' : Heap), slotsOk ops (Region.before ops) = true →
  drawOps cx.P cx.nt cx.call ops (Region.before ops) 0 ops.toList fr (hPad H (pushes ops.toList)) (hNext H) [] = some (fr', H') → CodeOk cx.P F cx.ro cx.nt (.region id ops true) fr H .normal fr' H'

/-- What is asked of the calls that are known beforehand. -/
def OraOk (P : Program) (ora : CallT → FuncId → List AV → Heap → Option (AV × Heap)) : Prop := ∀ (call : CallT), CallOk P call → ∀ (f : FuncId) (args : List AV) (H : Heap) (v : AV) (H' : Heap), ora call f args H = some (v, H') → H ≠ [] → ∀ (p : Pst) (M : Mu) (w : World) (cargs : Array Value), HRel p M H w → CRel p M args cargs →
  (∃ fn, P.funcs[f]? = some fn ∧ fn.body.isNone = false) ∧ CallsIn Fence.wide 0 P f cargs w (Post p M H w v H')
theorem OraOk.none (P : Program) : OraOk P (fun _ _ _ _ => none) := fun call _ f args H v H' h => by simp at h

theorem more {P : Program} (hN : Named P) (hD : DrawOk P) {call : CallT} (hC : CallOk P call) (cx : Cx) (F : Fence) (h1 : cx.P = P) (h2 : cx.call = call) (hW : Wide F) : CodeMore cx F := by
  subst h1; subst h2
  exact ⟨fun id ops fr H fr' H' hs hr => hD cx F rfl hC hW id ops fr H fr' H' hs hr, fun f ps assign body fr H e fr' H' h => range_rel hW hN hC f ps assign body fr H e fr' H' h⟩

theorem callN_rel {P : Program} (hN : Named P) (hD : DrawOk P) {ora : CallT → FuncId → List AV → Heap → Option (AV × Heap)} (hO : OraOk P ora) (KT : FuncId → Nat → Nat) (fu : Nat) : ∀ n, CallOk P (callN P ora KT fu n)
  | 0 => fun tgt args H v H' h _ _ _ _ _ _ _ => by cases tgt <;> first | trivial | simp [callN] at h
  | n + 1 => by
    have ih := callN_rel hN hD hO KT fu n
    intro tgt args H v H' h hne p M w cargs hH hA
    cases tgt with
    | fn f =>
      simp only [callN] at h
      cases ho : ora (callN P ora KT fu n) f args H with
      | some u =>
        rw [ho] at h
        dsimp only at h
        rw [Option.some.injEq] at h
        subst h
        exact hO _ ih f args H v H' ho hne p M w cargs hH hA
      | none =>
        rw [ho] at h
        simp only at h
        cases hf : P.funcs[f]? with
        | none => rw [hf] at h; simp at h
        | some fn =>
          rw [hf] at h
          simp only at h
          cases hb : fn.body with
          | none => rw [hb] at h; simp at h
          | some c =>
            rw [hb] at h
            simp only at h
            split at h
            · rename_i hle
              split at h
              · rename_i e fr l H1 he
                split at h
                · cases hv : resV P fr (l :: H1) fn.results.toList with
                  | none => rw [hv] at h; simp at h
                  | some vs =>
                    rw [hv] at h
                    simp only [Option.some.injEq, Prod.mk.injEq] at h
                    obtain ⟨rfl, rfl⟩ := h
                    exact ⟨⟨fn, hf, by rw [hb]; rfl⟩, func_rel hf hb (by simpa using hle) (.inl rfl) hv (exec_rel Wide.wide hN ih (more hN hD ih _ _ rfl rfl Wide.wide) _ _ _ _ _ _ he) hH hA⟩
                · cases hv : resV P fr (l :: H1) fn.results.toList with
                  | none => rw [hv] at h; simp at h
                  | some vs =>
                    rw [hv] at h
                    simp only [Option.some.injEq, Prod.mk.injEq] at h
                    obtain ⟨rfl, rfl⟩ := h
                    exact ⟨⟨fn, hf, by rw [hb]; rfl⟩, func_rel hf hb (by simpa using hle) (.inr rfl) hv (exec_rel Wide.wide hN ih (more hN hD ih _ _ rfl rfl Wide.wide) _ _ _ _ _ _ he) hH hA⟩
                · simp at h
              · simp at h
            · simp at h
    | mode => trivial
    | round d i =>
      intro b o t hm
      simp only [callN] at h
      split at h
      · rename_i l hg
        split at h
        · simp at h
        · rename_i hl
          split at h
          · rename_i hs
            split at h
            · rename_i fr hp
              split at h
              · rename_i fr1 H1 he1
                split at h
                · rename_i l1 hg1
                  split at h
                  · rename_i hs1
                    split at h
                    · rename_i e fr2 lv H2 he2
                      split at h
                      · rename_i l2 hg2
                        simp only [Option.some.injEq, Prod.mk.injEq] at h
                        obtain ⟨rfl, rfl⟩ := h
                        exact round_rel hN ih (fun cx F h1 h2 hW => more hN hD ih cx F h1 h2 hW) hg (by simpa using hl) hs hp he1 hg1 hs1 he2 hg2 hH hA hm
                      · simp at h
                    · simp at h
                  · simp at h
                · simp at h
              · simp at h
            · simp at h
          · simp at h
      · simp at h

end Go.Eng
end
section
namespace Go.Eng
set_option linter.unusedVariables false

theorem HRel.top (w : World) : HRel (fun _ _ => none) Mu.no [⟨true, []⟩] w where
  pers := fun b o v h => by cases h
  live := fun d i v B hg hB => by
    cases d <;> simp [hGet, nthBlk] at hg <;> exact absurd hg.2.symm hB
  apart := fun d i v B d' i' v' B' b o t o' t' hg hB hg' hB' hm hm' => by cases hm
  dom := fun d i v t hm => by cases hm

/-- What a call computes that needs nothing of the heap. -/
theorem calls_of {P : Program} {call : CallT} (hC : CallOk P call) {f : FuncId} {args : List AV} {v : AV} {H' : Heap} (h : call (.fn f) args [⟨true, []⟩] = some (v, H')) {cargs : Array Value} (hA : CRel (fun _ _ => none) Mu.no args cargs) (w : World) :
    Calls P f cargs w (fun e w' => ∃ cv p' M', e = .returned cv ∧ VRel p' M' v cv ∧ Stay (fun _ => True) w w') := by
  have := (hC (.fn f) args _ v H' h (by simp) _ _ w cargs (HRel.top w) hA).2
  refine (callsIn_wide.1 this).mono ?_
  rintro e w' ⟨cv, rfl, _, p', M', hE, hv⟩
  exact ⟨cv, p', M', rfl, hv, hE.stay.weaken (fun b _ _ d i v B _ _ _ o t hm => by cases hm)⟩

theorem Stay.below {w w' : World} (h : Stay (fun _ => True) w w') : Go.RowKit.Below w.heap.size w w' := ⟨h.os, h.tape, h.output, h.size, fun k hk => h.block k hk trivial⟩

/-- A closed call that answers a boolean. -/
theorem calls_bool {P : Program} {call : CallT} (hC : CallOk P call) {f : FuncId} {x : Bool} {H' : Heap} (h : call (.fn f) [] [⟨true, []⟩] = some (.bool x, H')) (w : World) :
    Calls P f #[] w (fun e w' => e = .returned (.bool x) ∧ Go.RowKit.Below w.heap.size w w') := by
  refine (calls_of hC h (cargs := #[]) ⟨rfl, fun j hj => absurd hj (by simp)⟩ w).mono ?_
  rintro e w' ⟨cv, p', M', rfl, hv, hs⟩
  cases hv
  exact ⟨rfl, hs.below⟩

end Go.Eng
end
section
namespace Go.Eng
set_option linter.unusedVariables false
set_option linter.unusedSimpArgs false

theorem opds_congr {fr fr' : Frm} : ∀ {l : List Operand}, (∀ x ∈ l, opd fr x = opd fr' x) → opds fr l = opds fr' l
  | [], _ => rfl
  | x :: l, h => by simp only [opds]; rw [h x (by simp), opds_congr (fun y hy => h y (by simp [hy]))]
theorem mapOpd_congr {fr fr' : Frm} : ∀ {l : List (Nat × Operand)}, (∀ x ∈ l, opd fr x.2 = opd fr' x.2) → mapOpd fr l = mapOpd fr' l
  | [], _ => rfl
  | (i, x) :: l, h => by
    simp only [mapOpd]
    have := h (i, x) (by simp)
    simp only at this
    rw [this, mapOpd_congr (fun y hy => h y (by simp [hy]))]

theorem callV_congr {P : Program} {call : CallT} {fr fr' : Frm} {H : Heap} {nx : Nat} {c : Call} (h : ∀ x ∈ c.operands.toList, opd fr x = opd fr' x) : callV P call fr H nx c = callV P call fr' H nx c := by
  have hargs : ∀ x ∈ c.args.toList, opd fr x = opd fr' x := fun x hx => h x (by unfold Call.operands; rw [Array.toList_append]; exact List.mem_append_right _ hx)
  unfold callV
  cases hc : c.callee with
  | value f =>
    have hf : opd fr f = opd fr' f := h f (by unfold Call.operands; rw [hc]; simp)
    dsimp only
    rw [hf, opds_congr hargs]
  | invoke r m => rfl
  | builtin b =>
    cases b <;> dsimp only <;> try rfl
    all_goals first
      | (rw [opds_congr hargs]; done)
      | (generalize c.args.toList = l at hargs
         generalize c.argTypes.toList = ts
         rcases ts with _ | ⟨t, _ | ⟨u, ts⟩⟩ <;> rcases l with _ | ⟨x, _ | ⟨y, l⟩⟩ <;> dsimp only <;>
           first
           | rfl
           | (rw [hargs x (by simp), hargs y (by simp)])
           | (rw [hargs x (by simp)]))

theorem evalOp_congr {P : Program} {call : CallT} {fr fr' : Frm} {H : Heap} {nx : Nat} {o : Oper} (h : ∀ x ∈ o.op.operands.toList, opd fr x = opd fr' x) : evalOp P call fr H nx o = evalOp P call fr' H nx o := by
  unfold evalOp
  cases ho : o.op <;> rw [ho] at h <;> simp only [Op.operands] at h
  all_goals try (simp at h; simp [h]; done)
  all_goals try rfl
  case build t ps =>
    dsimp only
    rw [mapOpd_congr (l := ps.toList) (fun x hx => h x.2 (by simp only [List.mem_map]; exact ⟨x, hx, rfl⟩))]
  case buildSlice t n ps =>
    dsimp only
    rw [mapOpd_congr (l := ps.toList) (fun x hx => h x.2 (by simp only [List.mem_map]; exact ⟨x, hx, rfl⟩))]
  case makeFunc f a b =>
    simp at h
    dsimp only
    rw [opds_congr (l := a.toList) (fun x hx => h x (.inl (by simpa using hx))), opds_congr (l := b.toList) (fun x hx => h x (.inr (by simpa using hx)))]
  case makeMap t r => cases r <;> rfl
  case slice t x lo hi mx =>
    cases lo <;> cases hi <;> cases mx <;> simp at h <;> simp [h]
  case call c => exact callV_congr h

end Go.Eng
end
