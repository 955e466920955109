/- The engine, part M: a function's end. -/
import Derived.Test.YtjmjkhpfipglcaaV2EngL
namespace Go.Eng
set_option linter.unusedVariables false
set_option linter.unusedSimpArgs false

theorem Evo.mark {p p' : Pst} {M M' : Mu} {H H' : Heap} {w w1 : World} {r : Nat} {x y : Option (List Deferred)} (h : Evo p M H w p' M' H' w1) (hr : w1.heap[r]? = some (.deferred x)) (hn : w.heap.size ≤ r) : Evo p M H w p' M' H' (w1.putObj r (.deferred y)) := by
  have hlt : r < w1.heap.size := (Array.getElem?_eq_some_iff.1 hr).1
  refine { h with rel := ⟨?_, ?_, h.rel.apart, h.rel.dom⟩, stay := ⟨h.stay.os, h.stay.tape, h.stay.output, by rw [World.putObj_size]; exact h.stay.size, fun b hb hk => ?_⟩ }
  · intro b o v hp
    have := h.rel.pers b o v hp
    have hne : b ≠ r := by
      rintro rfl
      simp [World.cell?, hr] at this
    rw [← this]
    exact World.cell?_of_block (w := w1) (World.putObj_heap_other hne)
  · intro d i v B hg hB
    obtain ⟨b, o, t, k1, k2, k3⟩ := h.rel.live d i v B hg hB
    refine ⟨b, o, t, k1, k2.mono (Pst.le.refl _) (Mu.le.refl _) (World.putObj_heap_other ?_), k3⟩
    rintro rfl
    cases B with
    | dead => exact hB rfl
    | row r => obtain ⟨_, _, e, _⟩ := k2; rw [hr] at e; simp at e
    | map es => obtain ⟨_, _, e, _⟩ := k2; rw [hr] at e; simp at e
    | loop l => obtain ⟨_, e, _⟩ := k2; rw [hr] at e; simp at e
  · rw [World.putObj_heap_other (by omega)]
    exact h.stay.block b hb hk

theorem leaves_rel {P : Program} {F : Fence} {n : Nat} {fn : Func} {tmps : Array Value} {R : Ending → World → Prop} {p p' : Pst} {M M' : Mu} {H H' : Heap} {w : World} (hend : ∀ w2, Evo p M H w p' M' H' w2 → LeavesIn F n P fn tmps R [] .returning w2) :
    ∀ (rs : List Nat) (w1 : World), rs.Nodup → (∀ r ∈ rs, w1.heap[r]? = some (.deferred (some [])) ∧ w.heap.size ≤ r) → Evo p M H w p' M' H' w1 →
      LeavesInM F n P fn tmps R (rs.map (fun r => { target := .collected r, args := #[] })) .returning w1
  | [], w1, _, _, hE => hend w1 hE
  | r :: rs, w1, hnd, hrs, hE => by
    obtain ⟨k1, k2⟩ := hrs r (by simp)
    refine ⟨by simp, .inl ⟨r, _, rfl, run_takeDeferred k1, ?_⟩⟩
    refine leaves_rel hend rs _ (List.nodup_cons.1 hnd).2 (fun x hx => ?_) (hE.mark k1 k2)
    have hne : x ≠ r := fun e => (List.nodup_cons.1 hnd).1 (e ▸ hx)
    rw [World.putObj_heap_other hne]
    exact hrs x (by simp [hx])

def resOf (tmps : Array Value) : ResultVar → Sem Value
  | .tmp t => pure (tmps.getD t Go.undef)
  | .cell x t => do loadVar t (← asAddr (tmps.getD x Go.undef))

theorem res_rel {P : Program} {p : Pst} {M : Mu} {nt : Nat} {fr : Frm} {a : Act} {H : Heap} {w : World} (hF : FRel p M nt fr a) (hH : HRel p M H w) : ∀ (l : List ResultVar) (vs : List AV), resV P fr H l = some vs →
    ∃ cs : List Value, (l.mapM (m := Sem) (resOf a.tmps)).run P w = .ok cs w ∧ cs.length = vs.length ∧ ∀ j, j < vs.length → VRel p M (vs.getD j .undef) (cs.getD j Go.undef)
  | [], vs, h => by
    simp only [resV, Option.some.injEq] at h
    subst h
    exact ⟨[], by simp, rfl, fun j hj => absurd hj (by simp)⟩
  | .tmp t :: l, vs, h => by
    simp only [resV] at h
    obtain ⟨us, hu, rfl⟩ := Option.map_eq_some_iff.1 h
    obtain ⟨cs, k1, k2, k3⟩ := res_rel hF hH l us hu
    refine ⟨a.tmps.getD t Go.undef :: cs, ?_, by simp [k2], fun j hj => ?_⟩
    · rw [List.mapM_cons]
      simp only [resOf, Sem.run_bind, Sem.run_pure, Result.andThen, k1]
    · cases j with
      | zero => simpa using hF.at_ t
      | succ j => simpa using k3 j (by simpa using hj)
  | .cell x t :: l, vs, h => by
    simp only [resV] at h
    cases hl : loadV P H t (fGet fr x) with
    | none => rw [hl] at h; simp at h
    | some v =>
      rw [hl] at h
      simp only at h
      obtain ⟨us, hu, rfl⟩ := Option.map_eq_some_iff.1 h
      obtain ⟨cs, k1, k2, k3⟩ := res_rel hF hH l us hu
      have hx := hF.at_ x
      obtain ⟨c, c1, c2⟩ := load_rel hl hx hH
      have hrun : (do loadVar t (← asAddr (a.tmps.getD x Go.undef)) : Sem Value).run P w = .ok c w := by
        unfold loadV at hl
        obtain ⟨z, hz⟩ : ∃ z, z = a.tmps.getD x Go.undef := ⟨_, rfl⟩
        rw [← hz] at hx c1 ⊢
        generalize fGet fr x = y at hx hl
        cases hx <;> try (simp at hl; done)
        all_goals
          simp only [Instr.loadAt, Instr.sureAddr, Sem.run_bind, Result.andThen, Sem.run_pure] at c1
          simp only [asAddr, Sem.run_bind, Result.andThen, Sem.run_pure]
          exact c1
      refine ⟨c :: cs, ?_, by simp [k2], fun j hj => ?_⟩
      · rw [List.mapM_cons]
        simp only [resOf, Sem.run_bind, Result.andThen, Sem.run_pure] at hrun ⊢
        rw [hrun]
        simp only [k1]
      · cases j with
        | zero => simpa using c2
        | succ j => simpa using k3 j (by simpa using hj)

theorem results_rel {P : Program} {p : Pst} {M : Mu} {nt : Nat} {fr : Frm} {a : Act} {H : Heap} {w : World} (hF : FRel p M nt fr a) (hH : HRel p M H w) {fn : Func} {vs : List AV} (h : resV P fr H fn.results.toList = some vs) :
    ∃ c, (results fn a.tmps).run P w = .ok c w ∧ VRel p M (one vs) c := by
  obtain ⟨cs, k1, k2, k3⟩ := res_rel hF hH _ _ h
  have hm : (fn.results.mapM (m := Sem) (resOf a.tmps)).run P w = .ok cs.toArray w := by
    rw [Array.mapM_eq_mapM_toList, map_eq_pure_bind, Sem.run_bind, k1]
    rfl
  refine ⟨if h : cs.toArray.size = 1 then cs.toArray[0] else .tuple cs.toArray, ?_, ?_⟩
  · have e : results fn a.tmps = (do let vs ← fn.results.mapM (resOf a.tmps); pure (if h : vs.size = 1 then vs[0] else .tuple vs) : Sem Value) := rfl
    rw [e, Sem.run_bind, hm]
    rfl
  · unfold one
    split
    · rename_i v
      obtain ⟨c, rfl⟩ : ∃ c, cs = [c] := List.length_eq_one_iff.1 (by simpa using k2)
      simpa using k3 0 (by simp)
    · rename_i hne
      have h1 : ¬ cs.toArray.size = 1 := by
        simp only [List.size_toArray]
        intro e
        rw [k2] at e
        obtain ⟨v, rfl⟩ := List.length_eq_one_iff.1 e
        exact hne v rfl
      rw [dif_neg h1]
      exact .tup (by simp [k2]) (fun j hj => by simpa using k3 j hj)

theorem argFrm_get : ∀ (l : List AV) (k x : Nat), fGet (argFrm k l) x = if k ≤ x ∧ x < k + l.length then upV 1 (l.getD (x - k) .undef) else .undef
  | [], k, x => by simp [argFrm, fGet]; omega
  | v :: l, k, x => by
    simp only [argFrm, fGet, argFrm_get l (k + 1) x]
    by_cases e : k = x
    · subst e; simp
    · rw [if_neg (by simpa using e)]
      by_cases e2 : k + 1 ≤ x ∧ x < k + 1 + l.length
      · rw [if_pos e2, if_pos (by simp; omega)]
        obtain ⟨q, hq⟩ : ∃ q, x - k = q + 1 := ⟨x - k - 1, by omega⟩
        rw [hq, List.getD_cons_succ]
        congr 2; omega
      · rw [if_neg e2, if_neg (by simp; omega)]

theorem args_rel {p : Pst} {M : Mu} {args : List AV} {cargs : Array Value} (h : CRel p M args cargs) {nt : Nat} (hle : args.length ≤ nt) :
    FRel p (muDown M) nt (argFrm 0 args) { tmps := cargs ++ Array.replicate (nt - cargs.size) Go.undef, defers := [] } := by
  refine ⟨by simp [h.1]; omega, fun x => ?_⟩
  rw [argFrm_get]
  split
  · rename_i e
    have hx : x < args.length := by omega
    have : (cargs ++ Array.replicate (nt - cargs.size) Go.undef).getD x Go.undef = cargs.getD x Go.undef := by
      simp only [Array.getD_eq_getD_getElem?]; rw [Array.getElem?_append_left (by rw [h.1]; exact hx)]
    rw [this]
    exact VRel.up (h.2 x hx)
  · exact .undef _

/-- A function's call, out of its body's. -/
theorem func_rel {P : Program} {f : FuncId} {fn : Func} {c : Code} (hf : P.funcs[f]? = some fn) (hb : fn.body = some c) {args : List AV} (hle : args.length ≤ fn.ntmps) {H : Heap} {e : Ex} {fr : Frm} {l : Lvl} {H' : Heap} (he : e = .normal ∨ e = .ret) {vs : List AV} (hv : resV P fr (l :: H') fn.results.toList = some vs)
    (hC : CodeOk P Fence.wide none fn.ntmps c (argFrm 0 args) (⟨false, []⟩ :: H) e fr (l :: H')) {p : Pst} {M : Mu} {w : World} {cargs : Array Value} (hH : HRel p M H w) (hA : CRel p M args cargs) :
    CallsIn Fence.wide 0 P f cargs w (Post p M H w (frzV l.bs 5 (one vs)) H') := by
  refine callsIn_of_wp_marks hf hb trivial (hC w.heap.size p (muDown M) _ w _ (args_rel hA hle) hH.down (by simp) rfl (Marks.nil _ _ _) (fun a' w' ⟨p', M', k1, k2, k3⟩ => ?_)) rfl
  have main : LeavesInM Fence.wide 0 P fn a'.tmps (Post p M H w (frzV l.bs 5 (one vs)) H') a'.defers .returning w' := by
    obtain ⟨rs, h1, h2, _, h3⟩ := k3
    rw [h1]
    refine leaves_rel (p := p) (M := muDown M) (H := ⟨false, []⟩ :: H) (w := w) (p' := p') (M' := M') (H' := l :: H') (fun w2 hE => ?_) rs w' h2 (fun r hr => ⟨(h3 r hr).1, (h3 r hr).2.2⟩) k1
    obtain ⟨cv, r1, r2⟩ := results_rel k2 hE.rel hv
    exact ⟨cv, r1, cv, rfl, ⟨fun d i hl => hE.same (d + 1) i (by omega) hl, fun d hl => hE.next (d + 1) (by omega) hl⟩, _, _, hE.pop, frz_rel hE.rel 5 _ _ r2⟩
  rcases he with rfl | rfl
  · exact main
  · exact main

end Go.Eng
