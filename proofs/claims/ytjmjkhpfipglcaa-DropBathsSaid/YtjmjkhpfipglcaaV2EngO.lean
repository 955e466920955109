/- The engine, part O: rounds of loops over functions. -/
import Derived.Test.YtjmjkhpfipglcaaV2EngN
import Derived.RangeFuncIn
namespace Go.Eng
set_option linter.unusedVariables false
set_option linter.unusedSimpArgs false

/-- A loop's record turns. -/
theorem Evo.turn {p : Pst} {M : Mu} {H : Heap} {w : World} (h : HRel p M H w) (hne : H ≠ []) {d i b o t : Nat} {l l' : ALoop} {r r' : Loop} (hg : hGet H d i = (0, .loop l)) (hm : M d i 0 = some (b, o, t)) (hl : hLock H d = false) (hr : w.heap[b]? = some (.loop r))
    (hrel : BRel p (M.up d) (.loop l') b o t (w.putObj b (.loop r'))) : ∃ p' M', Evo p M H w p' M' (hSet H d i (0, .loop l')) (w.putObj b (.loop r')) := by
  have hd : DRel p M H (hNext H) .undef (.set d i (0, .loop l')) Go.undef w (w.putObj b (.loop r')) :=
    ⟨0, .loop l, b, o, t, b, o, t, hg, by simp, hl, hm, by simp, hrel, ⟨rfl, rfl, rfl, by rw [World.putObj_size]; exact Nat.le_refl _, fun y _ hy => World.putObj_heap_other hy⟩, .inl rfl, .undef _, .inl ⟨rfl, rfl, rfl, rfl⟩⟩
  obtain ⟨p', M', e1, _⟩ := drel_on hne h hd
  exact ⟨p', M', e1⟩

theorem fGet_upFrm : ∀ (fr : Frm) (k x : Nat), fGet (upFrm k fr) x = upV k (fGet fr x)
  | [], k, x => by cases k <;> rfl
  | (y, v) :: r, k, x => by
    simp only [upFrm, fGet, fGet_upFrm r k x]
    split <;> rfl
theorem upFrm_rel {p : Pst} {M : Mu} {nt k : Nat} {fr : Frm} {a : Act} (h : FRel p (M.up k) nt fr a) : FRel p M nt (upFrm k fr) a :=
  ⟨h.size, fun x => by rw [fGet_upFrm]; exact (h.at_ x).up⟩

/-- The parameters of a round are laid into its temporaries. -/
theorem putPs_rel {p : Pst} {M : Mu} {nt : Nat} : ∀ (ts : List Tmp) (vs : List AV) (cs : List Value) (fr fr' : Frm) (a : Act), putPs nt fr ts vs = some fr' → FRel p M nt fr a → cs.length = vs.length → (∀ j, j < vs.length → VRel p M (vs.getD j .undef) (cs.getD j Go.undef)) →
    cs.length = ts.length ∧ FRel p M nt fr' { tmps := (ts.zip cs).foldl (fun tmps (t, c) => tmps.setIfInBounds t c) a.tmps, defers := a.defers }
  | [], [], cs, fr, fr', a, h, hF, hl, _ => by
    simp only [putPs, Option.some.injEq] at h
    subst h
    have : cs = [] := List.length_eq_zero_iff.1 (by simpa using hl)
    subst this
    exact ⟨rfl, ⟨hF.size, hF.at_⟩⟩
  | t :: ts, [], cs, fr, fr', a, h, _, _, _ => by simp [putPs] at h
  | [], v :: vs, cs, fr, fr', a, h, _, _, _ => by simp [putPs] at h
  | t :: ts, v :: vs, cs, fr, fr', a, h, hF, hl, hv => by
    simp only [putPs] at h
    split at h
    · rename_i hlt
      cases cs with
      | nil => simp at hl
      | cons c cs =>
        have h0 := hF.put (some t) (v := v) (c := c) (by simpa using hv 0 (by simp))
        simp only [putO, hlt, if_true, Act.put] at h0
        have := putPs_rel ts vs cs _ fr' _ h h0 (by simpa using hl) (fun j hj => by have := hv (j + 1) (by simpa using hj); simpa using this)
        exact ⟨by simp [this.1], this.2⟩
    · simp at h

def RoundDone (P : Program) (b : Nat) (R : Ending → World → Prop) (j : Option Code) (w : World) : Prop := ∃ v w', (Instr.endRound b j).run P w = .ok v w' ∧ R (.returned v) w'
theorem roundPost_of {P : Program} {b : Nat} {R : Ending → World → Prop} {e : Ex} {a : Act} {w : World} (h : RoundDone P b R (jumpOf e) w) : roundPost P b R (exR e) a w := by
  cases e <;> exact h

theorem round_rel {P : Program} (hN : Named P) {call : CallT} (hC : CallOk P call) (hX : ∀ (cx : Cx) (F : Fence), cx.P = P → cx.call = call → Wide F → CodeMore cx F) {fu : Nat} {kt : Nat → Nat} {d i : Nat} {args : List AV} {H : Heap} {l l1 l2 : ALoop} {fr fr1 fr2 : Frm} {H1 H2 : Heap} {lv : Lvl} {e : Ex}
    (hg : hGet H d i = (0, .loop l)) (hl : hLock H d = false) (hs : l.state = .ready) (hp : putPs l.nt (upFrm (d + 1) l.fr) l.params (args.map (upV 1)) = some fr)
    (he1 : exec ⟨P, call, fu, l.fn, l.nt, kt, some (d + 1, i)⟩ l.assign fr (⟨false, []⟩ :: H) = some (.normal, fr1, H1)) (hg1 : hGet H1 (d + 1) i = (0, .loop l1)) (hs1 : l1.state = .ready)
    (he2 : exec ⟨P, call, fu, l.fn, l.nt, kt, some (d + 1, i)⟩ l.body fr1 (hSet H1 (d + 1) i (0, .loop { l1 with state := .busy })) = some (e, fr2, lv :: H2)) (hg2 : hGet H2 d i = (0, .loop l2))
    {p : Pst} {M : Mu} {w : World} {cargs : Array Value} (hH : HRel p M H w) (hA : CRel p M args cargs) {b o t : Nat} (hm : M d i 0 = some (b, o, t)) :
    ∃ f tmps assign body, (Instr.yield b cargs).run P w = .ok (.round b f tmps assign body) w ∧
      RoundIn Fence.wide 0 P b f tmps assign body w (Post p M H w (.bool (jumpOf e).isNone) (hSet H2 d i (0, .loop { l2 with state := if (jumpOf e).isNone then .ready else .done, pending := jumpOf e }))) := by
  have record : ∀ {p : Pst} {M : Mu} {H : Heap} {w : World} {d i : Nat} {l : ALoop} {b o t : Nat}, HRel p M H w → hGet H d i = (0, .loop l) → M d i 0 = some (b, o, t) → BRel p (M.up d) (.loop l) b o t w := by
    intro p M H w d i l b o t hH hg hm
    obtain ⟨b', o', t', k1, k2, _⟩ := hH.live d i 0 _ hg (by simp)
    rw [hm] at k1
    simp only [Option.some.injEq, Prod.mk.injEq] at k1
    obtain ⟨rfl, rfl, rfl⟩ := k1
    exact k2
  obtain ⟨r, q1, q2, q3, q4, q5, q6, q7⟩ := record hH hg hm
  have hF0 : FRel p (muDown M) l.nt (upFrm (d + 1) l.fr) ⟨r.tmps, []⟩ := upFrm_rel (k := d + 1) (M := muDown M) q7
  obtain ⟨z1, z2⟩ := putPs_rel l.params (args.map (upV 1)) cargs.toList _ fr _ hp hF0 (by simp [hA.1]) (fun j hj => by
    have hj' : j < args.length := by simpa using hj
    rw [getD_map_undef _ _ _ hj']
    have := VRel.up (M := muDown M) (k := 1) (hA.2 j hj')
    simpa using this)
  have hpar : r.params = l.params.toArray := by rw [← q4]
  have hsz : cargs.size = r.params.size := by rw [hpar]; simpa using z1
  refine ⟨_, _, _, _, run_yield q1 hsz, roundIn_of_wpIn trivial ?_⟩
  have htm : (r.params.zip cargs).foldl (fun tmps (t, a) => tmps.setIfInBounds t a) r.tmps = (l.params.zip cargs.toList).foldl (fun tmps (t, c) => tmps.setIfInBounds t c) r.tmps := by
    rw [hpar, ← Array.foldl_toList]
    simp
  rw [htm, q5, q6]
  have hW := Wide.inRound b
  have x1 := exec_rel (cx := ⟨P, call, fu, l.fn, l.nt, kt, some (d + 1, i)⟩) hW hN hC (hX _ _ rfl rfl hW) _ _ _ _ _ _ he1
  have hR : RoOk (Fence.wide.inRound b) (some (d + 1, i)) (muDown M) := ⟨b, o, t, rfl, hm⟩
  refine x1 w.heap.size p (muDown M) _ w _ z2 hH.down (by simp) hR (Marks.nil _ _ _) (fun a1 w1 ⟨p1, M1, k1, k2, k3⟩ => ?_)
  have hm1 : M1 (d + 1) i 0 = some (b, o, t) := k1.mu _ _ _ _ hm
  obtain ⟨r1, u1, u2, u3, u4, u5, u6, u7⟩ := record k1.rel hg1 hm1
  have hl1 : hLock H1 (d + 1) = false := by rw [k1.lock]; exact hl
  have hlt : ∀ {w : World} {b : Nat} {x : Obj}, w.heap[b]? = some x → b < w.heap.size := fun e => (Array.getElem?_eq_some_iff.1 e).1
  obtain ⟨p2, M2, t1⟩ := Evo.turn (l' := { l1 with state := .busy }) (r' := { r1 with state := .busy }) k1.rel (k1.ne (by simp)) hg1 hm1 hl1 u1 ⟨_, World.putObj_heap_same (hlt u1), rfl, u3, u4, u5, u6, u7⟩
  refine ⟨_, run_beginRound u1 (by rw [u2]; exact hs1), ?_⟩
  have x2 := exec_rel (cx := ⟨P, call, fu, l.fn, l.nt, kt, some (d + 1, i)⟩) hW hN hC (hX _ _ rfl rfl hW) _ _ _ _ _ _ he2
  have k12 := k1.trans t1
  refine x2 w.heap.size p2 M2 a1 _ _ (k2.mono t1.pst t1.mu) t1.rel (k12.ne (by simp)) (hR.mono k12.mu) (k3.evo t1) (fun a3 w3 ⟨p3, M3, v1, _, _⟩ => roundPost_of ?_)
  have kk := k12.trans v1
  have hm3 : (M3.up 1) d i 0 = some (b, o, t) := kk.mu (d + 1) i 0 _ hm
  have kp := kk.pop
  obtain ⟨r3, y1, y2, y3, y4, y5, y6, y7⟩ := record kp.rel hg2 hm3
  have hne : H ≠ [] := by intro e0; rw [e0] at hg; simp [hGet] at hg
  have hl3 : hLock H2 d = false := by rw [kp.lock]; exact hl
  obtain ⟨p4, M4, t4⟩ := Evo.turn (l' := { l2 with state := if (jumpOf e).isNone then .ready else .done, pending := jumpOf e }) (r' := { r3 with state := if (jumpOf e).isNone then .ready else .done, pending := jumpOf e }) kp.rel (kp.ne hne) hg2 hm3 hl3 y1
    ⟨_, World.putObj_heap_same (hlt y1), rfl, rfl, y4, y5, y6, y7⟩
  have st : Still H (hSet H2 d i (0, .loop { l2 with state := if (jumpOf e).isNone then .ready else .done, pending := jumpOf e })) := ⟨fun d1 i1 hk9 => by
      rw [hGet_set, if_neg (by rintro ⟨e9, _, _⟩; rw [e9, hl] at hk9; simp at hk9)]
      exact kk.same (d1 + 1) i1 (by omega) hk9, fun d1 hk9 => by
      rw [hNextAt_set]
      exact kk.next (d1 + 1) (by omega) hk9⟩
  exact ⟨_, _, run_endRound _ y1, _, rfl, st, p4, M4, kp.trans t4, .bool _⟩

end Go.Eng
