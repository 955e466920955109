/- The engine: tables of calls that are known beforehand. -/
import Derived.Test.YtjmjkhpfipglcaaV10EngXYZ
import Derived.ProofKit
section
namespace Go.Eng
set_option linter.unusedVariables false
set_option linter.unusedSimpArgs false

/-! ### Values without handles -/
def noR (f : AV → Bool) (r : Row) : Bool :=
  match r with
  | .I .. => true
  | .G l => l.all f
  | .F .. => true
  | .M l => arrs l
def noH : Nat → AV → Bool
  | 0, _ => false
  | n + 1, v => match v with
    | .undef | .bool _ | .int _ _ | .str _ | .nilp | .nils | .nilm | .nilf => true
    | .ptrT none _ _ => true
    | .slcT none _ _ _ _ => true
    | .agg r => noR (noH n) r
    | .tup l => l.all (noH n)
    | .fn _ a b => a.all (noH n) && b.all (noH n)
    | _ => false
theorem all_getD {f : AV → Bool} : ∀ {l : List AV} {j : Nat}, l.all f = true → j < l.length → f (l.getD j .undef) = true
  | [], j, _, h => by simp at h
  | x :: l, 0, h, _ => by simp at h; simpa using h.1
  | x :: l, j + 1, h, hj => by
    simp only [List.all_cons, Bool.and_eq_true] at h
    rw [List.getD_cons_succ]
    exact all_getD h.2 (by simpa using hj)
theorem noH_any {p : Pst} {M N : Mu} : ∀ (n : Nat) {v : AV} {c : Value}, noH n v = true → VRel p M v c → VRel p N v c
  | 0, v, c, h, _ => by simp [noH] at h
  | n + 1, v, c, h, hv => by
    have ih := @noH_any p M N n
    cases hv with
    | undef c => exact .undef c
    | bool b => exact .bool b
    | int k n => exact .int k n
    | str s => exact .str s
    | nilp => exact .nilp
    | nils => exact .nils
    | nilm => exact .nilm
    | nilf => exact .nilf
    | ptr h0 => simp [noH] at h
    | slc h0 => simp [noH] at h
    | map h0 => simp [noH] at h
    | yld h0 => simp [noH] at h
    | ptrT vs h0 h1 hv =>
      rename_i s r off b o
      cases s with
      | some s => simp [noH] at h
      | none => exact .ptrT vs h0 h1 hv
    | slcT vs h0 h1 hv hl hf hx =>
      rename_i s r sz len b o x cc full
      cases s with
      | some s => simp [noH] at h
      | none => exact .slcT vs h0 h1 hv hl hf hx
    | slcN => exact .slcN
    | fn ha hb va vb =>
      simp only [noH, Bool.and_eq_true] at h
      exact .fn ha hb (fun j hj => ih (all_getD h.1 hj) (va j hj)) (fun j hj => ih (all_getD h.2 hj) (vb j hj))
    | agg hs h1 hv =>
      rename_i r cs
      simp only [noH] at h
      cases r with
      | I k l => exact .agg hs h1 (fun j hj => (hv j hj).anyInt _ _)
      | F f m => exact .agg hs h1 hv
      | M l => exact .agg hs h1 (RRel.arrs h hv)
      | G l => exact .agg hs h1 (fun j hj => ih (all_getD (f := noH n) h hj) (hv j hj))
    | tup hs hv =>
      simp only [noH] at h
      exact .tup hs (fun j hj => ih (all_getD h hj) (hv j hj))

/-! ### One call that is known beforehand -/
structure Ora where
  f : FuncId
  args : List AV
  v : AV
def OneOk (P : Program) (e : Ora) : Prop := ∀ (H : Heap), H ≠ [] → ∀ (p : Pst) (M : Mu) (w : World) (cargs : Array Value), HRel p M H w → CRel p M e.args cargs →
  (∃ fn, P.funcs[e.f]? = some fn ∧ fn.body.isNone = false) ∧ CallsIn Fence.wide 0 P e.f cargs w (Post p M H w e.v H)

theorem one_of_call {P : Program} {call : CallT} (hC : CallOk P call) {e : Ora} {H' : Heap} (h : call (.fn e.f) e.args [⟨true, []⟩] = some (e.v, H')) (hn : e.args.all (noH 9) = true) : OneOk P e := by
  intro H hne p M w cargs hH hA
  have hH0 : HRel p Mu.no [⟨true, []⟩] w := ⟨hH.pers, (fun d i v B hg hB => by
    cases d <;> simp [hGet, nthBlk] at hg <;> exact absurd hg.2.symm hB), (fun d i v B d' i' v' B' b o t o' t' hg hB hg' hB' hm hm' => by cases hm), (fun d i v t hm => by cases hm)⟩
  have hA0 : CRel p Mu.no e.args cargs := ⟨hA.1, fun j hj => noH_any 9 (all_getD hn hj) (hA.2 j hj)⟩
  obtain ⟨h1, h2⟩ := hC (.fn e.f) e.args _ e.v H' h (by simp) p Mu.no w cargs hH0 hA0
  refine ⟨h1, h2.mono ?_⟩
  rintro en w' ⟨cv, rfl, st, p', M', hE, hv⟩
  have hM : Mu.le M' M := fun d i v t hm => by
    have h3 := (hE.rel.dom d i v t hm).1
    have h4 : hLock [⟨true, []⟩] d = true := by cases d <;> rfl
    rw [st.next d h4] at h3
    cases d <;> simp [hNextAt] at h3
  have all : ∀ b, Go.Eng.keep Mu.no [⟨true, []⟩] b := fun b d i u B _ _ _ o t hm => by cases hm
  have no : ∀ {b : Nat}, ¬ (hLock [⟨true, []⟩] 0 = false ∧ ∃ i u o' t', Mu.no 0 i u = some (b, o', t')) := fun h => by have := h.1; cases this
  refine ⟨cv, rfl, Still.refl H, p', M, { Evo.refl hH with pst := hE.pst, rel := ⟨hE.rel.pers, ?_, hH.apart, hH.dom⟩, stay := hE.stay.weaken (fun b _ _ => all b), fresh := fun b o v hv => (hE.fresh b o v hv).imp_right fun h => h.elim .inl fun h => (no h).elim }, hv.mono (Pst.le.refl _) hM⟩
  intro d i u B hg hB
  obtain ⟨b, o, t, k1, k2, k3⟩ := hH.live d i u B hg hB
  have hlt := k2.lt hB
  refine ⟨b, o, t, k1, k2.mono hE.pst (Mu.le.refl _) (hE.stay.block b hlt (all b)), fun x => ?_⟩
  cases hx : p' b x with
  | none => rfl
  | some y =>
    rcases hE.fresh b x y hx with h | h | ⟨h, _⟩
    · rw [k3] at h; cases h
    · omega
    · cases h

/-! ### Equality of values, as it is evaluated -/
noncomputable def eqR (f : AV → AV → Bool) (r s : Row) : Bool :=
  match r, s with
  | .I k l, .I k' l' => kindX k k' && listEqI l l'
  | .G l, .G l' => listEqV f l l'
  | _, _ => false
where
  listEqI : List Int → List Int → Bool
    | [], [] => true
    | x :: a, y :: b => eqX x y && listEqI a b
    | _, _ => false
  listEqV (f : AV → AV → Bool) : List AV → List AV → Bool
    | [], [] => true
    | x :: a, y :: b => f x y && listEqV f a b
    | _, _ => false
def eqOp : Option Nat → Option Nat → Bool
  | none, none => true
  | some a, some b => Nat.beq a b
  | _, _ => false
noncomputable def eqA : Nat → AV → AV → Bool
  | 0, _, _ => false
  | n + 1, v, u => match v, u with
    | .bool a, .bool b => a == b
    | .int k a, .int k' b => kindX k k' && eqX a b
    | .nilp, .nilp => true
    | .nils, .nils => true
    | .nilm, .nilm => true
    | .ptrT s r o, .ptrT s' r' o' => eqOp s s' && (eqR (eqA n) r r' && Nat.beq o o')
    | .slcT s r z l b, .slcT s' r' z' l' b' => eqOp s s' && (eqR (eqA n) r r' && (Nat.beq z z' && (Nat.beq l l' && b == b')))
    | .agg r, .agg r' => eqR (eqA n) r r'
    | _, _ => false
theorem listEqI_eq : ∀ (l m : List Int), eqR.listEqI l m = true → l = m
  | [], [], _ => rfl
  | [], _ :: _, h => by simp [eqR.listEqI] at h
  | _ :: _, [], h => by simp [eqR.listEqI] at h
  | x :: a, y :: b, h => by
    simp only [eqR.listEqI, Bool.and_eq_true, eqX_eq, beq_iff_eq] at h
    rw [h.1, listEqI_eq a b h.2]
theorem listEqV_eq {f : AV → AV → Bool} (hf : ∀ x y, f x y = true → x = y) : ∀ (l m : List AV), eqR.listEqV f l m = true → l = m
  | [], [], _ => rfl
  | [], _ :: _, h => by simp [eqR.listEqV] at h
  | _ :: _, [], h => by simp [eqR.listEqV] at h
  | x :: a, y :: b, h => by
    simp only [eqR.listEqV, Bool.and_eq_true] at h
    rw [hf _ _ h.1, listEqV_eq hf a b h.2]
theorem eqR_eq {f : AV → AV → Bool} (hf : ∀ x y, f x y = true → x = y) (r s : Row) (h : eqR f r s = true) : r = s := by
  cases r <;> cases s <;> simp only [eqR, Bool.and_eq_true, kindX_eq, decide_eq_true_eq] at h <;> try (simp at h; done)
  · rw [h.1, listEqI_eq _ _ h.2]
  · rw [listEqV_eq hf _ _ h]
theorem eqOp_eq (a b : Option Nat) (h : eqOp a b = true) : a = b := by
  cases a <;> cases b <;> simp [eqOp] at h ⊢; exact h
theorem eqA_eq : ∀ (n : Nat) (x y : AV), eqA n x y = true → x = y
  | 0, x, y, h => by simp [eqA] at h
  | n + 1, x, y, h => by
    have ih := eqA_eq n
    cases x <;> cases y <;> simp only [eqA, Bool.and_eq_true, kindX_eq, eqX_eq, decide_eq_true_eq, beq_iff_eq] at h <;> try (first | rfl | (simp at h; done))
    case bool.bool => rw [h]
    case int.int => rw [h.1, h.2]
    case ptrT.ptrT => rw [eqOp_eq _ _ h.1, eqR_eq ih _ _ h.2.1, Nat.eq_of_beq_eq_true h.2.2]
    case slcT.slcT => rw [eqOp_eq _ _ h.1, eqR_eq ih _ _ h.2.1, Nat.eq_of_beq_eq_true h.2.2.1, Nat.eq_of_beq_eq_true h.2.2.2.1, h.2.2.2.2]
    case agg.agg => rw [eqR_eq ih _ _ h]

noncomputable def oraT : List Ora → CallT → FuncId → List AV → Heap → Option (AV × Heap)
  | [], _, _, _, _ => none
  | e :: r, c, f, args, H => if Nat.beq e.f f && eqR.listEqV (eqA 9) e.args args then some (e.v, H) else oraT r c f args H
theorem oraT_ok {P : Program} : ∀ (tab : List Ora), (∀ e ∈ tab, OneOk P e) → OraOk P (oraT tab)
  | [], _ => fun call _ f args H v H' h => by simp [oraT] at h
  | e :: r, hT => fun call hC f args H v H' h => by
    simp only [oraT] at h
    split at h
    · rename_i hc
      simp only [Bool.and_eq_true] at hc
      have e1 := Nat.eq_of_beq_eq_true hc.1
      have e2 := listEqV_eq (eqA_eq 9) _ _ hc.2
      have e3 := Option.some.inj h
      simp only [Prod.mk.injEq] at e3
      obtain ⟨e3, e4⟩ := e3
      subst e1; subst e2; subst e3; subst e4
      exact hT e (by simp) H
    · exact oraT_ok r (fun e' he => hT e' (List.mem_cons_of_mem _ he)) call hC f args H v H' h

/-- One entry more, out of an evaluation. -/
theorem one_of {P : Program} (hN : Named P) (hm : P.follows .mixedOrders = true) {tab : List Ora} (hT : ∀ e ∈ tab, OneOk P e) (KT : FuncId → Nat → Nat) (fu n : Nat) {e : Ora} {H' : Heap}
    (h : callNX P (oraT tab) KT fu n (.fn e.f) e.args [⟨true, []⟩] = some (e.v, H')) (hn : e.args.all (noH 9) = true) : OneOk P e := by
  rw [callNX_eq] at h
  exact one_of_call (callN_rel hN (drawOk hN hm) (oraT_ok tab hT) KT fu n) h hn

/-- A closed call that answers a boolean. -/
theorem bool_of {P : Program} (hN : Named P) (hm : P.follows .mixedOrders = true) {tab : List Ora} (hT : ∀ e ∈ tab, OneOk P e) (KT : FuncId → Nat → Nat) (fu n : Nat) {f : FuncId} {x : Bool} {H' : Heap}
    (h : callNX P (oraT tab) KT fu n (.fn f) [] [⟨true, []⟩] = some (.bool x, H')) (w : World) :
    Calls P f #[] w (fun e w' => e = .returned (.bool x) ∧ Go.RowKit.Below w.heap.size w w') := by
  rw [callNX_eq] at h
  exact calls_bool (callN_rel hN (drawOk hN hm) (oraT_ok tab hT) KT fu n) h w

end Go.Eng
end

section
namespace Go.Eng
open Go.ChangeShapes Go.RowKit
set_option linter.unusedVariables false

theorem post_of_below {H : Type} {enc : TypeId × Value → H} {P : Program} {f : Func} {s : ChangeSpec} {apart fresh handsOn again : Bool} {W W' : World} {args : Array Value} {v : Value} {ds gs : List (DataW H)} {before pa pv : List MemPlace}
    (hW : DataW.Whole enc P f.params.toList s.vars apart W args.toList ds gs before) (hb : Below W.heap.size W W')
    (hres : ∀ (b : Nat) (sp : Nat → Bool) (hd : Bool), DataW.TrodAll enc P W' b sp hd f.resultTypes.toList (v.resultList f.resultTypes.size) (s.fn H (ds ++ gs)).results [])
    (hargs : ∀ sp : Nat → Bool, (∀ p ∈ before, sp p.block = true) → DataW.TrodAll enc P W' 0 sp true f.params.toList args.toList (s.fn H (ds ++ gs)).args pa)
    (hvars : ∀ sp : Nat → Bool, (∀ p ∈ before, sp p.block = true) → DataW.TrodVars enc P W' sp s.vars (s.fn H (ds ++ gs)).vars pv) (hps : before = pa ++ pv)
    (hok : ∀ (j : Nat) (t : TypeId) (r : Value), f.resultTypes[j]? = some t → (v.resultList f.resultTypes.size)[j]? = some r → Value.okWide P W' .any 0 t r) :
    s.post enc P f apart fresh handsOn again W args v W' := by
  have old : ∀ p ∈ before, p.block < W.heap.size := fun p hp => hW.lt p hp
  have hz := hW
  obtain ⟨_, _, _, _, _, hz, hn⟩ := hz
  refine ⟨ds, gs, before, [], pa, pv, hW, hres _ _ _, hargs _ (fun p hp => by simpa using old p hp), hvars _ (fun p hp => by simpa using old p hp), hb.frame _, fun _ => ⟨hok, _, _, [] ++ pa ++ pv, ⟨[] ++ pa, pv, trodAll_append (hargs _ (fun _ _ => rfl)) (hres _ _ _), hvars _ (fun _ _ => rfl), rfl, ?_, ?_⟩, ?_⟩⟩
  · intro b off hp
    have hp' : MemPlace.cell b off ∈ before := by rw [hps]; simpa using hp
    rw [hb.frozen (old _ hp')]
    exact hz b off hp'
  · intro ha
    have := hn ha
    rw [hps] at this
    simpa using this
  · intro p hp _
    rw [hps]
    simpa using hp

end Go.Eng
end

section
namespace Go.Eng
open Go.ChangeShapes
set_option linter.unusedVariables false
set_option linter.unusedSimpArgs false

/-- All that lies in a world when a call begins. -/
def Pw (w : World) : Pst := fun b o => w.cell? ⟨b, o, none⟩
theorem HRel.all (w : World) : HRel (Pw w) Mu.no [⟨true, []⟩] w where
  pers := fun b o v h => h
  live := fun d i v B hg hB => by
    cases d <;> simp [hGet, nthBlk] at hg <;> exact absurd hg.2.symm hB
  apart := fun d i v B d' i' v' B' b o t o' t' hg hB hg' hB' hm hm' => by cases hm
  dom := fun d i v t hm => by cases hm

/-- A law's call that answers a boolean. -/
theorem calls_law {P : Program} {call : CallT} (hC : CallOk P call) {f : FuncId} {args : List AV} {x : Bool} {H' : Heap} (h : call (.fn f) args [⟨true, []⟩] = some (.bool x, H')) {cargs : Array Value} {w : World} (hA : CRel (Pw w) Mu.no args cargs) :
    Calls P f cargs w (fun e w' => e = .returned (.bool x) ∧ Go.RowKit.Below w.heap.size w w') := by
  have := (hC (.fn f) args _ (.bool x) H' h (by simp) _ _ w cargs (HRel.all w) hA).2
  refine (callsIn_wide.1 this).mono ?_
  rintro e w' ⟨cv, rfl, _, p', M', hE, hv⟩
  cases hv
  exact ⟨rfl, (hE.stay.weaken (fun b _ _ d i v B _ _ _ o t hm => by cases hm)).below⟩

/-- Values of this type are n integers of one kind, one behind another. -/
def FlatK (k : IntKind) (P : Program) (t : TypeId) (n : Nat) : Prop := ∀ (H : Type) (enc : TypeId × Value → H) (w : World) (base : Nat) (sp : Nat → Bool) (held : Bool) (fuel : Nat) (cs : List Value) (x : DataW H × List MemPlace),
  DataW.trod enc P w base sp held fuel t cs = some x → cs.length = n ∧ ∀ j, j < n → ∃ z : Int, cs[j]? = some (.int k z) ∧ (Lit.int k z).wf = true
abbrev FlatI (P : Program) (t : TypeId) (n : Nat) : Prop := FlatK .i64 P t n
theorem flat_int {P : Program} {t : TypeId} {k : IntKind} (ht : P.underlying t = some (.int k)) : FlatK k P t 1 := by
  intro H enc w base sp held fuel cs x h
  obtain ⟨n, rfl, _, hw⟩ := DataW.trod_int ht h
  refine ⟨rfl, fun j hj => ?_⟩
  obtain rfl : j = 0 := by omega
  exact ⟨n, rfl, hw⟩
theorem flat_struct2 {P : Program} {k : IntKind} {t : TypeId} {f0 f1 : Field} {n0 n1 : Nat} (ht : P.underlying t = some (.struct #[f0, f1])) (h0 : FlatK k P f0.type n0) (h1 : FlatK k P f1.type n1) (o0 : f0.offset = 0) (o1 : f1.offset = n0) (c0 : P.cellsOf f0.type = n0) (c1 : P.cellsOf f1.type = n1) (c : P.cellsOf t = n0 + n1) : FlatK k P t (n0 + n1) := by
  intro H enc w base sp held fuel cs x h
  obtain ⟨y0, y1, n, _, hl, g0, g1⟩ := trod_struct2 ht h
  obtain ⟨k0, k1⟩ := h0 _ _ _ _ _ _ _ _ _ g0
  obtain ⟨m0, m1⟩ := h1 _ _ _ _ _ _ _ _ _ g1
  refine ⟨by rw [hl, c], fun j hj => ?_⟩
  by_cases hlt : j < n0
  · obtain ⟨z, hz, hw⟩ := k1 j hlt
    refine ⟨z, ?_, hw⟩
    rw [o0, c0] at hz
    simpa [List.getElem?_take, hlt] using hz
  · obtain ⟨z, hz, hw⟩ := m1 (j - n0) (by omega)
    refine ⟨z, ?_, hw⟩
    rw [o1, c1] at hz
    have hlt2 : j - n0 < n1 := by omega
    simpa [List.getElem?_take, hlt2, List.getElem?_drop, show n0 + (j - n0) = j by omega] using hz

theorem cells_mapM {w : World} {a : Addr} : ∀ (l : List Nat) (cs : List Value), (l.mapM fun i => w.cell? (a.add i)) = some cs → ∀ (j i : Nat), l[j]? = some i → ∃ v, cs[j]? = some v ∧ w.cell? (a.add i) = some v
  | [], cs, h, j, i, hi => by simp at hi
  | x :: l, cs, h, j, i, hi => by
    simp only [List.mapM_cons, Option.bind_eq_bind, Option.bind_eq_some_iff, Option.pure_def, Option.some.injEq] at h
    obtain ⟨v, hv, r, hr, rfl⟩ := h
    cases j with
    | zero => simp at hi; subst hi; exact ⟨v, rfl, hv⟩
    | succ j => exact cells_mapM l r hr j i (by simpa using hi)

/-- A slice of flat elements. -/
theorem slice_flat {P : Program} {k : IntKind} {t e : TypeId} {n : Nat} (ht : P.underlying t = some (.slice e)) (he : FlatK k P e n) (hn : 0 < n) (hc : P.cellsOf e = n) {H : Type} {enc : TypeId × Value → H} {w : World} {base : Nat} {sp : Nat → Bool} {held : Bool} {fuel : Nat} {v : Value} {x : DataW H × List MemPlace}
    (hspot : ∀ a l c, v = .slice (some a) l c → a.spot = none) (h : DataW.trod enc P w base sp held fuel t [v] = some x) :
    (v = .slice none 0 0) ∨ ∃ (zs : Nat → Int) (len : Nat), VRel (Pw w) Mu.no (.slcT none (.F (fun j => .int k (zs j)) (len * n)) n len false) v ∧ ∀ j, j < len * n → (Lit.int k (zs j)).wf = true := by
  rcases DataW.trod_slice ht h with ⟨h0, _⟩ | ⟨a, len, cap, elems, rest, m, _, hcs, _, _, hl, _, hlen, hel, _, _⟩
  · left; simpa using h0
  · right
    simp only [List.cons.injEq, and_true] at hcs
    have hsp := hspot a len cap hcs
    have cell : ∀ j, j < len * n → ∃ z : Int, w.cell? ⟨a.block, a.off + j, none⟩ = some (.int k z) ∧ (Lit.int k z).wf = true := by
      intro j hj
      have hi : j / n < len := by rw [Nat.div_lt_iff_lt_mul hn]; exact hj
      have := hel (j / n) hi
      have hex : elems[j / n]? ≠ none := by simp; omega
      rw [← this] at hex
      cases hcl : w.cells? base (a.add (j / n * P.cellsOf e)) (P.cellsOf e) with
      | none => rw [hcl] at hex; simp at hex
      | some cs =>
        rw [hcl] at hex
        cases hy : DataW.trod enc P w base sp held m e cs with
        | none => simp [hy] at hex
        | some y =>
          obtain ⟨k0, k1⟩ := he _ _ _ _ _ _ _ _ _ hy
          obtain ⟨z, hz, hw⟩ := k1 (j % n) (Nat.mod_lt _ hn)
          unfold World.cells? at hcl
          split at hcl
          · obtain ⟨u, hu, hcu⟩ := cells_mapM _ _ hcl (j % n) (j % n) (by rw [hc]; simp [Nat.mod_lt _ hn])
            rw [hz] at hu
            have hu := Option.some.inj hu
            subst hu
            refine ⟨z, ?_, hw⟩
            rw [hc] at hcu
            have e1 : (a.add (j / n * n)).add (j % n) = ⟨a.block, a.off + j, none⟩ := by
              have hd := Nat.div_add_mod j n
              have hd2 : j / n * n + j % n = j := by rw [Nat.mul_comm]; exact hd
              cases a
              simp only at hsp
              subst hsp
              have ad : ∀ (b o i : Nat), Addr.add ⟨b, o, none⟩ i = ⟨b, o + i, none⟩ := fun b o i => by
                unfold Addr.add
                split
                · rename_i h0; subst h0; rfl
                · rfl
              rw [ad, ad, Nat.add_assoc, hd2]
            rw [← e1]; exact hcu
          · simp at hcl
    obtain ⟨zs, hzs⟩ : ∃ zs : Nat → Int, ∀ j, j < len * n → w.cell? ⟨a.block, a.off + j, none⟩ = some (.int k (zs j)) ∧ (Lit.int k (zs j)).wf = true :=
      ⟨fun j => if h : j < len * n then Classical.choose (cell j h) else 0, fun j hj => by
        have := Classical.choose_spec (cell j hj)
        simp only [dif_pos hj]
        exact this⟩
    refine ⟨zs, len, ?_, fun j hj => (hzs j hj).2⟩
    rw [hcs]
    obtain ⟨b, o, sp'⟩ := a
    simp only at hsp
    subst hsp
    exact .slcT (o := o) (fun j => .int k (zs j)) (fun j hj => (hzs j hj).1) (fun j hj => rfl) (fun j hj => .int _ _) hl (fun h => by cases h) (.inr rfl)

end Go.Eng
end
