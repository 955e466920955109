/- The engine: tables of calls that are known beforehand. -/
import Derived.Test.YtoomemfhcbajoaaV2EngYx2
import Derived.ProofKit
import Derived.Maps.RangeRun
section
namespace Go.Eng
set_option linter.unusedVariables false
set_option linter.unusedSimpArgs false

/-! ### Values without handles -/
def noR (f : AV → Bool) (r : Row) : Bool :=
  match r with
  | .I .. => true
  | .G l => l.all f
  | .F .. => true
  | .M l => arrs l
def noH : Nat → AV → Bool
  | 0, _ => false
  | n + 1, v => match v with
    | .undef | .bool _ | .int _ _ | .str _ | .nilp | .nils | .nilm | .nilf => true
    | .ptrT none _ _ => true
    | .slcT none _ _ _ _ => true
    | .agg r => noR (noH n) r
    | .tup l => l.all (noH n)
    | .fn _ a b => a.all (noH n) && b.all (noH n)
    | _ => false
theorem all_getD {f : AV → Bool} : ∀ {l : List AV} {j : Nat}, l.all f = true → j < l.length → f (l.getD j .undef) = true
  | [], j, _, h => by simp at h
  | x :: l, 0, h, _ => by simp at h; simpa using h.1
  | x :: l, j + 1, h, hj => by
    simp only [List.all_cons, Bool.and_eq_true] at h
    rw [List.getD_cons_succ]
    exact all_getD h.2 (by simpa using hj)
theorem noH_any {p : Pst} {M N : Mu} : ∀ (n : Nat) {v : AV} {c : Value}, noH n v = true → VRel p M v c → VRel p N v c
  | 0, v, c, h, _ => by simp [noH] at h
  | n + 1, v, c, h, hv => by
    have ih := @noH_any p M N n
    cases hv with
    | undef c => exact .undef c
    | bool b => exact .bool b
    | int k n => exact .int k n
    | str s => exact .str s
    | nilp => exact .nilp
    | nils => exact .nils
    | nilm => exact .nilm
    | nilf => exact .nilf
    | ptr h0 => simp [noH] at h
    | slc h0 => simp [noH] at h
    | map h0 => simp [noH] at h
    | yld h0 => simp [noH] at h
    | ptrT vs h0 h1 hv =>
      rename_i s r off b o
      cases s with
      | some s => simp [noH] at h
      | none => exact .ptrT vs h0 h1 hv
    | slcT vs h0 h1 hv hl hf hx =>
      rename_i s r sz len b o x cc full
      cases s with
      | some s => simp [noH] at h
      | none => exact .slcT vs h0 h1 hv hl hf hx
    | slcN => exact .slcN
    | fn ha hb va vb =>
      simp only [noH, Bool.and_eq_true] at h
      exact .fn ha hb (fun j hj => ih (all_getD h.1 hj) (va j hj)) (fun j hj => ih (all_getD h.2 hj) (vb j hj))
    | agg hs h1 hv =>
      rename_i r cs
      simp only [noH] at h
      cases r with
      | I k l => exact .agg hs h1 (fun j hj => (hv j hj).anyInt _ _)
      | F f m => exact .agg hs h1 hv
      | M l => exact .agg hs h1 (RRel.arrs h hv)
      | G l => exact .agg hs h1 (fun j hj => ih (all_getD (f := noH n) h hj) (hv j hj))
    | tup hs hv =>
      simp only [noH] at h
      exact .tup hs (fun j hj => ih (all_getD h hj) (hv j hj))

/-! ### One call that is known beforehand -/
structure Ora where
  f : FuncId
  args : List AV
  v : AV
def OneOk (P : Program) (e : Ora) : Prop := ∀ (H : Heap), H ≠ [] → ∀ (p : Pst) (M : Mu) (w : World) (cargs : Array Value), HRel p M H w → CRel p M e.args cargs →
  (∃ fn, P.funcs[e.f]? = some fn ∧ fn.body.isNone = false) ∧ CallsIn Fence.wide 0 P e.f cargs w (Post p M H w e.v H)

theorem one_of_call {P : Program} {call : CallT} (hC : CallOk P call) {e : Ora} {H' : Heap} (h : call (.fn e.f) e.args [⟨true, []⟩] = some (e.v, H')) (hn : e.args.all (noH 9) = true) : OneOk P e := by
  intro H hne p M w cargs hH hA
  have hH0 : HRel p Mu.no [⟨true, []⟩] w := ⟨hH.pers, (fun d i v B hg hB => by
    cases d <;> simp [hGet, nthBlk] at hg <;> exact absurd hg.2.symm hB), (fun d i v B d' i' v' B' b o t o' t' hg hB hg' hB' hm hm' => by cases hm), (fun d i v t hm => by cases hm)⟩
  have hA0 : CRel p Mu.no e.args cargs := ⟨hA.1, fun j hj => noH_any 9 (all_getD hn hj) (hA.2 j hj)⟩
  obtain ⟨h1, h2⟩ := hC (.fn e.f) e.args _ e.v H' h (by simp) p Mu.no w cargs hH0 hA0
  refine ⟨h1, h2.mono ?_⟩
  rintro en w' ⟨cv, rfl, st, p', M', hE, hv⟩
  have hM : Mu.le M' M := fun d i v t hm => by
    have h3 := (hE.rel.dom d i v t hm).1
    have h4 : hLock [⟨true, []⟩] d = true := by cases d <;> rfl
    rw [st.next d h4] at h3
    cases d <;> simp [hNextAt] at h3
  have all : ∀ b, Go.Eng.keep Mu.no [⟨true, []⟩] b := fun b d i u B _ _ _ o t hm => by cases hm
  have no : ∀ {b : Nat}, ¬ (hLock [⟨true, []⟩] 0 = false ∧ ∃ i u o' t', Mu.no 0 i u = some (b, o', t')) := fun h => by have := h.1; cases this
  refine ⟨cv, rfl, Still.refl H, p', M, { Evo.refl hH with pst := hE.pst, rel := ⟨hE.rel.pers, ?_, hH.apart, hH.dom⟩, stay := hE.stay.weaken (fun b _ _ => all b), fresh := fun b o v hv => (hE.fresh b o v hv).imp_right fun h => h.elim .inl fun h => (no h).elim }, hv.mono (Pst.le.refl _) hM⟩
  intro d i u B hg hB
  obtain ⟨b, o, t, k1, k2, k3⟩ := hH.live d i u B hg hB
  have hlt := k2.lt hB
  refine ⟨b, o, t, k1, k2.mono hE.pst (Mu.le.refl _) (hE.stay.block b hlt (all b)), fun x => ?_⟩
  cases hx : p' b x with
  | none => rfl
  | some y =>
    rcases hE.fresh b x y hx with h | h | ⟨h, _⟩
    · rw [k3] at h; cases h
    · omega
    · cases h

/-! ### Equality of values, as it is evaluated -/
noncomputable def eqR (f : AV → AV → Bool) (r s : Row) : Bool :=
  match r, s with
  | .I k l, .I k' l' => kindX k k' && listEqI l l'
  | .G l, .G l' => listEqV f l l'
  | _, _ => false
where
  listEqI : List Int → List Int → Bool
    | [], [] => true
    | x :: a, y :: b => eqX x y && listEqI a b
    | _, _ => false
  listEqV (f : AV → AV → Bool) : List AV → List AV → Bool
    | [], [] => true
    | x :: a, y :: b => f x y && listEqV f a b
    | _, _ => false
def eqOp : Option Nat → Option Nat → Bool
  | none, none => true
  | some a, some b => Nat.beq a b
  | _, _ => false
noncomputable def eqA : Nat → AV → AV → Bool
  | 0, _, _ => false
  | n + 1, v, u => match v, u with
    | .bool a, .bool b => a == b
    | .int k a, .int k' b => kindX k k' && eqX a b
    | .nilp, .nilp => true
    | .nils, .nils => true
    | .nilm, .nilm => true
    | .ptrT s r o, .ptrT s' r' o' => eqOp s s' && (eqR (eqA n) r r' && Nat.beq o o')
    | .slcT s r z l b, .slcT s' r' z' l' b' => eqOp s s' && (eqR (eqA n) r r' && (Nat.beq z z' && (Nat.beq l l' && b == b')))
    | .agg r, .agg r' => eqR (eqA n) r r'
    | _, _ => false
theorem listEqI_eq : ∀ (l m : List Int), eqR.listEqI l m = true → l = m
  | [], [], _ => rfl
  | [], _ :: _, h => by simp [eqR.listEqI] at h
  | _ :: _, [], h => by simp [eqR.listEqI] at h
  | x :: a, y :: b, h => by
    simp only [eqR.listEqI, Bool.and_eq_true, eqX_eq, beq_iff_eq] at h
    rw [h.1, listEqI_eq a b h.2]
theorem listEqV_eq {f : AV → AV → Bool} (hf : ∀ x y, f x y = true → x = y) : ∀ (l m : List AV), eqR.listEqV f l m = true → l = m
  | [], [], _ => rfl
  | [], _ :: _, h => by simp [eqR.listEqV] at h
  | _ :: _, [], h => by simp [eqR.listEqV] at h
  | x :: a, y :: b, h => by
    simp only [eqR.listEqV, Bool.and_eq_true] at h
    rw [hf _ _ h.1, listEqV_eq hf a b h.2]
theorem eqR_eq {f : AV → AV → Bool} (hf : ∀ x y, f x y = true → x = y) (r s : Row) (h : eqR f r s = true) : r = s := by
  cases r <;> cases s <;> simp only [eqR, Bool.and_eq_true, kindX_eq, decide_eq_true_eq] at h <;> try (simp at h; done)
  · rw [h.1, listEqI_eq _ _ h.2]
  · rw [listEqV_eq hf _ _ h]
theorem eqOp_eq (a b : Option Nat) (h : eqOp a b = true) : a = b := by
  cases a <;> cases b <;> simp [eqOp] at h ⊢; exact h
theorem eqA_eq : ∀ (n : Nat) (x y : AV), eqA n x y = true → x = y
  | 0, x, y, h => by simp [eqA] at h
  | n + 1, x, y, h => by
    have ih := eqA_eq n
    cases x <;> cases y <;> simp only [eqA, Bool.and_eq_true, kindX_eq, eqX_eq, decide_eq_true_eq, beq_iff_eq] at h <;> try (first | rfl | (simp at h; done))
    case bool.bool => rw [h]
    case int.int => rw [h.1, h.2]
    case ptrT.ptrT => rw [eqOp_eq _ _ h.1, eqR_eq ih _ _ h.2.1, Nat.eq_of_beq_eq_true h.2.2]
    case slcT.slcT => rw [eqOp_eq _ _ h.1, eqR_eq ih _ _ h.2.1, Nat.eq_of_beq_eq_true h.2.2.1, Nat.eq_of_beq_eq_true h.2.2.2.1, h.2.2.2.2]
    case agg.agg => rw [eqR_eq ih _ _ h]

noncomputable def oraT : List Ora → CallT → FuncId → List AV → Heap → Option (AV × Heap)
  | [], _, _, _, _ => none
  | e :: r, c, f, args, H => if Nat.beq e.f f && eqR.listEqV (eqA 9) e.args args then some (e.v, H) else oraT r c f args H
theorem oraT_ok {P : Program} : ∀ (tab : List Ora), (∀ e ∈ tab, OneOk P e) → OraOk P (oraT tab)
  | [], _ => fun call _ f args H v H' h => by simp [oraT] at h
  | e :: r, hT => fun call hC f args H v H' h => by
    simp only [oraT] at h
    split at h
    · rename_i hc
      simp only [Bool.and_eq_true] at hc
      have e1 := Nat.eq_of_beq_eq_true hc.1
      have e2 := listEqV_eq (eqA_eq 9) _ _ hc.2
      have e3 := Option.some.inj h
      simp only [Prod.mk.injEq] at e3
      obtain ⟨e3, e4⟩ := e3
      subst e1; subst e2; subst e3; subst e4
      exact hT e (by simp) H
    · exact oraT_ok r (fun e' he => hT e' (List.mem_cons_of_mem _ he)) call hC f args H v H' h

/-- One entry more, out of an evaluation. -/
theorem one_of {P : Program} (hN : Named P) (hm : P.follows .mixedOrders = true) {tab : List Ora} (hT : ∀ e ∈ tab, OneOk P e) (KT : FuncId → Nat → Nat) (fu n : Nat) {e : Ora} {H' : Heap}
    (h : callNX P (oraT tab) KT fu n (.fn e.f) e.args [⟨true, []⟩] = some (e.v, H')) (hn : e.args.all (noH 9) = true) : OneOk P e := by
  rw [callNX_eq] at h
  exact one_of_call (callN_rel hN (drawOk hN hm) (oraT_ok tab hT) KT fu n) h hn

/-- A closed call that answers a boolean. -/
theorem bool_of {P : Program} (hN : Named P) (hm : P.follows .mixedOrders = true) {tab : List Ora} (hT : ∀ e ∈ tab, OneOk P e) (KT : FuncId → Nat → Nat) (fu n : Nat) {f : FuncId} {x : Bool} {H' : Heap}
    (h : callNX P (oraT tab) KT fu n (.fn f) [] [⟨true, []⟩] = some (.bool x, H')) (w : World) :
    Calls P f #[] w (fun e w' => e = .returned (.bool x) ∧ Go.RowKit.Below w.heap.size w w') := by
  rw [callNX_eq] at h
  exact calls_bool (callN_rel hN (drawOk hN hm) (oraT_ok tab hT) KT fu n) h w

end Go.Eng
end
section
namespace Go.Eng
open Go.ChangeShapes Go.RowKit
set_option linter.unusedVariables false

theorem post_of_below {H : Type} {enc : TypeId × Value → H} {P : Program} {f : Func} {s : ChangeSpec} {apart fresh handsOn again : Bool} {W W' : World} {args : Array Value} {v : Value} {ds gs : List (DataW H)} {before pa pv : List MemPlace}
    (hW : DataW.Whole enc P f.params.toList s.vars apart W args.toList ds gs before) (hb : Below W.heap.size W W')
    (hres : ∀ (b : Nat) (sp : Nat → Bool) (hd : Bool), DataW.TrodAll enc P W' b sp hd f.resultTypes.toList (v.resultList f.resultTypes.size) (s.fn H (ds ++ gs)).results [])
    (hargs : ∀ sp : Nat → Bool, (∀ p ∈ before, sp p.block = true) → DataW.TrodAll enc P W' 0 sp true f.params.toList args.toList (s.fn H (ds ++ gs)).args pa)
    (hvars : ∀ sp : Nat → Bool, (∀ p ∈ before, sp p.block = true) → DataW.TrodVars enc P W' sp s.vars (s.fn H (ds ++ gs)).vars pv) (hps : before = pa ++ pv)
    (hok : ∀ (j : Nat) (t : TypeId) (r : Value), f.resultTypes[j]? = some t → (v.resultList f.resultTypes.size)[j]? = some r → Value.okWide P W' .any 0 t r) :
    s.post enc P f apart fresh handsOn again W args v W' := by
  have old : ∀ p ∈ before, p.block < W.heap.size := fun p hp => hW.lt p hp
  have hz := hW
  obtain ⟨_, _, _, _, _, hz, hn⟩ := hz
  refine ⟨ds, gs, before, [], pa, pv, hW, hres _ _ _, hargs _ (fun p hp => by simpa using old p hp), hvars _ (fun p hp => by simpa using old p hp), hb.frame _, fun _ => ⟨hok, _, _, [] ++ pa ++ pv, ⟨[] ++ pa, pv, trodAll_append (hargs _ (fun _ _ => rfl)) (hres _ _ _), hvars _ (fun _ _ => rfl), rfl, ?_, ?_⟩, ?_⟩⟩
  · intro b off hp
    have hp' : MemPlace.cell b off ∈ before := by rw [hps]; simpa using hp
    rw [hb.frozen (old _ hp')]
    exact hz b off hp'
  · intro ha
    have := hn ha
    rw [hps] at this
    simpa using this
  · intro p hp _
    rw [hps]
    simpa using hp

end Go.Eng
end
section
namespace Go.Eng
set_option linter.unusedVariables false
set_option linter.unusedSimpArgs false

/-- A block of the model's own is laid; its handle's number is that of a dead block. -/
theorem Evo.name {p : Pst} {M : Mu} {H : Heap} {w : World} (h : HRel p M H w) {k : Nat} (hk0 : (hGet H 0 k).2 = .dead) (hk : k < hNextAt H 0) (hm0 : ∀ v, M 0 k v = none) (hl0 : hLock H 0 = false) (x : Obj) : Evo p M H w p (muSet M 0 k 0 (w.heap.size, 0, 0)) H (w.alloc x) := by
  have hle : Mu.le M (muSet M 0 k 0 (w.heap.size, 0, 0)) := muSet_le fun u hu => by rw [hm0] at hu; cases hu
  have hs := stay_alloc w x
  have h' := h.stay hs
  have mu : ∀ d i v t, muSet M 0 k 0 (w.heap.size, 0, 0) d i v = some t → (d = 0 ∧ i = k ∧ v = 0 ∧ t = (w.heap.size, 0, 0)) ∨ M d i v = some t := fun d i v t hm => by
    simp only [muSet] at hm
    split at hm
    · rename_i e; exact .inl ⟨e.1, e.2.1, e.2.2, (Option.some.inj hm).symm⟩
    · exact .inr hm
  have dead : ∀ {d i v B}, hGet H d i = (v, B) → B ≠ .dead → ¬ (d = 0 ∧ i = k) := fun {d i v B} hg hB e => by
    rw [e.1, e.2] at hg
    rw [hg] at hk0
    exact hB hk0
  refine { Evo.refl h with mu := hle, rel := ⟨h'.pers, ?_, ?_, ?_⟩, stay := hs.weaken (fun _ _ _ => trivial), keep := ?_, own := ?_, new := ?_ }
  · intro d i v B hg hB
    obtain ⟨b, o, t, k1, k2, k3⟩ := h'.live d i v B hg hB
    exact ⟨b, o, t, hle _ _ _ _ k1, k2.mono (Pst.le.refl _) (hle.up d) rfl, k3⟩
  · intro d i v B d' i' v' B' b o t o' t' hg hB hg' hB' hm hm'
    rcases mu _ _ _ _ hm with ⟨e1, e2, _⟩ | hm
    · exact absurd ⟨e1, e2⟩ (dead hg hB)
    · rcases mu _ _ _ _ hm' with ⟨e1, e2, _⟩ | hm'
      · exact absurd ⟨e1, e2⟩ (dead hg' hB')
      · exact h.apart d i v B d' i' v' B' b o t o' t' hg hB hg' hB' hm hm'
  · intro d i v t hm
    rcases mu _ _ _ _ hm with ⟨e1, e2, e3, _⟩ | hm
    · rw [e1, e2, e3]; exact ⟨hk, fun _ => Nat.zero_le _⟩
    · exact h.dom d i v t hm
  · intro b hb hkk d i v B hg hB hl o t hm
    rcases mu _ _ _ _ hm with ⟨e1, e2, _⟩ | hm
    · exact dead hg hB ⟨e1, e2⟩
    · exact hkk d i v B hg hB hl o t hm
  · intro d i v b o t hm
    rcases mu _ _ _ _ hm with ⟨_, _, _, e4⟩ | hm
    · simp only [Prod.mk.injEq] at e4; exact .inl (by omega)
    · exact .inr ⟨_, _, _, _, _, Nat.le_refl _, hm⟩
  · intro d i v t hm
    rcases mu _ _ _ _ hm with ⟨e1, _, _, _⟩ | hm
    · exact .inr (.inr (by rw [e1]; exact hl0))
    · exact .inl hm

/-- An iterator is none of the blocks that are known. -/
theorem iter_not {p : Pst} {M : Mu} {H : Heap} {w : World} (h : HRel p M H w) {r : Nat} {m : Option Nat} {s c : Nat} {seen : Array Nat} (hr : w.heap[r]? = some (.mapIter m s seen c)) {d i v : Nat} {B : Blk} (hg : hGet H d i = (v, B)) (hB : B ≠ .dead) (o t : Nat) : M d i v ≠ some (r, o, t) := by
  intro hm
  obtain ⟨b, o', t', k1, k2, _⟩ := h.live d i v B hg hB
  rw [hm] at k1
  simp only [Option.some.injEq, Prod.mk.injEq] at k1
  obtain ⟨rfl, _, _⟩ := k1
  cases B with
  | dead => exact hB rfl
  | row q => obtain ⟨_, _, e, _⟩ := k2; rw [hr] at e; simp at e
  | map es => obtain ⟨_, _, e, _⟩ := k2; rw [hr] at e; simp at e
  | fmap kq f g c => obtain ⟨_, _, _, _, e, _⟩ := k2; rw [hr] at e; simp at e
  | loop l => obtain ⟨_, e, _⟩ := k2; rw [hr] at e; simp at e

/-- An iterator that was laid since goes on. -/
theorem Evo.poke {p p' : Pst} {M M' : Mu} {H H' : Heap} {w w' : World} (h : Evo p M H w p' M' H' w') {r : Nat} {m : Option Nat} {s c : Nat} {seen : Array Nat} (hr : w'.heap[r]? = some (.mapIter m s seen c)) (hn : w.heap.size ≤ r) (x : Obj) :
    Evo p M H w p' M' H' (Go.ChangeMaps.setBlock w' r x) := by
  have blk : ∀ b, b ≠ r → (Go.ChangeMaps.setBlock w' r x).heap[b]? = w'.heap[b]? := fun b hb => by simp [Go.ChangeMaps.setBlock, Array.getElem?_setIfInBounds_ne (Ne.symm hb)]
  refine { h with rel := ⟨?_, ?_, h.rel.apart, h.rel.dom⟩, stay := ⟨h.stay.os, h.stay.tape, h.stay.output, by simp [Go.ChangeMaps.setBlock]; exact h.stay.size, fun b hb hk => ?_⟩ }
  · intro b o v hp
    have hc := h.rel.pers b o v hp
    have hbr : b ≠ r := by
      rintro rfl
      simp [World.cell?, hr] at hc
    rw [← hc]
    exact World.cell?_of_block (w := w') (blk b hbr)
  · intro d i v B hg hB
    obtain ⟨b, o, t, k1, k2, k3⟩ := h.rel.live d i v B hg hB
    have hbr : b ≠ r := by
      rintro rfl
      exact iter_not h.rel hr hg hB o t k1
    exact ⟨b, o, t, k1, k2.mono (Pst.le.refl _) (Mu.le.refl _) (blk b hbr), k3⟩
  · rw [blk b (by omega)]; exact h.stay.block b hb hk

theorem Evo.drew {p p' : Pst} {M M' : Mu} {H H' : Heap} {w w' : World} (h : Evo p M H w p' M' H' w') : Evo p M H w p' M' H' w'.drew := by
  have hs : Stay (fun _ => True) w' w'.drew := ⟨rfl, rfl, rfl, Nat.le_refl _, fun _ _ _ => rfl⟩
  exact { h with rel := h.rel.stay hs, stay := h.stay.trans hs (fun _ _ _ => trivial) }

end Go.Eng
end
section
namespace Go.Eng
set_option linter.unusedVariables false
set_option linter.unusedSimpArgs false
open Go.ChangeMaps (setBlock)

theorem op_val {P : Program} {F : Fence} (hFW : Wide F) {o : Oper} (hd : ∀ c, o.op ≠ .defer c) {a : Act} {w w' : World} {cv : Value} (h : (execOp a.eval o).run P w = .ok (.value cv) w') {n : Nat} {next : Act → World → Prop} {Q : Exit → Act → World → Prop} (hn : next (a.put o.dst cv) w') : o.wpIn F n P a w next Q := by
  refine ⟨about_fn hFW P o w a, ?_⟩
  rw [Oper.semAt_eq _ _ _ hd, h]
  exact hn

theorem Marks.poke {n0 : Nat} {M : Mu} {H : Heap} {w : World} {ds : List Deferred} (h : Marks n0 M H w ds) {r : Nat} {m : Option Nat} {s c : Nat} {seen : Array Nat} (hr : w.heap[r]? = some (.mapIter m s seen c)) (x : Obj) : Marks n0 M H (setBlock w r x) ds := by
  obtain ⟨rs, h1, h2, h0, h3⟩ := h
  refine ⟨rs, h1, h2, by simpa [setBlock] using h0, fun q hq => ?_⟩
  obtain ⟨k1, k2, k3⟩ := h3 q hq
  have hne : q ≠ r := by rintro rfl; rw [hr] at k1; simp at k1
  exact ⟨by simp [setBlock, Array.getElem?_setIfInBounds_ne (Ne.symm hne)]; exact k1, k2, k3⟩
theorem Marks.drew {n0 : Nat} {M : Mu} {H : Heap} {w : World} {ds : List Deferred} (h : Marks n0 M H w ds) : Marks n0 M H w.drew ds := h

/-- The parts of a loop over a map. -/
structure RLoop where
  out : Nat
  id1 : Nat
  id2 : Nat
  nxt : Nat
  ops1 : Array Oper
  ops2 : Array Oper
  no : Oper
  eo : Oper
  t1 : List Oper
  t2 : List Oper
  it : Tmp
  nx : Tmp
  mo : Tmp
  en : Tmp
  rest : Code
  km : Nat
def RLoop.code (L : RLoop) : Code := .block L.out (.loop (.seq (.region L.id1 L.ops1 false) (.seq (.cond (.tmp L.mo) .skip (.exit L.out)) (.block L.nxt (.seq (.region L.id2 L.ops2 false) L.rest)))))
structure RLoop.Ok (L : RLoop) : Prop where
  l1 : L.ops1.toList = L.no :: L.t1
  o1 : L.no.op = .next (.tmp L.it) false
  d1 : L.no.dst = some L.nx
  g1 : L.no.guard = none
  l2 : L.ops2.toList = L.eo :: L.t2
  o2 : L.eo.op = .entry (.tmp L.it)
  d2 : L.eo.dst = some L.en
  g2 : L.eo.guard = none

def isPtr0 (k : Nat) (v : AV) : Bool :=
  match v with
  | .ptr 0 i 0 0 => Nat.beq i k
  | _ => false
theorem isPtr0_eq {k : Nat} {v : AV} (h : isPtr0 k v = true) : v = .ptr 0 k 0 0 := by
  unfold isPtr0 at h
  split at h
  · rw [Nat.eq_of_beq_eq_true h]
  · cases h
def isB (b : Bool) (v : AV) : Bool :=
  match v with
  | .bool c => c == b
  | _ => false
theorem isB_eq {b : Bool} {v : AV} (h : isB b v = true) : v = .bool b := by
  unfold isB at h
  split at h
  · rw [beq_iff_eq] at h; rw [h]
  · cases h

/-- One round, for one entry. -/
noncomputable def RLoop.round (L : RLoop) (cx : Cx) (k n : Nat) (kv : AV × AV) (fr : Frm) (H : Heap) : Option (Frm × Heap) :=
  match runOpsX cx.P cx.nt cx.call L.ops1 L.t1 (putO cx.nt fr (some L.nx) (.tup [.bool true, kv.1, kv.2])) H with
  | some (frA, HA) => if isB true (fGet frA L.mo) && isPtr0 k (fGet frA L.it) then
      match runOpsX cx.P cx.nt cx.call L.ops2 L.t2 (putO cx.nt frA (some L.en) (.tup [kv.1, kv.2])) HA with
      | some (frB, HB) => match execX cx L.rest frB HB with
        | some (.normal, frC, HC) => if isPtr0 k (fGet (fKill frC L.km) L.it) then some (fKill frC L.km, cutTo n (fKill frC L.km) HC) else none
        | _ => none
      | none => none
    else none
  | none => none
/-- The last look. -/
noncomputable def RLoop.last (L : RLoop) (cx : Cx) (fr : Frm) (H : Heap) : Option (Frm × Heap) :=
  match runOpsX cx.P cx.nt cx.call L.ops1 L.t1 (putO cx.nt fr (some L.nx) (.tup [.bool false])) H with
  | some (frE, HE) => if isB false (fGet frE L.mo) then some (frE, HE) else none
  | none => none

def seenOf (r : Nat) (w : World) : Array Nat :=
  match w.heap[r]? with
  | some (.mapIter _ _ s _) => s
  | _ => #[]

theorem left_push {ces : Array MapEntry} {seen : Array Nat} {e : MapEntry} (he : e ∈ (leftOf ces seen).toList) : (leftOf ces (seen.push e.born)).size < (leftOf ces seen).size := by
  unfold leftOf at he ⊢
  rw [Array.toList_filter] at he
  have sz : ∀ f : MapEntry → Bool, (ces.filter f).size = (ces.toList.filter f).length := fun f => by rw [← Array.toList_filter, Array.length_toList]
  rw [sz, sz]
  have mono : ∀ x : MapEntry, seen.contains x.born = true → (seen.push e.born).contains x.born = true := fun x h => by
    rw [Array.contains_push, h]; simp
  have self : (seen.push e.born).contains e.born = true := by rw [Array.contains_push]; simp
  have hle : ∀ (l : List MapEntry), (l.filter fun x => !(seen.push e.born).contains x.born).length ≤ (l.filter fun x => !seen.contains x.born).length := by
    intro l
    induction l with
    | nil => exact Nat.le_refl _
    | cons x l ih =>
      rw [List.filter_cons, List.filter_cons]
      cases h1 : seen.contains x.born with
      | true =>
        rw [mono x h1]
        simp only [Bool.not_true, Bool.false_eq_true, if_false]
        exact ih
      | false =>
        cases h2 : (seen.push e.born).contains x.born with
        | true => simp only [Bool.not_true, Bool.false_eq_true, if_false, Bool.not_false, if_true, List.length_cons]; exact Nat.le_succ_of_le ih
        | false => simp only [Bool.not_false, if_true, List.length_cons]; exact Nat.succ_le_succ ih
  have hlt : ∀ (l : List MapEntry), e ∈ (l.filter fun x => !seen.contains x.born) → (l.filter fun x => !(seen.push e.born).contains x.born).length < (l.filter fun x => !seen.contains x.born).length := by
    intro l
    induction l with
    | nil => intro h; cases h
    | cons x l ih =>
      intro h
      rw [List.filter_cons] at h
      rw [List.filter_cons, List.filter_cons]
      cases h1 : seen.contains x.born with
      | true =>
        rw [h1] at h
        simp only [Bool.not_true, Bool.false_eq_true, if_false] at h
        rw [mono x h1]
        simp only [Bool.not_true, Bool.false_eq_true, if_false]
        exact ih h
      | false =>
        rw [h1] at h
        simp only [Bool.not_false, if_true] at h
        cases h2 : (seen.push e.born).contains x.born with
        | true =>
          simp only [Bool.not_true, Bool.false_eq_true, if_false, Bool.not_false, if_true, List.length_cons]
          exact Nat.lt_succ_of_le (hle l)
        | false =>
          simp only [Bool.not_false, if_true, List.length_cons]
          rcases List.mem_cons.1 h with h | h
          · rw [← h, self] at h2; cases h2
          · exact Nat.succ_lt_succ (ih h)
  exact hlt _ he

theorem loop_rel {cx : Cx} {F : Fence} (hFW : Wide F) (hN : Named cx.P) (hC : CallOk cx.P cx.call) (hX : CodeMore cx F) {L : RLoop} (hL : L.Ok) (hit : L.it < cx.nt)
    {k n j0 : Nat} {es : List (AV × AV)} {X S : Frm → Lvl → Prop} {R : Heap} {fr' : Frm} {H' : Heap} (hlk : ∀ d, hLock R d = true)
    (hXk : ∀ fr l, X fr l → fGet fr L.it = .ptr 0 k 0 0) (hXr : ∀ fr l, X fr l → ∀ j, j < es.length → ∃ fr1 l1 R1, L.round cx k n (es.getD j (.undef, .undef)) fr (l :: R) = some (fr1, l1 :: R1) ∧ X fr1 l1 ∧ (j = j0 → S fr1 l1))
    (hSr : ∀ fr l, S fr l → ∀ j, j < es.length → ∀ fr1 l1 R1, L.round cx k n (es.getD j (.undef, .undef)) fr (l :: R) = some (fr1, l1 :: R1) → S fr1 l1)
    (hend : ∀ fr l, X fr l → (0 < es.length → S fr l) → L.last cx fr (l :: R) = some (fr', H')) (hj0 : 0 < es.length → j0 < es.length)
    -- the base
    {p0 : Pst} {M0 : Mu} {lb : Lvl} {Hb : Heap} {w0 : World} (hHb : Hb = lb :: R) (hH0 : HRel p0 M0 Hb w0) (hn : hNext Hb = n) (hne : Hb ≠ []) (hRo : RoOk F cx.ro M0) {n0 b clock : Nat} {ces : Array MapEntry} (hkb : Go.Eng.keep M0 Hb b) (hb0 : w0.heap[b]? = some (.map ces clock)) (hborn : Born ces clock) (hsz : ces.size = es.length)
    (hrel : ∀ j, (h : j < ces.size) → VRel p0 M0 (es.getD j (.undef, .undef)).1 ces[j].key ∧ VRel p0 M0 (es.getD j (.undef, .undef)).2 ces[j].val)
    -- where it begins
    {r : Nat} (hr0 : w0.heap.size ≤ r) {p : Pst} {M : Mu} {fr : Frm} {l0 : Lvl} {a : Act} {w : World} (hE : Evo p0 M0 Hb w0 p M (l0 :: R) w) (hF : FRel p M cx.nt fr a) (hM : Marks n0 M (l0 :: R) w a.defers) (hx : X fr l0) (hr : w.heap[r]? = some (.mapIter (some b) clock #[] clock))
    (ha : a.tmps.getD L.it Go.undef = .pointer (some ⟨r, 0, none⟩)) {Q : Exit → Act → World → Prop} (hQ : ∀ a' w', Now n0 p0 M0 Hb w0 cx.nt fr' H' a' w' → Q .normal a' w') : L.code.wpIn F 0 cx.P Q a w := by
  have hbl : b < w0.heap.size := (Array.getElem?_eq_some_iff.1 hb0).1
  have hnod : (ces.toList.map (·.born)).Nodup := by
    refine List.pairwise_iff_getElem.2 fun i i' hi hi' hlt e => ?_
    simp only [List.length_map, Array.length_toList] at hi hi'
    have := hborn.2 i i' hi hi' (by simpa using e)
    omega
  -- of the iterator's slot
  have slot : ∀ {p : Pst} {M : Mu} {fr : Frm} {a : Act}, FRel p M cx.nt fr a → fGet fr L.it = .ptr 0 k 0 0 → a.tmps.getD L.it Go.undef = .pointer (some ⟨r, 0, none⟩) → ∃ t, M 0 k 0 = some (r, 0, t) := by
    intro p M fr a hF hk he
    have := hF.at_ L.it
    rw [hk, he] at this
    generalize hz : (Value.pointer (some ⟨r, 0, none⟩)) = z at this
    cases this
    rename_i b' o' t' hm
    simp only [Value.pointer.injEq, Option.some.injEq, Addr.mk.injEq] at hz
    obtain ⟨rfl, hz, _⟩ := hz
    obtain rfl : o' = 0 := by omega
    exact ⟨t', hm⟩
  have slot' : ∀ {p : Pst} {M : Mu} {fr : Frm} {a : Act} {t : Nat}, FRel p M cx.nt fr a → fGet fr L.it = .ptr 0 k 0 0 → M 0 k 0 = some (r, 0, t) → a.tmps.getD L.it Go.undef = .pointer (some ⟨r, 0, none⟩) := by
    intro p M fr a t hF hk hm
    have := hF.at_ L.it
    rw [hk] at this
    generalize a.tmps.getD L.it Go.undef = z at this
    cases this
    rename_i b' o' t' hm'
    rw [hm] at hm'
    simp only [Option.some.injEq, Prod.mk.injEq] at hm'
    obtain ⟨rfl, rfl, _⟩ := hm'
    rfl
  refine wpIn_block (wpIn_loop (fun a w => ∃ p M fr l seen, Evo p0 M0 Hb w0 p M (l :: R) w ∧ FRel p M cx.nt fr a ∧ Marks n0 M (l :: R) w a.defers ∧ X fr l ∧ w.heap[r]? = some (.mapIter (some b) clock seen clock) ∧
    a.tmps.getD L.it Go.undef = .pointer (some ⟨r, 0, none⟩) ∧ (∀ h : j0 < ces.size, seen.contains (ces[j0]).born = true → S fr l)) (fun _ w => (leftOf ces (seenOf r w)).size) ⟨p, M, fr, l0, #[], hE, hF, hM, hx, hr, ha, fun h hc => by simp at hc⟩ ?_)
  rintro a w ⟨p, M, fr, l, seen, hE, hF, hM, hx, hr, ha, hs⟩
  obtain ⟨H, hHl⟩ : ∃ H, H = l :: R := ⟨_, rfl⟩
  rw [← hHl] at hE hM
  have hseen : seenOf r w = seen := by unfold seenOf; rw [hr]
  have hbw : w.heap[b]? = some (.map ces clock) := by rw [hE.stay.block b hbl hkb]; exact hb0
  have hwant : ∀ (o : Oper), o.guard = none → ∀ y, Region.wanted o y = true := fun o hg y => by unfold Region.wanted; rw [hg]
  have hev : a.eval (.tmp L.it) = .pointer (some ⟨r, 0, none⟩) := ha
  refine wpIn_seq (wpIn_region_list ?_)
  rw [hL.l1]
  unfold wpListIn
  rw [if_pos (hwant _ hL.g1 _)]
  rcases run_next_at (P := cx.P) w L.no.type r b clock clock seen ces clock hr hbw (fun x hx => by
    obtain ⟨i, hi, rfl⟩ := List.getElem_of_mem hx
    have := hborn.1 i (by simpa using hi)
    simpa using this) (Nat.le_refl _) with ⟨hz, hrun⟩ | ⟨e, he, w1, hw1, hrun⟩
  · -- nothing is left
    refine op_val hFW (by rw [hL.o1]; intro c h; cases h) (cv := .tuple #[.bool false]) (w' := w) (by simp only [execOp, hL.o1, hev]; simp [Sem.run_bind, hrun, Result.andThen]) ?_
    have hS : 0 < es.length → S fr l := fun hpos => by
      have hj := hj0 hpos
      rw [← hsz] at hj
      refine hs hj (Classical.byContradiction fun hc => ?_)
      have hc' : seen.contains (ces[j0]).born = false := by simpa using hc
      have : ces[j0] ∈ leftOf ces seen := by
        unfold leftOf
        rw [Array.mem_filter]
        exact ⟨Array.getElem_mem hj, by rw [hc']; rfl⟩
      have := Array.size_pos_of_mem this
      omega
    have hl := hend fr l hx hS
    rw [← hHl] at hl
    unfold RLoop.last at hl
    rw [runOpsX_eq] at hl
    cases hro : runOps cx.P cx.nt cx.call L.ops1 L.t1 (putO cx.nt fr (some L.nx) (.tup [.bool false])) H with
    | none => rw [hro] at hl; simp at hl
    | some q =>
      obtain ⟨frE, HE⟩ := q
      rw [hro] at hl
      dsimp only at hl
      split at hl
      · rename_i hb
        simp only [Option.some.injEq, Prod.mk.injEq] at hl
        obtain ⟨rfl, rfl⟩ := hl
        have hput := hF.put (some L.nx) (v := .tup [.bool false]) (c := .tuple #[.bool false]) (.tup rfl (fun j hj => by
          obtain rfl : j = 0 := by simpa using hj
          exact .bool _))
        rw [hL.d1]
        refine runOps_rel hFW hN hC _ _ _ _ _ hro p M _ w hput hE.rel (hE.ne hne) (fun a2 w2 ⟨p2, M2, hE2, hF2, hd2⟩ => ?_)
        refine wpIn_seq ?_
        have hmo := hF2.at_ L.mo
        rw [isB_eq hb] at hmo
        have hc : a2.eval (.tmp L.mo) = .bool false := by
          show a2.tmps.getD L.mo Go.undef = _
          generalize a2.tmps.getD L.mo Go.undef = z at hmo
          cases hmo; rfl
        refine wpIn_cond_false hc (wpIn_exit ?_)
        show Exit.inBlock L.out Q (.exit L.out) a2 w2
        simp only [Exit.inBlock, if_true]
        refine hQ a2 w2 ⟨p2, M2, hE.trans hE2, hF2, ?_⟩
        rw [hd2, put_defers]
        exact hM.evo hE2
      · simp at hl
  · -- an entry comes
    have hemem : e ∈ ces.toList := by
      unfold leftOf at he
      simp at he
      simpa using he.1
    obtain ⟨j, hj, hje⟩ := List.getElem_of_mem hemem
    have hj' : j < ces.size := by simpa using hj
    have hje' : ces[j] = e := by simpa using hje
    have hjl : j < es.length := by rw [← hsz]; exact hj'
    obtain ⟨frN, lN, RN, hround, hxN, hjS⟩ := hXr fr l hx j hjl
    have hround' := hround
    rw [← hHl] at hround'
    unfold RLoop.round at hround'
    simp only [runOpsX_eq, execX_eq] at hround'
    obtain ⟨hkey, hval⟩ := hrel j hj'
    rw [hje'] at hkey hval
    have hE1 : Evo p0 M0 Hb w0 p M H w1 ∧ Marks n0 M H w1 a.defers ∧ w1.heap[r]? = some (.mapIter (some b) clock seen clock) := by
      rcases hw1 with rfl | rfl
      · exact ⟨hE, hM, hr⟩
      · exact ⟨hE.drew, hM.drew, hr⟩
    obtain ⟨hE1, hM1, hr1⟩ := hE1
    have hE2 := hE1.poke hr1 hr0 (.mapIter (some b) clock (seen.push e.born) clock)
    have hM2 := hM1.poke hr1 (.mapIter (some b) clock (seen.push e.born) clock)
    have hr2 : (setBlock w1 r (.mapIter (some b) clock (seen.push e.born) clock)).heap[r]? = some (.mapIter (some b) clock (seen.push e.born) clock) := by
      have hlt : r < w1.heap.size := (Array.getElem?_eq_some_iff.1 hr1).1
      simp [setBlock, hlt]
    generalize setBlock w1 r (.mapIter (some b) clock (seen.push e.born) clock) = w2 at hrun hE2 hM2 hr2
    refine op_val hFW (by rw [hL.o1]; intro c h; cases h) (cv := .tuple #[.bool true, e.key, e.val]) (w' := w2) (by simp only [execOp, hL.o1, hev]; simp [Sem.run_bind, hrun, Result.andThen]) ?_
    rw [hL.d1]
    have hput := hF.put (some L.nx) (v := .tup [.bool true, (es.getD j (.undef, .undef)).1, (es.getD j (.undef, .undef)).2]) (c := .tuple #[.bool true, e.key, e.val]) (.tup rfl (fun i hi => by
      match i, hi with
      | 0, _ => exact .bool _
      | 1, _ => exact hkey.mono hE2.pst hE2.mu
      | 2, _ => exact hval.mono hE2.pst hE2.mu))
    cases hro : runOps cx.P cx.nt cx.call L.ops1 L.t1 (putO cx.nt fr (some L.nx) (.tup [.bool true, (es.getD j (.undef, .undef)).1, (es.getD j (.undef, .undef)).2])) H with
    | none => rw [hro] at hround'; simp at hround'
    | some q =>
      obtain ⟨frA, HA⟩ := q
      rw [hro] at hround'
      dsimp only at hround'
      split at hround'
      · rename_i hcA
        simp only [Bool.and_eq_true] at hcA
        obtain ⟨hcA1, hcA2⟩ := hcA
        obtain ⟨t, hmk⟩ := slot hF (hXk fr l hx) ha
        refine runOps_rel hFW hN hC _ _ _ _ _ hro p M _ w2 hput hE2.rel (hE2.ne hne) (fun a3 w3 ⟨p3, M3, hE3, hF3, hd3⟩ => ?_)
        refine wpIn_seq ?_
        have hmo := hF3.at_ L.mo
        rw [isB_eq hcA1] at hmo
        have hc : a3.eval (.tmp L.mo) = .bool true := by
          show a3.tmps.getD L.mo Go.undef = _
          generalize a3.tmps.getD L.mo Go.undef = z at hmo
          cases hmo; rfl
        refine wpIn_cond_true hc (wpIn_skip ?_)
        show Code.wpIn F 0 cx.P _ _ a3 w3
        have hmk3 := hE3.mu _ _ _ _ hmk
        have ha3 := slot' hF3 (isPtr0_eq hcA2) hmk3
        have hr3 : w3.heap[r]? = some (.mapIter (some b) clock (seen.push e.born) clock) := by
          rw [hE3.stay.block r (Array.getElem?_eq_some_iff.1 hr2).1 (fun d i v B hg hB _ o t => iter_not hE2.rel hr2 hg hB o t)]; exact hr2
        have hE03 := hE2.trans hE3
        have hbw3 : w3.heap[b]? = some (.map ces clock) := by rw [hE03.stay.block b hbl hkb]; exact hb0
        have hM3 : Marks n0 M3 HA w3 a3.defers := by rw [hd3, put_defers]; exact hM2.evo hE3
        refine wpIn_block (wpIn_seq (wpIn_region_list ?_))
        rw [hL.l2]
        unfold wpListIn
        rw [if_pos (hwant _ hL.g2 _)]
        have hrunE := run_entry_at (P := cx.P) w3 r b clock seen ces clock e hr3 hbw3 hemem hnod
        have hev3 : a3.eval (.tmp L.it) = .pointer (some ⟨r, 0, none⟩) := ha3
        refine op_val hFW (by rw [hL.o2]; intro c h; cases h) (cv := .tuple #[e.key, e.val]) (w' := w3) (by simp only [execOp, hL.o2, hev3]; simp [Sem.run_bind, hrunE, Result.andThen]) ?_
        rw [hL.d2]
        have hput3 := hF3.put (some L.en) (v := .tup [(es.getD j (.undef, .undef)).1, (es.getD j (.undef, .undef)).2]) (c := .tuple #[e.key, e.val]) (.tup rfl (fun i hi => by
          match i, hi with
          | 0, _ => exact hkey.mono hE03.pst hE03.mu
          | 1, _ => exact hval.mono hE03.pst hE03.mu))
        cases hro2 : runOps cx.P cx.nt cx.call L.ops2 L.t2 (putO cx.nt frA (some L.en) (.tup [(es.getD j (.undef, .undef)).1, (es.getD j (.undef, .undef)).2])) HA with
        | none => rw [hro2] at hround'; simp at hround'
        | some q2 =>
          obtain ⟨frB, HB⟩ := q2
          rw [hro2] at hround'
          dsimp only at hround'
          refine runOps_rel hFW hN hC _ _ _ _ _ hro2 p3 M3 _ w3 hput3 hE3.rel (hE03.ne hne) (fun a4 w4 ⟨p4, M4, hE4, hF4, hd4⟩ => ?_)
          show Code.wpIn F 0 cx.P _ _ a4 w4
          have hE04 := hE03.trans hE4
          have hM4 : Marks n0 M4 HB w4 a4.defers := by rw [hd4, put_defers]; exact hM3.evo hE4
          split at hround'
          · rename_i frC HC hex
            split at hround'
            · rename_i hptC
              simp only [Option.some.injEq, Prod.mk.injEq] at hround'
              obtain ⟨rfl, hcut⟩ := hround'
              refine exec_rel hFW hN hC hX _ _ _ _ _ _ hex n0 p4 M4 a4 w4 _ hF4 hE4.rel (hE04.ne hne) (hRo.mono hE04.mu) hM4 (fun a5 w5 ⟨p5, M5, hE5, hF5, hM5⟩ => ?_)
              show Exit.inBlock L.nxt _ .normal a5 w5
              simp only [Exit.inBlock, Exit.then]
              have hE05 := hE04.trans hE5
              have hE35 := hE4.trans hE5
              have hF5' := hF5.kill L.km
              have hmk5 := hE35.mu _ _ _ _ hmk3
              have ha5 := slot' hF5' (isPtr0_eq hptC) hmk5
              have hr5 : w5.heap[r]? = some (.mapIter (some b) clock (seen.push e.born) clock) := by
                rw [hE35.stay.block r (Array.getElem?_eq_some_iff.1 hr3).1 (fun d i v B hg hB _ o t => iter_not hE3.rel hr3 hg hB o t)]; exact hr3
              obtain ⟨M6, hE6, hF6, hM6⟩ := cut_rel hE05 hF5' hM5 (fun d i v t hm => (hH0.dom d i v t hm).1)
              rw [hn, hcut] at hE6 hM6
              have hRN : RN = R := by
                have hdR : ∀ d, hLock Hb (d + 1) = true := fun d => by rw [hHb]; exact hlk d
                refine heap_ext _ _ (by have := hE6.len; rw [hHb] at this; simpa using this) (fun d i => ?_) (fun d => ?_) (fun d => ?_)
                · have := hE6.same (d + 1) i (by omega) (hdR d); rw [hHb] at this; exact this
                · have := hE6.next (d + 1) (by omega) (hdR d); rw [hHb] at this; exact this
                · have := hE6.lock (d + 1); rw [hHb] at this; exact this
              rw [hRN] at hE6 hM6
              refine ⟨⟨p5, M6, _, _, seen.push e.born, hE6, hF6, hM6, hxN, hr5, ha5, fun h hc => ?_⟩, ?_⟩
              · rw [Array.contains_push] at hc
                by_cases hold : seen.contains (ces[j0]).born = true
                · exact hSr fr l (hs h hold) j hjl _ _ _ hround
                · have hnew : (ces[j0]).born = e.born := by
                    simp only [Bool.or_eq_true, beq_iff_eq] at hc
                    rcases hc with hc | hc
                    · exact absurd hc hold
                    · first | exact hc | exact hc.symm
                  have := hborn.2 j0 j h hj' (by rw [hje']; exact hnew)
                  exact hjS this.symm
              · have hs5 : seenOf r w5 = seen.push e.born := by unfold seenOf; rw [hr5]
                rw [hs5, hseen]
                exact left_push he
            · simp at hround'
          · simp at hround'
      · simp at hround'

end Go.Eng
end
