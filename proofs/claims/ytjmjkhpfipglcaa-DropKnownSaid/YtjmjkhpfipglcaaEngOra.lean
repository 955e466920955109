/- The engine: tables of calls that are known beforehand. -/
import Derived.Test.YtjmjkhpfipglcaaEngZ
namespace Go.Eng
set_option linter.unusedVariables false
set_option linter.unusedSimpArgs false

/-! ### Values without handles -/
def noR (f : AV → Bool) (r : Row) : Bool :=
  match r with
  | .I .. => true
  | .G l => l.all f
  | .F .. => true
def noH : Nat → AV → Bool
  | 0, _ => false
  | n + 1, v => match v with
    | .undef | .bool _ | .int _ _ | .str _ | .nilp | .nils | .nilm | .nilf => true
    | .ptrT none _ _ => true
    | .slcT none _ _ _ _ => true
    | .agg r => noR (noH n) r
    | .tup l => l.all (noH n)
    | .fn _ a b => a.all (noH n) && b.all (noH n)
    | _ => false
theorem all_getD {f : AV → Bool} : ∀ {l : List AV} {j : Nat}, l.all f = true → j < l.length → f (l.getD j .undef) = true
  | [], j, _, h => by simp at h
  | x :: l, 0, h, _ => by simp at h; simpa using h.1
  | x :: l, j + 1, h, hj => by
    simp only [List.all_cons, Bool.and_eq_true] at h
    rw [List.getD_cons_succ]
    exact all_getD h.2 (by simpa using hj)
theorem noH_any {p : Pst} {M N : Mu} : ∀ (n : Nat) {v : AV} {c : Value}, noH n v = true → VRel p M v c → VRel p N v c
  | 0, v, c, h, _ => by simp [noH] at h
  | n + 1, v, c, h, hv => by
    have ih := @noH_any p M N n
    cases hv with
    | undef c => exact .undef c
    | bool b => exact .bool b
    | int k n => exact .int k n
    | str s => exact .str s
    | nilp => exact .nilp
    | nils => exact .nils
    | nilm => exact .nilm
    | nilf => exact .nilf
    | ptr h0 => simp [noH] at h
    | slc h0 => simp [noH] at h
    | map h0 => simp [noH] at h
    | yld h0 => simp [noH] at h
    | ptrT vs h0 h1 hv =>
      rename_i s r off b o
      cases s with
      | some s => simp [noH] at h
      | none => exact .ptrT vs h0 h1 hv
    | slcT vs h0 h1 hv hl hf hx =>
      rename_i s r sz len b o x cc full
      cases s with
      | some s => simp [noH] at h
      | none => exact .slcT vs h0 h1 hv hl hf hx
    | fn ha hb va vb =>
      simp only [noH, Bool.and_eq_true] at h
      exact .fn ha hb (fun j hj => ih (all_getD h.1 hj) (va j hj)) (fun j hj => ih (all_getD h.2 hj) (vb j hj))
    | agg hs h1 hv =>
      rename_i r cs
      simp only [noH] at h
      cases r with
      | I k l => exact .agg hs h1 (fun j hj => (hv j hj).anyInt _ _)
      | F f m => exact .agg hs h1 hv
      | G l => exact .agg hs h1 (fun j hj => ih (all_getD (f := noH n) h hj) (hv j hj))
    | tup hs hv =>
      simp only [noH] at h
      exact .tup hs (fun j hj => ih (all_getD h hj) (hv j hj))

/-! ### One call that is known beforehand -/
structure Ora where
  f : FuncId
  args : List AV
  v : AV
def OneOk (P : Program) (e : Ora) : Prop := ∀ (H : Heap), H ≠ [] → ∀ (p : Pst) (M : Mu) (w : World) (cargs : Array Value), HRel p M H w → CRel p M e.args cargs →
  (∃ fn, P.funcs[e.f]? = some fn ∧ fn.body.isNone = false) ∧ CallsIn Fence.wide 0 P e.f cargs w (Post p M H w e.v H)

theorem one_of_call {P : Program} {call : CallT} (hC : CallOk P call) {e : Ora} {H' : Heap} (h : call (.fn e.f) e.args [⟨true, []⟩] = some (e.v, H')) (hn : e.args.all (noH 9) = true) : OneOk P e := by
  intro H hne p M w cargs hH hA
  have hH0 : HRel p Mu.no [⟨true, []⟩] w := ⟨hH.pers, (fun d i v B hg hB => by
    cases d <;> simp [hGet, nthBlk] at hg <;> exact absurd hg.2.symm hB), (fun d i v B d' i' v' B' b o t o' t' hg hB hg' hB' hm hm' => by cases hm), (fun d i v t hm => by cases hm)⟩
  have hA0 : CRel p Mu.no e.args cargs := ⟨hA.1, fun j hj => noH_any 9 (all_getD hn hj) (hA.2 j hj)⟩
  obtain ⟨h1, h2⟩ := hC (.fn e.f) e.args _ e.v H' h (by simp) p Mu.no w cargs hH0 hA0
  refine ⟨h1, h2.mono ?_⟩
  rintro en w' ⟨cv, rfl, st, p', M', hE, hv⟩
  have hM : Mu.le M' M := fun d i v t hm => by
    have h3 := (hE.rel.dom d i v t hm).1
    have h4 : hLock [⟨true, []⟩] d = true := by cases d <;> rfl
    rw [st.next d h4] at h3
    cases d <;> simp [hNextAt] at h3
  have all : ∀ b, Go.Eng.keep Mu.no [⟨true, []⟩] b := fun b d i u B _ _ _ o t hm => by cases hm
  refine ⟨cv, rfl, Still.refl H, p', M, { Evo.refl hH with pst := hE.pst, rel := ⟨hE.rel.pers, ?_, hH.apart, hH.dom⟩, stay := hE.stay.weaken (fun b _ _ => all b), fresh := hE.fresh }, hv.mono (Pst.le.refl _) hM⟩
  intro d i u B hg hB
  obtain ⟨b, o, t, k1, k2, k3⟩ := hH.live d i u B hg hB
  have hlt := k2.lt hB
  refine ⟨b, o, t, k1, k2.mono hE.pst (Mu.le.refl _) (hE.stay.block b hlt (all b)), fun x => ?_⟩
  cases hx : p' b x with
  | none => rfl
  | some y =>
    rcases hE.fresh b x y hx with h | h
    · rw [k3] at h; cases h
    · omega

/-! ### Equality of values, as it is evaluated -/
noncomputable def eqR (f : AV → AV → Bool) (r s : Row) : Bool :=
  match r, s with
  | .I k l, .I k' l' => kindX k k' && listEqI l l'
  | .G l, .G l' => listEqV f l l'
  | _, _ => false
where
  listEqI : List Int → List Int → Bool
    | [], [] => true
    | x :: a, y :: b => eqX x y && listEqI a b
    | _, _ => false
  listEqV (f : AV → AV → Bool) : List AV → List AV → Bool
    | [], [] => true
    | x :: a, y :: b => f x y && listEqV f a b
    | _, _ => false
def eqOp : Option Nat → Option Nat → Bool
  | none, none => true
  | some a, some b => Nat.beq a b
  | _, _ => false
noncomputable def eqA : Nat → AV → AV → Bool
  | 0, _, _ => false
  | n + 1, v, u => match v, u with
    | .bool a, .bool b => a == b
    | .int k a, .int k' b => kindX k k' && eqX a b
    | .nilp, .nilp => true
    | .nils, .nils => true
    | .nilm, .nilm => true
    | .ptrT s r o, .ptrT s' r' o' => eqOp s s' && (eqR (eqA n) r r' && Nat.beq o o')
    | .slcT s r z l b, .slcT s' r' z' l' b' => eqOp s s' && (eqR (eqA n) r r' && (Nat.beq z z' && (Nat.beq l l' && b == b')))
    | .agg r, .agg r' => eqR (eqA n) r r'
    | _, _ => false
theorem listEqI_eq : ∀ (l m : List Int), eqR.listEqI l m = true → l = m
  | [], [], _ => rfl
  | [], _ :: _, h => by simp [eqR.listEqI] at h
  | _ :: _, [], h => by simp [eqR.listEqI] at h
  | x :: a, y :: b, h => by
    simp only [eqR.listEqI, Bool.and_eq_true, eqX_eq, beq_iff_eq] at h
    rw [h.1, listEqI_eq a b h.2]
theorem listEqV_eq {f : AV → AV → Bool} (hf : ∀ x y, f x y = true → x = y) : ∀ (l m : List AV), eqR.listEqV f l m = true → l = m
  | [], [], _ => rfl
  | [], _ :: _, h => by simp [eqR.listEqV] at h
  | _ :: _, [], h => by simp [eqR.listEqV] at h
  | x :: a, y :: b, h => by
    simp only [eqR.listEqV, Bool.and_eq_true] at h
    rw [hf _ _ h.1, listEqV_eq hf a b h.2]
theorem eqR_eq {f : AV → AV → Bool} (hf : ∀ x y, f x y = true → x = y) (r s : Row) (h : eqR f r s = true) : r = s := by
  cases r <;> cases s <;> simp only [eqR, Bool.and_eq_true, kindX_eq, decide_eq_true_eq] at h <;> try (simp at h; done)
  · rw [h.1, listEqI_eq _ _ h.2]
  · rw [listEqV_eq hf _ _ h]
theorem eqOp_eq (a b : Option Nat) (h : eqOp a b = true) : a = b := by
  cases a <;> cases b <;> simp [eqOp] at h ⊢; exact h
theorem eqA_eq : ∀ (n : Nat) (x y : AV), eqA n x y = true → x = y
  | 0, x, y, h => by simp [eqA] at h
  | n + 1, x, y, h => by
    have ih := eqA_eq n
    cases x <;> cases y <;> simp only [eqA, Bool.and_eq_true, kindX_eq, eqX_eq, decide_eq_true_eq, beq_iff_eq] at h <;> try (first | rfl | (simp at h; done))
    case bool.bool => rw [h]
    case int.int => rw [h.1, h.2]
    case ptrT.ptrT => rw [eqOp_eq _ _ h.1, eqR_eq ih _ _ h.2.1, Nat.eq_of_beq_eq_true h.2.2]
    case slcT.slcT => rw [eqOp_eq _ _ h.1, eqR_eq ih _ _ h.2.1, Nat.eq_of_beq_eq_true h.2.2.1, Nat.eq_of_beq_eq_true h.2.2.2.1, h.2.2.2.2]
    case agg.agg => rw [eqR_eq ih _ _ h]

noncomputable def oraT : List Ora → FuncId → List AV → Option AV
  | [], _, _ => none
  | e :: r, f, args => if Nat.beq e.f f && eqR.listEqV (eqA 9) e.args args then some e.v else oraT r f args
theorem oraT_ok {P : Program} : ∀ (tab : List Ora), (∀ e ∈ tab, OneOk P e) → OraOk P (oraT tab)
  | [], _ => fun f args v h => by simp [oraT] at h
  | e :: r, hT => fun f args v h => by
    simp only [oraT] at h
    split at h
    · rename_i hc
      simp only [Bool.and_eq_true] at hc
      have e1 := Nat.eq_of_beq_eq_true hc.1
      have e2 := listEqV_eq (eqA_eq 9) _ _ hc.2
      have e3 := Option.some.inj h
      subst e1; subst e2; subst e3
      exact hT e (by simp)
    · exact oraT_ok r (fun e' he => hT e' (List.mem_cons_of_mem _ he)) f args v h

/-- One entry more, out of an evaluation. -/
theorem one_of {P : Program} (hN : Named P) (hm : P.follows .mixedOrders = true) {tab : List Ora} (hT : ∀ e ∈ tab, OneOk P e) (KT : FuncId → Nat → Nat) (fu n : Nat) {e : Ora} {H' : Heap}
    (h : callNX P (oraT tab) KT fu n (.fn e.f) e.args [⟨true, []⟩] = some (e.v, H')) (hn : e.args.all (noH 9) = true) : OneOk P e := by
  rw [callNX_eq] at h
  exact one_of_call (callN_rel hN (drawOk hN hm) (oraT_ok tab hT) KT fu n) h hn

/-- A closed call that answers a boolean. -/
theorem bool_of {P : Program} (hN : Named P) (hm : P.follows .mixedOrders = true) {tab : List Ora} (hT : ∀ e ∈ tab, OneOk P e) (KT : FuncId → Nat → Nat) (fu n : Nat) {f : FuncId} {x : Bool} {H' : Heap}
    (h : callNX P (oraT tab) KT fu n (.fn f) [] [⟨true, []⟩] = some (.bool x, H')) (w : World) :
    Calls P f #[] w (fun e w' => e = .returned (.bool x) ∧ Go.RowKit.Below w.heap.size w w') := by
  rw [callNX_eq] at h
  exact calls_bool (callN_rel hN (drawOk hN hm) (oraT_ok tab hT) KT fu n) h w

end Go.Eng
