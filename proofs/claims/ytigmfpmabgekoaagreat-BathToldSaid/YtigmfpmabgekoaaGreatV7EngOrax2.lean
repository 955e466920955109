/- The engine: tables of calls that are known beforehand. -/
import Derived.Test.YtigmfpmabgekoaaGreatV7EngYx2
section
namespace Go.Eng
set_option linter.unusedVariables false
set_option linter.unusedSimpArgs false

/-! ### Values without handles -/
def noR (f : AV → Bool) (r : Row) : Bool :=
  match r with
  | .I .. => true
  | .G l => l.all f
  | .F .. => true
  | .M l => arrs l
def noH : Nat → AV → Bool
  | 0, _ => false
  | n + 1, v => match v with
    | .undef | .bool _ | .int _ _ | .str _ | .nilp | .nils | .nilm | .nilf => true
    | .ptrT none _ _ => true
    | .slcT none _ _ _ _ => true
    | .agg r => noR (noH n) r
    | .tup l => l.all (noH n)
    | .fn _ a b => a.all (noH n) && b.all (noH n)
    | _ => false
theorem all_getD {f : AV → Bool} : ∀ {l : List AV} {j : Nat}, l.all f = true → j < l.length → f (l.getD j .undef) = true
  | [], j, _, h => by simp at h
  | x :: l, 0, h, _ => by simp at h; simpa using h.1
  | x :: l, j + 1, h, hj => by
    simp only [List.all_cons, Bool.and_eq_true] at h
    rw [List.getD_cons_succ]
    exact all_getD h.2 (by simpa using hj)
theorem noH_any {p : Pst} {M N : Mu} : ∀ (n : Nat) {v : AV} {c : Value}, noH n v = true → VRel p M v c → VRel p N v c
  | 0, v, c, h, _ => by simp [noH] at h
  | n + 1, v, c, h, hv => by
    have ih := @noH_any p M N n
    cases hv with
    | undef c => exact .undef c
    | bool b => exact .bool b
    | int k n => exact .int k n
    | str s => exact .str s
    | nilp => exact .nilp
    | nils => exact .nils
    | nilm => exact .nilm
    | nilf => exact .nilf
    | ptr h0 => simp [noH] at h
    | slc h0 => simp [noH] at h
    | map h0 => simp [noH] at h
    | yld h0 => simp [noH] at h
    | ptrT vs h0 h1 hv =>
      rename_i s r off b o
      cases s with
      | some s => simp [noH] at h
      | none => exact .ptrT vs h0 h1 hv
    | slcT vs h0 h1 hv hl hf hx =>
      rename_i s r sz len b o x cc full
      cases s with
      | some s => simp [noH] at h
      | none => exact .slcT vs h0 h1 hv hl hf hx
    | slcN => exact .slcN
    | fn ha hb va vb =>
      simp only [noH, Bool.and_eq_true] at h
      exact .fn ha hb (fun j hj => ih (all_getD h.1 hj) (va j hj)) (fun j hj => ih (all_getD h.2 hj) (vb j hj))
    | agg hs h1 hv =>
      rename_i r cs
      simp only [noH] at h
      cases r with
      | I k l => exact .agg hs h1 (fun j hj => (hv j hj).anyInt _ _)
      | F f m => exact .agg hs h1 hv
      | M l => exact .agg hs h1 (RRel.arrs h hv)
      | G l => exact .agg hs h1 (fun j hj => ih (all_getD (f := noH n) h hj) (hv j hj))
    | tup hs hv =>
      simp only [noH] at h
      exact .tup hs (fun j hj => ih (all_getD h hj) (hv j hj))

/-! ### One call that is known beforehand -/
structure Ora where
  f : FuncId
  args : List AV
  v : AV
def OneOk (P : Program) (e : Ora) : Prop := ∀ (H : Heap), H ≠ [] → ∀ (p : Pst) (M : Mu) (w : World) (cargs : Array Value), HRel p M H w → CRel p M e.args cargs →
  (∃ fn, P.funcs[e.f]? = some fn ∧ fn.body.isNone = false) ∧ CallsIn Fence.wide 0 P e.f cargs w (Post p M H w e.v H)

theorem one_of_call {P : Program} {call : CallT} (hC : CallOk P call) {e : Ora} {H' : Heap} (h : call (.fn e.f) e.args [⟨true, []⟩] = some (e.v, H')) (hn : e.args.all (noH 9) = true) : OneOk P e := by
  intro H hne p M w cargs hH hA
  have hH0 : HRel p Mu.no [⟨true, []⟩] w := ⟨hH.pers, (fun d i v B hg hB => by
    cases d <;> simp [hGet, nthBlk] at hg <;> exact absurd hg.2.symm hB), (fun d i v B d' i' v' B' b o t o' t' hg hB hg' hB' hm hm' => by cases hm), (fun d i v t hm => by cases hm)⟩
  have hA0 : CRel p Mu.no e.args cargs := ⟨hA.1, fun j hj => noH_any 9 (all_getD hn hj) (hA.2 j hj)⟩
  obtain ⟨h1, h2⟩ := hC (.fn e.f) e.args _ e.v H' h (by simp) p Mu.no w cargs hH0 hA0
  refine ⟨h1, h2.mono ?_⟩
  rintro en w' ⟨cv, rfl, st, p', M', hE, hv⟩
  have hM : Mu.le M' M := fun d i v t hm => by
    have h3 := (hE.rel.dom d i v t hm).1
    have h4 : hLock [⟨true, []⟩] d = true := by cases d <;> rfl
    rw [st.next d h4] at h3
    cases d <;> simp [hNextAt] at h3
  have all : ∀ b, Go.Eng.keep Mu.no [⟨true, []⟩] b := fun b d i u B _ _ _ o t hm => by cases hm
  have no : ∀ {b : Nat}, ¬ (hLock [⟨true, []⟩] 0 = false ∧ ∃ i u o' t', Mu.no 0 i u = some (b, o', t')) := fun h => by have := h.1; cases this
  refine ⟨cv, rfl, Still.refl H, p', M, { Evo.refl hH with pst := hE.pst, rel := ⟨hE.rel.pers, ?_, hH.apart, hH.dom⟩, stay := hE.stay.weaken (fun b _ _ => all b), fresh := fun b o v hv => (hE.fresh b o v hv).imp_right fun h => h.elim .inl fun h => (no h).elim }, hv.mono (Pst.le.refl _) hM⟩
  intro d i u B hg hB
  obtain ⟨b, o, t, k1, k2, k3⟩ := hH.live d i u B hg hB
  have hlt := k2.lt hB
  refine ⟨b, o, t, k1, k2.mono hE.pst (Mu.le.refl _) (hE.stay.block b hlt (all b)), fun x => ?_⟩
  cases hx : p' b x with
  | none => rfl
  | some y =>
    rcases hE.fresh b x y hx with h | h | ⟨h, _⟩
    · rw [k3] at h; cases h
    · omega
    · cases h

/-! ### Equality of values, as it is evaluated -/
noncomputable def eqR (f : AV → AV → Bool) (r s : Row) : Bool :=
  match r, s with
  | .I k l, .I k' l' => kindX k k' && listEqI l l'
  | .G l, .G l' => listEqV f l l'
  | _, _ => false
where
  listEqI : List Int → List Int → Bool
    | [], [] => true
    | x :: a, y :: b => eqX x y && listEqI a b
    | _, _ => false
  listEqV (f : AV → AV → Bool) : List AV → List AV → Bool
    | [], [] => true
    | x :: a, y :: b => f x y && listEqV f a b
    | _, _ => false
def eqOp : Option Nat → Option Nat → Bool
  | none, none => true
  | some a, some b => Nat.beq a b
  | _, _ => false
noncomputable def eqA : Nat → AV → AV → Bool
  | 0, _, _ => false
  | n + 1, v, u => match v, u with
    | .bool a, .bool b => a == b
    | .int k a, .int k' b => kindX k k' && eqX a b
    | .nilp, .nilp => true
    | .nils, .nils => true
    | .nilm, .nilm => true
    | .ptrT s r o, .ptrT s' r' o' => eqOp s s' && (eqR (eqA n) r r' && Nat.beq o o')
    | .slcT s r z l b, .slcT s' r' z' l' b' => eqOp s s' && (eqR (eqA n) r r' && (Nat.beq z z' && (Nat.beq l l' && b == b')))
    | .agg r, .agg r' => eqR (eqA n) r r'
    | _, _ => false
theorem listEqI_eq : ∀ (l m : List Int), eqR.listEqI l m = true → l = m
  | [], [], _ => rfl
  | [], _ :: _, h => by simp [eqR.listEqI] at h
  | _ :: _, [], h => by simp [eqR.listEqI] at h
  | x :: a, y :: b, h => by
    simp only [eqR.listEqI, Bool.and_eq_true, eqX_eq, beq_iff_eq] at h
    rw [h.1, listEqI_eq a b h.2]
theorem listEqV_eq {f : AV → AV → Bool} (hf : ∀ x y, f x y = true → x = y) : ∀ (l m : List AV), eqR.listEqV f l m = true → l = m
  | [], [], _ => rfl
  | [], _ :: _, h => by simp [eqR.listEqV] at h
  | _ :: _, [], h => by simp [eqR.listEqV] at h
  | x :: a, y :: b, h => by
    simp only [eqR.listEqV, Bool.and_eq_true] at h
    rw [hf _ _ h.1, listEqV_eq hf a b h.2]
theorem eqR_eq {f : AV → AV → Bool} (hf : ∀ x y, f x y = true → x = y) (r s : Row) (h : eqR f r s = true) : r = s := by
  cases r <;> cases s <;> simp only [eqR, Bool.and_eq_true, kindX_eq, decide_eq_true_eq] at h <;> try (simp at h; done)
  · rw [h.1, listEqI_eq _ _ h.2]
  · rw [listEqV_eq hf _ _ h]
theorem eqOp_eq (a b : Option Nat) (h : eqOp a b = true) : a = b := by
  cases a <;> cases b <;> simp [eqOp] at h ⊢; exact h
theorem eqA_eq : ∀ (n : Nat) (x y : AV), eqA n x y = true → x = y
  | 0, x, y, h => by simp [eqA] at h
  | n + 1, x, y, h => by
    have ih := eqA_eq n
    cases x <;> cases y <;> simp only [eqA, Bool.and_eq_true, kindX_eq, eqX_eq, decide_eq_true_eq, beq_iff_eq] at h <;> try (first | rfl | (simp at h; done))
    case bool.bool => rw [h]
    case int.int => rw [h.1, h.2]
    case ptrT.ptrT => rw [eqOp_eq _ _ h.1, eqR_eq ih _ _ h.2.1, Nat.eq_of_beq_eq_true h.2.2]
    case slcT.slcT => rw [eqOp_eq _ _ h.1, eqR_eq ih _ _ h.2.1, Nat.eq_of_beq_eq_true h.2.2.1, Nat.eq_of_beq_eq_true h.2.2.2.1, h.2.2.2.2]
    case agg.agg => rw [eqR_eq ih _ _ h]

noncomputable def oraT : List Ora → CallT → FuncId → List AV → Heap → Option (AV × Heap)
  | [], _, _, _, _ => none
  | e :: r, c, f, args, H => if Nat.beq e.f f && eqR.listEqV (eqA 9) e.args args then some (e.v, H) else oraT r c f args H
theorem oraT_ok {P : Program} : ∀ (tab : List Ora), (∀ e ∈ tab, OneOk P e) → OraOk P (oraT tab)
  | [], _ => fun call _ f args H v H' h => by simp [oraT] at h
  | e :: r, hT => fun call hC f args H v H' h => by
    simp only [oraT] at h
    split at h
    · rename_i hc
      simp only [Bool.and_eq_true] at hc
      have e1 := Nat.eq_of_beq_eq_true hc.1
      have e2 := listEqV_eq (eqA_eq 9) _ _ hc.2
      have e3 := Option.some.inj h
      simp only [Prod.mk.injEq] at e3
      obtain ⟨e3, e4⟩ := e3
      subst e1; subst e2; subst e3; subst e4
      exact hT e (by simp) H
    · exact oraT_ok r (fun e' he => hT e' (List.mem_cons_of_mem _ he)) call hC f args H v H' h

/-- One entry more, out of an evaluation. -/
theorem one_of {P : Program} (hN : Named P) (hm : P.follows .mixedOrders = true) {tab : List Ora} (hT : ∀ e ∈ tab, OneOk P e) (KT : FuncId → Nat → Nat) (fu n : Nat) {e : Ora} {H' : Heap}
    (h : callNX P (oraT tab) KT fu n (.fn e.f) e.args [⟨true, []⟩] = some (e.v, H')) (hn : e.args.all (noH 9) = true) : OneOk P e := by
  rw [callNX_eq] at h
  exact one_of_call (callN_rel hN (drawOk hN hm) (oraT_ok tab hT) KT fu n) h hn

/-- A closed call that answers a boolean. -/
theorem bool_of {P : Program} (hN : Named P) (hm : P.follows .mixedOrders = true) {tab : List Ora} (hT : ∀ e ∈ tab, OneOk P e) (KT : FuncId → Nat → Nat) (fu n : Nat) {f : FuncId} {x : Bool} {H' : Heap}
    (h : callNX P (oraT tab) KT fu n (.fn f) [] [⟨true, []⟩] = some (.bool x, H')) (w : World) :
    Calls P f #[] w (fun e w' => e = .returned (.bool x) ∧ Go.RowKit.Below w.heap.size w w') := by
  rw [callNX_eq] at h
  exact calls_bool (callN_rel hN (drawOk hN hm) (oraT_ok tab hT) KT fu n) h w

end Go.Eng
end
section
namespace Go.Eng
set_option linter.unusedVariables false
set_option linter.unusedSimpArgs false
noncomputable section

/-- What a run answers, by the tests that it hangs on: a choice, or what must hold. -/
inductive Tr (α : Type) where
  | ok (a : α)
  | bad
  | ite (c : Bool) (t e : Tr α)
  | req (c : Bool) (t : Tr α)
  | reqP (p : Prop) (t : Tr α)
open Classical in
def Tr.run {α : Type} : Tr α → Option α
  | .ok a => some a
  | .bad => none
  | .ite c t e => cond c t.run e.run
  | .req c t => cond c t.run none
  | .reqP p t => if p then t.run else none
def Tr.bind {α β : Type} (t : Tr α) (f : α → Tr β) : Tr β := Tr.rec (motive := fun _ => Tr β) f .bad (fun c _ _ a b => .ite c a b) (fun c _ a => .req c a) (fun p _ a => .reqP p a) t
theorem Tr.bind_run {α β : Type} (t : Tr α) (f : α → Tr β) : (t.bind f).run = t.run.bind fun a => (f a).run := by
  induction t with
  | ok a => rfl
  | bad => rfl
  | ite c a b iha ihb =>
    have e : (Tr.ite c a b).bind f = .ite c (a.bind f) (b.bind f) := rfl
    rw [e]; simp only [Tr.run, iha, ihb]; cases c <;> rfl
  | req c a ih =>
    have e : (Tr.req c a).bind f = .req c (a.bind f) := rfl
    rw [e]; simp only [Tr.run, ih]; cases c <;> rfl
  | reqP p a ih =>
    have e : (Tr.reqP p a).bind f = .reqP p (a.bind f) := rfl
    rw [e]; simp only [Tr.run, ih]
    by_cases hp : p
    · rw [if_pos hp, if_pos hp]
    · rw [if_neg hp, if_neg hp]; rfl
theorem Tr.reqP_some {α : Type} {p : Prop} {t : Tr α} {x : α} (h : (Tr.reqP p t).run = some x) : p ∧ t.run = some x := by
  simp only [Tr.run] at h
  by_cases hp : p
  · rw [if_pos hp] at h; exact ⟨hp, h⟩
  · rw [if_neg hp] at h; cases h
theorem Tr.run_ite {α : Type} {c : Bool} {a b : Tr α} : (Tr.ite c a b).run = cond c a.run b.run := rfl
theorem Tr.run_req {α : Type} {c : Bool} {a : Tr α} : (Tr.req c a).run = cond c a.run none := rfl
theorem Tr.run_ok {α : Type} {a : α} : (Tr.ok a).run = some a := rfl
theorem Tr.run_reqP {α : Type} {p : Prop} {a : Tr α} (h : p) : (Tr.reqP p a).run = a.run := by simp only [Tr.run]; rw [if_pos h]
theorem Tr.bind_some {α β : Type} {t : Tr α} {f : α → Tr β} {y : β} (h : (t.bind f).run = some y) : ∃ x, t.run = some x ∧ (f x).run = some y := by
  rw [Tr.bind_run] at h
  exact Option.bind_eq_some_iff.1 h
theorem Tr.req_some {α : Type} {c : Bool} {t : Tr α} {x : α} (h : (Tr.req c t).run = some x) : c = true ∧ t.run = some x := by
  cases c with
  | true => exact ⟨rfl, h⟩
  | false => simp [Tr.run] at h
theorem Tr.ite_some {α : Type} {c : Bool} {t e : Tr α} {x : α} (h : (Tr.ite c t e).run = some x) : (c = true ∧ t.run = some x) ∨ (c = false ∧ e.run = some x) := by
  cases c with
  | true => exact .inl ⟨rfl, h⟩
  | false => exact .inr ⟨rfl, h⟩
theorem Tr.ok_some {α : Type} {a x : α} (h : (Tr.ok a).run = some x) : a = x := Option.some.inj h
theorem Tr.bad_some {α : Type} {x : α} (h : (Tr.bad : Tr α).run = some x) : False := by simp [Tr.run] at h
def ofO {α : Type} (o : Option α) : Tr α := Option.rec (motive := fun _ => Tr α) .bad .ok o
theorem ofO_run {α : Type} (o : Option α) : (ofO o).run = o := by cases o <;> rfl
theorem opq {α : Type} (f : α) : ∃ g, g = f := ⟨f, rfl⟩

def addI : IntKind → Int → Int → Int := Classical.choose (opq (α := IntKind → Int → Int → Int) (fun k x y => k.wrap (x + y)))
theorem addI_fn : addI = (fun k x y => k.wrap (x + y)) := Classical.choose_spec (opq (α := IntKind → Int → Int → Int) (fun k x y => k.wrap (x + y)))
theorem addI_eq (k x y) : addI k x y = k.wrap (x + y) := by rw [addI_fn]
def subI : IntKind → Int → Int → Int := Classical.choose (opq (α := IntKind → Int → Int → Int) (fun k x y => k.wrap (x - y)))
theorem subI_fn : subI = (fun k x y => k.wrap (x - y)) := Classical.choose_spec (opq (α := IntKind → Int → Int → Int) (fun k x y => k.wrap (x - y)))
theorem subI_eq (k x y) : subI k x y = k.wrap (x - y) := by rw [subI_fn]
def mulI : IntKind → Int → Int → Int := Classical.choose (opq (α := IntKind → Int → Int → Int) (fun k x y => k.wrap (x * y)))
theorem mulI_fn : mulI = (fun k x y => k.wrap (x * y)) := Classical.choose_spec (opq (α := IntKind → Int → Int → Int) (fun k x y => k.wrap (x * y)))
theorem mulI_eq (k x y) : mulI k x y = k.wrap (x * y) := by rw [mulI_fn]
def quoI : IntKind → Int → Int → Int := Classical.choose (opq (α := IntKind → Int → Int → Int) (fun k x y => k.wrap (x.tdiv y)))
theorem quoI_fn : quoI = (fun k x y => k.wrap (x.tdiv y)) := Classical.choose_spec (opq (α := IntKind → Int → Int → Int) (fun k x y => k.wrap (x.tdiv y)))
theorem quoI_eq (k x y) : quoI k x y = k.wrap (x.tdiv y) := by rw [quoI_fn]
def remI : IntKind → Int → Int → Int := Classical.choose (opq (α := IntKind → Int → Int → Int) (fun k x y => x.tmod y))
theorem remI_fn : remI = (fun k x y => x.tmod y) := Classical.choose_spec (opq (α := IntKind → Int → Int → Int) (fun k x y => x.tmod y))
theorem remI_eq (k x y) : remI k x y = x.tmod y := by rw [remI_fn]
def andI : IntKind → Int → Int → Int := Classical.choose (opq (α := IntKind → Int → Int → Int) (fun k x y => k.wrap (BitVec.ofInt k.bits x &&& BitVec.ofInt k.bits y).toNat))
theorem andI_fn : andI = (fun k x y => k.wrap (BitVec.ofInt k.bits x &&& BitVec.ofInt k.bits y).toNat) := Classical.choose_spec (opq (α := IntKind → Int → Int → Int) (fun k x y => k.wrap (BitVec.ofInt k.bits x &&& BitVec.ofInt k.bits y).toNat))
theorem andI_eq (k x y) : andI k x y = k.wrap (BitVec.ofInt k.bits x &&& BitVec.ofInt k.bits y).toNat := by rw [andI_fn]
def orI : IntKind → Int → Int → Int := Classical.choose (opq (α := IntKind → Int → Int → Int) (fun k x y => k.wrap (BitVec.ofInt k.bits x ||| BitVec.ofInt k.bits y).toNat))
theorem orI_fn : orI = (fun k x y => k.wrap (BitVec.ofInt k.bits x ||| BitVec.ofInt k.bits y).toNat) := Classical.choose_spec (opq (α := IntKind → Int → Int → Int) (fun k x y => k.wrap (BitVec.ofInt k.bits x ||| BitVec.ofInt k.bits y).toNat))
theorem orI_eq (k x y) : orI k x y = k.wrap (BitVec.ofInt k.bits x ||| BitVec.ofInt k.bits y).toNat := by rw [orI_fn]
def xorI : IntKind → Int → Int → Int := Classical.choose (opq (α := IntKind → Int → Int → Int) (fun k x y => k.wrap (BitVec.ofInt k.bits x ^^^ BitVec.ofInt k.bits y).toNat))
theorem xorI_fn : xorI = (fun k x y => k.wrap (BitVec.ofInt k.bits x ^^^ BitVec.ofInt k.bits y).toNat) := Classical.choose_spec (opq (α := IntKind → Int → Int → Int) (fun k x y => k.wrap (BitVec.ofInt k.bits x ^^^ BitVec.ofInt k.bits y).toNat))
theorem xorI_eq (k x y) : xorI k x y = k.wrap (BitVec.ofInt k.bits x ^^^ BitVec.ofInt k.bits y).toNat := by rw [xorI_fn]
def anI : IntKind → Int → Int → Int := Classical.choose (opq (α := IntKind → Int → Int → Int) (fun k x y => k.wrap (BitVec.ofInt k.bits x &&& ~~~(BitVec.ofInt k.bits y)).toNat))
theorem anI_fn : anI = (fun k x y => k.wrap (BitVec.ofInt k.bits x &&& ~~~(BitVec.ofInt k.bits y)).toNat) := Classical.choose_spec (opq (α := IntKind → Int → Int → Int) (fun k x y => k.wrap (BitVec.ofInt k.bits x &&& ~~~(BitVec.ofInt k.bits y)).toNat))
theorem anI_eq (k x y) : anI k x y = k.wrap (BitVec.ofInt k.bits x &&& ~~~(BitVec.ofInt k.bits y)).toNat := by rw [anI_fn]
def shlI : IntKind → Int → Int → Int := Classical.choose (opq (α := IntKind → Int → Int → Int) (fun k x y => k.wrap (x * 2 ^ (min y.toNat k.bits))))
theorem shlI_fn : shlI = (fun k x y => k.wrap (x * 2 ^ (min y.toNat k.bits))) := Classical.choose_spec (opq (α := IntKind → Int → Int → Int) (fun k x y => k.wrap (x * 2 ^ (min y.toNat k.bits))))
theorem shlI_eq (k x y) : shlI k x y = k.wrap (x * 2 ^ (min y.toNat k.bits)) := by rw [shlI_fn]
def shrI : IntKind → Int → Int → Int := Classical.choose (opq (α := IntKind → Int → Int → Int) (fun k x y => x.fdiv (2 ^ (min y.toNat k.bits))))
theorem shrI_fn : shrI = (fun k x y => x.fdiv (2 ^ (min y.toNat k.bits))) := Classical.choose_spec (opq (α := IntKind → Int → Int → Int) (fun k x y => x.fdiv (2 ^ (min y.toNat k.bits))))
theorem shrI_eq (k x y) : shrI k x y = x.fdiv (2 ^ (min y.toNat k.bits)) := by rw [shrI_fn]
def wrI : IntKind → Int → Int := Classical.choose (opq (α := IntKind → Int → Int) (fun k x => k.wrap x))
theorem wrI_fn : wrI = (fun k x => k.wrap x) := Classical.choose_spec (opq (α := IntKind → Int → Int) (fun k x => k.wrap x))
theorem wrI_eq (k x) : wrI k x = k.wrap x := by rw [wrI_fn]
def negI : IntKind → Int → Int := Classical.choose (opq (α := IntKind → Int → Int) (fun k x => k.wrap (0 - x)))
theorem negI_fn : negI = (fun k x => k.wrap (0 - x)) := Classical.choose_spec (opq (α := IntKind → Int → Int) (fun k x => k.wrap (0 - x)))
theorem negI_eq (k x) : negI k x = k.wrap (0 - x) := by rw [negI_fn]
def eqI : Int → Int → Bool := Classical.choose (opq (α := Int → Int → Bool) (fun x y => (x == y)))
theorem eqI_fn : eqI = (fun x y => (x == y)) := Classical.choose_spec (opq (α := Int → Int → Bool) (fun x y => (x == y)))
theorem eqI_eq (x y) : eqI x y = (x == y) := by rw [eqI_fn]
def ltI : Int → Int → Bool := Classical.choose (opq (α := Int → Int → Bool) (fun x y => decide (x < y)))
theorem ltI_fn : ltI = (fun x y => decide (x < y)) := Classical.choose_spec (opq (α := Int → Int → Bool) (fun x y => decide (x < y)))
theorem ltI_eq (x y) : ltI x y = decide (x < y) := by rw [ltI_fn]
def leI : Int → Int → Bool := Classical.choose (opq (α := Int → Int → Bool) (fun x y => decide (x ≤ y)))
theorem leI_fn : leI = (fun x y => decide (x ≤ y)) := Classical.choose_spec (opq (α := Int → Int → Bool) (fun x y => decide (x ≤ y)))
theorem leI_eq (x y) : leI x y = decide (x ≤ y) := by rw [leI_fn]
def notB : Bool → Bool := Classical.choose (opq (α := Bool → Bool) (fun b => (!b)))
theorem notB_fn : notB = (fun b => (!b)) := Classical.choose_spec (opq (α := Bool → Bool) (fun b => (!b)))
theorem notB_eq (b) : notB b = (!b) := by rw [notB_fn]
def andB : Bool → Bool → Bool := Classical.choose (opq (α := Bool → Bool → Bool) (fun a b => (a && b)))
theorem andB_fn : andB = (fun a b => (a && b)) := Classical.choose_spec (opq (α := Bool → Bool → Bool) (fun a b => (a && b)))
theorem andB_eq (a b) : andB a b = (a && b) := by rw [andB_fn]
def eqB : Bool → Bool → Bool := Classical.choose (opq (α := Bool → Bool → Bool) (fun a b => (a == b)))
theorem eqB_fn : eqB = (fun a b => (a == b)) := Classical.choose_spec (opq (α := Bool → Bool → Bool) (fun a b => (a == b)))
theorem eqB_eq (a b) : eqB a b = (a == b) := by rw [eqB_fn]
def minO : Int → Int → Int := Classical.choose (opq (α := Int → Int → Int) (fun x y => if y < x then y else x))
theorem minO_fn : minO = (fun x y => if y < x then y else x) := Classical.choose_spec (opq (α := Int → Int → Int) (fun x y => if y < x then y else x))
theorem minO_eq (x y) : minO x y = if y < x then y else x := by rw [minO_fn]
def maxO : Int → Int → Int := Classical.choose (opq (α := Int → Int → Int) (fun x y => if y > x then y else x))
theorem maxO_fn : maxO = (fun x y => if y > x then y else x) := Classical.choose_spec (opq (α := Int → Int → Int) (fun x y => if y > x then y else x))
theorem maxO_eq (x y) : maxO x y = if y > x then y else x := by rw [maxO_fn]
def inI : Int → Nat → Bool := Classical.choose (opq (α := Int → Nat → Bool) (fun (i : Int) (n : Nat) => decide (0 ≤ i ∧ i < (n : Int))))
theorem inI_fn : inI = (fun (i : Int) (n : Nat) => decide (0 ≤ i ∧ i < (n : Int))) := Classical.choose_spec (opq (α := Int → Nat → Bool) (fun (i : Int) (n : Nat) => decide (0 ≤ i ∧ i < (n : Int))))
theorem inI_eq (i n) : inI i n = decide (0 ≤ i ∧ i < (n : Int)) := by rw [inI_fn]
def bndI : Int → Nat → Bool := Classical.choose (opq (α := Int → Nat → Bool) (fun (i : Int) (n : Nat) => decide (0 ≤ i ∧ i ≤ (n : Int))))
theorem bndI_fn : bndI = (fun (i : Int) (n : Nat) => decide (0 ≤ i ∧ i ≤ (n : Int))) := Classical.choose_spec (opq (α := Int → Nat → Bool) (fun (i : Int) (n : Nat) => decide (0 ≤ i ∧ i ≤ (n : Int))))
theorem bndI_eq (i n) : bndI i n = decide (0 ≤ i ∧ i ≤ (n : Int)) := by rw [bndI_fn]
def mkO : Int → Int → Nat → Bool := Classical.choose (opq (α := Int → Int → Nat → Bool) (fun l c b => decide (0 ≤ l ∧ l ≤ c ∧ c.toNat * b ≤ room ∧ c.toNat ≤ room)))
theorem mkO_fn : mkO = (fun l c b => decide (0 ≤ l ∧ l ≤ c ∧ c.toNat * b ≤ room ∧ c.toNat ≤ room)) := Classical.choose_spec (opq (α := Int → Int → Nat → Bool) (fun l c b => decide (0 ≤ l ∧ l ≤ c ∧ c.toNat * b ≤ room ∧ c.toNat ≤ room)))
theorem mkO_eq (l c b) : mkO l c b = decide (0 ≤ l ∧ l ≤ c ∧ c.toNat * b ≤ room ∧ c.toNat ≤ room) := by rw [mkO_fn]
def toN : Int → Nat := Classical.choose (opq (α := Int → Nat) (fun i => i.toNat))
theorem toN_fn : toN = (fun i => i.toNat) := Classical.choose_spec (opq (α := Int → Nat) (fun i => i.toNat))
theorem toN_eq (i) : toN i = i.toNat := by rw [toN_fn]
def idO : Nat → Int → Nat → Nat := Classical.choose (opq (α := Nat → Int → Nat → Nat) (fun o i s => o + i.toNat * s))
theorem idO_fn : idO = (fun o i s => o + i.toNat * s) := Classical.choose_spec (opq (α := Nat → Int → Nat → Nat) (fun o i s => o + i.toNat * s))
theorem idO_eq (o i s) : idO o i s = o + i.toNat * s := by rw [idO_fn]
def addO : Nat → Nat → Nat := Classical.choose (opq (α := Nat → Nat → Nat) (fun a b => a + b))
theorem addO_fn : addO = (fun a b => a + b) := Classical.choose_spec (opq (α := Nat → Nat → Nat) (fun a b => a + b))
theorem addO_eq (a b) : addO a b = a + b := by rw [addO_fn]
def subO : Nat → Nat → Nat := Classical.choose (opq (α := Nat → Nat → Nat) (fun a b => a - b))
theorem subO_fn : subO = (fun a b => a - b) := Classical.choose_spec (opq (α := Nat → Nat → Nat) (fun a b => a - b))
theorem subO_eq (a b) : subO a b = a - b := by rw [subO_fn]
def mulO : Nat → Nat → Nat := Classical.choose (opq (α := Nat → Nat → Nat) (fun a b => a * b))
theorem mulO_fn : mulO = (fun a b => a * b) := Classical.choose_spec (opq (α := Nat → Nat → Nat) (fun a b => a * b))
theorem mulO_eq (a b) : mulO a b = a * b := by rw [mulO_fn]
def minN : Nat → Nat → Nat := Classical.choose (opq (α := Nat → Nat → Nat) (fun a b => min a b))
theorem minN_fn : minN = (fun a b => min a b) := Classical.choose_spec (opq (α := Nat → Nat → Nat) (fun a b => min a b))
theorem minN_eq (a b) : minN a b = min a b := by rw [minN_fn]
def ltN : Nat → Nat → Bool := Classical.choose (opq (α := Nat → Nat → Bool) (fun a b => decide (a < b)))
theorem ltN_fn : ltN = (fun a b => decide (a < b)) := Classical.choose_spec (opq (α := Nat → Nat → Bool) (fun a b => decide (a < b)))
theorem ltN_eq (a b) : ltN a b = decide (a < b) := by rw [ltN_fn]
def leN : Nat → Nat → Bool := Classical.choose (opq (α := Nat → Nat → Bool) (fun a b => decide (a ≤ b)))
theorem leN_fn : leN = (fun a b => decide (a ≤ b)) := Classical.choose_spec (opq (α := Nat → Nat → Bool) (fun a b => decide (a ≤ b)))
theorem leN_eq (a b) : leN a b = decide (a ≤ b) := by rw [leN_fn]
def eqN : Nat → Nat → Bool := Classical.choose (opq (α := Nat → Nat → Bool) (fun a b => decide (a = b)))
theorem eqN_fn : eqN = (fun a b => decide (a = b)) := Classical.choose_spec (opq (α := Nat → Nat → Bool) (fun a b => decide (a = b)))
theorem eqN_eq (a b) : eqN a b = decide (a = b) := by rw [eqN_fn]
def inO : Nat → Nat → Nat → Nat → Bool := Classical.choose (opq (α := Nat → Nat → Nat → Nat → Bool) (fun o m p n => decide (p ≤ o ∧ o + m ≤ p + n)))
theorem inO_fn : inO = (fun o m p n => decide (p ≤ o ∧ o + m ≤ p + n)) := Classical.choose_spec (opq (α := Nat → Nat → Nat → Nat → Bool) (fun o m p n => decide (p ≤ o ∧ o + m ≤ p + n)))
theorem inO_eq (o m p n) : inO o m p n = decide (p ≤ o ∧ o + m ≤ p + n) := by rw [inO_fn]
def allS : (Nat → AV) → IntKind → Nat → Bool → Prop := Classical.choose (opq (α := (Nat → AV) → IntKind → Nat → Bool → Prop) (fun f k sz full => ∀ j, ∃ z n m, f j = AV.slcT none (Row.M [Seg.arr k z n]) sz m full))
theorem allS_fn : allS = (fun f k sz full => ∀ j, ∃ z n m, f j = AV.slcT none (Row.M [Seg.arr k z n]) sz m full) := Classical.choose_spec (opq (α := (Nat → AV) → IntKind → Nat → Bool → Prop) (fun f k sz full => ∀ j, ∃ z n m, f j = AV.slcT none (Row.M [Seg.arr k z n]) sz m full))
theorem allS_eq (f k sz full) : allS f k sz full = ∀ j, ∃ z n m, f j = AV.slcT none (Row.M [Seg.arr k z n]) sz m full := by rw [allS_fn]
def selZ : Bool → (Nat → Int) → (Nat → Int) → Nat → Int := Classical.choose (opq (α := Bool → (Nat → Int) → (Nat → Int) → Nat → Int) (fun b x y => cond b x y))
theorem selZ_fn : selZ = (fun b x y => cond b x y) := Classical.choose_spec (opq (α := Bool → (Nat → Int) → (Nat → Int) → Nat → Int) (fun b x y => cond b x y))
theorem selZ_eq (b x y) : selZ b x y = cond b x y := by rw [selZ_fn]
def selN : Bool → Nat → Nat → Nat := Classical.choose (opq (α := Bool → Nat → Nat → Nat) (fun b x y => cond b x y))
theorem selN_fn : selN = (fun b x y => cond b x y) := Classical.choose_spec (opq (α := Bool → Nat → Nat → Nat) (fun b x y => cond b x y))
theorem selN_eq (b x y) : selN b x y = cond b x y := by rw [selN_fn]
def roomO : Nat → Nat → Nat → Bool := Classical.choose (opq (α := Nat → Nat → Nat → Bool) (fun m n b => decide ((m + n) * b ≤ room ∧ m + n ≤ room)))
theorem roomO_fn : roomO = (fun m n b => decide ((m + n) * b ≤ room ∧ m + n ≤ room)) := Classical.choose_spec (opq (α := Nat → Nat → Nat → Bool) (fun m n b => decide ((m + n) * b ≤ room ∧ m + n ≤ room)))
theorem roomO_eq (m n b) : roomO m n b = decide ((m + n) * b ≤ room ∧ m + n ≤ room) := by rw [roomO_fn]
def updO : (Nat → Int) → Nat → Int → Nat → Int := Classical.choose (opq (α := (Nat → Int) → Nat → Int → Nat → Int) (fun z i x => fun j => if j = i then x else z j))
theorem updO_fn : updO = (fun z i x => fun j => if j = i then x else z j) := Classical.choose_spec (opq (α := (Nat → Int) → Nat → Int → Nat → Int) (fun z i x => fun j => if j = i then x else z j))
theorem updO_eq (z i x) : updO z i x = fun j => if j = i then x else z j := by rw [updO_fn]
def shO : (Nat → Int) → Nat → Nat → Int := Classical.choose (opq (α := (Nat → Int) → Nat → Nat → Int) (fun z o => fun j => z (o + j)))
theorem shO_fn : shO = (fun z o => fun j => z (o + j)) := Classical.choose_spec (opq (α := (Nat → Int) → Nat → Nat → Int) (fun z o => fun j => z (o + j)))
theorem shO_eq (z o) : shO z o = fun j => z (o + j) := by rw [shO_fn]
def copO : (Nat → Int) → Nat → (Nat → Int) → Nat → Nat → Int := Classical.choose (opq (α := (Nat → Int) → Nat → (Nat → Int) → Nat → Nat → Int) (fun z o z' n => copZ z o z' n))
theorem copO_fn : copO = (fun z o z' n => copZ z o z' n) := Classical.choose_spec (opq (α := (Nat → Int) → Nat → (Nat → Int) → Nat → Nat → Int) (fun z o z' n => copZ z o z' n))
theorem copO_eq (z o z' n) : copO z o z' n = copZ z o z' n := by rw [copO_fn]
def appO : (Nat → Int) → Nat → (Nat → Int) → Nat → Int := Classical.choose (opq (α := (Nat → Int) → Nat → (Nat → Int) → Nat → Int) (fun z n z' => fun i => if i < n then z i else z' (i - n)))
theorem appO_fn : appO = (fun z n z' => fun i => if i < n then z i else z' (i - n)) := Classical.choose_spec (opq (α := (Nat → Int) → Nat → (Nat → Int) → Nat → Int) (fun z n z' => fun i => if i < n then z i else z' (i - n)))
theorem appO_eq (z n z') : appO z n z' = fun i => if i < n then z i else z' (i - n) := by rw [appO_fn]
def lenL : List Int → Nat := Classical.choose (opq (α := List Int → Nat) (fun l => l.length))
theorem lenL_fn : lenL = (fun l => l.length) := Classical.choose_spec (opq (α := List Int → Nat) (fun l => l.length))
theorem lenL_eq (l) : lenL l = l.length := by rw [lenL_fn]
def lstO : List Int → Nat → Int := Classical.choose (opq (α := List Int → Nat → Int) (fun l => fun j => l.getD j 0))
theorem lstO_fn : lstO = (fun l => fun j => l.getD j 0) := Classical.choose_spec (opq (α := List Int → Nat → Int) (fun l => fun j => l.getD j 0))
theorem lstO_eq (l) : lstO l = fun j => l.getD j 0 := by rw [lstO_fn]
def alleqO : (Nat → Int) → (Nat → Int) → Nat → Bool := Classical.choose (opq (α := (Nat → Int) → (Nat → Int) → Nat → Bool) (fun z z' n => allEq z z' n))
theorem alleqO_fn : alleqO = (fun z z' n => allEq z z' n) := Classical.choose_spec (opq (α := (Nat → Int) → (Nat → Int) → Nat → Bool) (fun z z' n => allEq z z' n))
theorem alleqO_eq (z z' n) : alleqO z z' n = allEq z z' n := by rw [alleqO_fn]
def setBO : (Int → Bool) → Int → Bool → Int → Bool := Classical.choose (opq (α := (Int → Bool) → Int → Bool → Int → Bool) (fun h n b => setB h n b))
theorem setBO_fn : setBO = (fun h n b => setB h n b) := Classical.choose_spec (opq (α := (Int → Bool) → Int → Bool → Int → Bool) (fun h n b => setB h n b))
theorem setBO_eq (h n b) : setBO h n b = setB h n b := by rw [setBO_fn]
def setIO : (Int → Int) → Int → Int → Int → Int := Classical.choose (opq (α := (Int → Int) → Int → Int → Int → Int) (fun g n x => setI g n x))
theorem setIO_fn : setIO = (fun g n x => setI g n x) := Classical.choose_spec (opq (α := (Int → Int) → Int → Int → Int → Int) (fun g n x => setI g n x))
theorem setIO_eq (g n x) : setIO g n x = setI g n x := by rw [setIO_fn]
def cntAO : Bool → Nat → Nat := Classical.choose (opq (α := Bool → Nat → Nat) (fun b c => cntA b c))
theorem cntAO_fn : cntAO = (fun b c => cntA b c) := Classical.choose_spec (opq (α := Bool → Nat → Nat) (fun b c => cntA b c))
theorem cntAO_eq (b c) : cntAO b c = cntA b c := by rw [cntAO_fn]
def cntDO : Bool → Nat → Nat := Classical.choose (opq (α := Bool → Nat → Nat) (fun b c => cntD b c))
theorem cntDO_fn : cntDO = (fun b c => cntD b c) := Classical.choose_spec (opq (α := Bool → Nat → Nat) (fun b c => cntD b c))
theorem cntDO_eq (b c) : cntDO b c = cntD b c := by rw [cntDO_fn]

end
end Go.Eng
end
