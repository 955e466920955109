/- The engine as a tree: calls that are carried out where they stand, and calls that are known. -/
import Derived.Test.YtjmjkhpfipglcaaV2EngTg
namespace Go.Eng
set_option linter.unusedVariables false
set_option linter.unusedSimpArgs false
noncomputable section

/-- A table of calls, in the mode in which zeros are laid down as parts. -/
def oraS (tab : List Ora) : CallT → FuncId → List AV → Heap → Option (AV × Heap) := fun call f args H =>
  cond (Nat.beq f 1000000) (match H with
    | [] => some (.undef, [])
    | _ => none) (oraT tab call f args H)
theorem oraS_ok {P : Program} (tab : List Ora) (hT : ∀ e ∈ tab, OneOk P e) : OraOk P (oraS tab) := by
  intro call hC f args H v H' h hne
  unfold oraS at h
  cases hb : Nat.beq f 1000000 with
  | true =>
    rw [hb, cond_true] at h
    cases H with
    | nil => exact absurd rfl hne
    | cons l r => simp at h
  | false =>
    rw [hb, cond_false] at h
    exact oraT_ok tab hT call hC f args H v H' h hne
theorem oraS_mode (P : Program) (tab : List Ora) (KT : FuncId → Nat → Nat) (fu n : Nat) : ∃ x, callN P (oraS tab) KT fu n .mode [] [] = some x := by
  cases n <;> exact ⟨_, rfl⟩

/-- Calls that are known, as trees. -/
abbrev Ctr := FuncId → Option (List HV → Heap → Tr (HV × Heap))
def Ctr.Ok (tab : Ctr) (call : CallT) : Prop := ∀ f g, tab f = some g → ∀ args H x, (g args H).run = some x → call (.fn f) (avs args) H = some (x.1.1, x.2)
variable (P : Program) (ora : CallT → FuncId → List AV → Heap → Option (AV × Heap)) (KT : FuncId → Nat → Nat) (fu : Nat) (no : FuncId → Bool) (tab : Ctr) (n : Nat)
/-- Calls k deep are carried out where they stand. -/
def inlT : Nat → CallTr
  | 0 => fun tgt args H => match tgt with
    | .fn g => match tab g with
      | some c => c args H
      | none => .bad
    | _ => .bad
  | k + 1 => fun tgt args H => match tgt with
    | .fn g => match tab g with
      | some c => c args H
      | none => cond (no g) .bad (match P.funcs[g]? with
        | some fn => match fn.body with
          | some _ => cond (Nat.ble (lenX args) fn.ntmps) (bodyT P (callN P ora KT fu (n + k)) fu g fn (KT g) (inlT k) noBT noRT args H) .bad
          | none => .bad
        | none => .bad)
    | _ => .bad
theorem inlT_ok (hno : ∀ g, no g = false → ∀ c args H, ora c g args H = none) (hm : ∀ k, ∃ x, callN P ora KT fu k .mode [] [] = some x) (ht : ∀ k, tab.Ok (callN P ora KT fu (n + k))) : ∀ k, (inlT P ora KT fu no tab n k).Ok (callN P ora KT fu (n + k))
  | 0 => ⟨hm _, fun tgt args H x h => by
    unfold inlT at h
    split at h
    · split at h
      · rename_i c hc
        exact ht 0 _ _ hc _ _ _ h
      · exact (Tr.bad_some h).elim
    · exact (Tr.bad_some h).elim⟩
  | k + 1 => ⟨hm _, fun tgt args H x h => by
    unfold inlT at h
    split at h
    · rename_i g
      split at h
      · rename_i c hc
        exact ht (k + 1) _ _ hc _ _ _ h
      · obtain ⟨hn, h⟩ := Tr.cond_bad' h
        split at h
        · rename_i fn hf
          split at h
          · rename_i c hb
            obtain ⟨hl, h⟩ := Tr.cond_bad h
            rw [lenX_eq] at hl
            exact bodyT_ok hf (by rw [hb]; rfl) (hno g hn _ _ _) hl (inlT_ok hno hm ht k) (noBT_ok _ _) (noRT_ok _ _) h
          · exact (Tr.bad_some h).elim
        · exact (Tr.bad_some h).elim
    · exact (Tr.bad_some h).elim⟩
def noCt : Ctr := fun _ => none
theorem noCt_ok (call : CallT) : noCt.Ok call := fun _ _ h => by cases h
def addCt (t : Ctr) (f : FuncId) (g : List AV → Heap → Tr (AV × Heap)) : Ctr := fun x => cond (Nat.beq x f) (some fun args H => (g (avs args) H).bind fun y => .ok ((y.1, none), y.2)) (t x)
theorem addCt_ok {t : Ctr} {f : FuncId} {g : List AV → Heap → Tr (AV × Heap)} {call : CallT} (h : t.Ok call) (k : ∀ args H x, (g args H).run = some x → call (.fn f) args H = some x) : (addCt t f g).Ok call := by
  intro f' g' hg args H x hx
  unfold addCt at hg
  cases hb : Nat.beq f' f with
  | true =>
    rw [hb, cond_true, Option.some.injEq] at hg
    have := Nat.eq_of_beq_eq_true hb
    subst this; subst hg
    obtain ⟨y, h1, h2⟩ := Tr.bind_some hx
    have := k _ _ _ h1
    rw [← Tr.ok_some h2]; exact this
  | false =>
    rw [hb, cond_false] at hg
    exact h _ _ hg _ _ _ hx

/-- A function of which it is known what it answers to some arguments, in each heap; it changes nothing. -/
def ctG (t : Ctr) (f : FuncId) (g : List AV → Option (Prop × AV)) : Ctr := fun x => cond (Nat.beq x f) (some fun args H => match g (avs args) with
  | some (p, v) => .reqP p (.ok ((v, none), H))
  | none => .bad) (t x)
theorem ctG_ok {t : Ctr} {f : FuncId} {g : List AV → Option (Prop × AV)} {call : CallT} (h : t.Ok call) (k : ∀ args p v, g args = some (p, v) → p → ∀ H, call (.fn f) args H = some (v, H)) : (ctG t f g).Ok call := by
  intro f' g' hg args H x hx
  unfold ctG at hg
  cases hb : Nat.beq f' f with
  | true =>
    rw [hb, cond_true, Option.some.injEq] at hg
    have := Nat.eq_of_beq_eq_true hb
    subst this; subst hg
    dsimp only at hx
    split at hx
    · rename_i p v hp
      obtain ⟨e1, hx⟩ := Tr.reqP_some hx
      rw [k _ p v hp e1 H, ← Tr.ok_some hx]
    · exact (Tr.bad_some hx).elim
  | false =>
    rw [hb, cond_false] at hg
    exact h _ _ hg _ _ _ hx
/-- A call of which it is known what it answers to these arguments, in this heap. -/
def ctE (t : Ctr) (f : FuncId) (args0 : List AV) (H0 : Heap) (u : Tr (AV × Heap)) : Ctr := fun x => cond (Nat.beq x f) (some fun args H => .reqP (avs args = args0 ∧ H = H0) (u.bind fun y => .ok ((y.1, none), y.2))) (t x)
theorem ctE_ok {t : Ctr} {f : FuncId} {args0 : List AV} {H0 : Heap} {u : Tr (AV × Heap)} {call : CallT} (h : t.Ok call) (k : ∀ x, u.run = some x → call (.fn f) args0 H0 = some x) : (ctE t f args0 H0 u).Ok call := by
  intro f' g' hg args H x hx
  unfold ctE at hg
  cases hb : Nat.beq f' f with
  | true =>
    rw [hb, cond_true, Option.some.injEq] at hg
    have := Nat.eq_of_beq_eq_true hb
    subst this; subst hg
    obtain ⟨⟨e1, e2⟩, hx⟩ := Tr.reqP_some hx
    obtain ⟨y, h1, h2⟩ := Tr.bind_some hx
    rw [e1, e2, k _ h1, ← Tr.ok_some h2]
  | false =>
    rw [hb, cond_false] at hg
    exact h _ _ hg _ _ _ hx

/-! ### What the kernel does not look into, told -/
theorem shO_zero (z : Nat → Int) : shO z 0 = z := by rw [shO_fn]; funext j; simp
theorem beqN_self (a : Nat) : eqN a a = true := by simp [eqN_eq]

end
end Go.Eng
