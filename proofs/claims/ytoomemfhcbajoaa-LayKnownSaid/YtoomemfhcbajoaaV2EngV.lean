/- The engine, part V: regions that draw their order: what an operation sees is the same in every order. -/
import Derived.Test.YtoomemfhcbajoaaV2EngSx2
namespace Go.Eng
set_option linter.unusedVariables false
set_option linter.unusedSimpArgs false

section
variable {P : Program} {nt : Nat} {call : CallT} {ops : Array Oper} {fr0 : Frm} {H0 : Heap} {n0 : Nat} {T : Nat → Ent}

/-- What is known of a write. -/
theorem wr_fact (hF : Fact P nt call ops (Region.before ops) fr0 H0 n0 T) {k : Nat} {o : Oper} (ho : ops[k]? = some o) {d i : Nat} {b : Nat × Blk} (hw : (T k).wr = some (d, i, b)) :
    b.2 ≠ .dead ∧ True ∧
      ((d = 0 ∧ i = nxT ops n0 k ∧ mayPushAt ops k = true ∧ hGet (hS T H0 All k) 0 i = (0, .dead)) ∨
       ((hGet (hHide (hS T H0 All k) ((Region.before ops).getD k 0) (recT T k)) d i).2 ≠ .dead ∧ mayWrite ((Region.before ops).getD k 0) d i (recT T k) = true)) := by
  have nd : ∀ x : Blk, isDead x = false → x ≠ .dead := by intro x hx; cases x <;> simp [isDead] at hx ⊢
  have h := hF k o ho
  unfold drawStep at h
  split at h
  · simp at h
  · simp only [Option.some.injEq] at h
    rw [← h] at hw; simp at hw
  · split at h
    · split at h
      · simp only [Option.some.injEq] at h
        rw [← h] at hw; simp at hw
      · simp at h
    · split at h
      · simp only [Option.some.injEq] at h
        rw [← h] at hw; simp at hw
      · rename_i v B _
        split at h
        · rename_i hc
          simp only [Option.some.injEq] at h
          rw [← h] at hw
          dsimp only at hw
          rw [Option.some.injEq, Prod.mk.injEq, Prod.mk.injEq] at hw
          obtain ⟨rfl, rfl, rfl⟩ := hw
          simp only [Bool.and_eq_true, Bool.not_eq_true'] at hc
          obtain ⟨⟨⟨h1, h2⟩, h3⟩, _⟩ := hc
          have h4 : hGet (hS T H0 All k) 0 (nxT ops n0 k) = (0, .dead) := by
            unfold isDead0 at h3
            split at h3
            · rename_i e; exact e
            · cases h3
          exact ⟨nd _ h2, trivial, .inl ⟨rfl, rfl, by simp [mayPushAt, ho, h1], h4⟩⟩
        · simp at h
      · rename_i v d' i' b' _
        split at h
        · rename_i hc
          simp only [Option.some.injEq] at h
          rw [← h] at hw
          dsimp only at hw
          rw [Option.some.injEq, Prod.mk.injEq, Prod.mk.injEq] at hw
          obtain ⟨rfl, rfl, rfl⟩ := hw
          simp only [Bool.and_eq_true, Bool.not_eq_true'] at hc
          obtain ⟨⟨⟨h1, h2⟩, h3⟩, h4⟩ := hc
          exact ⟨nd _ h1, trivial, .inr ⟨nd _ h3, h4⟩⟩
        · simp at h
      · simp at h

theorem fact_lt (hn : n0 + pushes ops.toList = hNextAt H0 0) (hF : Fact P nt call ops (Region.before ops) fr0 H0 n0 T) {k : Nat} {o : Oper} (ho : ops[k]? = some o) {d i : Nat} {b : Nat × Blk} (hw : (T k).wr = some (d, i, b)) : i < hNextAt H0 d := by
  obtain ⟨_, _, h | h⟩ := wr_fact hF ho hw
  · obtain ⟨rfl, rfl, h, _⟩ := h
    rw [← hn]; exact nxT_top h
  · have := hGet_lt h.1
    rw [hHide_next, hS_next] at this
    exact this

/-- The block (d, i) when the operations of S have been carried out. -/
theorem hS_get (hn : n0 + pushes ops.toList = hNextAt H0 0) (hF : Fact P nt call ops (Region.before ops) fr0 H0 n0 T) (S : Nat → Bool) (d i : Nat) {k : Nat} (hk : k < ops.size) :
    hGet (hS T H0 S (k + 1)) d i = if S k then (wrAt T k d i).getD (hGet (hS T H0 S k) d i) else hGet (hS T H0 S k) d i := by
  simp only [hS]
  by_cases hs : S k = true
  · rw [if_pos hs, if_pos hs]
    unfold wrAt
    cases hw : (T k).wr with
    | none => rfl
    | some x =>
      obtain ⟨d', i', b⟩ := x
      have hlt := fact_lt hn hF (Array.getElem?_eq_getElem hk) hw
      simp only [putW]
      rw [hGet_set, hS_next]
      by_cases e : d = d' ∧ i = i'
      · rw [if_pos ⟨e.1, e.2, hlt⟩, if_pos e]; rfl
      · rw [if_neg (fun x => e ⟨x.1, x.2.1⟩), if_neg e]; rfl
  · rw [if_neg hs, if_neg hs]

/-- What is dead has not been written. -/
theorem dead_back (hn : n0 + pushes ops.toList = hNextAt H0 0) (hF : Fact P nt call ops (Region.before ops) fr0 H0 n0 T) {d i : Nat} : ∀ (m : Nat), m ≤ ops.size → (hGet (hS T H0 All m) d i).2 = .dead → ∀ k, k < m → wrAt T k d i = none ∧ (hGet (hS T H0 All k) d i).2 = .dead
  | 0, _, _, k, hk => by omega
  | m + 1, hm, hd, k, hk => by
    rw [hS_get hn hF All d i (by omega), if_pos rfl] at hd
    have hnone : wrAt T m d i = none := by
      cases hw : wrAt T m d i with
      | none => rfl
      | some b =>
        rw [hw] at hd
        exact absurd hd (wr_fact hF (Array.getElem?_eq_getElem (show m < ops.size by omega)) (wrAt_some.1 hw)).1
    rw [hnone] at hd
    simp only [Option.getD_none] at hd
    by_cases e : k = m
    · subst e; exact ⟨hnone, hd⟩
    · exact dead_back hn hF m (by omega) hd k (by omega)

/-- What has been carried out holds whatever must come before it. -/
def Closed (ops : Array Oper) (S : Nat → Bool) : Prop := ∀ j, S j = true → j < ops.size ∧ ∀ i, ((Region.before ops).getD j 0).testBit i = true → S i = true

/-- A later operation's write to a block that an earlier one has written, or looks into, comes behind it. -/
theorem later (hn : n0 + pushes ops.toList = hNextAt H0 0) (hF : Fact P nt call ops (Region.before ops) fr0 H0 n0 T) {j m d i : Nat} (hjm : j < m) (hm : m < ops.size) (hw : wrAt T m d i ≠ none)
    (hj : wrAt T j d i ≠ none ∨ (touches (T j).rd d i ∧ (hGet (hS T H0 All j) d i).2 ≠ .dead)) : ((Region.before ops).getD m 0).testBit j = true := by
  cases hb : wrAt T m d i with
  | none => exact absurd hb hw
  | some b =>
    obtain ⟨_, _, h | h⟩ := wr_fact hF (Array.getElem?_eq_getElem hm) (wrAt_some.1 hb)
    · obtain ⟨rfl, rfl, _, h⟩ := h
      have := dead_back hn hF m (by omega) (by rw [h]) j hjm
      rcases hj with hj | hj
      · exact absurd this.1 hj
      · exact absurd this.2 hj.2
    · rcases hj with hj | hj
      · rcases hHide_get ((Region.before ops).getD m 0) (recT T m) (hS T H0 All m) d i with ⟨h1, _⟩ | ⟨_, h1⟩
        · cases hjb : wrAt T j d i with
          | none => exact absurd hjb hj
          | some c =>
            have := Classical.not_not.1 (fun hnb => h1 ⟨_, (recT_mem T m _).2 ⟨j, hjm, rfl⟩, by rw [wrAt_some.1 hjb]; rfl, by simpa using (hnb : ¬ ((Region.before ops).getD m 0).testBit j = true)⟩)
            exact this
        · rw [h1] at h; exact absurd rfl h.1
      · rcases mayWrite_spec _ _ _ _ h.2 _ ((recT_mem T m _).2 ⟨j, hjm, rfl⟩) with h1 | h1
        · exact h1
        · exact absurd hj.1 h1

/-- A block that an operation looks into is the same in every order. -/
theorem block_same (hn : n0 + pushes ops.toList = hNextAt H0 0) (hF : Fact P nt call ops (Region.before ops) fr0 H0 n0 T) {S : Nat → Bool} (hS' : Closed ops S) {j : Nat} (hj : j < ops.size) (hjS : S j = false)
    (hbef : ∀ i, ((Region.before ops).getD j 0).testBit i = true → S i = true) {d i : Nat} (ht : touches (T j).rd d i)
    (hl : (hGet (hHide (hS T H0 All j) ((Region.before ops).getD j 0) (recT T j)) d i).2 ≠ .dead) :
    hGet (hS T H0 S ops.size) d i = hGet (hHide (hS T H0 All j) ((Region.before ops).getD j 0) (recT T j)) d i := by
  have h12 : ¬ hid ((Region.before ops).getD j 0) (recT T j) d i ∧ hGet (hHide (hS T H0 All j) ((Region.before ops).getD j 0) (recT T j)) d i = hGet (hS T H0 All j) d i := by
    rcases hHide_get ((Region.before ops).getD j 0) (recT T j) (hS T H0 All j) d i with h | ⟨_, h2⟩
    · exact h
    · rw [h2] at hl; exact absurd rfl hl
  obtain ⟨h1, h2⟩ := h12
  rw [h2] at hl ⊢
  have claim : ∀ m, m ≤ ops.size → hGet (hS T H0 S m) d i = hGet (hS T H0 All (min m j)) d i := by
    intro m
    induction m with
    | zero => intro _; rw [Nat.zero_min]; rfl
    | succ m ih =>
      intro hm
      have ih := ih (by omega)
      rw [hS_get hn hF S d i (by omega)]
      by_cases hmj : m < j
      · rw [show min (m + 1) j = m + 1 by omega, hS_get hn hF All d i (by omega), if_pos rfl]
        rw [show min m j = m by omega] at ih
        rw [ih]
        cases hw : wrAt T m d i with
        | none => simp
        | some b =>
          have hs : S m = true := hbef m (Classical.not_not.1 fun hnb => h1 ⟨_, (recT_mem T j _).2 ⟨m, hmj, rfl⟩, by rw [wrAt_some.1 hw]; rfl, by simpa using (hnb : ¬ ((Region.before ops).getD j 0).testBit m = true)⟩)
          rw [if_pos hs]
      · rw [show min (m + 1) j = min m j by omega, ← ih]
        split
        · rename_i hs
          cases hw : wrAt T m d i with
          | none => rfl
          | some b =>
            exfalso
            by_cases e : m = j
            · subst e; rw [hjS] at hs; cases hs
            · have := (hS' m hs).2 j (later hn hF (show j < m by omega) (by omega) (by rw [hw]; simp) (.inr ⟨ht, hl⟩))
              rw [hjS] at this; cases this
        · rfl
  have := claim ops.size (Nat.le_refl _)
  rw [Nat.min_eq_right (by omega)] at this
  exact this

/-- One operation more. -/
def more1 (S : Nat → Bool) (j : Nat) : Nat → Bool := fun k => if k = j then true else S k

theorem hS_more (hn : n0 + pushes ops.toList = hNextAt H0 0) (hF : Fact P nt call ops (Region.before ops) fr0 H0 n0 T) {S : Nat → Bool} (hS' : Closed ops S) {j : Nat} (hj : j < ops.size) (hjS : S j = false) :
    hS T H0 (more1 S j) ops.size = putW (hS T H0 S ops.size) (T j).wr := by
  have claim : ∀ m, m ≤ ops.size → ∀ d i, hGet (hS T H0 (more1 S j) m) d i = if j < m then (wrAt T j d i).getD (hGet (hS T H0 S m) d i) else hGet (hS T H0 S m) d i := by
    intro m
    induction m with
    | zero => intro _ d i; rfl
    | succ m ih =>
      intro hm d i
      have ih := ih (by omega) d i
      rw [hS_get hn hF (more1 S j) d i (by omega), hS_get hn hF S d i (by omega), ih]
      by_cases e : m = j
      · subst e
        simp [more1, hjS]
      · have e1 : more1 S j m = S m := if_neg e
        rw [e1]
        by_cases hjm : j < m
        · rw [if_pos hjm, if_pos (show j < m + 1 by omega)]
          split
          · rename_i hs
            cases hw : wrAt T m d i with
            | none => rfl
            | some b =>
              cases hw2 : wrAt T j d i with
              | none => rfl
              | some c =>
                exfalso
                have := (hS' m hs).2 j (later hn hF hjm (by omega) (by rw [hw]; simp) (.inl (by rw [hw2]; simp)))
                rw [hjS] at this; cases this
          · rfl
        · rw [if_neg hjm, if_neg (show ¬ j < m + 1 by omega)]
  refine heap_ext _ _ (by rw [putW_len, hS_len, hS_len]) (fun d i => ?_) (fun d => by rw [putW_next, hS_next, hS_next]) (fun d => by rw [putW_lock, hS_lock, hS_lock])
  rw [claim _ (Nat.le_refl _), if_pos hj]
  unfold wrAt
  cases hw : (T j).wr with
  | none => rfl
  | some x =>
    obtain ⟨d', i', b⟩ := x
    have hlt := fact_lt hn hF (Array.getElem?_eq_getElem hj) hw
    simp only [putW]
    rw [hGet_set, hS_next]
    by_cases e : d = d' ∧ i = i'
    · rw [if_pos e, if_pos ⟨e.1, e.2, hlt⟩]; rfl
    · rw [if_neg e, if_neg (fun x => e ⟨x.1, x.2.1⟩)]; rfl

/-! ### Slots -/
theorem slots_spec (h : slotsOk ops (Region.before ops) = true) {j : Nat} {o : Oper} (ho : ops[j]? = some o) : (∀ i, ((Region.before ops).getD j 0).testBit i = true → i < j) ∧
    ∀ i q d, ops[i]? = some q → i ≠ j → q.dst = some d → o.dst ≠ some d ∧ (d ∈ o.looksAt ops → ((Region.before ops).getD j 0).testBit i = true ∨ ((Region.before ops).getD i 0).testBit j = true) := by
  have mem : ∀ {k : Nat} {x : Oper}, ops[k]? = some x → (x, k) ∈ ops.toList.zipIdx := fun {k x} hk => by
    rw [List.mem_zipIdx_iff_getElem?]; simpa using hk
  unfold slotsOk at h
  rw [List.all_eq_true] at h
  have h1 := h _ (mem ho)
  simp only [Bool.and_eq_true] at h1
  refine ⟨fun i hi => ?_, fun i q d hq hij hd => ?_⟩
  · have hlt : (Region.before ops).getD j 0 < 2 ^ j := by simpa [Nat.blt_eq] using h1.1
    refine Nat.lt_of_not_le fun hle => ?_
    have := Nat.testBit_lt_two_pow (Nat.lt_of_lt_of_le hlt (Nat.pow_le_pow_right (by omega) hle))
    rw [this] at hi; cases hi
  · have h2 := List.all_eq_true.1 h1.2 _ (mem hq)
    simp only [hd, Bool.or_eq_true, Bool.and_eq_true, bne_iff_ne, ne_eq, Bool.not_eq_true'] at h2
    rcases h2 with h2 | h2
    · exact absurd (Nat.eq_of_beq_eq_true h2) hij
    · refine ⟨h2.1, fun hm => ?_⟩
      rcases h2.2 with (h3 | h3) | h3
      · have : (Oper.looksAt ops o).contains d = true := by simpa using hm
        rw [this] at h3; cases h3
      · exact .inl h3
      · exact .inr h3

theorem fGet_putO (nt : Nat) (fr : Frm) (dst : Option Tmp) (v : AV) (x : Nat) : fGet (putO nt fr dst v) x = if dst = some x ∧ x < nt then v else fGet fr x := by
  cases dst with
  | none => simp [putO]
  | some d =>
    simp only [putO]
    by_cases h : d < nt
    · rw [if_pos (by simpa [Nat.blt_eq] using h), fGet_fPut]
      by_cases e : x = d
      · subst e; simp [h]
      · rw [if_neg e, if_neg (by rintro ⟨h1, _⟩; exact e (Option.some.inj h1).symm)]
    · rw [if_neg (by simpa [Nat.blt_eq] using h), if_neg]
      rintro ⟨h1, h2⟩
      rw [Option.some.inj h1] at h; exact h h2

theorem slot_same (hs : slotsOk ops (Region.before ops) = true) {S : Nat → Bool} (hS' : Closed ops S) {j : Nat} {o : Oper} (ho : ops[j]? = some o) (hjS : S j = false)
    (hbef : ∀ i, ((Region.before ops).getD j 0).testBit i = true → S i = true) {x : Nat} (hx : x ∈ o.looksAt ops) : fGet (frS nt ops T fr0 S ops.size) x = fGet (frS nt ops T fr0 All j) x := by
  have hj : j < ops.size := (Array.getElem?_eq_some_iff.1 ho).1
  have claim : ∀ m, m ≤ ops.size → fGet (frS nt ops T fr0 S m) x = fGet (frS nt ops T fr0 All (min m j)) x := by
    intro m
    induction m with
    | zero => intro _; rw [Nat.zero_min]; rfl
    | succ m ih =>
      intro hm
      have ih := ih (by omega)
      have hq : ops[m]? = some ops[m] := Array.getElem?_eq_getElem (by omega)
      simp only [frS, hq, Option.bind_some]
      by_cases hmj : m < j
      · rw [show min (m + 1) j = m + 1 by omega]
        rw [show min m j = m by omega] at ih
        simp only [frS, hq, Option.bind_some, if_true]
        rw [fGet_putO]
        by_cases e : ops[m].dst = some x ∧ x < nt
        · rw [if_pos e]
          have hsm : S m = true := by
            rcases ((slots_spec hs ho).2 m _ x hq (by omega) e.1).2 hx with h1 | h1
            · exact hbef m h1
            · have := (slots_spec hs hq).1 j h1; omega
          rw [if_pos hsm, fGet_putO, if_pos e]
        · rw [if_neg e, ← ih]
          split
          · rw [fGet_putO, if_neg e]
          · rfl
      · rw [show min (m + 1) j = min m j by omega, ← ih]
        split
        · rename_i hsm
          rw [fGet_putO]
          by_cases e : ops[m].dst = some x ∧ x < nt
          · exfalso
            by_cases em : m = j
            · subst em; rw [hjS] at hsm; cases hsm
            · rcases ((slots_spec hs ho).2 m _ x hq (by omega) e.1).2 hx with h1 | h1
              · have := (slots_spec hs ho).1 m h1; omega
              · have := (hS' m hsm).2 j h1
                rw [hjS] at this; cases this
          · rw [if_neg e]
        · rfl
  have := claim ops.size (Nat.le_refl _)
  rw [Nat.min_eq_right (by omega)] at this
  exact this

theorem frS_more (hs : slotsOk ops (Region.before ops) = true) {S : Nat → Bool} {j : Nat} {o : Oper} (ho : ops[j]? = some o) (hjS : S j = false) (x : Nat) :
    fGet (frS nt ops T fr0 (more1 S j) ops.size) x = fGet (putO nt (frS nt ops T fr0 S ops.size) o.dst (T j).v) x := by
  have hj : j < ops.size := (Array.getElem?_eq_some_iff.1 ho).1
  have claim : ∀ m, m ≤ ops.size → fGet (frS nt ops T fr0 (more1 S j) m) x = if j < m then fGet (putO nt (frS nt ops T fr0 S m) o.dst (T j).v) x else fGet (frS nt ops T fr0 S m) x := by
    intro m
    induction m with
    | zero => intro _; rfl
    | succ m ih =>
      intro hm
      have ih := ih (by omega)
      have hq : ops[m]? = some ops[m] := Array.getElem?_eq_getElem (by omega)
      simp only [frS, hq, Option.bind_some]
      by_cases e : m = j
      · subst e
        rw [hq] at ho
        have ho' := Option.some.inj ho
        have e1 : more1 S m m = true := if_pos rfl
        rw [if_neg (Nat.lt_irrefl _)] at ih
        rw [if_pos e1, if_pos (Nat.lt_succ_self _), hjS, ho']
        simp only [Bool.false_eq_true, if_false]
        rw [fGet_putO, fGet_putO, ih]
      · have e1 : more1 S j m = S m := if_neg e
        rw [e1]
        by_cases hjm : j < m
        · rw [if_pos hjm] at ih
          rw [if_pos (show j < m + 1 by omega)]
          by_cases hsm : S m = true
          · rw [if_pos hsm, if_pos hsm, fGet_putO, ih, fGet_putO, fGet_putO, fGet_putO]
            by_cases e2 : ops[m].dst = some x ∧ x < nt
            · rw [if_pos e2, if_pos e2, if_neg]
              rintro ⟨h1, _⟩
              exact ((slots_spec hs ho).2 m _ x hq e e2.1).1 h1
            · rw [if_neg e2, if_neg e2]
          · rw [if_neg hsm, if_neg hsm, ih]
        · rw [if_neg hjm] at ih
          rw [if_neg (show ¬ j < m + 1 by omega)]
          split
          · rw [fGet_putO, fGet_putO, ih]
          · exact ih
  rw [claim _ (Nat.le_refl _), if_pos hj]

/-- The slots of l alone. -/
def frPick (l : List Tmp) : Frm → Frm
  | [] => []
  | (x, v) :: r => if l.contains x then (x, v) :: frPick l r else frPick l r
theorem fGet_pick (l : List Tmp) : ∀ (fr : Frm) (x : Nat), fGet (frPick l fr) x = if x ∈ l then fGet fr x else .undef
  | [], x => by simp [frPick, fGet]
  | (y, v) :: r, x => by
    simp only [frPick]
    split
    · rename_i h
      simp only [fGet, fGet_pick l r x]
      by_cases e : y = x
      · subst e
        have : y ∈ l := by simpa using h
        simp [this]
      · simp [e]
    · rename_i h
      rw [fGet_pick l r x]
      simp only [fGet]
      by_cases e : y = x
      · subst e
        have : ¬ y ∈ l := by simpa using h
        simp [this]
      · simp [e]

theorem pick_opd (o : Oper) (fr : Frm) : ∀ x ∈ o.op.operands.toList, opd fr x = opd (frPick (o.looksAt ops) fr) x := by
  intro x hx
  cases x with
  | tmp t =>
    simp only [opd]
    rw [fGet_pick, if_pos]
    exact List.mem_append_left _ (List.mem_filterMap.2 ⟨.tmp t, hx, rfl⟩)
  | const v => rfl
  | global g => rfl
  | func f => rfl
theorem pick_want (o : Oper) (fr : Frm) : wantV ops (frPick (o.looksAt ops) fr) o = wantV ops fr o := by
  unfold wantV
  cases hg : o.guard with
  | none => rfl
  | some jw =>
    obtain ⟨g, want⟩ := jw
    dsimp only
    cases hd : (ops[g]?).bind (·.dst) with
    | none => rfl
    | some d =>
      dsimp only
      rw [fGet_pick, if_pos]
      unfold Oper.looksAt
      rw [hg]
      refine List.mem_append_right _ ?_
      dsimp only
      rw [hd]
      simp

end

end Go.Eng
