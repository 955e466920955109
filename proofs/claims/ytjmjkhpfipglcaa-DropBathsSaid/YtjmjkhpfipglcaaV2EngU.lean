/- The engine, part U: regions that draw their order: the run in the order of the text, and what of it has been carried out. -/
import Derived.Test.YtjmjkhpfipglcaaV2EngS
namespace Go.Eng
set_option linter.unusedVariables false
set_option linter.unusedSimpArgs false

/-! ### Frames and heaps when the operations of S have been carried out -/
abbrev All : Nat → Bool := fun _ => true
def frS (nt : Nat) (ops : Array Oper) (T : Nat → Ent) (fr0 : Frm) (S : Nat → Bool) : Nat → Frm
  | 0 => fr0
  | k + 1 => if S k then putO nt (frS nt ops T fr0 S k) ((ops[k]?).bind (·.dst)) (T k).v else frS nt ops T fr0 S k
def hS (T : Nat → Ent) (H0 : Heap) (S : Nat → Bool) : Nat → Heap
  | 0 => H0
  | k + 1 => if S k then putW (hS T H0 S k) (T k).wr else hS T H0 S k
def mayPushAt (ops : Array Oper) (k : Nat) : Bool := ((ops[k]?).map mayPush).getD false
def nxT (ops : Array Oper) (n0 : Nat) : Nat → Nat
  | 0 => n0
  | k + 1 => if mayPushAt ops k then nxT ops n0 k + 1 else nxT ops n0 k
def recT (T : Nat → Ent) : Nat → List Rec
  | 0 => []
  | k + 1 => ⟨k, (T k).rd, (T k).wr.map fun x => (x.1, x.2.1)⟩ :: recT T k
theorem recT_mem (T : Nat → Ent) : ∀ (k : Nat) (r : Rec), r ∈ recT T k ↔ ∃ j, j < k ∧ r = ⟨j, (T j).rd, (T j).wr.map fun x => (x.1, x.2.1)⟩
  | 0, r => by simp [recT]
  | k + 1, r => by
    simp only [recT, List.mem_cons, recT_mem T k r]
    constructor
    · rintro (rfl | ⟨j, hj, rfl⟩)
      · exact ⟨k, by omega, rfl⟩
      · exact ⟨j, by omega, rfl⟩
    · rintro ⟨j, hj, rfl⟩
      by_cases e : j = k
      · subst e; exact .inl rfl
      · exact .inr ⟨j, by omega, rfl⟩

theorem frS_congr {nt : Nat} {ops : Array Oper} {T T' : Nat → Ent} {fr0 : Frm} {S S' : Nat → Bool} : ∀ (n : Nat), (∀ k, k < n → T k = T' k ∧ S k = S' k) → frS nt ops T fr0 S n = frS nt ops T' fr0 S' n
  | 0, _ => rfl
  | n + 1, h => by simp only [frS]; rw [(h n (by omega)).1, (h n (by omega)).2, frS_congr n (fun k hk => h k (by omega))]
theorem hS_congr {T T' : Nat → Ent} {H0 : Heap} {S S' : Nat → Bool} : ∀ (n : Nat), (∀ k, k < n → T k = T' k ∧ S k = S' k) → hS T H0 S n = hS T' H0 S' n
  | 0, _ => rfl
  | n + 1, h => by simp only [hS]; rw [(h n (by omega)).1, (h n (by omega)).2, hS_congr n (fun k hk => h k (by omega))]
theorem recT_congr {T T' : Nat → Ent} : ∀ (n : Nat), (∀ k, k < n → T k = T' k) → recT T n = recT T' n
  | 0, _ => rfl
  | n + 1, h => by simp only [recT]; rw [h n (by omega), recT_congr n (fun k hk => h k (by omega))]

/-! ### The run in the order of the text -/
def Fact (P : Program) (nt : Nat) (call : CallT) (ops : Array Oper) (befs : Array Nat) (fr0 : Frm) (H0 : Heap) (n0 : Nat) (T : Nat → Ent) : Prop :=
  ∀ k o, ops[k]? = some o → drawStep P call ops (befs.getD k 0) (frS nt ops T fr0 All k) (hS T H0 All k) (nxT ops n0 k) (recT T k) o = some (T k)

theorem trace {P : Program} {nt : Nat} {call : CallT} {ops : Array Oper} {befs : Array Nat} {fr0 : Frm} {H0 : Heap} {n0 : Nat} {fr' : Frm} {H' : Heap} : ∀ (l : List Oper) (j : Nat) (T : Nat → Ent), ops.toList.drop j = l → j ≤ ops.size →
    drawOps P nt call ops befs j l (frS nt ops T fr0 All j) (hS T H0 All j) (nxT ops n0 j) (recT T j) = some (fr', H') →
    ∃ T', (∀ k, k < j → T' k = T k) ∧ (∀ k o, j ≤ k → ops[k]? = some o → drawStep P call ops (befs.getD k 0) (frS nt ops T' fr0 All k) (hS T' H0 All k) (nxT ops n0 k) (recT T' k) o = some (T' k)) ∧
      frS nt ops T' fr0 All ops.size = fr' ∧ hS T' H0 All ops.size = H'
  | [], j, T, hl, hj, h => by
    have : ops.size ≤ j := by simpa using hl
    obtain rfl : j = ops.size := by omega
    simp only [drawOps, Option.some.injEq, Prod.mk.injEq] at h
    exact ⟨T, fun _ _ => rfl, fun k o hk ho => by have := (Array.getElem?_eq_some_iff.1 ho).1; omega, h.1, h.2⟩
  | o :: l, j, T, hl, hj, h => by
    have ho : ops[j]? = some o := by
      have : (ops.toList.drop j)[0]? = some o := by rw [hl]; rfl
      simpa using this
    have hlt : j < ops.size := (Array.getElem?_eq_some_iff.1 ho).1
    simp only [drawOps] at h
    cases he : drawStep P call ops (befs.getD j 0) (frS nt ops T fr0 All j) (hS T H0 All j) (nxT ops n0 j) (recT T j) o with
    | none => rw [he] at h; simp at h
    | some e =>
      rw [he] at h
      dsimp only at h
      let T1 : Nat → Ent := fun i => if i = j then e else T i
      have e1 : T1 j = e := if_pos rfl
      have eb : ∀ k, k < j → T1 k = T k := fun k hk => if_neg (by omega)
      have f1 : frS nt ops T1 fr0 All (j + 1) = putO nt (frS nt ops T fr0 All j) o.dst e.v := by
        simp only [frS, ho, Option.bind_some, e1, if_true]
        rw [frS_congr j (fun k hk => ⟨eb k hk, rfl⟩)]
      have f2 : hS T1 H0 All (j + 1) = putW (hS T H0 All j) e.wr := by
        simp only [hS, e1, if_true]
        rw [hS_congr j (fun k hk => ⟨eb k hk, rfl⟩)]
      have f3 : nxT ops n0 (j + 1) = if mayPush o then nxT ops n0 j + 1 else nxT ops n0 j := by
        simp only [nxT, mayPushAt, ho, Option.map_some, Option.getD_some]
      have f4 : recT T1 (j + 1) = ⟨j, e.rd, e.wr.map fun x => (x.1, x.2.1)⟩ :: recT T j := by
        simp only [recT, e1]
        rw [recT_congr j eb]
      rw [← f1, ← f2, ← f3, ← f4] at h
      obtain ⟨T', g1, g2, g3, g4⟩ := trace l (j + 1) T1 (by rw [← List.tail_drop, hl]; rfl) hlt h
      have gj : ∀ k, k < j → T' k = T k := fun k hk => (g1 k (by omega)).trans (eb k hk)
      refine ⟨T', gj, fun k o' hk ho' => ?_, g3, g4⟩
      by_cases hkj : k = j
      · subst hkj
        rw [ho] at ho'
        obtain rfl := Option.some.inj ho'
        rw [frS_congr k (fun i hi => ⟨gj i hi, rfl⟩), hS_congr k (fun i hi => ⟨gj i hi, rfl⟩), recT_congr k gj, he, g1 k (by omega), e1]
      · exact g2 k o' (by omega) ho'

theorem trace0 {P : Program} {nt : Nat} {call : CallT} {ops : Array Oper} {befs : Array Nat} {fr0 : Frm} {H0 : Heap} {n0 : Nat} {fr' : Frm} {H' : Heap} (h : drawOps P nt call ops befs 0 ops.toList fr0 H0 n0 [] = some (fr', H')) :
    ∃ T, Fact P nt call ops befs fr0 H0 n0 T ∧ frS nt ops T fr0 All ops.size = fr' ∧ hS T H0 All ops.size = H' := by
  obtain ⟨T, _, h2, h3, h4⟩ := trace ops.toList 0 (fun _ => ⟨.undef, .none, none⟩) rfl (Nat.zero_le _) h
  exact ⟨T, fun k o ho => h2 k o (Nat.zero_le _) ho, h3, h4⟩

/-! ### Numbers of new blocks -/
theorem nxT_mono (ops : Array Oper) (n0 : Nat) : ∀ (m k : Nat), k ≤ m → nxT ops n0 k ≤ nxT ops n0 m
  | 0, k, h => by obtain rfl : k = 0 := by omega
                  exact Nat.le_refl _
  | m + 1, k, h => by
    by_cases e : k = m + 1
    · subst e; exact Nat.le_refl _
    · have := nxT_mono ops n0 m k (by omega)
      simp only [nxT]
      split <;> omega
theorem nxT_lt {ops : Array Oper} {n0 k m : Nat} (h : k < m) (hp : mayPushAt ops k = true) : nxT ops n0 k < nxT ops n0 m := by
  have := nxT_mono ops n0 m (k + 1) h
  simp only [nxT, hp, if_true] at this
  omega
theorem nxT_ge (ops : Array Oper) (n0 k : Nat) : n0 ≤ nxT ops n0 k := nxT_mono ops n0 k 0 (Nat.zero_le _)
theorem nxT_all (ops : Array Oper) (n0 : Nat) : ∀ (k : Nat), k ≤ ops.size → nxT ops n0 k + pushes (ops.toList.drop k) = n0 + pushes ops.toList
  | 0, _ => rfl
  | k + 1, h => by
    have ih := nxT_all ops n0 k (by omega)
    have hk : k < ops.size := by omega
    have e : ops.toList.drop k = ops[k] :: ops.toList.drop (k + 1) := by rw [List.drop_eq_getElem_cons (by simpa using hk)]; simp
    rw [e] at ih
    simp only [pushes] at ih
    have e2 : mayPushAt ops k = mayPush ops[k] := by simp [mayPushAt, Array.getElem?_eq_getElem hk]
    simp only [nxT, e2]
    split at ih <;> split <;> rename_i a b <;> first | (simp [a] at b; done) | omega
theorem nxT_top {ops : Array Oper} {n0 k : Nat} (hk : mayPushAt ops k = true) : nxT ops n0 k < n0 + pushes ops.toList := by
  have hlt : k < ops.size := by
    refine Nat.lt_of_not_le fun h => ?_
    simp [mayPushAt, Array.getElem?_eq_none h] at hk
  have h1 := nxT_lt (n0 := n0) (Nat.lt_succ_self k) hk
  have h2 := nxT_all ops n0 (k + 1) hlt
  have h3 : nxT ops n0 (k + 1) ≤ n0 + pushes ops.toList := by omega
  exact Nat.lt_of_lt_of_le h1 h3

/-! ### Shapes -/
theorem putW_next (H : Heap) (x : Option (Nat × Nat × (Nat × Blk))) (d : Nat) : hNextAt (putW H x) d = hNextAt H d := by
  cases x with
  | none => rfl
  | some x => exact hNextAt_set _ _ _ _ _
theorem putW_lock (H : Heap) (x : Option (Nat × Nat × (Nat × Blk))) (d : Nat) : hLock (putW H x) d = hLock H d := by
  cases x with
  | none => rfl
  | some x => exact hLock_set _ _ _ _ _
theorem putW_len (H : Heap) (x : Option (Nat × Nat × (Nat × Blk))) : (putW H x).length = H.length := by
  cases x with
  | none => rfl
  | some x => exact hSet_len _ _ _ _
theorem hS_next (T : Nat → Ent) (H0 : Heap) (S : Nat → Bool) (d : Nat) : ∀ k, hNextAt (hS T H0 S k) d = hNextAt H0 d
  | 0 => rfl
  | k + 1 => by
    simp only [hS]
    split
    · rw [putW_next, hS_next T H0 S d k]
    · exact hS_next T H0 S d k
theorem hS_lock (T : Nat → Ent) (H0 : Heap) (S : Nat → Bool) (d : Nat) : ∀ k, hLock (hS T H0 S k) d = hLock H0 d
  | 0 => rfl
  | k + 1 => by
    simp only [hS]
    split
    · rw [putW_lock, hS_lock T H0 S d k]
    · exact hS_lock T H0 S d k
theorem hS_len (T : Nat → Ent) (H0 : Heap) (S : Nat → Bool) : ∀ k, (hS T H0 S k).length = H0.length
  | 0 => rfl
  | k + 1 => by
    simp only [hS]
    split
    · rw [putW_len, hS_len T H0 S k]
    · exact hS_len T H0 S k

/-- What the operation k writes at (d, i). -/
def wrAt (T : Nat → Ent) (k d i : Nat) : Option (Nat × Blk) :=
  match (T k).wr with
  | some (d', i', b) => if d = d' ∧ i = i' then some b else none
  | none => none
theorem wrAt_some {T : Nat → Ent} {k d i : Nat} {b : Nat × Blk} : wrAt T k d i = some b ↔ (T k).wr = some (d, i, b) := by
  unfold wrAt
  cases h : (T k).wr with
  | none => simp
  | some x =>
    obtain ⟨d', i', b'⟩ := x
    simp only [Option.some.injEq, Prod.mk.injEq]
    constructor
    · intro h1
      split at h1
      · rename_i e; simp only [Option.some.injEq] at h1; exact ⟨e.1.symm, e.2.symm, h1⟩
      · cases h1
    · rintro ⟨rfl, rfl, rfl⟩; simp

end Go.Eng
