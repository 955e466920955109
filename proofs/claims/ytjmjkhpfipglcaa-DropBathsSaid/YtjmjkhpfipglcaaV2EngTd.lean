/- The engine as a tree: what the builtins do; operations. -/
import Derived.Test.YtjmjkhpfipglcaaV2EngTc
namespace Go.Eng
set_option linter.unusedVariables false
set_option linter.unusedSimpArgs false
noncomputable section

theorem Tr.cond_bad' {α : Type} {c : Bool} {t : Tr α} {x : α} (h : (cond c .bad t).run = some x) : c = false ∧ t.run = some x := by
  cases c with
  | false => exact ⟨rfl, h⟩
  | true => exact (Tr.bad_some h).elim

/-! ### append -/
def finT (r : Row) : Row :=
  match r with
  | .I k l => .M [.arr k (lstO l) (lenX l)]
  | r => r
theorem finT_eq (r : Row) : finT r = finR true r := by
  cases r <;> simp only [finT, finR, if_true, lstO_fn, lenX_eq]
def appT (r s : Row) : Tr Row :=
  match r with
  | .M [.arr k z n] => match intsT s with
    | some (k', z') => cond (kindX k' k) (.ok (.M [.arr k (appO z n z') (addO n (rlenX s))])) .bad
    | none => .bad
  | .I k l => match s with
    | .I k' l' => cond (kindX k' k) (.ok (.I k (appX l l'))) .bad
    | .M [.arr k' z' n'] => cond (kindX k' k) (.ok (.M [.arr k (appO (lstO l) (lenX l) z') (addO (lenX l) n')])) .bad
    | _ => .bad
  | .G l => match s with
    | .G l' => .ok (.G (appX l l'))
    | _ => .bad
  | _ => .bad
theorem appT_ok {r s q : Row} (h : (appT r s).run = some q) : r.app s = q := by
  unfold appT at h
  split at h
  · rename_i k z n
    rw [intsT_eq] at h
    split at h
    · rename_i k' z' hi
      obtain ⟨hk, h⟩ := Tr.cond_bad h
      rw [kindX_eq, decide_eq_true_eq] at hk
      have e : Row.app (.M [.arr k z n]) s = (match (Row.M [.arr k z n]).appI s with | some q => q | none => .G ((Row.M [.arr k z n]).toList ++ s.toList)) := by
        cases s <;> rfl
      rw [e]
      unfold Row.appI
      rw [hi]
      dsimp only [Row.ints]
      rw [if_pos hk, ← Tr.ok_some h, appO_fn, addO_eq, rlenX_eq]
      rfl
    · exact (Tr.bad_some h).elim
  · rename_i k l
    split at h
    · rename_i k' l'
      obtain ⟨hk, h⟩ := Tr.cond_bad h
      rw [kindX_eq, decide_eq_true_eq] at hk
      simp only [Row.app]
      rw [if_pos hk, ← Tr.ok_some h, appX_eq]
    · rename_i k' z' n'
      obtain ⟨hk, h⟩ := Tr.cond_bad h
      rw [kindX_eq, decide_eq_true_eq] at hk
      simp only [Row.app]
      unfold Row.appI
      dsimp only [Row.ints]
      rw [if_pos hk, ← Tr.ok_some h, appO_fn, addO_eq, lenX_eq, lstO_fn]
      rfl
    · exact (Tr.bad_some h).elim
  · split at h
    · rw [← Tr.ok_some h, appX_eq]; rfl
    · exact (Tr.bad_some h).elim
  · exact (Tr.bad_some h).elim
def litX (x : AV) : Bool :=
  match x with
  | .slc _ _ _ _ _ _ (some _) => true
  | _ => false
def isSl (s : AV) : Bool :=
  match s with
  | .nils | .slc .. | .slcT .. => true
  | _ => false
def zeroFit (P : Program) (e : TypeId) (n : Nat) : Bool :=
  match (zeroT P e).bind AV.row with
  | some z => Nat.beq (rlenX z) n
  | none => false
theorem zeroFit_ok {P : Program} {e : TypeId} {n : Nat} (h : zeroFit P e n = true) : ((zeroT P e).bind AV.row).map Row.len = some n := by
  unfold zeroFit at h
  split at h
  · rename_i z hz
    rw [rlenX_eq] at h
    have h := Nat.eq_of_beq_eq_true h
    rw [hz, Option.map_some, h]
  · simp at h
def growT (H : Heap) (nx sz m n : Nat) (s : AV) (new : Row) : Tr (AV × Delta) :=
  (cellsT H sz m s).bind fun old => (appT old new).bind fun r => .ok (.slc 0 nx 0 0 sz (addO m n) none, .push (.row (finT r)))
def subOffT (r : Row) (off n : Nat) : Tr Row :=
  match r with
  | .M [.arr k z N] => .req (eqN (addO off n) N) (.ok (.M [.arr k (shO z off) n]))
  | .G l => cond (Nat.beq (Nat.add off n) (lenX l)) (.ok (.G (takeX (dropX l off) n))) .bad
  | _ => .bad
theorem subOffT_ok {r q : Row} {off n : Nat} (h : (subOffT r off n).run = some q) : off + n = r.len ∧ r.sub off n = q := by
  unfold subOffT at h
  split at h
  · rename_i k z N
    obtain ⟨hc, h⟩ := Tr.req_some h
    rw [eqN_eq, decide_eq_true_eq, addO_eq] at hc
    refine ⟨by simp only [Row.len, lenM, segLen]; omega, ?_⟩
    rw [← Tr.ok_some h, shO_fn]; rfl
  · rename_i l
    obtain ⟨hc, h⟩ := Tr.cond_bad h
    rw [lenX_eq] at hc
    have hc := Nat.eq_of_beq_eq_true hc
    exact ⟨hc, by rw [← Tr.ok_some h, takeX_eq, dropX_eq]; rfl⟩
  · exact (Tr.bad_some h).elim
def appendT (P : Program) (H : Heap) (nx : Nat) (t u : TypeId) (s x : AV) : Tr (AV × Delta) :=
  match P.underlying t with
  | some (.slice e) => match P.underlying u with
    | some (.slice _) => match P.info? e with
      | some inf => match lenS s with
        | some m => match lenS x with
          | some n => cond (isSl s) (match litX x, n with
            | true, 0 => .ok (s, .keep)
            | true, _ => main P H nx e inf s x m n
            | false, _ => .ite (eqN n 0) (.ok (s, .keep)) (main P H nx e inf s x m n)) .bad
          | none => .bad
        | none => .bad
      | none => .bad
    | _ => .bad
  | _ => .bad
where
  main (P : Program) (H : Heap) (nx : Nat) (e : TypeId) (inf : TypeInfo) (s x : AV) (m n : Nat) : Tr (AV × Delta) :=
    .req (roomO m n inf.bytes) (cond (Nat.blt 0 inf.bytes) (cond (zeroFit P e inf.size) ((cellsT H inf.size n x).bind fun new =>
      match s with
      | .nils => .ok (.slc 0 nx 0 0 inf.size n none, .push (.row (finT new)))
      | .slcT _ _ _ _ full => .req full (growT H nx inf.size m n s new)
      | .slc d i v off sz _ (some c) => .ite (ltN c (addO m n)) (growT H nx inf.size m n s new)
        (cond (hLockX H d) .bad ((rowT H d i v none).bind fun r => cond (Nat.beq sz inf.size) (match r with
          | .M l => match toListX (dnR d new) with
            | [] => .bad
            | y :: ys => (setLT (addO off (mulS m sz)) (some 0) (y :: ys) 0 l).bind fun l' => .ok (.slc d i v off sz (addO m n) (some c), .set d i (v, .row (.M l')))
          | _ => .bad) .bad))
      | .slc d i v off sz _ none => cond (hLockX H d) .bad ((rowT H d i v (some 0)).bind fun r => cond (Nat.beq sz inf.size)
        ((subOffT r off (mulS m sz)).bind fun old => (appT old (dnR d new)).bind fun r' => .ok (.slc d i (Nat.succ v) 0 sz (addO m n) none, .set d i (Nat.succ v, .row r'))) .bad)
      | _ => .bad) .bad) .bad)
theorem cellsV_len {H : Heap} {sz n : Nat} {x : AV} {q : Row} (h : cellsV H sz n x = some q) : q.len = n * sz := by
  unfold cellsV at h
  split at h
  · split at h
    · rename_i hn
      simp only [Option.some.injEq] at h
      rw [← h, hn]; simp [Row.len]
    · simp at h
  · split at h
    · split at h
      · rename_i hf
        simp only [Option.some.injEq] at h
        rw [← h, upR_len, Row.sub_len _ _ _ hf.2.2]
      · simp at h
    · simp at h
  · split at h
    · rename_i hf
      simp only [Option.some.injEq] at h
      rw [← h]
      split
      · exact Row.sub_len _ _ _ (by omega)
      · rw [upR_len, Row.sub_len _ _ _ (by omega)]
    · simp at h
  · simp at h
theorem growT_ok {H : Heap} {nx sz m n : Nat} {s : AV} {new : Row} {y : AV × Delta} (h : (growT H nx sz m n s new).run = some y) : ∃ old, cellsV H sz m s = some old ∧ y = (.slc 0 nx 0 0 sz (m + n) none, .push (.row (finR true (old.app new)))) := by
  unfold growT at h
  obtain ⟨old, h1, h⟩ := Tr.bind_some h
  obtain ⟨r, h2, h⟩ := Tr.bind_some h
  refine ⟨old, cellsT_ok h1, ?_⟩
  rw [← Tr.ok_some h, addO_eq, finT_eq, appT_ok h2]
theorem appendT_ok {P : Program} {H : Heap} {nx : Nat} {t u : TypeId} {s x : AV} {y : AV × Delta} (h : (appendT P H nx t u s x).run = some y) : appendV P true H nx t u s x = some y := by
  unfold appendT at h
  unfold appendV
  split at h
  · rename_i e ht
    split at h
    · rename_i e' hu
      split at h
      · rename_i inf hi
        split at h
        · rename_i m hm
          split at h
          · rename_i n hn
            obtain ⟨hsl, h⟩ := Tr.cond_bad h
            rw [ht, hu]
            dsimp only
            rw [hi, hm, hn]
            dsimp only
            have hcase : (n = 0 ∧ (s, Delta.keep) = y) ∨ (n ≠ 0 ∧ (appendT.main P H nx e inf s x m n).run = some y) := by
              cases hx : litX x with
              | true =>
                rw [hx] at h
                cases n with
                | zero => exact .inl ⟨rfl, Tr.ok_some h⟩
                | succ n => exact .inr ⟨by omega, h⟩
              | false =>
                rw [hx] at h
                rcases Tr.ite_some h with ⟨hc, h⟩ | ⟨hc, h⟩
                · rw [eqN_eq, decide_eq_true_eq] at hc
                  exact .inl ⟨hc, Tr.ok_some h⟩
                · rw [eqN_eq, decide_eq_false_iff_not] at hc
                  exact .inr ⟨hc, h⟩
            clear h
            rcases hcase with ⟨h0, h⟩ | ⟨h0, h⟩
            · rw [if_pos h0]
              cases s <;> simp [isSl] at hsl <;> exact congrArg some h
            rw [if_neg h0]
            unfold appendT.main at h
            obtain ⟨hr, h⟩ := Tr.req_some h
            rw [roomO_eq, decide_eq_true_eq] at hr
            obtain ⟨hb, h⟩ := Tr.cond_bad h
            obtain ⟨hz, h⟩ := Tr.cond_bad h
            obtain ⟨new, h1, h⟩ := Tr.bind_some h
            have hcv := cellsT_ok h1
            rw [if_pos ⟨hr.1, hr.2, blt_t hb, zeroFit_ok hz⟩, hcv]
            dsimp only
            split at h
            · rw [← Tr.ok_some h, finT_eq]
            · rename_i sT r szT lenT full
              obtain ⟨hf, h⟩ := Tr.req_some h
              obtain ⟨old, h2, rfl⟩ := growT_ok h
              subst hf
              dsimp only
              rw [h2]
            · rename_i d i v off sz len c _ _ _ _ _
              rcases Tr.ite_some h with ⟨hc, h⟩ | ⟨hc, h⟩
              · rw [ltN_eq, decide_eq_true_eq, addO_eq] at hc
                obtain ⟨old, h2, rfl⟩ := growT_ok h
                dsimp only
                rw [if_pos hc, h2]
              · rw [ltN_eq, decide_eq_false_iff_not, addO_eq] at hc
                dsimp only
                rw [if_neg hc]
                rw [hLockX_eq] at h
                obtain ⟨hl, h⟩ := Tr.cond_bad' h
                obtain ⟨r, h2, h⟩ := Tr.bind_some h
                obtain ⟨hs, h⟩ := Tr.cond_bad h
                have hs := Nat.eq_of_beq_eq_true hs
                rw [hl, if_neg (by simp), rowT_ok h2]
                dsimp only
                split at h
                · rename_i l _
                  rw [toListX_eq] at h
                  have hcl := cellsV_len hcv
                  split at h
                  · exact (Tr.bad_some h).elim
                  · rename_i y0 ys hy
                    obtain ⟨l', h3, h⟩ := Tr.bind_some h
                    obtain ⟨k1, k2⟩ := setLT_ok _ _ _ _ h3
                    rw [addO_eq, mulS_eq, Nat.add_zero] at k1 k2
                    have hlen := Row.toList_length (dnR d new)
                    rw [hy, dnR_len, hcl] at hlen
                    have hfit : off + (m + n) * sz ≤ (Row.M l).len := by
                      rcases k1 with k1 | k1
                      · simp at k1
                      · rw [hlen, ← hs] at k1
                        rw [Nat.add_mul]
                        show _ ≤ lenM l
                        omega
                    rw [if_pos ⟨hs, hfit⟩, hy, k2, ← Tr.ok_some h, addO_eq]
                · exact (Tr.bad_some h).elim
            · rename_i d i v off sz len _ _ _ _ _
              dsimp only
              rw [hLockX_eq] at h
              obtain ⟨hl, h⟩ := Tr.cond_bad' h
              obtain ⟨r, h2, h⟩ := Tr.bind_some h
              obtain ⟨hs, h⟩ := Tr.cond_bad h
              have hs := Nat.eq_of_beq_eq_true hs
              obtain ⟨old, h3, h⟩ := Tr.bind_some h
              obtain ⟨r', h4, h⟩ := Tr.bind_some h
              obtain ⟨k1, k2⟩ := subOffT_ok h3
              rw [mulS_eq] at k1 k2
              rw [hl, if_neg (by simp), rowT_ok h2]
              dsimp only
              rw [if_pos ⟨hs, k1⟩, k2, appT_ok h4, ← Tr.ok_some h, addO_eq]
            · exact (Tr.bad_some h).elim
          · exact (Tr.bad_some h).elim
        · exact (Tr.bad_some h).elim
      · exact (Tr.bad_some h).elim
    · exact (Tr.bad_some h).elim
  · exact (Tr.bad_some h).elim

end
end Go.Eng
