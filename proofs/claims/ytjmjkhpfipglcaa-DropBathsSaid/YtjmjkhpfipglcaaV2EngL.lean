/- The engine, part L: a level that ends. -/
import Derived.Test.YtjmjkhpfipglcaaV2EngK
namespace Go.Eng
set_option linter.unusedVariables false
set_option linter.unusedSimpArgs false

/-- The caller's blocks, seen from the activation that begins. -/
def muDown (M : Mu) : Mu := fun d i v => match d with
  | 0 => none
  | d + 1 => M d i v
theorem muDown_up (M : Mu) : (muDown M).up 1 = M := rfl
theorem muDown_upS (M : Mu) (k : Nat) : (muDown M).up (k + 1) = M.up k := rfl

theorem HRel.down {p : Pst} {M : Mu} {H : Heap} {w : World} (h : HRel p M H w) : HRel p (muDown M) (⟨false, []⟩ :: H) w where
  pers := h.pers
  live := fun d i v B hg hB => by
    cases d with
    | zero => simp [hGet, nthBlk] at hg; exact absurd hg.2.symm hB
    | succ d => exact h.live d i v B hg hB
  apart := fun d i v B d' i' v' B' b o t o' t' hg hB hg' hB' hm hm' => by
    cases d with
    | zero => simp [muDown] at hm
    | succ d =>
      cases d' with
      | zero => simp [muDown] at hm'
      | succ d' =>
        have := h.apart d i v B d' i' v' B' b o t o' t' hg hB hg' hB' hm hm'
        exact ⟨by omega, this.2⟩
  dom := fun d i v t hm => by
    cases d with
    | zero => simp [muDown] at hm
    | succ d => exact h.dom d i v t hm

/-- Is b the block of a row of the level that ends? -/
def Own (M1 : Mu) (l : Lvl) (b : Nat) : Prop := ∃ i v r o t, nthBlk l.bs i = (v, .row r) ∧ M1 0 i v = some (b, o, t)
open Classical in
/-- The rows of the level that ends stay as they are. -/
noncomputable def popP (p1 : Pst) (M1 : Mu) (l : Lvl) (w1 : World) : Pst := fun b o => if Own M1 l b then w1.cell? ⟨b, o, none⟩ else p1 b o

theorem popP_le {p1 : Pst} {M1 : Mu} {l : Lvl} {H1 : Heap} {w1 : World} (h : HRel p1 M1 (l :: H1) w1) : Pst.le p1 (popP p1 M1 l w1) := by
  intro b o v hv
  unfold popP
  rw [if_neg]
  · exact hv
  · rintro ⟨i, v', r, o', t, hg, hm⟩
    obtain ⟨b', o2, t2, k1, k2, k3⟩ := h.live 0 i v' (.row r) hg (by simp)
    rw [hm] at k1
    simp only [Option.some.injEq, Prod.mk.injEq] at k1
    rw [k1.1, k3] at hv
    cases hv
theorem popP_own {p1 : Pst} {M1 : Mu} {l : Lvl} {w1 : World} {b o : Nat} (h : Own M1 l b) : popP p1 M1 l w1 b o = w1.cell? ⟨b, o, none⟩ := by
  unfold popP; rw [if_pos h]

theorem frz_rel {p1 : Pst} {M1 : Mu} {l : Lvl} {H1 : Heap} {w1 : World} (h : HRel p1 M1 (l :: H1) w1) : ∀ (n : Nat) (v : AV) (c : Value), VRel p1 M1 v c → VRel (popP p1 M1 l w1) (M1.up 1) (frzV l.bs n v) c
  | 0, v, c, _ => .undef c
  | n + 1, v, c, hv => by
    have ih := frz_rel h n
    have le := popP_le h
    have cells : ∀ (i v : Nat) (r : Row) (b o t : Nat), nthBlk l.bs i = (v, .row r) → M1 0 i v = some (b, o, t) → ∃ vs : Nat → Value, (∀ j, j < r.len → popP p1 M1 l w1 b (o + j) = some (vs j)) ∧ RRel p1 M1 r vs := by
      intro i v r b o t hg hm
      obtain ⟨b', o2, t2, k1, k2, k3⟩ := h.live 0 i v (.row r) hg (by simp)
      rw [hm] at k1
      simp only [Option.some.injEq, Prod.mk.injEq] at k1
      obtain ⟨rfl, rfl, rfl⟩ := k1
      obtain ⟨vs, q1, q2⟩ := row_lies k2
      exact ⟨vs, fun j hj => by rw [popP_own ⟨i, v, r, o, t, hg, hm⟩]; exact q2 j hj, q1⟩
    have rows : ∀ (bs : List (Nat × Blk)) (g : List AV) (vs : Nat → Value), (∀ j, j < g.length → VRel p1 M1 (g.getD j .undef) (vs j)) → ∀ j, j < (g.map (frzV l.bs n)).length → VRel (popP p1 M1 l w1) (M1.up 1) ((g.map (frzV l.bs n)).getD j .undef) (vs j) := by
      intro _ g vs hg j hj
      have hj' : j < g.length := by simpa using hj
      rw [getD_map_undef _ _ _ hj']
      exact ih _ _ (hg j hj')
    have mrows : ∀ (g : List Seg) (vs : Nat → Value), (∀ j, j < lenM g → VRel p1 M1 (getM g j) (vs j)) → ∀ j, j < lenM (mapM' (frzV l.bs n) g) → VRel (popP p1 M1 l w1) (M1.up 1) (getM (mapM' (frzV l.bs n) g) j) (vs j) := by
      intro g vs hg j hj
      rw [lenM_mapM] at hj
      exact mapM_rel hj (hg j hj) (fun h => ih _ _ h)
    have marrs : ∀ (g : List Seg) (vs : Nat → Value), arrs g = true → (∀ j, j < lenM g → VRel p1 M1 (getM g j) (vs j)) → ∀ j, j < lenM g → VRel (popP p1 M1 l w1) Mu.no (getM g j) (vs j) := by
      intro g vs ha hg j hj
      obtain ⟨k, i, e⟩ := arrs_int g ha j hj
      have := hg j hj
      rw [e] at this ⊢
      exact this.anyInt _ _
    cases hv with
    | undef c => exact .undef c
    | bool b => exact .bool b
    | int k n => exact .int k n
    | str s => exact .str s
    | nilp => exact .nilp
    | nils => exact .nils
    | nilm => exact .nilm
    | nilf => exact .nilf
    | ptr hm =>
      rename_i d i ver off b o t
      cases d with
      | succ d => exact .ptr (t := t) (by simp only [Mu.up]; exact hm)
      | zero =>
        simp only [frzV]
        split
        · rename_i w r hg
          split
          · rename_i hw
            have hw : w = ver := by simpa using hw
            subst hw
            obtain ⟨vs, q1, q2⟩ := cells i w r b o t hg hm
            cases r with
            | I k g => exact .ptrT vs q1 (fun j hj => (q2 j hj).2) (fun j hj => (q2 j hj).1.anyInt _ _)
            | F f m => exact .ptrT vs q1 (fun j hj => (q2 j hj).2) (fun j hj => (q2 j hj).1.mono le (Mu.le.refl _))
            | M g =>
              dsimp only
              split
              · rename_i ha
                exact .ptrT vs q1 (fun j hj => (q2 j hj).2) (marrs g vs ha (fun j hj => (q2 j hj).1))
              · refine .ptrT vs (fun j hj => q1 j (by simpa [Row.len, lenM_mapM] using hj)) (fun j hj => (q2 j (by simpa [Row.len, lenM_mapM] using hj)).2) (fun j hj => ?_)
                exact mrows g vs (fun j hj => (q2 j hj).1) j hj
            | G g =>
              refine .ptrT vs (fun j hj => q1 j (by simpa [Row.len] using hj)) (fun j hj => (q2 j (by simpa [Row.len] using hj)).2) (fun j hj => ?_)
              exact rows l.bs g vs (fun j hj => (q2 j hj).1) j hj
          · exact .undef _
        · exact .undef _
    | slc hm hl hc hn hx =>
      rename_i d i ver off sz len b o t x cc cap
      cases d with
      | succ d => exact .slc (by simp only [Mu.up]; exact hm) hl hc hn hx
      | zero =>
        simp only [frzV]
        split
        · rename_i w r hg
          split
          · rename_i hw
            obtain ⟨hw, hfit⟩ := hw
            have hw : w = ver := by simpa using hw
            subst hw
            obtain ⟨vs, q1, q2⟩ := cells i w r b o t hg hm
            have hs := q2.sub off (len * sz) hfit
            have hsl := Row.sub_len r off (len * sz) hfit
            have q1' : ∀ j, j < (r.sub off (len * sz)).len → popP p1 M1 l w1 b (o + off + j) = some (vs (off + j)) := by
              intro j hj
              rw [hsl] at hj
              rw [Nat.add_assoc]
              exact q1 _ (by omega)
            have hfull : (cap == some len) = true → cc = len := fun e => hc len (by simpa using e)
            generalize r.sub off (len * sz) = rs at hs q1'
            cases rs with
            | I k g => exact .slcT (fun j => vs (off + j)) q1' (fun j hj => (hs j hj).2) (fun j hj => (hs j hj).1.anyInt _ _) hl hfull hx
            | F f m => exact .slcT (fun j => vs (off + j)) q1' (fun j hj => (hs j hj).2) (fun j hj => (hs j hj).1.mono le (Mu.le.refl _)) hl hfull hx
            | M g =>
              dsimp only
              split
              · rename_i ha
                exact .slcT (fun j => vs (off + j)) q1' (fun j hj => (hs j hj).2) (marrs g (fun j => vs (off + j)) ha (fun j hj => (hs j hj).1)) hl hfull hx
              · refine .slcT (fun j => vs (off + j)) (fun j hj => q1' j (by simpa [Row.len, lenM_mapM] using hj)) (fun j hj => (hs j (by simpa [Row.len, lenM_mapM] using hj)).2) (fun j hj => ?_) hl hfull hx
                exact mrows g (fun j => vs (off + j)) (fun j hj => (hs j hj).1) j hj
            | G g =>
              refine .slcT (fun j => vs (off + j)) (fun j hj => q1' j (by simpa [Row.len] using hj)) (fun j hj => (hs j (by simpa [Row.len] using hj)).2) (fun j hj => ?_) hl hfull hx
              exact rows l.bs g (fun j => vs (off + j)) (fun j hj => (hs j hj).1) j hj
          · exact .undef _
        · exact .undef _
    | ptrT vs h0 h1 hv =>
      rename_i s r off b o
      cases s with
      | none => exact .ptrT vs (fun j hj => le _ _ _ (h0 j hj)) h1 (fun j hj => (hv j hj).mono le (Mu.le.refl _))
      | some s =>
        cases s with
        | succ s => exact .ptrT vs (fun j hj => le _ _ _ (h0 j hj)) h1 (fun j hj => (hv j hj).mono le (by rw [show muT M1 (some (s + 1)) = muT (M1.up 1) (some s) from (Mu.up_up M1 1 s).symm]; exact Mu.le.refl _))
        | zero =>
          cases r with
          | I k g => exact .ptrT vs (fun j hj => le _ _ _ (h0 j hj)) h1 (fun j hj => (hv j hj).anyInt _ _)
          | F f m => exact .ptrT vs (fun j hj => le _ _ _ (h0 j hj)) h1 (fun j hj => (hv j hj).mono le (Mu.le.refl _))
          | M g =>
            simp only [frzV]
            split
            · rename_i ha
              exact .ptrT vs (fun j hj => le _ _ _ (h0 j hj)) h1 (marrs g vs ha (fun j hj => hv j hj))
            · refine .ptrT vs (fun j hj => le _ _ _ (h0 j (by simpa [Row.len, lenM_mapM] using hj))) (fun j hj => h1 j (by simpa [Row.len, lenM_mapM] using hj)) (fun j hj => ?_)
              exact mrows g vs (fun j hj => hv j hj) j hj
          | G g =>
            refine .ptrT vs (fun j hj => le _ _ _ (h0 j (by simpa [Row.len] using hj))) (fun j hj => h1 j (by simpa [Row.len] using hj)) (fun j hj => ?_)
            exact rows l.bs g vs (fun j hj => hv j hj) j hj
    | slcT vs h0 h1 hv hl hf hx =>
      rename_i s r sz len b o x cc full
      cases s with
      | none => exact .slcT vs (fun j hj => le _ _ _ (h0 j hj)) h1 (fun j hj => (hv j hj).mono le (Mu.le.refl _)) hl hf hx
      | some s =>
        cases s with
        | succ s => exact .slcT vs (fun j hj => le _ _ _ (h0 j hj)) h1 (fun j hj => (hv j hj).mono le (by rw [show muT M1 (some (s + 1)) = muT (M1.up 1) (some s) from (Mu.up_up M1 1 s).symm]; exact Mu.le.refl _)) hl hf hx
        | zero =>
          cases r with
          | I k g => exact .slcT vs (fun j hj => le _ _ _ (h0 j hj)) h1 (fun j hj => (hv j hj).anyInt _ _) hl hf hx
          | F f m => exact .slcT vs (fun j hj => le _ _ _ (h0 j hj)) h1 (fun j hj => (hv j hj).mono le (Mu.le.refl _)) hl hf hx
          | M g =>
            simp only [frzV]
            split
            · rename_i ha
              exact .slcT vs (fun j hj => le _ _ _ (h0 j hj)) h1 (marrs g vs ha (fun j hj => hv j hj)) hl hf hx
            · refine .slcT vs (fun j hj => le _ _ _ (h0 j (by simpa [Row.len, lenM_mapM] using hj))) (fun j hj => h1 j (by simpa [Row.len, lenM_mapM] using hj)) (fun j hj => ?_) hl hf hx
              exact mrows g vs (fun j hj => hv j hj) j hj
          | G g =>
            refine .slcT vs (fun j hj => le _ _ _ (h0 j (by simpa [Row.len] using hj))) (fun j hj => h1 j (by simpa [Row.len] using hj)) (fun j hj => ?_) hl hf hx
            exact rows l.bs g vs (fun j hj => hv j hj) j hj
    | slcN =>
      rename_i s r sz full
      cases s with
      | none => exact .slcN
      | some s =>
        cases s with
        | succ s => exact .slcN
        | zero =>
          simp only [frzV]
          cases r with
          | M g =>
            dsimp only
            split <;> exact .slcN
          | _ => exact .slcN
    | map hm =>
      rename_i d i b o t
      cases d with
      | succ d => exact .map (by simp only [Mu.up]; exact hm)
      | zero => exact .undef _
    | yld hm =>
      rename_i d i b o t
      cases d with
      | succ d => exact .yld (by simp only [Mu.up]; exact hm)
      | zero => exact .undef _
    | fn ha hb va vb =>
      rename_i f a b ca cb
      refine .fn (by simpa using ha) (by simpa using hb) (rows l.bs a (fun j => ca.getD j Go.undef) va) (rows l.bs b (fun j => cb.getD j Go.undef) vb)
    | agg hs h1 hv =>
      rename_i r cs
      cases r with
      | I k g => exact .agg hs h1 (fun j hj => (hv j hj).anyInt _ _)
      | F f m => exact .agg hs h1 (fun j hj => (hv j hj).mono le (Mu.le.refl _))
      | M g =>
        refine .agg (by simpa [Row.len, lenM_mapM] using hs) (fun j hj => h1 j (by simpa [Row.len, lenM_mapM] using hj)) (fun j hj => ?_)
        exact mrows g (fun j => cs.getD j Go.undef) (fun j hj => hv j hj) j hj
      | G g =>
        refine .agg (by simpa [Row.len] using hs) (fun j hj => h1 j (by simpa [Row.len] using hj)) (fun j hj => ?_)
        exact rows l.bs g (fun j => cs.getD j Go.undef) (fun j hj => hv j hj) j hj
    | tup hs hv =>
      rename_i g cs
      exact .tup (by simpa using hs) (rows l.bs g (fun j => cs.getD j Go.undef) hv)

/-- The level of an activation that has ended is gone. -/
theorem Evo.pop {p p1 : Pst} {M M1 : Mu} {H H1 : Heap} {l : Lvl} {w w1 : World} (h : Evo p (muDown M) (⟨false, []⟩ :: H) w p1 M1 (l :: H1) w1) : Evo p M H w (popP p1 M1 l w1) (M1.up 1) H1 w1 where
  pst := h.pst.trans (popP_le h.rel)
  mu := fun d i v t hm => h.mu (d + 1) i v t hm
  rel := by
    have le := popP_le h.rel
    refine ⟨?_, ?_, ?_, ?_⟩
    · intro b o v hp
      unfold popP at hp
      split at hp
      · exact hp
      · exact h.rel.pers b o v hp
    · intro d i v B hg hB
      obtain ⟨b, o, t, k1, k2, k3⟩ := h.rel.live (d + 1) i v B hg hB
      refine ⟨b, o, t, k1, ?_, fun x => ?_⟩
      · rw [Mu.up_up]
        exact k2.mono le (Mu.le.refl _) rfl
      · unfold popP
        rw [if_neg]
        · exact k3 x
        · rintro ⟨i', v', r, o', t', hg', hm'⟩
          have := h.rel.apart (d + 1) i v B 0 i' v' (.row r) b o t o' t' hg hB hg' (by simp) k1 hm'
          omega
    · intro d i v B d' i' v' B' b o t o' t' hg hB hg' hB' hm hm'
      have := h.rel.apart (d + 1) i v B (d' + 1) i' v' B' b o t o' t' hg hB hg' hB' hm hm'
      exact ⟨by omega, this.2⟩
    · intro d i v t hm
      exact h.rel.dom (d + 1) i v t hm
  stay := h.stay.weaken (fun b _ hk d i v B hg hB hl o t hm => by
    cases d with
    | zero => simp [muDown] at hm
    | succ d => exact hk d i v B hg hB hl o t hm)
  keep := fun b hb hk => by
    have k0 : Go.Eng.keep (muDown M) (⟨false, []⟩ :: H) b := fun d i v B hg hB hl o t hm => by
      cases d with
      | zero => simp [muDown] at hm
      | succ d => exact hk d i v B hg hB hl o t hm
    have k1 := h.keep b hb k0
    exact fun d i v B hg hB hl o t hm => k1 (d + 1) i v B hg hB hl o t hm
  fresh := fun b o v hv => by
    unfold popP at hv
    split at hv
    · rename_i ho
      obtain ⟨i, v', r, o', t, hg, hm⟩ := ho
      rcases h.own 0 i v' b o' t hm with h1 | ⟨d', i', v2, o2, t2, hd, h1⟩
      · exact .inr h1
      · obtain rfl : d' = 0 := by omega
        simp [muDown] at h1
    · exact h.fresh b o v hv
  own := fun d i v b o t hm => by
    rcases h.own (d + 1) i v b o t hm with h1 | ⟨d', i', v2, o2, t2, hd, h1⟩
    · exact .inl h1
    · cases d' with
      | zero => simp [muDown] at h1
      | succ d' => exact .inr ⟨d', i', v2, o2, t2, by omega, h1⟩
  lock := fun d => h.lock (d + 1)
  same := fun d i _ hl => h.same (d + 1) i (by omega) hl
  next := fun d _ hl => h.next (d + 1) (by omega) hl
  len := by have := h.len; simpa using this
  grow := fun d => h.grow (d + 1)
  new := fun d i v t hm => h.new (d + 1) i v t hm

end Go.Eng
