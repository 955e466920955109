/- The engine, part G: a slice that moves down with its block; one operation. -/
import Derived.Test.YtjmjkhpfipglcaaV2EngF
namespace Go.Eng
variable {nx : Nat}
set_option linter.unusedVariables false
set_option linter.unusedSimpArgs false

theorem hGet_pushAt : ∀ (H : Heap) (d : Nat) (b : Blk) (d' i' : Nat), hGet (hPushAt H d b) d' i' = if d' = d ∧ i' = hNextAt H d ∧ d < H.length then (0, b) else hGet H d' i'
  | [], d, b, d', i' => by simp [hPushAt]
  | l :: r, 0, b, 0, i' => by simp [hPushAt, hGet, hNextAt, nthBlk_push]
  | l :: r, 0, b, d' + 1, i' => by simp [hPushAt, hGet]
  | l :: r, d + 1, b, 0, i' => by simp [hPushAt, hGet]
  | l :: r, d + 1, b, d' + 1, i' => by simp [hPushAt, hGet, hNextAt, hGet_pushAt r d b d' i']
theorem hNextAt_pushAt : ∀ (H : Heap) (d : Nat) (b : Blk) (d' : Nat), hNextAt (hPushAt H d b) d' = if d' = d ∧ d < H.length then hNextAt H d + 1 else hNextAt H d'
  | [], d, b, d' => by simp [hPushAt]
  | l :: r, 0, b, 0 => by simp [hPushAt, hNextAt]
  | l :: r, 0, b, d' + 1 => by simp [hPushAt, hNextAt]
  | l :: r, d + 1, b, 0 => by simp [hPushAt, hNextAt]
  | l :: r, d + 1, b, d' + 1 => by simp [hPushAt, hNextAt, hNextAt_pushAt r d b d']
theorem hLock_pushAt : ∀ (H : Heap) (d : Nat) (b : Blk) (d' : Nat), hLock (hPushAt H d b) d' = hLock H d'
  | [], d, b, d' => rfl
  | l :: r, 0, b, 0 => rfl
  | l :: r, 0, b, d' + 1 => rfl
  | l :: r, d + 1, b, 0 => rfl
  | l :: r, d + 1, b, d' + 1 => hLock_pushAt r d b d'
theorem setBlk_push : ∀ (l : List (Nat × Blk)) (i : Nat) (x y : Nat × Blk), i < l.length → setBlk (l ++ [y]) i x = setBlk l i x ++ [y]
  | [], i, x, y, h => by simp at h
  | b :: l, 0, x, y, h => rfl
  | b :: l, i + 1, x, y, h => by simp [setBlk, setBlk_push l i x y (by simpa using h)]
theorem hSet_pushAt : ∀ (H : Heap) (d i : Nat) (x : Nat × Blk) (b : Blk), i < hNextAt H d → hPushAt (hSet H d i x) d b = hSet (hPushAt H d b) d i x
  | [], d, i, x, b, h => by simp [hNextAt] at h
  | l :: r, 0, i, x, b, h => by simp [hSet, hPushAt, setBlk_push _ _ _ _ (show i < l.bs.length from h)]
  | l :: r, d + 1, i, x, b, h => by simp [hSet, hPushAt, hSet_pushAt r d i x b h]
theorem hNextAt_len : ∀ (H : Heap) (d : Nat), 0 < hNextAt H d → d < H.length
  | [], d, h => by simp [hNextAt] at h
  | l :: r, 0, h => by simp
  | l :: r, d + 1, h => by have := hNextAt_len r d h; simp; omega
theorem hNextAt_kill (H : Heap) (d i d' : Nat) : hNextAt (hKill H d i) d' = hNextAt H d' := hNextAt_set _ _ _ _ _
theorem hLock_kill (H : Heap) (d i d' : Nat) : hLock (hKill H d i) d' = hLock H d' := hLock_set _ _ _ _ _
theorem hKill_len (H : Heap) (d i : Nat) : (hKill H d i).length = H.length := hSet_len _ _ _ _
theorem hPushAt_len : ∀ (H : Heap) (d : Nat) (b : Blk), (hPushAt H d b).length = H.length
  | [], _, _ => rfl
  | l :: r, 0, _ => rfl
  | l :: r, d + 1, b => by simp [hPushAt, hPushAt_len r d b]

/-- An own row moves down to the level at distance d. -/
theorem HRel.move {p : Pst} {M : Mu} {H : Heap} {w : World} (h : HRel p M H w) {j ver d b o t : Nat} {q : Row} (hq : hRow H 0 j ver = some q) (hm : M 0 j ver = some (b, o, t)) (hl : hLock H 0 = false) (hld : hLock H d = false) (hd : d < H.length) (hd0 : d ≠ 0) :
    Evo p M H w p (muSet M d (hNextAt H d) 0 (b, o, t)) (hPushAt (hKill H 0 j) d (.row (dnR d q))) w := by
  have hg := hRow_some hq
  obtain ⟨b', o', t', k1, k2, k3⟩ := h.live _ _ _ _ hg (by simp)
  rw [hm] at k1
  simp only [Option.some.injEq, Prod.mk.injEq] at k1
  obtain ⟨rfl, rfl, rfl⟩ := k1
  have hle : Mu.le M (muSet M d (hNextAt H d) 0 (b, o, t)) := muSet_le fun u hu => by
    have := (h.dom _ _ _ _ hu).1
    omega
  have hk := h.kill 0 j
  have hB : BRel p ((muSet M d (hNextAt H d) 0 (b, o, t)).up d) (.row (dnR d q)) b o t w := by
    obtain ⟨c, e, e1, e2, e3, e4⟩ := k2
    refine ⟨c, e, e1, e2, by rw [dnR_len]; exact e3, ?_⟩
    have e5 : RRel p M q (fun j => c.getD (o + j) Go.undef) := e4
    have e6 := e5.dnR (k := d)
    exact fun x hx => ⟨(e6 x hx).1.mono (Pst.le.refl _) ((hle.up d).muR _), (e6 x hx).2⟩
  have get : ∀ d1 i1, hGet (hPushAt (hKill H 0 j) d (.row (dnR d q))) d1 i1 = if d1 = d ∧ i1 = hNextAt H d then (0, .row (dnR d q)) else if d1 = 0 ∧ i1 = j then ((hGet H 0 j).1, .dead) else hGet H d1 i1 := by
    intro d1 i1
    rw [hGet_pushAt, hNextAt_kill, hKill_len, hGet_kill]
    by_cases e : d1 = d ∧ i1 = hNextAt H d
    · rw [if_pos ⟨e.1, e.2, hd⟩, if_pos e]
    · rw [if_neg (fun x => e ⟨x.1, x.2.1⟩), if_neg e]
  -- no other block leads to b
  have other : ∀ d1 i1 v1 B1 o1 t1, hGet H d1 i1 = (v1, B1) → B1 ≠ .dead → M d1 i1 v1 = some (b, o1, t1) → d1 = 0 ∧ i1 = j := by
    intro d1 i1 v1 B1 o1 t1 g1 n1 m1
    have := h.apart d1 i1 v1 B1 0 j ver (.row q) b o1 t1 o t g1 n1 hg (by simp) m1 hm
    exact this
  refine ⟨Pst.le.refl _, hle, ⟨h.pers, ?_, ?_, ?_⟩, Stay.refl _ _, ?_, fun b o v hv => .inl hv, ?_, fun d' => by rw [hLock_pushAt, hLock_kill], ?_, ?_, by rw [hPushAt_len, hKill_len], fun d1 => ?_, fun d1 i1 v1 u hu => ?_⟩
  · intro d1 i1 v1 B1 g1 n1
    rw [get] at g1
    split at g1
    · rename_i e
      obtain ⟨rfl, rfl⟩ := e
      simp only [Prod.mk.injEq] at g1
      obtain ⟨rfl, rfl⟩ := g1
      exact ⟨b, o, t, by simp [muSet], hB, k3⟩
    · split at g1
      · simp only [Prod.mk.injEq] at g1; exact absurd g1.2.symm n1
      · obtain ⟨b1, o1, t1, j1, j2, j3⟩ := h.live _ _ _ _ g1 n1
        exact ⟨b1, o1, t1, hle _ _ _ _ j1, j2.mono (Pst.le.refl _) (hle.up _) rfl, j3⟩
  · intro d1 i1 v1 B1 d2 i2 v2 B2 bb o1 t1 o2 t2 g1 n1 g2 n2 m1 m2
    rw [get] at g1 g2
    simp only [muSet] at m1 m2
    split at g1
    · rename_i e1
      obtain ⟨rfl, rfl⟩ := e1
      simp only [Prod.mk.injEq] at g1
      obtain ⟨rfl, rfl⟩ := g1
      simp at m1
      split at g2
      · rename_i e2; exact ⟨e2.1.symm, e2.2.symm⟩
      · rename_i e2
        rw [if_neg (fun x => e2 ⟨x.1, x.2.1⟩)] at m2
        split at g2
        · simp only [Prod.mk.injEq] at g2; exact absurd g2.2.symm n2
        · rename_i e3
          exact absurd (other d2 i2 v2 B2 o2 t2 g2 n2 (by rw [m2, m1.1])) e3
    · rename_i e1
      rw [if_neg (fun x => e1 ⟨x.1, x.2.1⟩)] at m1
      split at g1
      · simp only [Prod.mk.injEq] at g1; exact absurd g1.2.symm n1
      · rename_i e3
        split at g2
        · rename_i e2
          obtain ⟨rfl, rfl⟩ := e2
          simp only [Prod.mk.injEq] at g2
          obtain ⟨rfl, rfl⟩ := g2
          simp at m2
          exact absurd (other d1 i1 v1 B1 o1 t1 g1 n1 (by rw [m1, m2.1])) e3
        · rename_i e2
          rw [if_neg (fun x => e2 ⟨x.1, x.2.1⟩)] at m2
          split at g2
          · simp only [Prod.mk.injEq] at g2; exact absurd g2.2.symm n2
          · exact h.apart d1 i1 v1 B1 d2 i2 v2 B2 bb o1 t1 o2 t2 g1 n1 g2 n2 m1 m2
  · intro d1 i1 v1 u hu
    simp only [muSet] at hu
    rw [hNextAt_pushAt, hNextAt_kill, hNextAt_kill, hKill_len, get]
    split at hu
    · rename_i e
      obtain ⟨rfl, rfl, rfl⟩ := e
      rw [if_pos ⟨rfl, hd⟩, if_pos ⟨rfl, rfl⟩]
      exact ⟨by omega, Nat.le_refl _⟩
    · have := h.dom d1 i1 v1 u hu
      refine ⟨by split; · rename_i e; rw [e.1] at this; omega
                 · exact this.1, ?_⟩
      split
      · rename_i e
        obtain ⟨rfl, rfl⟩ := e
        omega
      · split
        · rename_i e
          obtain ⟨rfl, rfl⟩ := e
          exact this.2
        · exact this.2
  · intro x hx hkx d1 i1 v1 B1 g1 n1 l1 o1 t1 m1
    rw [hLock_pushAt, hLock_kill] at l1
    rw [get] at g1
    simp only [muSet] at m1
    split at g1
    · rename_i e
      obtain ⟨rfl, rfl⟩ := e
      simp only [Prod.mk.injEq] at g1
      obtain ⟨rfl, rfl⟩ := g1
      simp at m1
      exact hkx 0 j ver (.row q) hg (by simp) hl o t (by rw [hm, m1.1])
    · rename_i e
      rw [if_neg (fun y => e ⟨y.1, y.2.1⟩)] at m1
      split at g1
      · simp only [Prod.mk.injEq] at g1; exact absurd g1.2.symm n1
      · exact hkx d1 i1 v1 B1 g1 n1 l1 o1 t1 m1
  · intro d1 i1 v1 b1 o1 t1 m1
    simp only [muSet] at m1
    split at m1
    · simp only [Option.some.injEq, Prod.mk.injEq] at m1
      exact .inr ⟨0, _, _, _, _, Nat.zero_le _, by rw [← m1.1]; exact hm⟩
    · exact .inr ⟨_, _, _, _, _, Nat.le_refl _, m1⟩
  · intro d1 i1 hd1 hl1
    rw [get, if_neg (by rintro ⟨rfl, _⟩; rw [hld] at hl1; simp at hl1), if_neg (fun e => hd1 e.1)]
  · intro d1 hd1 hl1
    rw [hNextAt_pushAt, hNextAt_kill, hNextAt_kill, if_neg]
    rintro ⟨rfl, _⟩; rw [hld] at hl1; simp at hl1
  · rw [hNextAt_pushAt, hNextAt_kill, hNextAt_kill]
    split
    · rename_i e; rw [e.1]; omega
    · exact Nat.le_refl _
  · simp only [muSet] at hu
    split at hu
    · rename_i e; obtain ⟨rfl, rfl, rfl⟩ := e
      exact .inr (.inl (Nat.le_refl _))
    · exact .inl hu

theorem store_rel' {P : Program} {p : Pst} {M : Mu} {H : Heap} {t : TypeId} {a x : AV} {ca cx : Value} {δ : Delta} {w : World} (h : storeV P H t a x = some δ)
    (ha : VRel p M a ca) (hx : VRel p M x cx) (hH : HRel p M H w) :
    ∃ w', (Instr.storeAt t ca cx).run P w = .ok () w' ∧ DRel p M H nx (.tup []) δ Go.undef w w' := by
  by_cases hδ : ∃ H', δ = .heap H'
  · obtain ⟨H', rfl⟩ := hδ
    unfold storeV at h
    cases ha <;> try (simp at h; done)
    rename_i d i ver off b o tt hm
    simp only at h
    split at h
    · simp at h
    · rename_i hl
      have hl : hLock H d = false := by simpa using hl
      cases hr : hRow H d i ver with
      | none => rw [hr] at h; simp at h
      | some r =>
        cases hs : sizeT P t with
        | none => rw [hr, hs] at h; simp at h
        | some n =>
          cases hq : x.row with
          | none => rw [hr, hs, hq] at h; simp at h
          | some q =>
            rw [hr, hs, hq] at h
            simp only at h
            split at h
            · rename_i hfit
              split at h
              · rename_i d' j ver' o' sz len cap _
                split at h
                · simp at h
                · rename_i hl0
                  have hl0 : hLock H 0 = false := by simpa using hl0
                  cases hq0 : hRow H 0 j ver' with
                  | none => rw [hq0] at h; simp at h
                  | some q0 =>
                    rw [hq0] at h
                    simp only [Option.some.injEq, Delta.heap.injEq] at h
                    cases hx with
                    | slc hmu hlc hc hnn hxx =>
                      rename_i bq oq tq xq cc
                      have hi : i < hNextAt H (d' + 1) := hGet_lt (by rw [hRow_some hr]; simp)
                      have hlen := hNextAt_len H (d' + 1) (by omega)
                      have mv := hH.move hq0 hmu hl0 hl hlen (by omega)
                      have m1 := mv.mu
                      have m2 := mv.rel
                      have hgr : hRow (hPushAt (hKill H 0 j) (d' + 1) (.row (dnR (d' + 1) q0))) (d' + 1) i ver = some r := by
                        unfold hRow
                        rw [hGet_pushAt, hNextAt_kill, if_neg (by omega), hGet_kill, if_neg (by omega), hRow_some hr]
                        simp
                      have hqn : q.len = 1 := by simp [AV.row] at hq; subst hq; rfl
                      have hv : VRel p ((muSet M (d' + 1) (hNextAt H (d' + 1)) 0 (bq, oq, tq)).up (d' + 1)) (.slc 0 (hNextAt H (d' + 1)) 0 o' sz len cap) (.slice (some ⟨bq, xq, none⟩) len cc) :=
                        .slc (by simp [Mu.up, muSet]) hlc hc hnn hxx
                      obtain ⟨w', s1, s2⟩ := setB_rel m2 (off := off) (q := .G [.slc 0 (hNextAt H (d' + 1)) 0 o' sz len cap]) (cs := #[.slice (some ⟨bq, xq, none⟩) len cc]) hgr (by rw [hLock_pushAt, hLock_kill]; exact hl) (m1 _ _ _ _ hm)
                        (fun y hy => by
                          obtain rfl : y = 0 := by simpa [Row.len] using hy
                          exact ⟨hv, rfl⟩) rfl (by show off + 1 ≤ r.len; omega) P (.tup []) Go.undef (.tup rfl (fun j hj => absurd hj (by simp)))
                      refine ⟨w', ?_, ?_⟩
                      · simp only [Instr.storeAt, Instr.sureAddr, Sem.run_bind, Result.andThen, Sem.run_pure, storeVar, run_sizeOf_of hs]
                        rw [if_neg (by simp [Value.cells]; omega)]
                        simpa [Sem.run_bind, Result.andThen, Value.cells] using s1
                      · obtain ⟨p', M', n1, n2⟩ := drel_on (by intro e; rw [e] at hgr; simp [hRow, hGet] at hgr) m2 s2
                        refine ⟨p', M', ?_, n2⟩
                        rw [← h, hSet_pushAt _ _ _ _ _ (by rw [hNextAt_kill]; exact hi)]
                        exact mv.trans n1
              · simp at h
            · simp at h
  · exact store_rel h (fun H' e => hδ ⟨H', e⟩) ha hx hH

end Go.Eng
