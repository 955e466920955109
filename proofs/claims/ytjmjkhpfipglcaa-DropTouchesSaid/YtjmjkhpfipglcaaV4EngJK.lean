/- The engine, part J: marks; cutting a level back. -/
import Derived.Test.YtjmjkhpfipglcaaV4EngHI
import Derived.LoopNIn
section
namespace Go.Eng
set_option linter.unusedVariables false
set_option linter.unusedSimpArgs false

/-- The marks of the loops over functions that an activation has entered: each names a block of its own in which no deferred call lies. -/
def Marks (n0 : Nat) (M : Mu) (H : Heap) (w : World) (ds : List Deferred) : Prop :=
  ∃ rs : List Nat, ds = rs.map (fun r => { target := .collected r, args := #[] }) ∧ rs.Nodup ∧ n0 ≤ w.heap.size ∧ ∀ r ∈ rs, w.heap[r]? = some (.deferred (some [])) ∧ keep M H r ∧ n0 ≤ r

theorem Marks.nil (M : Mu) (H : Heap) (w : World) : Marks w.heap.size M H w [] := ⟨[], rfl, List.nodup_nil, Nat.le_refl _, fun r hr => by simp at hr⟩
theorem Marks.evo {p p' : Pst} {M M' : Mu} {H H' : Heap} {w w' : World} {n0 : Nat} {ds : List Deferred} (h : Marks n0 M H w ds) (hE : Evo p M H w p' M' H' w') : Marks n0 M' H' w' ds := by
  obtain ⟨rs, h1, h2, h0, h3⟩ := h
  refine ⟨rs, h1, h2, Nat.le_trans h0 hE.stay.size, fun r hr => ?_⟩
  obtain ⟨k1, k2, k3⟩ := h3 r hr
  have hlt : r < w.heap.size := (Array.getElem?_eq_some_iff.1 k1).1
  exact ⟨by rw [hE.stay.block r hlt k2]; exact k1, hE.keep r hlt k2, k3⟩

/-! ### Cutting back -/
def cutMu (n : Nat) (M : Mu) : Mu := fun d i v => if d = 0 ∧ n ≤ i then none else M d i v
theorem cutMu_le (n : Nat) (M : Mu) : Mu.le (cutMu n M) M := fun d i v t h => by
  simp only [cutMu] at h
  split at h
  · cases h
  · exact h
theorem cutMu_up (n k : Nat) (M : Mu) (hk : 0 < k) : (cutMu n M).up k = M.up k := by
  funext d i v
  simp only [Mu.up, cutMu]
  rw [if_neg (by omega)]

theorem refS_rel {p : Pst} {M : Mu} {n : Nat} {v : AV} {c : Value} (hr : refS n v = false) (h : VRel p M v c) : VRel p (cutMu n M) v c := by
  have here : ∀ {d i : Nat}, (Nat.beq d 0 && Nat.ble n i) = false → ∀ ver, cutMu n M d i ver = M d i ver := by
    intro d i e ver
    simp only [cutMu]
    rw [if_neg]
    rintro ⟨rfl, h2⟩
    have : Nat.ble n i = true := by simpa using h2
    simp [this] at e
  cases h with
  | undef c => exact .undef c
  | bool b => exact .bool b
  | int k n => exact .int k n
  | str s => exact .str s
  | nilp => exact .nilp
  | nils => exact .nils
  | nilm => exact .nilm
  | nilf => exact .nilf
  | ptr h => exact .ptr (by rw [here hr]; exact h)
  | ptrT vs h0 h1 hv =>
    rename_i s r off b o
    cases s with
    | none => exact .ptrT vs h0 h1 hv
    | some s => simp [refS] at hr
  | slc h hl hc hn hx => exact .slc (by rw [here hr]; exact h) hl hc hn hx
  | slcT vs h0 h1 hv hl hf hx =>
    rename_i s r sz len b o x cc full
    cases s with
    | none => exact .slcT vs h0 h1 hv hl hf hx
    | some s => simp [refS] at hr
  | slcN => exact .slcN
  | map h => exact .map (by rw [here hr]; exact h)
  | yld h => exact .yld (by rw [here hr]; exact h)
  | fn => simp [refS] at hr
  | agg hs h1 hv =>
    rename_i r cs
    cases r with
    | I k l => exact .agg hs h1 (fun j hj => (hv j hj).anyInt _ _)
    | F f m => exact .agg hs h1 hv
    | G l => simp [refS] at hr
    | M l => exact .agg hs h1 (RRel.arrs (by simpa [refS] using hr) hv)
  | tup hs hv =>
    rename_i l cs
    cases l with
    | nil => exact .tup hs (fun j hj => absurd hj (by simp))
    | cons => simp [refS] at hr

theorem anyM_rel {p q : Pst} {M N : Mu} {f : AV → Bool} : ∀ {l : List Seg} {vs : Nat → Value}, anyM f l = false → (∀ v c, f v = false → VRel p M v c → VRel q N v c) → (∀ j, j < lenM l → VRel p M (getM l j) (vs j)) → ∀ j, j < lenM l → VRel q N (getM l j) (vs j)
  | [], _, _, _, _, j, hj => by simp [lenM] at hj
  | .one v :: r, vs, hr, hf, hv, 0, hj => by
    simp only [anyM, Bool.or_eq_false_iff] at hr
    exact hf _ _ hr.1 (hv 0 hj)
  | .one v :: r, vs, hr, hf, hv, j + 1, hj => by
    simp only [anyM, Bool.or_eq_false_iff] at hr
    have hj' : j < lenM r := by simp [lenM, segLen] at hj; omega
    exact anyM_rel (vs := fun j => vs (j + 1)) hr.2 hf (fun j hj => hv (j + 1) (by simp [lenM, segLen]; omega)) j hj'
  | .arr k z n :: r, vs, hr, hf, hv, j, hj => by
    have h0 := hv j hj
    simp only [getM] at h0 ⊢
    by_cases e : j < n
    · rw [if_pos e] at h0 ⊢; exact h0.anyInt _ _
    · rw [if_neg e] at h0 ⊢
      have hj' : j - n < lenM r := by simp [lenM, segLen] at hj; omega
      have := anyM_rel (p := p) (M := M) (q := q) (N := N) (l := r) (vs := fun i => vs (i + n)) hr hf (fun i hi => by
        have := hv (i + n) (by simp [lenM, segLen]; omega)
        simp only [getM] at this
        rw [if_neg (by omega), Nat.add_sub_cancel] at this
        exact this) (j - n) hj'
      rw [Nat.sub_add_cancel (by omega)] at this
      exact this
theorem refV_rel {p : Pst} {M : Mu} {n : Nat} {v : AV} {c : Value} (hr : refV n v = false) (h : VRel p M v c) : VRel p (cutMu n M) v c := by
  have getF : ∀ {l : List AV} {j : Nat}, l.any (refS n) = false → j < l.length → refS n (l.getD j .undef) = false := by
    intro l j h hj
    have := List.any_eq_false.1 h (l.getD j .undef) (by simp [hj])
    simpa using this
  cases v with
  | agg r =>
    cases r with
    | G l =>
      cases h with
      | agg hs h1 hv => exact .agg hs h1 (fun j hj => refS_rel (getF hr hj) (hv j hj))
    | I k l => exact refS_rel hr h
    | F f m => exact refS_rel hr h
    | M l =>
      cases h with
      | agg hs h1 hv => exact .agg hs h1 (anyM_rel hr (fun v c e h => refS_rel e h) hv)
  | fn f x y =>
    cases h with
    | fn hx hy vx vy =>
      simp only [refV, Bool.or_eq_false_iff] at hr
      exact .fn hx hy (fun j hj => refS_rel (getF hr.1 hj) (vx j hj)) (fun j hj => refS_rel (getF hr.2 hj) (vy j hj))
  | undef => exact refS_rel hr h
  | bool => exact refS_rel hr h
  | int => exact refS_rel hr h
  | str => exact refS_rel hr h
  | nilp => exact refS_rel hr h
  | nils => exact refS_rel hr h
  | nilm => exact refS_rel hr h
  | nilf => exact refS_rel hr h
  | ptr => exact refS_rel hr h
  | ptrT => exact refS_rel hr h
  | slc => exact refS_rel hr h
  | slcT => exact refS_rel hr h
  | map => exact refS_rel hr h
  | yld => exact refS_rel hr h
  | tup => exact refS_rel hr h

theorem refB_rel {p : Pst} {M : Mu} {n : Nat} {B : Blk} {b o t : Nat} {w : World} (hr : refB n B = false) (h : BRel p M B b o t w) : BRel p (cutMu n M) B b o t w := by
  cases B with
  | dead => trivial
  | row r =>
    obtain ⟨c, e, e1, e2, e3, e4⟩ := h
    refine ⟨c, e, e1, e2, e3, fun j hj => ?_⟩
    cases r with
    | I k l => exact ⟨(e4 j hj).1.anyInt _ _, (e4 j hj).2⟩
    | F f m => exact e4 j hj
    | M l => exact ⟨anyM_rel (vs := fun j => c.getD (o + j) Go.undef) hr (fun v c e h => refV_rel e h) (fun j hj => (e4 j hj).1) j hj, (e4 j hj).2⟩
    | G l =>
      refine ⟨refV_rel ?_ (e4 j hj).1, (e4 j hj).2⟩
      have hj' : j < l.length := hj
      have := List.any_eq_false.1 hr (l.getD j .undef) (by simp [hj'])
      simpa [Row.get] using this
  | map es => simp [refB] at hr
  | loop l => simp [refB] at hr

theorem nthBlk_take : ∀ (l : List (Nat × Blk)) (n i : Nat), nthBlk (l.take n) i = if i < n then nthBlk l i else (0, .dead)
  | [], n, i => by simp [nthBlk]
  | b :: l, 0, i => by simp [nthBlk]
  | b :: l, n + 1, 0 => by simp [nthBlk]
  | b :: l, n + 1, i + 1 => by simp [nthBlk, nthBlk_take l n i]
theorem nthBlk_mem : ∀ {l : List (Nat × Blk)} {i : Nat}, (nthBlk l i).2 ≠ .dead → nthBlk l i ∈ l
  | [], _, h => by simp [nthBlk] at h
  | b :: l, 0, _ => by simp [nthBlk]
  | b :: l, i + 1, h => by simp only [nthBlk]; exact List.mem_cons_of_mem _ (nthBlk_mem (l := l) (i := i) h)

theorem fGet_mem : ∀ (fr : Frm) (x : Nat), fGet fr x = .undef ∨ ∃ y, (y, fGet fr x) ∈ fr
  | [], x => .inl rfl
  | (y, v) :: r, x => by
    simp only [fGet]
    split
    · exact .inr ⟨y, by simp⟩
    · rcases fGet_mem r x with h | ⟨z, h⟩
      · exact .inl h
      · exact .inr ⟨z, by simp [h]⟩

theorem cutAt_rel {p p1 : Pst} {M M1 : Mu} {H : Heap} {w w1 : World} {nt : Nat} {fr : Frm} {a : Act} {l : Lvl} {r : Heap} (hE : Evo p M H w p1 M1 (l :: r) w1) (hF : FRel p1 M1 nt fr a) {n0 : Nat} (hM : Marks n0 M1 (l :: r) w1 a.defers) (hdom : ∀ d i v t, M d i v = some t → i < hNextAt H d) :
    ∀ (k m : Nat), hNext H ≤ m → ∃ M2, Evo p M H w p1 M2 (cutAt fr l r k m) w1 ∧ FRel p1 M2 nt fr a ∧ Marks n0 M2 (cutAt fr l r k m) w1 a.defers
  | 0, m, _ => ⟨M1, hE, hF, hM⟩
  | k + 1, m, hm0 => by
    unfold cutAt
    split
    · exact cutAt_rel hE hF hM hdom k (m + 1) (by omega)
    · rename_i hno
      have hno : fr.any (fun x => refV m x.2) = false ∧ (l.bs.take m).any (fun x => refB m x.2) = false := by simpa using hno
      obtain ⟨hno1, hno2⟩ := hno
      have get : ∀ d i, hGet ({ l with bs := l.bs.take m } :: r) d i = if d = 0 ∧ m ≤ i then (0, .dead) else hGet (l :: r) d i := by
        intro d i
        cases d with
        | zero =>
          simp only [hGet, nthBlk_take]
          by_cases e : i < m
          · rw [if_pos e, if_neg (by omega)]
          · rw [if_neg e, if_pos ⟨by trivial, Nat.le_of_not_lt e⟩]
        | succ d => simp [hGet]
      have rel : HRel p1 (cutMu m M1) ({ l with bs := l.bs.take m } :: r) w1 := by
        refine ⟨hE.rel.pers, ?_, ?_, ?_⟩
        · intro d i v B hg hB
          rw [get] at hg
          split at hg
          · simp only [Prod.mk.injEq] at hg; exact absurd hg.2.symm hB
          · rename_i e
            obtain ⟨b, o, t, k1, k2, k3⟩ := hE.rel.live d i v B hg hB
            refine ⟨b, o, t, by simp only [cutMu]; rw [if_neg e]; exact k1, ?_, k3⟩
            cases d with
            | succ d => rw [cutMu_up _ _ _ (by omega)]; exact k2
            | zero =>
              refine refB_rel ?_ k2
              have hi : i < m := Nat.lt_of_not_le fun e' => e ⟨rfl, e'⟩
              have hg' : nthBlk l.bs i = (v, B) := hg
              have hm : nthBlk (l.bs.take m) i ∈ l.bs.take m := nthBlk_mem (by rw [nthBlk_take, if_pos hi, hg']; exact hB)
              rw [nthBlk_take, if_pos hi, hg'] at hm
              have := List.any_eq_false.1 hno2 _ hm
              simpa using this
        · intro d i v B d' i' v' B' b o t o' t' hg hB hg' hB' hm hm'
          rw [get] at hg hg'
          split at hg
          · simp only [Prod.mk.injEq] at hg; exact absurd hg.2.symm hB
          · split at hg'
            · simp only [Prod.mk.injEq] at hg'; exact absurd hg'.2.symm hB'
            · exact hE.rel.apart d i v B d' i' v' B' b o t o' t' hg hB hg' hB' (cutMu_le _ _ _ _ _ _ hm) (cutMu_le _ _ _ _ _ _ hm')
        · intro d i v t hm
          have h0 := hE.rel.dom d i v t (cutMu_le _ _ _ _ _ _ hm)
          have hne : ¬ (d = 0 ∧ m ≤ i) := by
            intro e
            simp only [cutMu] at hm
            rw [if_pos e] at hm
            cases hm
          rw [get, if_neg hne]
          refine ⟨?_, h0.2⟩
          cases d with
          | zero =>
            have h1 : i < l.bs.length := h0.1
            have h2 : i < m := Nat.lt_of_not_le fun e => hne ⟨rfl, e⟩
            simp only [hNextAt, List.length_take]; omega
          | succ d => exact h0.1
      have keepc : ∀ b, keep M1 (l :: r) b → keep (cutMu m M1) ({ l with bs := l.bs.take m } :: r) b := by
        intro b hk d i v B hg hB hl o t hm
        rw [get] at hg
        split at hg
        · simp only [Prod.mk.injEq] at hg; exact absurd hg.2.symm hB
        · exact hk d i v B hg hB (by cases d <;> exact hl) o t (cutMu_le _ _ _ _ _ _ hm)
      refine ⟨cutMu m M1, ⟨hE.pst, ?_, rel, hE.stay, fun b hb hk => keepc b (hE.keep b hb hk), hE.fresh, fun d i v b o t hm => hE.own d i v b o t (cutMu_le _ _ _ _ _ _ hm), fun d => ?_, fun d i hd hl => ?_, fun d hd hl => ?_, hE.len, fun d => ?_, fun d i v t hm => hE.new d i v t (cutMu_le _ _ _ _ _ _ hm)⟩, ⟨hF.size, fun x => ?_⟩, ?_⟩
      · intro d i v t hm
        have := hE.mu d i v t hm
        have h0 := hdom d i v t hm
        simp only [cutMu]
        rw [if_neg]
        · exact this
        · rintro ⟨rfl, e⟩
          rw [hNextAt_zero] at h0
          omega
      · have := hE.lock d
        cases d <;> exact this
      · rw [get, if_neg (fun e => hd e.1)]; exact hE.same d i hd hl
      · have := hE.next d hd hl
        cases d with
        | zero => exact absurd rfl hd
        | succ d => exact this
      · have := hE.grow d
        cases d with
        | zero => rw [hNextAt_zero] at this ⊢; simp only [hNextAt, List.length_take] at this ⊢; omega
        | succ d => exact this
      · rcases fGet_mem fr x with e | ⟨y, e⟩
        · rw [e]; exact .undef _
        · refine refV_rel ?_ (hF.at_ x)
          have := List.any_eq_false.1 hno1 _ e
          simpa using this
      · obtain ⟨rs, h1, h2, h0, h3⟩ := hM
        exact ⟨rs, h1, h2, h0, fun x hx => ⟨(h3 x hx).1, keepc x (h3 x hx).2.1, (h3 x hx).2.2⟩⟩

/-- A level is cut back, behind all that something that is known leads to, and behind what it was at (p, M, H, w). -/
theorem cut_rel {p p1 : Pst} {M M1 : Mu} {H H1 : Heap} {w w1 : World} {nt : Nat} {fr : Frm} {a : Act} (hE : Evo p M H w p1 M1 H1 w1) (hF : FRel p1 M1 nt fr a) {n0 : Nat} (hM : Marks n0 M1 H1 w1 a.defers) (hdom : ∀ d i v t, M d i v = some t → i < hNextAt H d) :
    ∃ M2, Evo p M H w p1 M2 (cutTo (hNext H) fr H1) w1 ∧ FRel p1 M2 nt fr a ∧ Marks n0 M2 (cutTo (hNext H) fr H1) w1 a.defers := by
  unfold cutTo
  cases H1 with
  | nil => exact ⟨M1, hE, hF, hM⟩
  | cons l r =>
    simp only
    split
    · exact ⟨M1, hE, hF, hM⟩
    · exact cutAt_rel hE hF hM hdom 4 (hNext H) (Nat.le_refl _)

end Go.Eng
end

section
namespace Go.Eng
set_option linter.unusedVariables false
set_option linter.unusedSimpArgs false

def exR : Ex → Exit
  | .normal => .normal
  | .exit id => .exit id
  | .goto l => .goto l
  | .ret => .ret

/-- Where a walk stands, marks and all. -/
def Now (n0 : Nat) (p : Pst) (M : Mu) (H : Heap) (w : World) (nt : Nat) (fr' : Frm) (H' : Heap) (a' : Act) (w' : World) : Prop :=
  ∃ p' M', Evo p M H w p' M' H' w' ∧ FRel p' M' nt fr' a' ∧ Marks n0 M' H' w' a'.defers

/-- In a round of which loop does the code run? -/
def RoOk (F : Fence) (ro : Option (Nat × Nat)) (M : Mu) : Prop :=
  match ro with
  | none => F.round = none
  | some (d, i) => ∃ l o t, F.round = some l ∧ M d i 0 = some (l, o, t)
theorem RoOk.mono {F : Fence} {ro : Option (Nat × Nat)} {M N : Mu} (h : RoOk F ro M) (hM : Mu.le M N) : RoOk F ro N := by
  cases ro with
  | none => exact h
  | some x =>
    obtain ⟨l, o, t, h1, h2⟩ := h
    exact ⟨l, o, t, h1, hM _ _ _ _ h2⟩

/-- What is shown of a piece of code: from every world that stands for (fr, H), it comes to one that stands for (fr', H'), left by e. -/
def CodeOk (P : Program) (F : Fence) (ro : Option (Nat × Nat)) (nt : Nat) (c : Code) (fr : Frm) (H : Heap) (e : Ex) (fr' : Frm) (H' : Heap) : Prop :=
  ∀ (n0 : Nat) (p : Pst) (M : Mu) (a : Act) (w : World) (Q : Exit → Act → World → Prop), FRel p M nt fr a → HRel p M H w → H ≠ [] → RoOk F ro M → Marks n0 M H w a.defers →
    (∀ a' w', Now n0 p M H w nt fr' H' a' w' → Q (exR e) a' w') → c.wpIn F 0 P Q a w

/-- What is left to show of regions that draw their order, and of loops over functions. -/
structure CodeMore (cx : Cx) (F : Fence) : Prop where
  draw : ∀ (id : Nat) (ops : Array Oper) (fr : Frm) (H : Heap) (fr' : Frm) (H' : Heap), slotsOk ops (Region.before ops) = true → drawOps cx.P cx.nt cx.call ops (Region.before ops) 0 ops.toList fr (hPad H (pushes ops.toList)) (hNext H) [] = some (fr', H') →
    CodeOk cx.P F cx.ro cx.nt (.region id ops true) fr H .normal fr' H'
  range : ∀ (f : Operand) (params : Array Tmp) (assign body : Code) (fr : Frm) (H : Heap) (e : Ex) (fr' : Frm) (H' : Heap), exec cx (.rangeFunc f params assign body) fr H = some (e, fr', H') →
    CodeOk cx.P F cx.ro cx.nt (.rangeFunc f params assign body) fr H e fr' H'

theorem iter_rel {P : Program} {F : Fence} {ro : Option (Nat × Nat)} {nt : Nat} {c : Code} {body : Frm → Heap → Option (Ex × Frm × Heap)} (hb : ∀ fr H e fr' H', body fr H = some (e, fr', H') → CodeOk P F ro nt c fr H e fr' H')
    {n0 : Nat} {p : Pst} {M : Mu} {H : Heap} {w : World} (hH : HRel p M H w) (hne : H ≠ []) (hR : RoOk F ro M) {Q : Exit → Act → World → Prop} {e : Ex} {fr' : Frm} {H' : Heap} (hQ : ∀ a' w', Now n0 p M H w nt fr' H' a' w' → Q (exR e) a' w') :
    ∀ (fu : Nat) (fr1 : Frm) (H1 : Heap), iter body (hNext H) fu fr1 H1 = some (e, fr', H') → ∀ (a1 : Act) (w1 : World), Now n0 p M H w nt fr1 H1 a1 w1 → Code.roundsIn F 0 P c Q fu a1 w1
  | 0, fr1, H1, h, a1, w1, _ => by simp [iter] at h
  | fu + 1, fr1, H1, h, a1, w1, ⟨p1, M1, hE, hF, hM⟩ => by
    rw [roundsIn_succ]
    simp only [iter] at h
    cases hbd : body fr1 H1 with
    | none => rw [hbd] at h; simp at h
    | some r =>
      obtain ⟨e2, fr2, H2⟩ := r
      rw [hbd] at h
      have hc := hb _ _ _ _ _ hbd
      refine hc n0 p1 M1 a1 w1 _ hF hE.rel (hE.ne hne) (hR.mono hE.mu) hM (fun a2 w2 ⟨p2, M2, hE2, hF2, hM2⟩ => ?_)
      cases e2 with
      | normal =>
        simp only at h
        obtain ⟨M3, hE3, hF3, hM3⟩ := cut_rel (hE.trans hE2) hF2 hM2 (fun d i v t hm => (hH.dom d i v t hm).1)
        exact iter_rel hb hH hne hR hQ fu fr2 _ h a2 w2 ⟨p2, M3, hE3, hF3, hM3⟩
      | _ =>
        simp only [Option.some.injEq, Prod.mk.injEq] at h
        obtain ⟨rfl, rfl, rfl⟩ := h
        exact hQ a2 w2 ⟨p2, M2, hE.trans hE2, hF2, hM2⟩

theorem Now.trans {n0 : Nat} {p p' : Pst} {M M' : Mu} {H H' H'' : Heap} {w w' w'' : World} {nt : Nat} {fr'' : Frm} {a'' : Act} (hE : Evo p M H w p' M' H' w') (h : Now n0 p' M' H' w' nt fr'' H'' a'' w'') : Now n0 p M H w nt fr'' H'' a'' w'' :=
  let ⟨p2, M2, h1, h2, h3⟩ := h
  ⟨p2, M2, hE.trans h1, h2, h3⟩

theorem wpIn_scope {P : Program} {F : Fence} {n : Nat} {c : Code} {Q : Exit → Act → World → Prop} {a : Act} {w : World} (h : c.wpIn F n P (Exit.noGoto Q) a w) : (Code.scope c).wpIn F n P Q a w := by
  intro b k cs hro hb hr
  have h0 : (lone (b.atR a (.code (.scope c) :: k)) cs w).fenced P F := fenced_calm hb hr rfl
  obtain ⟨e, a₁, w₁, hq, harr⟩ := h b (.inScope c :: k) cs hro hb hr
  have s0 : step P (lone (b.atR a (.code (.scope c) :: k)) cs w) = .next (lone (b.atR a (.code c :: .inScope c :: k)) cs w) :=
    step_lone_go (by simp [stepG, stepG.exec, Frame.atR])
  cases e with
  | normal =>
    exact ⟨.normal, a₁, w₁, hq, .head h0 s0 (StepsIn.trans harr (.one (fenced_calm hb hr rfl) (step_lone_go (by simp [stepG, stepG.exec, Frame.atR]))))⟩
  | exit id =>
    have hx : exitTo id (.inScope c :: k) = exitTo id k := by simp [exitTo]
    exact ⟨.exit id, a₁, w₁, hq, fun k' hk => .head h0 s0 (harr.1 k' (by rw [hx]; exact hk)),
      fun hr' hk => let ⟨k₁, h1, h2⟩ := harr.2 hr' (by rw [hx]; exact hk); ⟨k₁, h1, .head h0 s0 h2⟩⟩
  | goto l => exact hq.elim
  | ret => exact ⟨_, a₁, w₁, hq, .of_steps (.one h0 s0) harr⟩
  | panic ch => exact ⟨_, a₁, w₁, hq, .of_steps (.one h0 s0) harr⟩
  | outgrown => exact ⟨_, a₁, w₁, hq, .of_steps (.one h0 s0) harr⟩

theorem exec_rel {cx : Cx} {F : Fence} (hFW : Wide F) (hN : Named cx.P) (hC : CallOk cx.P cx.call) (hX : CodeMore cx F) : ∀ (c : Code) (fr : Frm) (H : Heap) (e : Ex) (fr' : Frm) (H' : Heap), exec cx c fr H = some (e, fr', H') → CodeOk cx.P F cx.ro cx.nt c fr H e fr' H'
  | .skip, fr, H, e, fr', H', h => by
    simp only [exec, Option.some.injEq, Prod.mk.injEq] at h
    obtain ⟨rfl, rfl, rfl⟩ := h
    exact fun n0 p M a w Q hF hH hne hR hM hQ => wpIn_skip (hQ a w ⟨p, M, Evo.refl hH, hF, hM⟩)
  | .label l, fr, H, e, fr', H', h => by
    simp only [exec, Option.some.injEq, Prod.mk.injEq] at h
    obtain ⟨rfl, rfl, rfl⟩ := h
    exact fun n0 p M a w Q hF hH hne hR hM hQ => wpIn_label (hQ a w ⟨p, M, Evo.refl hH, hF, hM⟩)
  | .exit id, fr, H, e, fr', H', h => by
    simp only [exec, Option.some.injEq, Prod.mk.injEq] at h
    obtain ⟨rfl, rfl, rfl⟩ := h
    exact fun n0 p M a w Q hF hH hne hR hM hQ => wpIn_exit (hQ a w ⟨p, M, Evo.refl hH, hF, hM⟩)
  | .goto l, fr, H, e, fr', H', h => by
    simp only [exec, Option.some.injEq, Prod.mk.injEq] at h
    obtain ⟨rfl, rfl, rfl⟩ := h
    exact fun n0 p M a w Q hF hH hne hR hM hQ => wpIn_goto (hQ a w ⟨p, M, Evo.refl hH, hF, hM⟩)
  | .ret, fr, H, e, fr', H', h => by
    simp only [exec, Option.some.injEq, Prod.mk.injEq] at h
    obtain ⟨rfl, rfl, rfl⟩ := h
    exact fun n0 p M a w Q hF hH hne hR hM hQ => wpIn_ret (hQ a w ⟨p, M, Evo.refl hH, hF, hM⟩)
  | .refuse _, fr, H, e, fr', H', h => by simp [exec] at h
  | .rangeFunc f ps assign body, fr, H, e, fr', H', h => hX.range f ps assign body fr H e fr' H' h
  | .region id ops draw, fr, H, e, fr', H', h => by
    simp only [exec] at h
    split at h
    · rename_i fr1 H1 hr
      simp only [Option.some.injEq, Prod.mk.injEq] at h
      obtain ⟨rfl, rfl, rfl⟩ := h
      cases draw with
      | true =>
        simp only [if_true] at hr
        split at hr
        · rename_i hs
          have hd := hX.draw id ops fr H fr1 H1 hs hr
          intro n0 p M a w Q hF hH hne hR hM hQ
          exact hd n0 p M a w Q hF hH hne hR hM (fun a' w' ⟨p', M', k1, k2, k3⟩ => hQ a' w' ⟨p', M', k1, k2.kill _, k3⟩)
        · simp at hr
      | false =>
        simp only [Bool.false_eq_true, if_false] at hr
        intro n0 p M a w Q hF hH hne hR hM hQ
        refine wpIn_region_list (runOps_rel hFW hN hC _ fr H fr1 H1 hr p M a w hF hH hne (fun a' w' ⟨p', M', k1, k2, k3⟩ => hQ a' w' ⟨p', M', k1, k2.kill _, ?_⟩))
        rw [k3]; exact hM.evo k1
    · simp at h
  | .seq x y, fr, H, e, fr', H', h => by
    simp only [exec] at h
    intro n0 p M a w Q hF hH hne hR hM hQ
    cases hx : exec cx x fr H with
    | none => rw [hx] at h; simp at h
    | some r =>
      obtain ⟨e1, fr1, H1⟩ := r
      rw [hx] at h
      have ih := exec_rel hFW hN hC hX x fr H e1 fr1 H1 hx
      refine wpIn_seq (ih n0 p M a w _ hF hH hne hR hM (fun a1 w1 hn => ?_))
      cases e1 with
      | normal =>
        simp only at h
        obtain ⟨p1, M1, k1, k2, k3⟩ := hn
        exact exec_rel hFW hN hC hX y fr1 H1 e fr' H' h n0 p1 M1 a1 w1 Q k2 k1.rel (k1.ne hne) (hR.mono k1.mu) k3 (fun a2 w2 h2 => hQ a2 w2 (Now.trans k1 h2))
      | _ =>
        simp only [Option.some.injEq, Prod.mk.injEq] at h
        obtain ⟨rfl, rfl, rfl⟩ := h
        exact hQ a1 w1 hn
  | .cond c x y, fr, H, e, fr', H', h => by
    simp only [exec] at h
    intro n0 p M a w Q hF hH hne hR hM hQ
    have hc := hF.opd c
    split at h
    · rename_i hb
      rw [hb] at hc
      have he : a.eval c = .bool true := by generalize a.eval c = z at hc; cases hc; rfl
      exact wpIn_cond_true he (exec_rel hFW hN hC hX x fr H e fr' H' h n0 p M a w Q hF hH hne hR hM hQ)
    · rename_i hb
      rw [hb] at hc
      have he : a.eval c = .bool false := by generalize a.eval c = z at hc; cases hc; rfl
      exact wpIn_cond_false he (exec_rel hFW hN hC hX y fr H e fr' H' h n0 p M a w Q hF hH hne hR hM hQ)
    · simp at h
  | .block id b, fr, H, e, fr', H', h => by
    simp only [exec] at h
    intro n0 p M a w Q hF hH hne hR hM hQ
    cases hx : exec cx b fr H with
    | none => rw [hx] at h; simp at h
    | some r =>
      obtain ⟨e1, fr1, H1⟩ := r
      rw [hx] at h
      refine wpIn_block (exec_rel hFW hN hC hX b fr H e1 fr1 H1 hx n0 p M a w _ hF hH hne hR hM (fun a1 w1 hn => ?_))
      cases e1 with
      | exit id' =>
        simp only at h
        split at h
        · rename_i hid
          simp only [Option.some.injEq, Prod.mk.injEq] at h
          obtain ⟨rfl, rfl, rfl⟩ := h
          simp only [exR, Exit.inBlock]
          rw [if_pos (by simpa using hid)]
          exact hQ a1 w1 hn
        · rename_i hid
          simp only [Option.some.injEq, Prod.mk.injEq] at h
          obtain ⟨rfl, rfl, rfl⟩ := h
          simp only [exR, Exit.inBlock]
          rw [if_neg (by simpa using hid)]
          exact hQ a1 w1 hn
      | _ =>
        simp only [Option.some.injEq, Prod.mk.injEq] at h
        obtain ⟨rfl, rfl, rfl⟩ := h
        exact hQ a1 w1 hn
  | .loop b, fr, H, e, fr', H', h => by
    simp only [exec] at h
    intro n0 p M a w Q hF hH hne hR hM hQ
    exact wpIn_loop_rounds cx.fu (iter_rel (fun fr H e fr' H' h => exec_rel hFW hN hC hX b fr H e fr' H' h) hH hne hR hQ cx.fu fr H h a w ⟨p, M, Evo.refl hH, hF, hM⟩)
  | .scope b, fr, H, e, fr', H', h => by
    simp only [exec] at h
    intro n0 p M a w Q hF hH hne hR hM hQ
    cases hx : exec cx b fr H with
    | none => rw [hx] at h; simp at h
    | some r =>
      obtain ⟨e1, fr1, H1⟩ := r
      rw [hx] at h
      refine wpIn_scope (exec_rel hFW hN hC hX b fr H e1 fr1 H1 hx n0 p M a w _ hF hH hne hR hM (fun a1 w1 hn => ?_))
      cases e1 with
      | goto l => simp at h
      | _ =>
        simp only [Option.some.injEq, Prod.mk.injEq] at h
        obtain ⟨rfl, rfl, rfl⟩ := h
        exact hQ a1 w1 hn

end Go.Eng
end
