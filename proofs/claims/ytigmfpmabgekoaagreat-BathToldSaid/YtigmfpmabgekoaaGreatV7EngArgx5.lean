/- The engine: a law's arguments as abstract values. -/
import Derived.Test.YtigmfpmabgekoaaGreatV7EngKtBx2
import Derived.Test.YtigmfpmabgekoaaGreatV7EngTgx2
import Derived.Test.YtigmfpmabgekoaaGreatV7EngOrax2
import Derived.Maps.RangeRun
section
namespace Go.Eng
open Go.ChangeShapes
set_option linter.unusedVariables false
set_option linter.unusedSimpArgs false

/-- All that lies in a world when a call begins. -/
def Pw (w : World) : Pst := fun b o => w.cell? ⟨b, o, none⟩
theorem HRel.all (w : World) : HRel (Pw w) Mu.no [⟨true, []⟩] w where
  pers := fun b o v h => h
  live := fun d i v B hg hB => by
    cases d <;> simp [hGet, nthBlk] at hg <;> exact absurd hg.2.symm hB
  apart := fun d i v B d' i' v' B' b o t o' t' hg hB hg' hB' hm hm' => by cases hm
  dom := fun d i v t hm => by cases hm

/-- A law's call that answers a boolean. -/
theorem calls_law {P : Program} {call : CallT} (hC : CallOk P call) {f : FuncId} {args : List AV} {x : Bool} {H' : Heap} (h : call (.fn f) args [⟨true, []⟩] = some (.bool x, H')) {cargs : Array Value} {w : World} (hA : CRel (Pw w) Mu.no args cargs) :
    Calls P f cargs w (fun e w' => e = .returned (.bool x) ∧ Go.RowKit.Below w.heap.size w w') := by
  have := (hC (.fn f) args _ (.bool x) H' h (by simp) _ _ w cargs (HRel.all w) hA).2
  refine (callsIn_wide.1 this).mono ?_
  rintro e w' ⟨cv, rfl, _, p', M', hE, hv⟩
  cases hv
  exact ⟨rfl, (hE.stay.weaken (fun b _ _ d i v B _ _ _ o t hm => by cases hm)).below⟩

/-- Values of this type are n integers of one kind, one behind another. -/
def FlatK (k : IntKind) (P : Program) (t : TypeId) (n : Nat) : Prop := ∀ (H : Type) (enc : TypeId × Value → H) (w : World) (base : Nat) (sp : Nat → Bool) (held : Bool) (fuel : Nat) (cs : List Value) (x : DataW H × List MemPlace),
  DataW.trod enc P w base sp held fuel t cs = some x → cs.length = n ∧ ∀ j, j < n → ∃ z : Int, cs[j]? = some (.int k z) ∧ (Lit.int k z).wf = true
abbrev FlatI (P : Program) (t : TypeId) (n : Nat) : Prop := FlatK .i64 P t n
theorem flat_int {P : Program} {t : TypeId} {k : IntKind} (ht : P.underlying t = some (.int k)) : FlatK k P t 1 := by
  intro H enc w base sp held fuel cs x h
  obtain ⟨n, rfl, _, hw⟩ := DataW.trod_int ht h
  refine ⟨rfl, fun j hj => ?_⟩
  obtain rfl : j = 0 := by omega
  exact ⟨n, rfl, hw⟩
theorem flat_struct2 {P : Program} {k : IntKind} {t : TypeId} {f0 f1 : Field} {n0 n1 : Nat} (ht : P.underlying t = some (.struct #[f0, f1])) (h0 : FlatK k P f0.type n0) (h1 : FlatK k P f1.type n1) (o0 : f0.offset = 0) (o1 : f1.offset = n0) (c0 : P.cellsOf f0.type = n0) (c1 : P.cellsOf f1.type = n1) (c : P.cellsOf t = n0 + n1) : FlatK k P t (n0 + n1) := by
  intro H enc w base sp held fuel cs x h
  obtain ⟨y0, y1, n, _, hl, g0, g1⟩ := trod_struct2 ht h
  obtain ⟨k0, k1⟩ := h0 _ _ _ _ _ _ _ _ _ g0
  obtain ⟨m0, m1⟩ := h1 _ _ _ _ _ _ _ _ _ g1
  refine ⟨by rw [hl, c], fun j hj => ?_⟩
  by_cases hlt : j < n0
  · obtain ⟨z, hz, hw⟩ := k1 j hlt
    refine ⟨z, ?_, hw⟩
    rw [o0, c0] at hz
    simpa [List.getElem?_take, hlt] using hz
  · obtain ⟨z, hz, hw⟩ := m1 (j - n0) (by omega)
    refine ⟨z, ?_, hw⟩
    rw [o1, c1] at hz
    have hlt2 : j - n0 < n1 := by omega
    simpa [List.getElem?_take, hlt2, List.getElem?_drop, show n0 + (j - n0) = j by omega] using hz

theorem cells_mapM {w : World} {a : Addr} : ∀ (l : List Nat) (cs : List Value), (l.mapM fun i => w.cell? (a.add i)) = some cs → ∀ (j i : Nat), l[j]? = some i → ∃ v, cs[j]? = some v ∧ w.cell? (a.add i) = some v
  | [], cs, h, j, i, hi => by simp at hi
  | x :: l, cs, h, j, i, hi => by
    simp only [List.mapM_cons, Option.bind_eq_bind, Option.bind_eq_some_iff, Option.pure_def, Option.some.injEq] at h
    obtain ⟨v, hv, r, hr, rfl⟩ := h
    cases j with
    | zero => simp at hi; subst hi; exact ⟨v, rfl, hv⟩
    | succ j => exact cells_mapM l r hr j i (by simpa using hi)

/-- A slice of flat elements. -/
theorem slice_flat {P : Program} {k : IntKind} {t e : TypeId} {n : Nat} (ht : P.underlying t = some (.slice e)) (he : FlatK k P e n) (hn : 0 < n) (hc : P.cellsOf e = n) {H : Type} {enc : TypeId × Value → H} {w : World} {base : Nat} {sp : Nat → Bool} {held : Bool} {fuel : Nat} {v : Value} {x : DataW H × List MemPlace}
    (hspot : ∀ a l c, v = .slice (some a) l c → a.spot = none) (h : DataW.trod enc P w base sp held fuel t [v] = some x) :
    (v = .slice none 0 0) ∨ ∃ (zs : Nat → Int) (len : Nat), VRel (Pw w) Mu.no (.slcT none (.F (fun j => .int k (zs j)) (len * n)) n len false) v ∧ ∀ j, j < len * n → (Lit.int k (zs j)).wf = true := by
  rcases DataW.trod_slice ht h with ⟨h0, _⟩ | ⟨a, len, cap, elems, rest, m, _, hcs, _, _, hl, _, hlen, hel, _, _⟩
  · left; simpa using h0
  · right
    simp only [List.cons.injEq, and_true] at hcs
    have hsp := hspot a len cap hcs
    have cell : ∀ j, j < len * n → ∃ z : Int, w.cell? ⟨a.block, a.off + j, none⟩ = some (.int k z) ∧ (Lit.int k z).wf = true := by
      intro j hj
      have hi : j / n < len := by rw [Nat.div_lt_iff_lt_mul hn]; exact hj
      have := hel (j / n) hi
      have hex : elems[j / n]? ≠ none := by simp; omega
      rw [← this] at hex
      cases hcl : w.cells? base (a.add (j / n * P.cellsOf e)) (P.cellsOf e) with
      | none => rw [hcl] at hex; simp at hex
      | some cs =>
        rw [hcl] at hex
        cases hy : DataW.trod enc P w base sp held m e cs with
        | none => simp [hy] at hex
        | some y =>
          obtain ⟨k0, k1⟩ := he _ _ _ _ _ _ _ _ _ hy
          obtain ⟨z, hz, hw⟩ := k1 (j % n) (Nat.mod_lt _ hn)
          unfold World.cells? at hcl
          split at hcl
          · obtain ⟨u, hu, hcu⟩ := cells_mapM _ _ hcl (j % n) (j % n) (by rw [hc]; simp [Nat.mod_lt _ hn])
            rw [hz] at hu
            have hu := Option.some.inj hu
            subst hu
            refine ⟨z, ?_, hw⟩
            rw [hc] at hcu
            have e1 : (a.add (j / n * n)).add (j % n) = ⟨a.block, a.off + j, none⟩ := by
              have hd := Nat.div_add_mod j n
              have hd2 : j / n * n + j % n = j := by rw [Nat.mul_comm]; exact hd
              cases a
              simp only at hsp
              subst hsp
              have ad : ∀ (b o i : Nat), Addr.add ⟨b, o, none⟩ i = ⟨b, o + i, none⟩ := fun b o i => by
                unfold Addr.add
                split
                · rename_i h0; subst h0; rfl
                · rfl
              rw [ad, ad, Nat.add_assoc, hd2]
            rw [← e1]; exact hcu
          · simp at hcl
    obtain ⟨zs, hzs⟩ : ∃ zs : Nat → Int, ∀ j, j < len * n → w.cell? ⟨a.block, a.off + j, none⟩ = some (.int k (zs j)) ∧ (Lit.int k (zs j)).wf = true :=
      ⟨fun j => if h : j < len * n then Classical.choose (cell j h) else 0, fun j hj => by
        have := Classical.choose_spec (cell j hj)
        simp only [dif_pos hj]
        exact this⟩
    refine ⟨zs, len, ?_, fun j hj => (hzs j hj).2⟩
    rw [hcs]
    obtain ⟨b, o, sp'⟩ := a
    simp only at hsp
    subst hsp
    exact .slcT (o := o) (fun j => .int k (zs j)) (fun j hj => (hzs j hj).1) (fun j hj => rfl) (fun j hj => .int _ _) hl (fun h => by cases h) (.inr rfl)

end Go.Eng
end
section
namespace Go.Eng
set_option linter.unusedVariables false
set_option linter.unusedSimpArgs false
noncomputable section

/-- A round of which it is known what it does in this heap. -/
def rdE (base : CallTr) (d0 i0 : Nat) (args0 : List AV) (H0 : Heap) (u : Tr (AV × Heap)) : CallTr := fun tgt args H => match tgt with
  | .round d i => cond (Nat.beq d d0 && Nat.beq i i0) (.reqP (avs args = args0 ∧ H = H0) (u.bind fun y => .ok ((y.1, none), y.2))) .bad
  | .fn g => base (.fn g) args H
  | .mode => base .mode args H
theorem rdE_ok {base : CallTr} {call : CallT} (h : base.Ok call) {d0 i0 : Nat} {args0 : List AV} {H0 : Heap} {u : Tr (AV × Heap)} (k : ∀ x, u.run = some x → call (.round d0 i0) args0 H0 = some x) : (rdE base d0 i0 args0 H0 u).Ok call := by
  refine ⟨h.1, fun tgt args H x hx => ?_⟩
  cases tgt with
  | fn g => exact h.2 _ _ _ _ hx
  | mode => exact h.2 _ _ _ _ hx
  | round d i =>
    unfold rdE at hx
    obtain ⟨hc, hx2⟩ := Tr.cond_bad hx
    clear hx
    rw [Bool.and_eq_true] at hc
    have e1 := Nat.eq_of_beq_eq_true hc.1
    have e2 := Nat.eq_of_beq_eq_true hc.2
    subst e1; subst e2
    obtain ⟨⟨e3, e4⟩, hx3⟩ := Tr.reqP_some hx2
    obtain ⟨y, h1, h2⟩ := Tr.bind_some hx3
    rw [e3, e4, k _ h1, ← Tr.ok_some h2]

/-- A round, by its record's code. -/
theorem round_of {P : Program} {ora : CallT → FuncId → List AV → Heap → Option (AV × Heap)} {KT : FuncId → Nat → Nat} {fu n d i : Nat} {args : List AV} {H H1 H2 : Heap} {l l1 l2 : ALoop} {fr fr1 fr2 : Frm} {e : Ex} {lv : Lvl}
    (hg : hGet H d i = (0, .loop l)) (hl : hLock H d = false) (hs : l.state = .ready) (hp : putPs l.nt (upFrm (d + 1) l.fr) l.params (args.map (upV 1)) = some fr)
    (h1 : exec ⟨P, callN P ora KT fu n, fu, l.fn, l.nt, KT l.fn, some (d + 1, i)⟩ l.assign fr (⟨false, []⟩ :: H) = some (.normal, fr1, H1)) (hg1 : hGet H1 (d + 1) i = (0, .loop l1)) (hs1 : l1.state = .ready)
    (h2 : exec ⟨P, callN P ora KT fu n, fu, l.fn, l.nt, KT l.fn, some (d + 1, i)⟩ l.body fr1 (hSet H1 (d + 1) i (0, .loop { l1 with state := .busy })) = some (e, fr2, lv :: H2)) (hg2 : hGet H2 d i = (0, .loop l2)) :
    callN P ora KT fu (n + 1) (.round d i) args H = some (.bool (jumpOf e).isNone, hSet H2 d i (0, .loop { l2 with state := if (jumpOf e).isNone then .ready else .done, pending := jumpOf e })) := by
  simp only [callN, hg, hl, Bool.false_eq_true, if_false, hs, hp, h1, hg1, hs1, h2, hg2]
/-- A loop over a function, by the function's call. -/
theorem range_of {cx : Cx} {f : Operand} {ps : Array Tmp} {as bd : Code} {fr : Frm} {H H1 : Heap} {g : FuncId} {a b : List AV} {v : AV} {l : ALoop} {e : Ex} (hf : opd fr f = .fn (.func g) a b) (hh : cx.here H = true) (hl : hLock H 0 = false)
    (hc : cx.call (.fn g) (a ++ (.yld 0 (hNext H) :: b)) (rangeStart fr H cx ps as bd) = some (v, H1)) (hg : hGet H1 0 (hNext H) = (0, .loop l)) (hb : (l.state == .busy) = false) (he : endEx l.pending = some e) :
    exec cx (.rangeFunc f ps as bd) fr H = some (e, fr, hKill H1 0 (hNext H)) := by
  unfold exec
  rw [hf]
  dsimp only
  rw [hh, hl]
  simp only [Bool.not_true, Bool.false_or, Bool.false_eq_true, if_false, hc, hg, hb, he]

end
end Go.Eng
end
section
namespace Go.Eng
set_option linter.unusedVariables false
set_option linter.unusedSimpArgs false
noncomputable section

/-- A tree answers, and what it answers is so. -/
def Tr.all {α : Type} (T : Tr α) (Q : α → Prop) : Prop := ∃ x, T.run = some x ∧ Q x
theorem Tr.all_ok {α : Type} {a : α} {Q : α → Prop} (h : Q a) : (Tr.ok a).all Q := ⟨a, rfl, h⟩
theorem Tr.all_ite {α : Type} {c : Bool} {a b : Tr α} {Q : α → Prop} (h1 : c = true → a.all Q) (h2 : c = false → b.all Q) : (Tr.ite c a b).all Q := by
  cases c with
  | true => exact h1 rfl
  | false => exact h2 rfl
theorem Tr.all_req {α : Type} {c : Bool} {a : Tr α} {Q : α → Prop} (h : c = true) (k : a.all Q) : (Tr.req c a).all Q := by
  subst h; exact k
theorem Tr.all_reqP {α : Type} {p : Prop} {a : Tr α} {Q : α → Prop} (h : p) (k : a.all Q) : (Tr.reqP p a).all Q := by
  obtain ⟨x, h1, h2⟩ := k
  exact ⟨x, (Tr.run_reqP h).trans h1, h2⟩
theorem Tr.all_mono {α : Type} {T : Tr α} {Q R : α → Prop} (h : T.all Q) (k : ∀ x, Q x → R x) : T.all R := by
  obtain ⟨x, h1, h2⟩ := h
  exact ⟨x, h1, k x h2⟩
theorem Tr.all_eq {α : Type} {T : Tr α} {y : α} (h : T.all (· = y)) : T.run = some y := by
  obtain ⟨x, h1, rfl⟩ := h
  exact h1
theorem notB_t (b : Bool) : (notB b = true) = (b = false) := by rw [notB_eq]; cases b <;> simp
theorem notB_f (b : Bool) : (notB b = false) = (b = true) := by rw [notB_eq]; cases b <;> simp
theorem andB_t (a b : Bool) : (andB a b = true) = (a = true ∧ b = true) := by rw [andB_eq]; cases a <;> cases b <;> simp
theorem andB_f (a b : Bool) : (andB a b = false) = ¬ (a = true ∧ b = true) := by rw [andB_eq]; cases a <;> cases b <;> simp
theorem ltI_t (x y : Int) : (ltI x y = true) = (x < y) := by rw [ltI_eq]; simp
theorem ltI_f (x y : Int) : (ltI x y = false) = (y ≤ x) := by rw [ltI_eq]; simp
theorem leI_t (x y : Int) : (leI x y = true) = (x ≤ y) := by rw [leI_eq]; simp
theorem leI_f (x y : Int) : (leI x y = false) = (y < x) := by rw [leI_eq]; simp
theorem eqI_t (x y : Int) : (eqI x y = true) = (x = y) := by rw [eqI_eq]; simp
theorem eqI_f (x y : Int) : (eqI x y = false) = ¬ (x = y) := by rw [eqI_eq]; simp
theorem inI_t (x : Int) (n : Nat) : (inI x n = true) = (0 ≤ x ∧ x < (n : Int)) := by rw [inI_eq]; simp
theorem bndI_t (x : Int) (n : Nat) : (bndI x n = true) = (0 ≤ x ∧ x ≤ (n : Int)) := by rw [bndI_eq]; simp
theorem ltN_t (x y : Nat) : (ltN x y = true) = (x < y) := by rw [ltN_eq]; simp
theorem ltN_f (x y : Nat) : (ltN x y = false) = (y ≤ x) := by rw [ltN_eq]; simp
theorem leN_t (x y : Nat) : (leN x y = true) = (x ≤ y) := by rw [leN_eq]; simp
theorem leN_f (x y : Nat) : (leN x y = false) = (y < x) := by rw [leN_eq]; simp
theorem eqN_t (x y : Nat) : (eqN x y = true) = (x = y) := by rw [eqN_eq]; simp
theorem eqN_f (x y : Nat) : (eqN x y = false) = ¬ (x = y) := by rw [eqN_eq]; simp
theorem inO_t (o m p n : Nat) : (inO o m p n = true) = (p ≤ o ∧ o + m ≤ p + n) := by rw [inO_eq]; simp
theorem minO_min (x y : Int) : minO x y = min x y := by rw [minO_eq]; omega
theorem maxO_max (x y : Int) : maxO x y = max x y := by rw [maxO_eq]; omega
theorem roomO_t (m n b : Nat) : (roomO m n b = true) = ((m + n) * b ≤ 70368744177664 ∧ m + n ≤ 70368744177664) := by rw [roomO_eq]; exact decide_eq_true_eq
theorem mkO_t (l c : Int) (b : Nat) : (mkO l c b = true) = (0 ≤ l ∧ l ≤ c ∧ c.toNat * b ≤ 70368744177664 ∧ c.toNat ≤ 70368744177664) := by rw [mkO_eq]; exact decide_eq_true_eq
theorem ofNat_cast (n : Nat) : Int.ofNat n = (n : Int) := rfl
theorem negSucc_one : Int.negSucc 1 = -2 := rfl
theorem negSucc_zero : Int.negSucc 0 = -1 := rfl
theorem negSucc_two : Int.negSucc 2 = -3 := rfl
theorem tn_succ {x : Int} (h : 0 ≤ x) : (x + 1).toNat = x.toNat + 1 := by omega
theorem wr_64 {k : Int} (h1 : -9223372036854775808 ≤ k) (h2 : k ≤ 9223372036854775807) : IntKind.i64.wrap k = k := Go.IntWalk.i64_in _ (by omega)

/-- What tests say, and what operations yield, in one. -/
theorem nV : (∀ x y : Int, (ltI x y = true) = (x < y)) ∧
  (∀ x y : Int, (ltI x y = false) = (y ≤ x)) ∧
  (∀ x y : Int, (leI x y = true) = (x ≤ y)) ∧
  (∀ x y : Int, (leI x y = false) = (y < x)) ∧
  (∀ x y : Int, (eqI x y = true) = (x = y)) ∧
  (∀ x y : Int, (eqI x y = false) = ¬ (x = y)) ∧
  (∀ b : Bool, (notB b = true) = (b = false)) ∧
  (∀ b : Bool, (notB b = false) = (b = true)) ∧
  (∀ a b : Bool, (andB a b = true) = (a = true ∧ b = true)) ∧
  (∀ a b : Bool, (andB a b = false) = ¬ (a = true ∧ b = true)) ∧
  (∀ (x : Int) (n : Nat), (inI x n = true) = (0 ≤ x ∧ x < (n : Int))) ∧
  (∀ (x : Int) (n : Nat), (bndI x n = true) = (0 ≤ x ∧ x ≤ (n : Int))) ∧
  (∀ x y : Nat, (ltN x y = true) = (x < y)) ∧
  (∀ x y : Nat, (ltN x y = false) = (y ≤ x)) ∧
  (∀ x y : Nat, (leN x y = true) = (x ≤ y)) ∧
  (∀ x y : Nat, (leN x y = false) = (y < x)) ∧
  (∀ x y : Nat, (eqN x y = true) = (x = y)) ∧
  (∀ x y : Nat, (eqN x y = false) = ¬ (x = y)) ∧
  (∀ o m p n : Nat, (inO o m p n = true) = (p ≤ o ∧ o + m ≤ p + n)) ∧
  (∀ m n b : Nat, (roomO m n b = true) = ((m + n) * b ≤ 70368744177664 ∧ m + n ≤ 70368744177664)) ∧
  (∀ (l c : Int) (b : Nat), (mkO l c b = true) = (0 ≤ l ∧ l ≤ c ∧ c.toNat * b ≤ 70368744177664 ∧ c.toNat ≤ 70368744177664)) ∧
  (∀ x y : Int, minO x y = min x y) ∧
  (∀ x y : Int, maxO x y = max x y) ∧
  (∀ (o : Nat) (i : Int) (s : Nat), idO o i s = o + i.toNat * s) ∧
  (∀ a b : Nat, addO a b = a + b) ∧
  (∀ a b : Nat, subO a b = a - b) ∧
  (∀ i : Int, toN i = i.toNat) ∧
  (∀ (k : IntKind) (x y : Int), addI k x y = k.wrap (x + y)) ∧
  (∀ (k : IntKind) (x y : Int), subI k x y = k.wrap (x - y)) ∧
  (∀ (k : IntKind) (x y : Int), mulI k x y = k.wrap (x * y)) ∧
  (∀ n : Nat, Int.ofNat n = (n : Int)) ∧
  (Int.negSucc 0 = -1) ∧
  (Int.negSucc 1 = -2) ∧
  (Int.negSucc 2 = -3) ∧
  (∀ {k : Int}, -9223372036854775808 ≤ k → k ≤ 9223372036854775807 → IntKind.i64.wrap k = k) ∧
  (∀ {x : Int}, 0 ≤ x → (x + 1).toNat = x.toNat + 1) ∧
  ((0 : Int).toNat = 0) ∧
  (∀ n : Nat, 0 * n = 0) ∧
  (∀ n : Nat, 1 * n = n) ∧
  (∀ n : Nat, (n : Int).toNat = n) ∧
  (((0 : Nat) : Int) = 0) ∧
  (((1 : Nat) : Int) = 1) ∧
  (∀ n : Nat, 0 + n = n) ∧
  ((¬ True) = False) ∧
  ((¬ False) = True) ∧
  ((true = false) = False) ∧
  ((false = true) = False) ∧
  ((!true) = false) ∧
  ((!false) = true) ∧
  (∀ p : Prop, (True ∧ p) = p) ∧
  (∀ p : Prop, (p ∧ True) = p) ∧
  (∀ p : Prop, (False ∧ p) = False) ∧
  (∀ p : Prop, (p ∧ False) = False) :=
  ⟨ltI_t, ltI_f, leI_t, leI_f, eqI_t, eqI_f, notB_t, notB_f, andB_t, andB_f, inI_t, bndI_t, ltN_t, ltN_f, leN_t, leN_f, eqN_t, eqN_f, inO_t, roomO_t, mkO_t, minO_min, maxO_max, idO_eq, addO_eq, subO_eq, toN_eq, addI_eq, subI_eq, mulI_eq, ofNat_cast, negSucc_zero, negSucc_one, negSucc_two, wr_64, tn_succ, Int.toNat_zero, Nat.zero_mul, Nat.one_mul, Int.toNat_natCast, Int.natCast_zero, Int.natCast_one, Nat.zero_add, not_true_eq_false, not_false_eq_true, Bool.true_eq_false, Bool.false_eq_true, Bool.not_true, Bool.not_false, true_and, and_true, false_and, and_false⟩
end
end Go.Eng
end
section
namespace Go.Eng
set_option linter.unusedVariables false
set_option linter.unusedSimpArgs false

/-- A block of the model's own is laid; its handle's number is that of a dead block. -/
theorem Evo.name {p : Pst} {M : Mu} {H : Heap} {w : World} (h : HRel p M H w) {k : Nat} (hk0 : (hGet H 0 k).2 = .dead) (hk : k < hNextAt H 0) (hm0 : ∀ v, M 0 k v = none) (hl0 : hLock H 0 = false) (x : Obj) : Evo p M H w p (muSet M 0 k 0 (w.heap.size, 0, 0)) H (w.alloc x) := by
  have hle : Mu.le M (muSet M 0 k 0 (w.heap.size, 0, 0)) := muSet_le fun u hu => by rw [hm0] at hu; cases hu
  have hs := stay_alloc w x
  have h' := h.stay hs
  have mu : ∀ d i v t, muSet M 0 k 0 (w.heap.size, 0, 0) d i v = some t → (d = 0 ∧ i = k ∧ v = 0 ∧ t = (w.heap.size, 0, 0)) ∨ M d i v = some t := fun d i v t hm => by
    simp only [muSet] at hm
    split at hm
    · rename_i e; exact .inl ⟨e.1, e.2.1, e.2.2, (Option.some.inj hm).symm⟩
    · exact .inr hm
  have dead : ∀ {d i v B}, hGet H d i = (v, B) → B ≠ .dead → ¬ (d = 0 ∧ i = k) := fun {d i v B} hg hB e => by
    rw [e.1, e.2] at hg
    rw [hg] at hk0
    exact hB hk0
  refine { Evo.refl h with mu := hle, rel := ⟨h'.pers, ?_, ?_, ?_⟩, stay := hs.weaken (fun _ _ _ => trivial), keep := ?_, own := ?_, new := ?_ }
  · intro d i v B hg hB
    obtain ⟨b, o, t, k1, k2, k3⟩ := h'.live d i v B hg hB
    exact ⟨b, o, t, hle _ _ _ _ k1, k2.mono (Pst.le.refl _) (hle.up d) rfl, k3⟩
  · intro d i v B d' i' v' B' b o t o' t' hg hB hg' hB' hm hm'
    rcases mu _ _ _ _ hm with ⟨e1, e2, _⟩ | hm
    · exact absurd ⟨e1, e2⟩ (dead hg hB)
    · rcases mu _ _ _ _ hm' with ⟨e1, e2, _⟩ | hm'
      · exact absurd ⟨e1, e2⟩ (dead hg' hB')
      · exact h.apart d i v B d' i' v' B' b o t o' t' hg hB hg' hB' hm hm'
  · intro d i v t hm
    rcases mu _ _ _ _ hm with ⟨e1, e2, e3, _⟩ | hm
    · rw [e1, e2, e3]; exact ⟨hk, fun _ => Nat.zero_le _⟩
    · exact h.dom d i v t hm
  · intro b hb hkk d i v B hg hB hl o t hm
    rcases mu _ _ _ _ hm with ⟨e1, e2, _⟩ | hm
    · exact dead hg hB ⟨e1, e2⟩
    · exact hkk d i v B hg hB hl o t hm
  · intro d i v b o t hm
    rcases mu _ _ _ _ hm with ⟨_, _, _, e4⟩ | hm
    · simp only [Prod.mk.injEq] at e4; exact .inl (by omega)
    · exact .inr ⟨_, _, _, _, _, Nat.le_refl _, hm⟩
  · intro d i v t hm
    rcases mu _ _ _ _ hm with ⟨e1, _, _, _⟩ | hm
    · exact .inr (.inr (by rw [e1]; exact hl0))
    · exact .inl hm

/-- An iterator is none of the blocks that are known. -/
theorem iter_not {p : Pst} {M : Mu} {H : Heap} {w : World} (h : HRel p M H w) {r : Nat} {m : Option Nat} {s c : Nat} {seen : Array Nat} (hr : w.heap[r]? = some (.mapIter m s seen c)) {d i v : Nat} {B : Blk} (hg : hGet H d i = (v, B)) (hB : B ≠ .dead) (o t : Nat) : M d i v ≠ some (r, o, t) := by
  intro hm
  obtain ⟨b, o', t', k1, k2, _⟩ := h.live d i v B hg hB
  rw [hm] at k1
  simp only [Option.some.injEq, Prod.mk.injEq] at k1
  obtain ⟨rfl, _, _⟩ := k1
  cases B with
  | dead => exact hB rfl
  | row q => obtain ⟨_, _, e, _⟩ := k2; rw [hr] at e; simp at e
  | map es => obtain ⟨_, _, e, _⟩ := k2; rw [hr] at e; simp at e
  | fmap f g c => obtain ⟨_, _, _, _, e, _⟩ := k2; rw [hr] at e; simp at e
  | loop l => obtain ⟨_, e, _⟩ := k2; rw [hr] at e; simp at e

/-- An iterator that was laid since goes on. -/
theorem Evo.poke {p p' : Pst} {M M' : Mu} {H H' : Heap} {w w' : World} (h : Evo p M H w p' M' H' w') {r : Nat} {m : Option Nat} {s c : Nat} {seen : Array Nat} (hr : w'.heap[r]? = some (.mapIter m s seen c)) (hn : w.heap.size ≤ r) (x : Obj) :
    Evo p M H w p' M' H' (Go.ChangeMaps.setBlock w' r x) := by
  have blk : ∀ b, b ≠ r → (Go.ChangeMaps.setBlock w' r x).heap[b]? = w'.heap[b]? := fun b hb => by simp [Go.ChangeMaps.setBlock, Array.getElem?_setIfInBounds_ne (Ne.symm hb)]
  refine { h with rel := ⟨?_, ?_, h.rel.apart, h.rel.dom⟩, stay := ⟨h.stay.os, h.stay.tape, h.stay.output, by simp [Go.ChangeMaps.setBlock]; exact h.stay.size, fun b hb hk => ?_⟩ }
  · intro b o v hp
    have hc := h.rel.pers b o v hp
    have hbr : b ≠ r := by
      rintro rfl
      simp [World.cell?, hr] at hc
    rw [← hc]
    exact World.cell?_of_block (w := w') (blk b hbr)
  · intro d i v B hg hB
    obtain ⟨b, o, t, k1, k2, k3⟩ := h.rel.live d i v B hg hB
    have hbr : b ≠ r := by
      rintro rfl
      exact iter_not h.rel hr hg hB o t k1
    exact ⟨b, o, t, k1, k2.mono (Pst.le.refl _) (Mu.le.refl _) (blk b hbr), k3⟩
  · rw [blk b (by omega)]; exact h.stay.block b hb hk

theorem Evo.drew {p p' : Pst} {M M' : Mu} {H H' : Heap} {w w' : World} (h : Evo p M H w p' M' H' w') : Evo p M H w p' M' H' w'.drew := by
  have hs : Stay (fun _ => True) w' w'.drew := ⟨rfl, rfl, rfl, Nat.le_refl _, fun _ _ _ => rfl⟩
  exact { h with rel := h.rel.stay hs, stay := h.stay.trans hs (fun _ _ _ => trivial) }

end Go.Eng
end
section
namespace Go.Eng
set_option linter.unusedVariables false
set_option linter.unusedSimpArgs false
open Go.ChangeMaps (setBlock)

theorem op_val {P : Program} {F : Fence} (hFW : Wide F) {o : Oper} (hd : ∀ c, o.op ≠ .defer c) {a : Act} {w w' : World} {cv : Value} (h : (execOp a.eval o).run P w = .ok (.value cv) w') {n : Nat} {next : Act → World → Prop} {Q : Exit → Act → World → Prop} (hn : next (a.put o.dst cv) w') : o.wpIn F n P a w next Q := by
  refine ⟨about_fn hFW P o w a, ?_⟩
  rw [Oper.semAt_eq _ _ _ hd, h]
  exact hn

theorem Marks.poke {n0 : Nat} {M : Mu} {H : Heap} {w : World} {ds : List Deferred} (h : Marks n0 M H w ds) {r : Nat} {m : Option Nat} {s c : Nat} {seen : Array Nat} (hr : w.heap[r]? = some (.mapIter m s seen c)) (x : Obj) : Marks n0 M H (setBlock w r x) ds := by
  obtain ⟨rs, h1, h2, h0, h3⟩ := h
  refine ⟨rs, h1, h2, by simpa [setBlock] using h0, fun q hq => ?_⟩
  obtain ⟨k1, k2, k3⟩ := h3 q hq
  have hne : q ≠ r := by rintro rfl; rw [hr] at k1; simp at k1
  exact ⟨by simp [setBlock, Array.getElem?_setIfInBounds_ne (Ne.symm hne)]; exact k1, k2, k3⟩
theorem Marks.drew {n0 : Nat} {M : Mu} {H : Heap} {w : World} {ds : List Deferred} (h : Marks n0 M H w ds) : Marks n0 M H w.drew ds := h

/-- The parts of a loop over a map. -/
structure RLoop where
  out : Nat
  id1 : Nat
  id2 : Nat
  nxt : Nat
  ops1 : Array Oper
  ops2 : Array Oper
  no : Oper
  eo : Oper
  t1 : List Oper
  t2 : List Oper
  it : Tmp
  nx : Tmp
  mo : Tmp
  en : Tmp
  rest : Code
  km : Nat
def RLoop.code (L : RLoop) : Code := .block L.out (.loop (.seq (.region L.id1 L.ops1 false) (.seq (.cond (.tmp L.mo) .skip (.exit L.out)) (.block L.nxt (.seq (.region L.id2 L.ops2 false) L.rest)))))
structure RLoop.Ok (L : RLoop) : Prop where
  l1 : L.ops1.toList = L.no :: L.t1
  o1 : L.no.op = .next (.tmp L.it) false
  d1 : L.no.dst = some L.nx
  g1 : L.no.guard = none
  l2 : L.ops2.toList = L.eo :: L.t2
  o2 : L.eo.op = .entry (.tmp L.it)
  d2 : L.eo.dst = some L.en
  g2 : L.eo.guard = none

def isPtr0 (k : Nat) (v : AV) : Bool :=
  match v with
  | .ptr 0 i 0 0 => Nat.beq i k
  | _ => false
theorem isPtr0_eq {k : Nat} {v : AV} (h : isPtr0 k v = true) : v = .ptr 0 k 0 0 := by
  unfold isPtr0 at h
  split at h
  · rw [Nat.eq_of_beq_eq_true h]
  · cases h
def isB (b : Bool) (v : AV) : Bool :=
  match v with
  | .bool c => c == b
  | _ => false
theorem isB_eq {b : Bool} {v : AV} (h : isB b v = true) : v = .bool b := by
  unfold isB at h
  split at h
  · rw [beq_iff_eq] at h; rw [h]
  · cases h

/-- One round, for one entry. -/
noncomputable def RLoop.round (L : RLoop) (cx : Cx) (k n : Nat) (kv : AV × AV) (fr : Frm) (H : Heap) : Option (Frm × Heap) :=
  match runOpsX cx.P cx.nt cx.call L.ops1 L.t1 (putO cx.nt fr (some L.nx) (.tup [.bool true, kv.1, kv.2])) H with
  | some (frA, HA) => if isB true (fGet frA L.mo) && isPtr0 k (fGet frA L.it) then
      match runOpsX cx.P cx.nt cx.call L.ops2 L.t2 (putO cx.nt frA (some L.en) (.tup [kv.1, kv.2])) HA with
      | some (frB, HB) => match execX cx L.rest frB HB with
        | some (.normal, frC, HC) => if isPtr0 k (fGet (fKill frC L.km) L.it) then some (fKill frC L.km, cutTo n (fKill frC L.km) HC) else none
        | _ => none
      | none => none
    else none
  | none => none
/-- The last look. -/
noncomputable def RLoop.last (L : RLoop) (cx : Cx) (fr : Frm) (H : Heap) : Option (Frm × Heap) :=
  match runOpsX cx.P cx.nt cx.call L.ops1 L.t1 (putO cx.nt fr (some L.nx) (.tup [.bool false])) H with
  | some (frE, HE) => if isB false (fGet frE L.mo) then some (frE, HE) else none
  | none => none

def seenOf (r : Nat) (w : World) : Array Nat :=
  match w.heap[r]? with
  | some (.mapIter _ _ s _) => s
  | _ => #[]

theorem left_push {ces : Array MapEntry} {seen : Array Nat} {e : MapEntry} (he : e ∈ (leftOf ces seen).toList) : (leftOf ces (seen.push e.born)).size < (leftOf ces seen).size := by
  unfold leftOf at he ⊢
  rw [Array.toList_filter] at he
  have sz : ∀ f : MapEntry → Bool, (ces.filter f).size = (ces.toList.filter f).length := fun f => by rw [← Array.toList_filter, Array.length_toList]
  rw [sz, sz]
  have mono : ∀ x : MapEntry, seen.contains x.born = true → (seen.push e.born).contains x.born = true := fun x h => by
    rw [Array.contains_push, h]; simp
  have self : (seen.push e.born).contains e.born = true := by rw [Array.contains_push]; simp
  have hle : ∀ (l : List MapEntry), (l.filter fun x => !(seen.push e.born).contains x.born).length ≤ (l.filter fun x => !seen.contains x.born).length := by
    intro l
    induction l with
    | nil => exact Nat.le_refl _
    | cons x l ih =>
      rw [List.filter_cons, List.filter_cons]
      cases h1 : seen.contains x.born with
      | true =>
        rw [mono x h1]
        simp only [Bool.not_true, Bool.false_eq_true, if_false]
        exact ih
      | false =>
        cases h2 : (seen.push e.born).contains x.born with
        | true => simp only [Bool.not_true, Bool.false_eq_true, if_false, Bool.not_false, if_true, List.length_cons]; exact Nat.le_succ_of_le ih
        | false => simp only [Bool.not_false, if_true, List.length_cons]; exact Nat.succ_le_succ ih
  have hlt : ∀ (l : List MapEntry), e ∈ (l.filter fun x => !seen.contains x.born) → (l.filter fun x => !(seen.push e.born).contains x.born).length < (l.filter fun x => !seen.contains x.born).length := by
    intro l
    induction l with
    | nil => intro h; cases h
    | cons x l ih =>
      intro h
      rw [List.filter_cons] at h
      rw [List.filter_cons, List.filter_cons]
      cases h1 : seen.contains x.born with
      | true =>
        rw [h1] at h
        simp only [Bool.not_true, Bool.false_eq_true, if_false] at h
        rw [mono x h1]
        simp only [Bool.not_true, Bool.false_eq_true, if_false]
        exact ih h
      | false =>
        rw [h1] at h
        simp only [Bool.not_false, if_true] at h
        cases h2 : (seen.push e.born).contains x.born with
        | true =>
          simp only [Bool.not_true, Bool.false_eq_true, if_false, Bool.not_false, if_true, List.length_cons]
          exact Nat.lt_succ_of_le (hle l)
        | false =>
          simp only [Bool.not_false, if_true, List.length_cons]
          rcases List.mem_cons.1 h with h | h
          · rw [← h, self] at h2; cases h2
          · exact Nat.succ_lt_succ (ih h)
  exact hlt _ he

theorem loop_rel {cx : Cx} {F : Fence} (hFW : Wide F) (hN : Named cx.P) (hC : CallOk cx.P cx.call) (hX : CodeMore cx F) {L : RLoop} (hL : L.Ok) (hit : L.it < cx.nt)
    {k n j0 : Nat} {es : List (AV × AV)} {X S : Frm → Lvl → Prop} {R : Heap} {fr' : Frm} {H' : Heap} (hlk : ∀ d, hLock R d = true)
    (hXk : ∀ fr l, X fr l → fGet fr L.it = .ptr 0 k 0 0) (hXr : ∀ fr l, X fr l → ∀ j, j < es.length → ∃ fr1 l1 R1, L.round cx k n (es.getD j (.undef, .undef)) fr (l :: R) = some (fr1, l1 :: R1) ∧ X fr1 l1 ∧ (j = j0 → S fr1 l1))
    (hSr : ∀ fr l, S fr l → ∀ j, j < es.length → ∀ fr1 l1 R1, L.round cx k n (es.getD j (.undef, .undef)) fr (l :: R) = some (fr1, l1 :: R1) → S fr1 l1)
    (hend : ∀ fr l, X fr l → (0 < es.length → S fr l) → L.last cx fr (l :: R) = some (fr', H')) (hj0 : 0 < es.length → j0 < es.length)
    -- the base
    {p0 : Pst} {M0 : Mu} {lb : Lvl} {Hb : Heap} {w0 : World} (hHb : Hb = lb :: R) (hH0 : HRel p0 M0 Hb w0) (hn : hNext Hb = n) (hne : Hb ≠ []) (hRo : RoOk F cx.ro M0) {n0 b clock : Nat} {ces : Array MapEntry} (hkb : Go.Eng.keep M0 Hb b) (hb0 : w0.heap[b]? = some (.map ces clock)) (hborn : Born ces clock) (hsz : ces.size = es.length)
    (hrel : ∀ j, (h : j < ces.size) → VRel p0 M0 (es.getD j (.undef, .undef)).1 ces[j].key ∧ VRel p0 M0 (es.getD j (.undef, .undef)).2 ces[j].val)
    -- where it begins
    {r : Nat} (hr0 : w0.heap.size ≤ r) {p : Pst} {M : Mu} {fr : Frm} {l0 : Lvl} {a : Act} {w : World} (hE : Evo p0 M0 Hb w0 p M (l0 :: R) w) (hF : FRel p M cx.nt fr a) (hM : Marks n0 M (l0 :: R) w a.defers) (hx : X fr l0) (hr : w.heap[r]? = some (.mapIter (some b) clock #[] clock))
    (ha : a.tmps.getD L.it Go.undef = .pointer (some ⟨r, 0, none⟩)) {Q : Exit → Act → World → Prop} (hQ : ∀ a' w', Now n0 p0 M0 Hb w0 cx.nt fr' H' a' w' → Q .normal a' w') : L.code.wpIn F 0 cx.P Q a w := by
  have hbl : b < w0.heap.size := (Array.getElem?_eq_some_iff.1 hb0).1
  have hnod : (ces.toList.map (·.born)).Nodup := by
    refine List.pairwise_iff_getElem.2 fun i i' hi hi' hlt e => ?_
    simp only [List.length_map, Array.length_toList] at hi hi'
    have := hborn.2 i i' hi hi' (by simpa using e)
    omega
  -- of the iterator's slot
  have slot : ∀ {p : Pst} {M : Mu} {fr : Frm} {a : Act}, FRel p M cx.nt fr a → fGet fr L.it = .ptr 0 k 0 0 → a.tmps.getD L.it Go.undef = .pointer (some ⟨r, 0, none⟩) → ∃ t, M 0 k 0 = some (r, 0, t) := by
    intro p M fr a hF hk he
    have := hF.at_ L.it
    rw [hk, he] at this
    generalize hz : (Value.pointer (some ⟨r, 0, none⟩)) = z at this
    cases this
    rename_i b' o' t' hm
    simp only [Value.pointer.injEq, Option.some.injEq, Addr.mk.injEq] at hz
    obtain ⟨rfl, hz, _⟩ := hz
    obtain rfl : o' = 0 := by omega
    exact ⟨t', hm⟩
  have slot' : ∀ {p : Pst} {M : Mu} {fr : Frm} {a : Act} {t : Nat}, FRel p M cx.nt fr a → fGet fr L.it = .ptr 0 k 0 0 → M 0 k 0 = some (r, 0, t) → a.tmps.getD L.it Go.undef = .pointer (some ⟨r, 0, none⟩) := by
    intro p M fr a t hF hk hm
    have := hF.at_ L.it
    rw [hk] at this
    generalize a.tmps.getD L.it Go.undef = z at this
    cases this
    rename_i b' o' t' hm'
    rw [hm] at hm'
    simp only [Option.some.injEq, Prod.mk.injEq] at hm'
    obtain ⟨rfl, rfl, _⟩ := hm'
    rfl
  refine wpIn_block (wpIn_loop (fun a w => ∃ p M fr l seen, Evo p0 M0 Hb w0 p M (l :: R) w ∧ FRel p M cx.nt fr a ∧ Marks n0 M (l :: R) w a.defers ∧ X fr l ∧ w.heap[r]? = some (.mapIter (some b) clock seen clock) ∧
    a.tmps.getD L.it Go.undef = .pointer (some ⟨r, 0, none⟩) ∧ (∀ h : j0 < ces.size, seen.contains (ces[j0]).born = true → S fr l)) (fun _ w => (leftOf ces (seenOf r w)).size) ⟨p, M, fr, l0, #[], hE, hF, hM, hx, hr, ha, fun h hc => by simp at hc⟩ ?_)
  rintro a w ⟨p, M, fr, l, seen, hE, hF, hM, hx, hr, ha, hs⟩
  obtain ⟨H, hHl⟩ : ∃ H, H = l :: R := ⟨_, rfl⟩
  rw [← hHl] at hE hM
  have hseen : seenOf r w = seen := by unfold seenOf; rw [hr]
  have hbw : w.heap[b]? = some (.map ces clock) := by rw [hE.stay.block b hbl hkb]; exact hb0
  have hwant : ∀ (o : Oper), o.guard = none → ∀ y, Region.wanted o y = true := fun o hg y => by unfold Region.wanted; rw [hg]
  have hev : a.eval (.tmp L.it) = .pointer (some ⟨r, 0, none⟩) := ha
  refine wpIn_seq (wpIn_region_list ?_)
  rw [hL.l1]
  unfold wpListIn
  rw [if_pos (hwant _ hL.g1 _)]
  rcases run_next_at (P := cx.P) w L.no.type r b clock clock seen ces clock hr hbw (fun x hx => by
    obtain ⟨i, hi, rfl⟩ := List.getElem_of_mem hx
    have := hborn.1 i (by simpa using hi)
    simpa using this) (Nat.le_refl _) with ⟨hz, hrun⟩ | ⟨e, he, w1, hw1, hrun⟩
  · -- nothing is left
    refine op_val hFW (by rw [hL.o1]; intro c h; cases h) (cv := .tuple #[.bool false]) (w' := w) (by simp only [execOp, hL.o1, hev]; simp [Sem.run_bind, hrun, Result.andThen]) ?_
    have hS : 0 < es.length → S fr l := fun hpos => by
      have hj := hj0 hpos
      rw [← hsz] at hj
      refine hs hj (Classical.byContradiction fun hc => ?_)
      have hc' : seen.contains (ces[j0]).born = false := by simpa using hc
      have : ces[j0] ∈ leftOf ces seen := by
        unfold leftOf
        rw [Array.mem_filter]
        exact ⟨Array.getElem_mem hj, by rw [hc']; rfl⟩
      have := Array.size_pos_of_mem this
      omega
    have hl := hend fr l hx hS
    rw [← hHl] at hl
    unfold RLoop.last at hl
    rw [runOpsX_eq] at hl
    cases hro : runOps cx.P cx.nt cx.call L.ops1 L.t1 (putO cx.nt fr (some L.nx) (.tup [.bool false])) H with
    | none => rw [hro] at hl; simp at hl
    | some q =>
      obtain ⟨frE, HE⟩ := q
      rw [hro] at hl
      dsimp only at hl
      split at hl
      · rename_i hb
        simp only [Option.some.injEq, Prod.mk.injEq] at hl
        obtain ⟨rfl, rfl⟩ := hl
        have hput := hF.put (some L.nx) (v := .tup [.bool false]) (c := .tuple #[.bool false]) (.tup rfl (fun j hj => by
          obtain rfl : j = 0 := by simpa using hj
          exact .bool _))
        rw [hL.d1]
        refine runOps_rel hFW hN hC _ _ _ _ _ hro p M _ w hput hE.rel (hE.ne hne) (fun a2 w2 ⟨p2, M2, hE2, hF2, hd2⟩ => ?_)
        refine wpIn_seq ?_
        have hmo := hF2.at_ L.mo
        rw [isB_eq hb] at hmo
        have hc : a2.eval (.tmp L.mo) = .bool false := by
          show a2.tmps.getD L.mo Go.undef = _
          generalize a2.tmps.getD L.mo Go.undef = z at hmo
          cases hmo; rfl
        refine wpIn_cond_false hc (wpIn_exit ?_)
        show Exit.inBlock L.out Q (.exit L.out) a2 w2
        simp only [Exit.inBlock, if_true]
        refine hQ a2 w2 ⟨p2, M2, hE.trans hE2, hF2, ?_⟩
        rw [hd2, put_defers]
        exact hM.evo hE2
      · simp at hl
  · -- an entry comes
    have hemem : e ∈ ces.toList := by
      unfold leftOf at he
      simp at he
      simpa using he.1
    obtain ⟨j, hj, hje⟩ := List.getElem_of_mem hemem
    have hj' : j < ces.size := by simpa using hj
    have hje' : ces[j] = e := by simpa using hje
    have hjl : j < es.length := by rw [← hsz]; exact hj'
    obtain ⟨frN, lN, RN, hround, hxN, hjS⟩ := hXr fr l hx j hjl
    have hround' := hround
    rw [← hHl] at hround'
    unfold RLoop.round at hround'
    simp only [runOpsX_eq, execX_eq] at hround'
    obtain ⟨hkey, hval⟩ := hrel j hj'
    rw [hje'] at hkey hval
    have hE1 : Evo p0 M0 Hb w0 p M H w1 ∧ Marks n0 M H w1 a.defers ∧ w1.heap[r]? = some (.mapIter (some b) clock seen clock) := by
      rcases hw1 with rfl | rfl
      · exact ⟨hE, hM, hr⟩
      · exact ⟨hE.drew, hM.drew, hr⟩
    obtain ⟨hE1, hM1, hr1⟩ := hE1
    have hE2 := hE1.poke hr1 hr0 (.mapIter (some b) clock (seen.push e.born) clock)
    have hM2 := hM1.poke hr1 (.mapIter (some b) clock (seen.push e.born) clock)
    have hr2 : (setBlock w1 r (.mapIter (some b) clock (seen.push e.born) clock)).heap[r]? = some (.mapIter (some b) clock (seen.push e.born) clock) := by
      have hlt : r < w1.heap.size := (Array.getElem?_eq_some_iff.1 hr1).1
      simp [setBlock, hlt]
    generalize setBlock w1 r (.mapIter (some b) clock (seen.push e.born) clock) = w2 at hrun hE2 hM2 hr2
    refine op_val hFW (by rw [hL.o1]; intro c h; cases h) (cv := .tuple #[.bool true, e.key, e.val]) (w' := w2) (by simp only [execOp, hL.o1, hev]; simp [Sem.run_bind, hrun, Result.andThen]) ?_
    rw [hL.d1]
    have hput := hF.put (some L.nx) (v := .tup [.bool true, (es.getD j (.undef, .undef)).1, (es.getD j (.undef, .undef)).2]) (c := .tuple #[.bool true, e.key, e.val]) (.tup rfl (fun i hi => by
      match i, hi with
      | 0, _ => exact .bool _
      | 1, _ => exact hkey.mono hE2.pst hE2.mu
      | 2, _ => exact hval.mono hE2.pst hE2.mu))
    cases hro : runOps cx.P cx.nt cx.call L.ops1 L.t1 (putO cx.nt fr (some L.nx) (.tup [.bool true, (es.getD j (.undef, .undef)).1, (es.getD j (.undef, .undef)).2])) H with
    | none => rw [hro] at hround'; simp at hround'
    | some q =>
      obtain ⟨frA, HA⟩ := q
      rw [hro] at hround'
      dsimp only at hround'
      split at hround'
      · rename_i hcA
        simp only [Bool.and_eq_true] at hcA
        obtain ⟨hcA1, hcA2⟩ := hcA
        obtain ⟨t, hmk⟩ := slot hF (hXk fr l hx) ha
        refine runOps_rel hFW hN hC _ _ _ _ _ hro p M _ w2 hput hE2.rel (hE2.ne hne) (fun a3 w3 ⟨p3, M3, hE3, hF3, hd3⟩ => ?_)
        refine wpIn_seq ?_
        have hmo := hF3.at_ L.mo
        rw [isB_eq hcA1] at hmo
        have hc : a3.eval (.tmp L.mo) = .bool true := by
          show a3.tmps.getD L.mo Go.undef = _
          generalize a3.tmps.getD L.mo Go.undef = z at hmo
          cases hmo; rfl
        refine wpIn_cond_true hc (wpIn_skip ?_)
        show Code.wpIn F 0 cx.P _ _ a3 w3
        have hmk3 := hE3.mu _ _ _ _ hmk
        have ha3 := slot' hF3 (isPtr0_eq hcA2) hmk3
        have hr3 : w3.heap[r]? = some (.mapIter (some b) clock (seen.push e.born) clock) := by
          rw [hE3.stay.block r (Array.getElem?_eq_some_iff.1 hr2).1 (fun d i v B hg hB _ o t => iter_not hE2.rel hr2 hg hB o t)]; exact hr2
        have hE03 := hE2.trans hE3
        have hbw3 : w3.heap[b]? = some (.map ces clock) := by rw [hE03.stay.block b hbl hkb]; exact hb0
        have hM3 : Marks n0 M3 HA w3 a3.defers := by rw [hd3, put_defers]; exact hM2.evo hE3
        refine wpIn_block (wpIn_seq (wpIn_region_list ?_))
        rw [hL.l2]
        unfold wpListIn
        rw [if_pos (hwant _ hL.g2 _)]
        have hrunE := run_entry_at (P := cx.P) w3 r b clock seen ces clock e hr3 hbw3 hemem hnod
        have hev3 : a3.eval (.tmp L.it) = .pointer (some ⟨r, 0, none⟩) := ha3
        refine op_val hFW (by rw [hL.o2]; intro c h; cases h) (cv := .tuple #[e.key, e.val]) (w' := w3) (by simp only [execOp, hL.o2, hev3]; simp [Sem.run_bind, hrunE, Result.andThen]) ?_
        rw [hL.d2]
        have hput3 := hF3.put (some L.en) (v := .tup [(es.getD j (.undef, .undef)).1, (es.getD j (.undef, .undef)).2]) (c := .tuple #[e.key, e.val]) (.tup rfl (fun i hi => by
          match i, hi with
          | 0, _ => exact hkey.mono hE03.pst hE03.mu
          | 1, _ => exact hval.mono hE03.pst hE03.mu))
        cases hro2 : runOps cx.P cx.nt cx.call L.ops2 L.t2 (putO cx.nt frA (some L.en) (.tup [(es.getD j (.undef, .undef)).1, (es.getD j (.undef, .undef)).2])) HA with
        | none => rw [hro2] at hround'; simp at hround'
        | some q2 =>
          obtain ⟨frB, HB⟩ := q2
          rw [hro2] at hround'
          dsimp only at hround'
          refine runOps_rel hFW hN hC _ _ _ _ _ hro2 p3 M3 _ w3 hput3 hE3.rel (hE03.ne hne) (fun a4 w4 ⟨p4, M4, hE4, hF4, hd4⟩ => ?_)
          show Code.wpIn F 0 cx.P _ _ a4 w4
          have hE04 := hE03.trans hE4
          have hM4 : Marks n0 M4 HB w4 a4.defers := by rw [hd4, put_defers]; exact hM3.evo hE4
          split at hround'
          · rename_i frC HC hex
            split at hround'
            · rename_i hptC
              simp only [Option.some.injEq, Prod.mk.injEq] at hround'
              obtain ⟨rfl, hcut⟩ := hround'
              refine exec_rel hFW hN hC hX _ _ _ _ _ _ hex n0 p4 M4 a4 w4 _ hF4 hE4.rel (hE04.ne hne) (hRo.mono hE04.mu) hM4 (fun a5 w5 ⟨p5, M5, hE5, hF5, hM5⟩ => ?_)
              show Exit.inBlock L.nxt _ .normal a5 w5
              simp only [Exit.inBlock, Exit.then]
              have hE05 := hE04.trans hE5
              have hE35 := hE4.trans hE5
              have hF5' := hF5.kill L.km
              have hmk5 := hE35.mu _ _ _ _ hmk3
              have ha5 := slot' hF5' (isPtr0_eq hptC) hmk5
              have hr5 : w5.heap[r]? = some (.mapIter (some b) clock (seen.push e.born) clock) := by
                rw [hE35.stay.block r (Array.getElem?_eq_some_iff.1 hr3).1 (fun d i v B hg hB _ o t => iter_not hE3.rel hr3 hg hB o t)]; exact hr3
              obtain ⟨M6, hE6, hF6, hM6⟩ := cut_rel hE05 hF5' hM5 (fun d i v t hm => (hH0.dom d i v t hm).1)
              rw [hn, hcut] at hE6 hM6
              have hRN : RN = R := by
                have hdR : ∀ d, hLock Hb (d + 1) = true := fun d => by rw [hHb]; exact hlk d
                refine heap_ext _ _ (by have := hE6.len; rw [hHb] at this; simpa using this) (fun d i => ?_) (fun d => ?_) (fun d => ?_)
                · have := hE6.same (d + 1) i (by omega) (hdR d); rw [hHb] at this; exact this
                · have := hE6.next (d + 1) (by omega) (hdR d); rw [hHb] at this; exact this
                · have := hE6.lock (d + 1); rw [hHb] at this; exact this
              rw [hRN] at hE6 hM6
              refine ⟨⟨p5, M6, _, _, seen.push e.born, hE6, hF6, hM6, hxN, hr5, ha5, fun h hc => ?_⟩, ?_⟩
              · rw [Array.contains_push] at hc
                by_cases hold : seen.contains (ces[j0]).born = true
                · exact hSr fr l (hs h hold) j hjl _ _ _ hround
                · have hnew : (ces[j0]).born = e.born := by
                    simp only [Bool.or_eq_true, beq_iff_eq] at hc
                    rcases hc with hc | hc
                    · exact absurd hc hold
                    · first | exact hc | exact hc.symm
                  have := hborn.2 j0 j h hj' (by rw [hje']; exact hnew)
                  exact hjS this.symm
              · have hs5 : seenOf r w5 = seen.push e.born := by unfold seenOf; rw [hr5]
                rw [hs5, hseen]
                exact left_push he
            · simp at hround'
          · simp at hround'
      · simp at hround'

end Go.Eng
end
