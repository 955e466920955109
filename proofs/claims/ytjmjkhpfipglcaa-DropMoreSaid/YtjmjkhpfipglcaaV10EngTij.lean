/- The engine as a tree: loops over functions, and their rounds. -/
import Derived.Test.YtjmjkhpfipglcaaV10EngTgh
section
namespace Go.Eng
set_option linter.unusedVariables false
set_option linter.unusedSimpArgs false
noncomputable section

/-- A round of which it is known what it does in this heap. -/
def rdE (base : CallTr) (d0 i0 : Nat) (args0 : List AV) (H0 : Heap) (u : Tr (AV × Heap)) : CallTr := fun tgt args H => match tgt with
  | .round d i => cond (Nat.beq d d0 && Nat.beq i i0) (.reqP (avs args = args0 ∧ H = H0) (u.bind fun y => .ok ((y.1, none), y.2))) .bad
  | .fn g => base (.fn g) args H
  | .mode => base .mode args H
theorem rdE_ok {base : CallTr} {call : CallT} (h : base.Ok call) {d0 i0 : Nat} {args0 : List AV} {H0 : Heap} {u : Tr (AV × Heap)} (k : ∀ x, u.run = some x → call (.round d0 i0) args0 H0 = some x) : (rdE base d0 i0 args0 H0 u).Ok call := by
  refine ⟨h.1, fun tgt args H x hx => ?_⟩
  cases tgt with
  | fn g => exact h.2 _ _ _ _ hx
  | mode => exact h.2 _ _ _ _ hx
  | round d i =>
    unfold rdE at hx
    obtain ⟨hc, hx2⟩ := Tr.cond_bad hx
    clear hx
    rw [Bool.and_eq_true] at hc
    have e1 := Nat.eq_of_beq_eq_true hc.1
    have e2 := Nat.eq_of_beq_eq_true hc.2
    subst e1; subst e2
    obtain ⟨⟨e3, e4⟩, hx3⟩ := Tr.reqP_some hx2
    obtain ⟨y, h1, h2⟩ := Tr.bind_some hx3
    rw [e3, e4, k _ h1, ← Tr.ok_some h2]

/-- A round, by its record's code. -/
theorem round_of {P : Program} {ora : CallT → FuncId → List AV → Heap → Option (AV × Heap)} {KT : FuncId → Nat → Nat} {fu n d i : Nat} {args : List AV} {H H1 H2 : Heap} {l l1 l2 : ALoop} {fr fr1 fr2 : Frm} {e : Ex} {lv : Lvl}
    (hg : hGet H d i = (0, .loop l)) (hl : hLock H d = false) (hs : l.state = .ready) (hp : putPs l.nt (upFrm (d + 1) l.fr) l.params (args.map (upV 1)) = some fr)
    (h1 : exec ⟨P, callN P ora KT fu n, fu, l.fn, l.nt, KT l.fn, some (d + 1, i)⟩ l.assign fr (⟨false, []⟩ :: H) = some (.normal, fr1, H1)) (hg1 : hGet H1 (d + 1) i = (0, .loop l1)) (hs1 : l1.state = .ready)
    (h2 : exec ⟨P, callN P ora KT fu n, fu, l.fn, l.nt, KT l.fn, some (d + 1, i)⟩ l.body fr1 (hSet H1 (d + 1) i (0, .loop { l1 with state := .busy })) = some (e, fr2, lv :: H2)) (hg2 : hGet H2 d i = (0, .loop l2)) :
    callN P ora KT fu (n + 1) (.round d i) args H = some (.bool (jumpOf e).isNone, hSet H2 d i (0, .loop { l2 with state := if (jumpOf e).isNone then .ready else .done, pending := jumpOf e })) := by
  simp only [callN, hg, hl, Bool.false_eq_true, if_false, hs, hp, h1, hg1, hs1, h2, hg2]
/-- A loop over a function, by the function's call. -/
theorem range_of {cx : Cx} {f : Operand} {ps : Array Tmp} {as bd : Code} {fr : Frm} {H H1 : Heap} {g : FuncId} {a b : List AV} {v : AV} {l : ALoop} {e : Ex} (hf : opd fr f = .fn (.func g) a b) (hh : cx.here H = true) (hl : hLock H 0 = false)
    (hc : cx.call (.fn g) (a ++ (.yld 0 (hNext H) :: b)) (rangeStart fr H cx ps as bd) = some (v, H1)) (hg : hGet H1 0 (hNext H) = (0, .loop l)) (hb : (l.state == .busy) = false) (he : endEx l.pending = some e) :
    exec cx (.rangeFunc f ps as bd) fr H = some (e, fr, hKill H1 0 (hNext H)) := by
  unfold exec
  rw [hf]
  dsimp only
  rw [hh, hl]
  simp only [Bool.not_true, Bool.false_or, Bool.false_eq_true, if_false, hc, hg, hb, he]

end
end Go.Eng
end

section
namespace Go.Eng
set_option linter.unusedVariables false
set_option linter.unusedSimpArgs false
noncomputable section

/-- A tree answers, and what it answers is so. -/
def Tr.all {α : Type} (T : Tr α) (Q : α → Prop) : Prop := ∃ x, T.run = some x ∧ Q x
theorem Tr.all_ok {α : Type} {a : α} {Q : α → Prop} (h : Q a) : (Tr.ok a).all Q := ⟨a, rfl, h⟩
theorem Tr.all_ite {α : Type} {c : Bool} {a b : Tr α} {Q : α → Prop} (h1 : c = true → a.all Q) (h2 : c = false → b.all Q) : (Tr.ite c a b).all Q := by
  cases c with
  | true => exact h1 rfl
  | false => exact h2 rfl
theorem Tr.all_req {α : Type} {c : Bool} {a : Tr α} {Q : α → Prop} (h : c = true) (k : a.all Q) : (Tr.req c a).all Q := by
  subst h; exact k
theorem Tr.all_reqP {α : Type} {p : Prop} {a : Tr α} {Q : α → Prop} (h : p) (k : a.all Q) : (Tr.reqP p a).all Q := by
  obtain ⟨x, h1, h2⟩ := k
  exact ⟨x, (Tr.run_reqP h).trans h1, h2⟩
theorem Tr.all_mono {α : Type} {T : Tr α} {Q R : α → Prop} (h : T.all Q) (k : ∀ x, Q x → R x) : T.all R := by
  obtain ⟨x, h1, h2⟩ := h
  exact ⟨x, h1, k x h2⟩
theorem Tr.all_eq {α : Type} {T : Tr α} {y : α} (h : T.all (· = y)) : T.run = some y := by
  obtain ⟨x, h1, rfl⟩ := h
  exact h1
theorem notB_t (b : Bool) : (notB b = true) = (b = false) := by rw [notB_eq]; cases b <;> simp
theorem notB_f (b : Bool) : (notB b = false) = (b = true) := by rw [notB_eq]; cases b <;> simp
theorem andB_t (a b : Bool) : (andB a b = true) = (a = true ∧ b = true) := by rw [andB_eq]; cases a <;> cases b <;> simp
theorem andB_f (a b : Bool) : (andB a b = false) = ¬ (a = true ∧ b = true) := by rw [andB_eq]; cases a <;> cases b <;> simp
theorem ltI_t (x y : Int) : (ltI x y = true) = (x < y) := by rw [ltI_eq]; simp
theorem ltI_f (x y : Int) : (ltI x y = false) = (y ≤ x) := by rw [ltI_eq]; simp
theorem leI_t (x y : Int) : (leI x y = true) = (x ≤ y) := by rw [leI_eq]; simp
theorem leI_f (x y : Int) : (leI x y = false) = (y < x) := by rw [leI_eq]; simp
theorem eqI_t (x y : Int) : (eqI x y = true) = (x = y) := by rw [eqI_eq]; simp
theorem eqI_f (x y : Int) : (eqI x y = false) = ¬ (x = y) := by rw [eqI_eq]; simp
theorem inI_t (x : Int) (n : Nat) : (inI x n = true) = (0 ≤ x ∧ x < (n : Int)) := by rw [inI_eq]; simp
theorem bndI_t (x : Int) (n : Nat) : (bndI x n = true) = (0 ≤ x ∧ x ≤ (n : Int)) := by rw [bndI_eq]; simp
theorem ltN_t (x y : Nat) : (ltN x y = true) = (x < y) := by rw [ltN_eq]; simp
theorem ltN_f (x y : Nat) : (ltN x y = false) = (y ≤ x) := by rw [ltN_eq]; simp
theorem leN_t (x y : Nat) : (leN x y = true) = (x ≤ y) := by rw [leN_eq]; simp
theorem leN_f (x y : Nat) : (leN x y = false) = (y < x) := by rw [leN_eq]; simp
theorem eqN_t (x y : Nat) : (eqN x y = true) = (x = y) := by rw [eqN_eq]; simp
theorem eqN_f (x y : Nat) : (eqN x y = false) = ¬ (x = y) := by rw [eqN_eq]; simp
theorem inO_t (o m p n : Nat) : (inO o m p n = true) = (p ≤ o ∧ o + m ≤ p + n) := by rw [inO_eq]; simp
theorem minO_min (x y : Int) : minO x y = min x y := by rw [minO_eq]; omega
theorem maxO_max (x y : Int) : maxO x y = max x y := by rw [maxO_eq]; omega
theorem roomO_t (m n b : Nat) : (roomO m n b = true) = ((m + n) * b ≤ 70368744177664 ∧ m + n ≤ 70368744177664) := by rw [roomO_eq]; exact decide_eq_true_eq
theorem mkO_t (l c : Int) (b : Nat) : (mkO l c b = true) = (0 ≤ l ∧ l ≤ c ∧ c.toNat * b ≤ 70368744177664 ∧ c.toNat ≤ 70368744177664) := by rw [mkO_eq]; exact decide_eq_true_eq
theorem ofNat_cast (n : Nat) : Int.ofNat n = (n : Int) := rfl
theorem negSucc_one : Int.negSucc 1 = -2 := rfl
theorem negSucc_zero : Int.negSucc 0 = -1 := rfl
theorem negSucc_two : Int.negSucc 2 = -3 := rfl
theorem tn_succ {x : Int} (h : 0 ≤ x) : (x + 1).toNat = x.toNat + 1 := by omega
theorem wr_64 {k : Int} (h1 : -9223372036854775808 ≤ k) (h2 : k ≤ 9223372036854775807) : IntKind.i64.wrap k = k := Go.IntWalk.i64_in _ (by omega)

/-- What tests say, and what operations yield, in one. -/
theorem nV : (∀ x y : Int, (ltI x y = true) = (x < y)) ∧
  (∀ x y : Int, (ltI x y = false) = (y ≤ x)) ∧
  (∀ x y : Int, (leI x y = true) = (x ≤ y)) ∧
  (∀ x y : Int, (leI x y = false) = (y < x)) ∧
  (∀ x y : Int, (eqI x y = true) = (x = y)) ∧
  (∀ x y : Int, (eqI x y = false) = ¬ (x = y)) ∧
  (∀ b : Bool, (notB b = true) = (b = false)) ∧
  (∀ b : Bool, (notB b = false) = (b = true)) ∧
  (∀ a b : Bool, (andB a b = true) = (a = true ∧ b = true)) ∧
  (∀ a b : Bool, (andB a b = false) = ¬ (a = true ∧ b = true)) ∧
  (∀ (x : Int) (n : Nat), (inI x n = true) = (0 ≤ x ∧ x < (n : Int))) ∧
  (∀ (x : Int) (n : Nat), (bndI x n = true) = (0 ≤ x ∧ x ≤ (n : Int))) ∧
  (∀ x y : Nat, (ltN x y = true) = (x < y)) ∧
  (∀ x y : Nat, (ltN x y = false) = (y ≤ x)) ∧
  (∀ x y : Nat, (leN x y = true) = (x ≤ y)) ∧
  (∀ x y : Nat, (leN x y = false) = (y < x)) ∧
  (∀ x y : Nat, (eqN x y = true) = (x = y)) ∧
  (∀ x y : Nat, (eqN x y = false) = ¬ (x = y)) ∧
  (∀ o m p n : Nat, (inO o m p n = true) = (p ≤ o ∧ o + m ≤ p + n)) ∧
  (∀ m n b : Nat, (roomO m n b = true) = ((m + n) * b ≤ 70368744177664 ∧ m + n ≤ 70368744177664)) ∧
  (∀ (l c : Int) (b : Nat), (mkO l c b = true) = (0 ≤ l ∧ l ≤ c ∧ c.toNat * b ≤ 70368744177664 ∧ c.toNat ≤ 70368744177664)) ∧
  (∀ x y : Int, minO x y = min x y) ∧
  (∀ x y : Int, maxO x y = max x y) ∧
  (∀ (o : Nat) (i : Int) (s : Nat), idO o i s = o + i.toNat * s) ∧
  (∀ a b : Nat, addO a b = a + b) ∧
  (∀ a b : Nat, subO a b = a - b) ∧
  (∀ i : Int, toN i = i.toNat) ∧
  (∀ (k : IntKind) (x y : Int), addI k x y = k.wrap (x + y)) ∧
  (∀ (k : IntKind) (x y : Int), subI k x y = k.wrap (x - y)) ∧
  (∀ (k : IntKind) (x y : Int), mulI k x y = k.wrap (x * y)) ∧
  (∀ n : Nat, Int.ofNat n = (n : Int)) ∧
  (Int.negSucc 0 = -1) ∧
  (Int.negSucc 1 = -2) ∧
  (Int.negSucc 2 = -3) ∧
  (∀ {k : Int}, -9223372036854775808 ≤ k → k ≤ 9223372036854775807 → IntKind.i64.wrap k = k) ∧
  (∀ {x : Int}, 0 ≤ x → (x + 1).toNat = x.toNat + 1) ∧
  ((0 : Int).toNat = 0) ∧
  (∀ n : Nat, 0 * n = 0) ∧
  (∀ n : Nat, 1 * n = n) ∧
  (∀ n : Nat, (n : Int).toNat = n) ∧
  (((0 : Nat) : Int) = 0) ∧
  (((1 : Nat) : Int) = 1) ∧
  (∀ n : Nat, 0 + n = n) ∧
  ((¬ True) = False) ∧
  ((¬ False) = True) ∧
  ((true = false) = False) ∧
  ((false = true) = False) ∧
  ((!true) = false) ∧
  ((!false) = true) ∧
  (∀ p : Prop, (True ∧ p) = p) ∧
  (∀ p : Prop, (p ∧ True) = p) ∧
  (∀ p : Prop, (False ∧ p) = False) ∧
  (∀ p : Prop, (p ∧ False) = False) :=
  ⟨ltI_t, ltI_f, leI_t, leI_f, eqI_t, eqI_f, notB_t, notB_f, andB_t, andB_f, inI_t, bndI_t, ltN_t, ltN_f, leN_t, leN_f, eqN_t, eqN_f, inO_t, roomO_t, mkO_t, minO_min, maxO_max, idO_eq, addO_eq, subO_eq, toN_eq, addI_eq, subI_eq, mulI_eq, ofNat_cast, negSucc_zero, negSucc_one, negSucc_two, wr_64, tn_succ, Int.toNat_zero, Nat.zero_mul, Nat.one_mul, Int.toNat_natCast, Int.natCast_zero, Int.natCast_one, Nat.zero_add, not_true_eq_false, not_false_eq_true, Bool.true_eq_false, Bool.false_eq_true, Bool.not_true, Bool.not_false, true_and, and_true, false_and, and_false⟩
end
end Go.Eng
end
