/- Bath: the table of calls. -/
import Derived.Test.YtigmfpmabgekoaaGreatV7EngTgx2
import Derived.Test.YtigmfpmabgekoaaGreatV7EngKtBx2
import Derived.Test.YtigmfpmabgekoaaGreatV7EngArgx5
import Derived.Test.YtigmfpmabgekoaaGreatProg
import Derived.KernelRfl
section
namespace Go.Eng
open Go.Proofs Go.ChangeShapes
set_option linter.unusedVariables false
set_option maxRecDepth 100000

/-- A slice that the law is given: of elements of n cells. -/
noncomputable def slA (n len : Nat) (z : Nat → Int) : AV := .slcT none (.M [.arr .i64 z (mulS len n)]) n len false
noncomputable def bathA (w : Int) (ls : Nat) (zs : Nat → Int) (ld : Nat) (zd : Nat → Int) : AV := .agg (.G [.int .i64 w, slA 2 ls zs, slA 3 ld zd])
noncomputable def oraD : CallT → FuncId → List AV → Heap → Option (AV × Heap) := oraS [⟨15, [], .bool true⟩]
def noD (f : FuncId) : Bool := Nat.beq f 15 || Nat.beq f 1000000
/-- Calls of the program, so many deep. -/
noncomputable def cd (n : Nat) : CallT := callN Tryz.prog oraD KtB.kt 100000 n
/-- Calls carried out where they stand, k deep. -/
noncomputable def il (tab : Ctr) (n k : Nat) : CallTr := inlT Tryz.prog oraD KtB.kt 100000 noD tab n k
noncomputable def cxD (n : Nat) (f nt : Nat) : Cx := ⟨Tryz.prog, cd n, 100000, f, nt, KtB.kt f, none⟩

/-- A part of code: along a road of lefts (0) and rights (1). -/
def nav : List Nat → Code → Code
  | [], c => c
  | x :: p, c => match c with
    | .seq a b => match x with
      | 0 => nav p a
      | _ => nav p b
    | .cond _ a b => match x with
      | 0 => nav p a
      | _ => nav p b
    | .block _ b => nav p b
    | .loop b => nav p b
    | .scope b => nav p b
    | .rangeFunc _ _ a b => match x with
      | 0 => nav p a
      | _ => nav p b
    | c => c
/-- A body's part. -/
noncomputable def part (f : Func) (p : List Nat) : Code := nav p (bodyOf f)
theorem noD_ok (g : FuncId) (h : noD g = false) (c : CallT) (args : List AV) (H : Heap) : oraD c g args H = none := by
  unfold noD at h
  rw [Bool.or_eq_false_iff] at h
  unfold oraD oraS
  rw [h.2, cond_false]
  simp only [oraT]
  have : Nat.beq 15 g = false := by
    cases hb : Nat.beq 15 g with
    | false => rfl
    | true => have := Nat.eq_of_beq_eq_true hb; subst this; simp at h
  rw [this]; rfl
theorem il_ok (tab : Ctr) (n k : Nat) (ht : ∀ k, tab.Ok (cd (n + k))) : (il tab n k).Ok (cd (n + k)) := inlT_ok _ _ _ _ _ _ _ noD_ok (fun k => oraS_mode _ _ _ _ _) ht k
theorem il_no (n k : Nat) : (il noCt n k).Ok (cd (n + k)) := il_ok _ _ _ (fun k => noCt_ok _)
theorem il_no0 (n : Nat) : (il noCt n 0).Ok (cd n) := il_no n 0
theorem fn_ok {f : FuncId} {fn : Func} {n : Nat} (hf : Tryz.prog.funcs[f]? = some fn) (hb : fn.body.isSome = true) (hn : noD f = false) {args : List HV} (hle : Nat.ble args.length fn.ntmps = true) {H : Heap} {callR : CallTr} (hC : callR.Ok (cd n)) {bl : BlkT} (hB : bl.Ok (cxD n f fn.ntmps) (bodyOf fn)) {rg : RgT} (hR : rg.Ok (cxD n f fn.ntmps) (bodyOf fn)) {y : HV × Heap}
    (h : (bodyT Tryz.prog (cd n) 100000 f fn (KtB.kt f) callR bl rg args H).run = some y) : cd (n + 1) (.fn f) (avs args) H = some (y.1.1, y.2) :=
  bodyT_ok hf hb (noD_ok f hn _ _ _) hle hC hB hR h
theorem fn_of {f : FuncId} {fn : Func} {n : Nat} (hf : Tryz.prog.funcs[f]? = some fn) (hb : fn.body.isSome = true) (hn : noD f = false) {args : List HV} (hle : Nat.ble args.length fn.ntmps = true) {H : Heap} {callR : CallTr} {bl : BlkT} {rg : RgT} {T : Tr (HV × Heap)}
    (e : bodyT Tryz.prog (cd n) 100000 f fn (KtB.kt f) callR bl rg args H = T) (hC : callR.Ok (cd n)) (hB : bl.Ok (cxD n f fn.ntmps) (bodyOf fn)) (hR : rg.Ok (cxD n f fn.ntmps) (bodyOf fn)) {y : HV × Heap} (hr : T.run = some y) : cd (n + 1) (.fn f) (avs args) H = some (y.1.1, y.2) :=
  fn_ok hf hb hn hle hC hB hR (by rw [e]; exact hr)
/-- The body of a loop, carried out. -/
theorem ex_ok {n f nt : Nat} {c : Code} {callR : CallTr} (hC : callR.Ok (cd n)) {bl : BlkT} (hB : bl.Ok (cxD n f nt) c) {rg : RgT} (hR : rg.Ok (cxD n f nt) c) {fr : Frm} {H : Heap} {x : Res} (h : (execT (cxD n f nt) callR bl rg c (hints fr) H).run = some x) : exec (cxD n f nt) c fr H = some x.st := by
  have := execT_ok hC c hB hR _ _ _ h
  rw [hints_eq] at this
  exact this

/-- A block that is not reached. -/
def stopB (bl : BlkT) (id0 : Nat) : BlkT := fun id fr H => cond (Nat.beq id id0) (some .bad) (bl id fr H)
theorem stopB_ok {bl : BlkT} {cx : Cx} {c : Code} (h : bl.Ok cx c) (id0 : Nat) : (stopB bl id0).Ok cx c := by
  intro id b hm fr H t y ht hy
  unfold stopB at ht
  cases hb : Nat.beq id id0 with
  | true =>
    rw [hb, cond_true, Option.some.injEq] at ht
    subst ht
    exact (Tr.bad_some hy).elim
  | false =>
    rw [hb, cond_false] at ht
    exact h id b hm fr H t y ht hy
theorem ex_of {n f nt : Nat} {c : Code} {callR : CallTr} {bl : BlkT} {rg : RgT} {fr : Frm} {H : Heap} {T : Tr Res} (e : execT (cxD n f nt) callR bl rg c (hints fr) H = T) (hC : callR.Ok (cd n)) (hB : bl.Ok (cxD n f nt) c) (hR : rg.Ok (cxD n f nt) c) {x : Res} (hr : T.run = some x) : exec (cxD n f nt) c fr H = some x.st :=
  ex_ok hC hB hR (by rw [e]; exact hr)
section
variable {n f nt : Nat} {c : Code} {callR : CallTr} {bl : BlkT} {rg : RgT}
/-- A block's loop: it goes up to N, or up to the first place at which it is left. -/
theorem findE (id : Nat) (F : Nat → Frm) (G : Nat → Heap) (N : Nat) (p : Nat → Bool) (X : Nat → Res) (hN : N < 99999)
    (hs : ∀ j, j < N → p j = false → ∃ f' g, exec (cxD n f nt) c (F j) (G j) = some (.normal, f', g) ∧ f' = F (j + 1) ∧ tidy (hNext (G 0)) (F (j + 1)) g = (F (j + 1), G (j + 1)))
    (hh : ∀ j, j < N → p j = true → exec (cxD n f nt) c (F j) (G j) = some (X j).st ∧ (X j).1 = .ret)
    (he : exec (cxD n f nt) c (F N) (G N) = some (X N).st ∧ (X N).1 = .exit id) (x : Res)
    (hx : (fN p N 0 < N ∧ x.st = (X (fN p N 0)).st) ∨ (fN p N 0 = N ∧ x.st = (.normal, (X N).st.2))) : exec (cxD n f nt) (.block id (.loop c)) (F 0) (G 0) = some x.st := by
  have st : ∀ r : Res, r.st.1 = r.1 := fun r => rfl
  have key := iter_find (body := exec (cxD n f nt) c) (n := hNext (G 0)) F G N p (fun j => (X j).st)
    (fun j hj hp => by
      obtain ⟨f', g, h1, h2, h3⟩ := hs j hj hp
      exact ⟨f', g, h1, by rw [h2]; exact h3⟩)
    (fun j hj hp => by
      obtain ⟨h1, h2⟩ := hh j hj hp
      exact ⟨h1, by rw [st, h2]; simp⟩)
    (by
      obtain ⟨h1, h2⟩ := he
      exact ⟨h1, by rw [st, h2]; simp⟩) N 0 100000 (by omega) (by omega)
  rcases hx with ⟨h1, h2⟩ | ⟨h1, h2⟩
  · have hq := (fN_spec p N 0).2.2.2 (by omega)
    obtain ⟨_, hr⟩ := hh _ h1 hq
    rw [h2]
    generalize X (fN p N 0) = y at key hr
    obtain ⟨e, f1, g1⟩ := y
    dsimp only at hr
    subst hr
    exact exec_block_loop_other (fun id' h => by cases h) key
  · rw [h1] at key
    rw [h2]
    have hr := he.2
    generalize X N = y at key hr
    obtain ⟨e, f1, g1⟩ := y
    dsimp only at hr
    subst hr
    exact exec_block_loop key
/-- A block's loop, by trees: it goes up to N, or up to the first place at which it is left. -/
theorem findB (hC : callR.Ok (cd n)) (hB : bl.Ok (cxD n f nt) c) (hR : rg.Ok (cxD n f nt) c) (id : Nat) (F : Nat → Frm) (G : Nat → Heap) (N : Nat) (p : Nat → Bool) (X : Nat → Res) (hN : N < 99999)
    (hs : ∀ j, j < N → p j = false → ∃ f' g, (execT (cxD n f nt) callR bl rg c (hints (F j)) (G j)).run = some (.normal, f', g) ∧ strip f' = F (j + 1) ∧ tidy (hNext (G 0)) (F (j + 1)) g = (F (j + 1), G (j + 1)))
    (hh : ∀ j, j < N → p j = true → (execT (cxD n f nt) callR bl rg c (hints (F j)) (G j)).run = some (X j) ∧ (X j).1 = .ret)
    (he : (execT (cxD n f nt) callR bl rg c (hints (F N)) (G N)).run = some (X N) ∧ (X N).1 = .exit id) (x : Res)
    (hx : (fN p N 0 < N ∧ x.st = (X (fN p N 0)).st) ∨ (fN p N 0 = N ∧ x.st = (.normal, (X N).st.2))) : exec (cxD n f nt) (.block id (.loop c)) (F 0) (G 0) = some x.st := by
  have st : ∀ r : Res, r.st.1 = r.1 := fun r => rfl
  have key := iter_find (body := exec (cxD n f nt) c) (n := hNext (G 0)) F G N p (fun j => (X j).st)
    (fun j hj hp => by
      obtain ⟨f', g, h1, h2, h3⟩ := hs j hj hp
      refine ⟨strip f', g, ex_ok hC hB hR h1, ?_⟩
      rw [h2]; exact h3)
    (fun j hj hp => by
      obtain ⟨h1, h2⟩ := hh j hj hp
      exact ⟨ex_ok hC hB hR h1, by rw [st, h2]; simp⟩)
    (by
      obtain ⟨h1, h2⟩ := he
      exact ⟨ex_ok hC hB hR h1, by rw [st, h2]; simp⟩) N 0 100000 (by omega) (by omega)
  rcases hx with ⟨h1, h2⟩ | ⟨h1, h2⟩
  · have hq := (fN_spec p N 0).2.2.2 (by omega)
    obtain ⟨_, hr⟩ := hh _ h1 hq
    rw [h2]
    generalize X (fN p N 0) = y at key hr
    obtain ⟨e, f1, g1⟩ := y
    dsimp only at hr
    subst hr
    exact exec_block_loop_other (fun id' h => by cases h) key
  · rw [h1] at key
    rw [h2]
    have hr := he.2
    generalize X N = y at key hr
    obtain ⟨e, f1, g1⟩ := y
    dsimp only at hr
    subst hr
    exact exec_block_loop key
/-- .. that goes up to N. -/
theorem forB (hC : callR.Ok (cd n)) (hB : bl.Ok (cxD n f nt) c) (hR : rg.Ok (cxD n f nt) c) (id : Nat) (F : Nat → Frm) (G : Nat → Heap) (N : Nat) (y : Res) (hN : N < 99999)
    (hs : ∀ j, j < N → ∃ f' g, (execT (cxD n f nt) callR bl rg c (hints (F j)) (G j)).run = some (.normal, f', g) ∧ strip f' = F (j + 1) ∧ tidy (hNext (G 0)) (F (j + 1)) g = (F (j + 1), G (j + 1)))
    (he : (execT (cxD n f nt) callR bl rg c (hints (F N)) (G N)).run = some y ∧ y.1 = .exit id) : exec (cxD n f nt) (.block id (.loop c)) (F 0) (G 0) = some (.normal, y.st.2) := by
  have key := iter_for (body := exec (cxD n f nt) c) (n := hNext (G 0)) F G N y.st
    (fun j hj => by
      obtain ⟨f', g, h1, h2, h3⟩ := hs j hj
      refine ⟨strip f', g, ex_ok hC hB hR h1, ?_⟩
      rw [h2]; exact h3)
    (by
      obtain ⟨h1, h2⟩ := he
      exact ⟨ex_ok hC hB hR h1, by rw [show y.st.1 = y.1 from rfl, h2]; simp⟩) 100000 (by omega)
  have hr := he.2
  obtain ⟨e, f1, g1⟩ := y
  dsimp only at hr
  subst hr
  exact exec_block_loop key
end
theorem wrap_j (j : Nat) (h : j < 2 ^ 31) : IntKind.i64.wrap ((j : Int) + 1) = ((j + 1 : Nat) : Int) := by
  rw [show ((j : Int) + 1) = ((j + 1 : Nat) : Int) by omega]
  exact Go.IntWalk.i64_in _ (by omega)

/-- Is there one of the first N? -/
def exN (p : Nat → Bool) (N : Nat) : Bool := decide (fN p N 0 < N)
theorem exN_true {p : Nat → Bool} {N : Nat} (h : exN p N = true) : fN p N 0 < N := by simpa [exN] using h
theorem exN_false {p : Nat → Bool} {N : Nat} (h : exN p N = false) : fN p N 0 = N := by
  have h1 := (fN_spec p N 0).2.1
  have : ¬ fN p N 0 < N := by simpa [exN] using h
  omega
theorem exN_iff (p : Nat → Bool) (N : Nat) : exN p N = true ↔ ∃ i, i < N ∧ p i = true := by
  obtain ⟨h1, h2, h3, h4⟩ := fN_spec p N 0
  constructor
  · intro h
    have := exN_true h
    exact ⟨_, this, h4 (by omega)⟩
  · rintro ⟨i, hi, hp⟩
    unfold exN
    rw [decide_eq_true_eq]
    apply Nat.lt_of_not_le
    intro hc
    have := h3 i (by omega) (by omega)
    rw [this] at hp; cases hp
theorem lt_mulO (a b c : Nat) : (a < mulO b c) = (a < b * c) := by rw [mulO_eq]
theorem le_mulO (a b c : Nat) : (a ≤ mulO b c) = (a ≤ b * c) := by rw [mulO_eq]

theorem nS : (∀ x y : Int, ltI x y = decide (x < y)) ∧
  (∀ x y : Int, leI x y = decide (x ≤ y)) ∧
  (∀ b : Bool, notB b = (!b)) ∧
  (∀ a b : Bool, andB a b = (a && b)) ∧
  (∀ (i : Int) (n : Nat), inI i n = decide (0 ≤ i ∧ i < (n : Int))) ∧
  (∀ x y : Nat, ltN x y = decide (x < y)) ∧
  (∀ x y : Nat, leN x y = decide (x ≤ y)) ∧
  (∀ a b c : Nat, (a < mulO b c) = (a < b * c)) ∧
  (∀ a b c : Nat, (a ≤ mulO b c) = (a ≤ b * c)) ∧
  (∀ (o : Nat) (i : Int) (s : Nat), idO o i s = o + i.toNat * s) ∧
  (∀ a b : Nat, addO a b = a + b) ∧
  (∀ (k : IntKind) (x y : Int), addI k x y = k.wrap (x + y)) ∧
  (∀ n : Nat, (n : Int).toNat = n) ∧
  (∀ n : Nat, 0 + n = n) ∧
  (((1 : Nat) : Int) = 1) ∧
  ((!true) = false) ∧
  ((!false) = true) ∧
  (∀ b : Bool, (b && true) = b) ∧
  (∀ b : Bool, (b && false) = false) ∧
  (∀ b : Bool, (true && b) = b) ∧
  (∀ b : Bool, (false && b) = false) :=
  ⟨ltI_eq, leI_eq, notB_eq, andB_eq, inI_eq, ltN_eq, leN_eq, lt_mulO, le_mulO, idO_eq, addO_eq, addI_eq, Int.toNat_natCast, Nat.zero_add, Int.natCast_one, Bool.not_true, Bool.not_false, Bool.and_true, Bool.and_false, Bool.true_and, Bool.false_and⟩
end Go.Eng
end
section
namespace Go.Eng
open Go.Proofs
set_option linter.unusedVariables false
theorem fn_all {f : FuncId} {fn : Func} {n : Nat} (hf : Tryz.prog.funcs[f]? = some fn) (hb : fn.body.isSome = true) (hn : noD f = false) {args : List HV} (hle : Nat.ble args.length fn.ntmps = true) {H : Heap} {callR : CallTr} {bl : BlkT} {rg : RgT} {T : Tr (HV × Heap)}
    (e : bodyT Tryz.prog (cd n) 100000 f fn (KtB.kt f) callR bl rg args H = T) (hC : callR.Ok (cd n)) (hB : bl.Ok (cxD n f fn.ntmps) (bodyOf fn)) (hR : rg.Ok (cxD n f fn.ntmps) (bodyOf fn)) {v : AV} {H' : Heap} (h : T.all fun y => y.1.1 = v ∧ y.2 = H') : cd (n + 1) (.fn f) (avs args) H = some (v, H') := by
  obtain ⟨y, h1, h2, h3⟩ := h
  have := fn_of hf hb hn hle e hC hB hR h1
  rw [this, h2, h3]
/-- .. in which it is not told what is answered. -/
theorem fn_ex {f : FuncId} {fn : Func} {n : Nat} (hf : Tryz.prog.funcs[f]? = some fn) (hb : fn.body.isSome = true) (hn : noD f = false) {args : List HV} (hle : Nat.ble args.length fn.ntmps = true) {H : Heap} {callR : CallTr} {bl : BlkT} {rg : RgT} {T : Tr (HV × Heap)}
    (e : bodyT Tryz.prog (cd n) 100000 f fn (KtB.kt f) callR bl rg args H = T) (hC : callR.Ok (cd n)) (hB : bl.Ok (cxD n f fn.ntmps) (bodyOf fn)) (hR : rg.Ok (cxD n f fn.ntmps) (bodyOf fn)) {Q : AV → Heap → Prop} (h : T.all fun y => Q y.1.1 y.2) : ∃ v H', cd (n + 1) (.fn f) (avs args) H = some (v, H') ∧ Q v H' := by
  obtain ⟨y, h1, h2⟩ := h
  exact ⟨_, _, fn_of hf hb hn hle e hC hB hR h1, h2⟩
theorem ex_all {n f nt : Nat} {c : Code} {callR : CallTr} {bl : BlkT} {rg : RgT} {fr : Frm} {H : Heap} {T : Tr Res} (e : execT (cxD n f nt) callR bl rg c (hints fr) H = T) (hC : callR.Ok (cd n)) (hB : bl.Ok (cxD n f nt) c) (hR : rg.Ok (cxD n f nt) c) {Q : Ex × Frm × Heap → Prop} (h : T.all fun x => Q x.st) : ∃ x, exec (cxD n f nt) c fr H = some x ∧ Q x := by
  obtain ⟨x, h1, h2⟩ := h
  exact ⟨_, ex_of e hC hB hR h1, h2⟩
section
variable {n f nt : Nat} {c : Code} {callR : CallTr} {bl : BlkT} {rg : RgT}
/-- A block's loop, by what holds in each round. -/
theorem loopI (id : Nat) (I : Nat → Frm → Heap → Prop) (Q : Frm × Heap → Prop) (N : Nat) (hN : N < 99999) {fr0 : Frm} {H0 : Heap} (h0 : I 0 fr0 H0)
    (hr : ∀ j fr H, I j fr H → ∃ x, exec (cxD n f nt) c fr H = some x ∧ ((x.1 = .normal ∧ j < N ∧ I (j + 1) (tidy (hNext H0) x.2.1 x.2.2).1 (tidy (hNext H0) x.2.1 x.2.2).2) ∨ (x.1 = .exit id ∧ Q x.2))) :
    ∃ y, exec (cxD n f nt) (.block id (.loop c)) fr0 H0 = some (.normal, y) ∧ Q y := by
  obtain ⟨x, h1, h2⟩ := iter_inv (body := exec (cxD n f nt) c) (n := hNext H0) I (fun x => x.1 = .exit id ∧ Q x.2) N (fun j fr H h => by
    obtain ⟨x, h1, h2⟩ := hr j fr H h
    obtain ⟨e, f1, g1⟩ := x
    refine ⟨e, f1, g1, h1, ?_⟩
    rcases h2 with h2 | ⟨h2, h3⟩
    · exact .inl h2
    · exact .inr ⟨by dsimp only at h2; rw [h2]; simp, h2, h3⟩) 100000 0 fr0 H0 h0 (by omega)
  obtain ⟨e, f1, g1⟩ := x
  obtain ⟨h2, h3⟩ := h2
  dsimp only at h2 h3
  subst h2
  exact ⟨(f1, g1), exec_block_loop h1, h3⟩
/-- A block's loop, round by round: up to N, or up to the first place at which it is left. -/
theorem findX (id : Nat) (F : Nat → Frm) (G : Nat → Heap) (N : Nat) (p : Nat → Bool) (X : Nat → Frm × Heap) (Y : Frm × Heap) (hN : N < 99999)
    (hs : ∀ j, j < N → ∃ x, exec (cxD n f nt) c (F j) (G j) = some x ∧ if p j = true then x = (.ret, X j) else x.1 = .normal ∧ tidy (hNext (G 0)) x.2.1 x.2.2 = (F (j + 1), G (j + 1)))
    (he : exec (cxD n f nt) c (F N) (G N) = some (.exit id, Y)) : exec (cxD n f nt) (.block id (.loop c)) (F 0) (G 0) = some (cond (exN p N) (.ret, X (fN p N 0)) (.normal, Y)) := by
  have key := iter_find (body := exec (cxD n f nt) c) (n := hNext (G 0)) F G N p (fun j => if j < N then (.ret, X j) else (.exit id, Y))
    (fun j hj hp => by
      obtain ⟨x, h1, h2⟩ := hs j hj
      rw [if_neg (by rw [hp]; simp)] at h2
      obtain ⟨e, f1, g1⟩ := x
      obtain ⟨rfl, h3⟩ := h2
      exact ⟨_, _, h1, h3⟩)
    (fun j hj hp => by
      obtain ⟨x, h1, h2⟩ := hs j hj
      rw [if_pos hp] at h2
      subst h2
      rw [if_pos hj]
      exact ⟨h1, by simp⟩)
    (by
      rw [if_neg (by omega)]
      exact ⟨he, by simp⟩) N 0 100000 (by omega) (by omega)
  cases hc : exN p N with
  | true =>
    have := exN_true hc
    rw [if_pos this] at key
    exact exec_block_loop_other (fun id' h => by cases h) key
  | false =>
    have := exN_false hc
    rw [if_neg (by omega)] at key
    exact exec_block_loop key
/-- A block's loop: up to N, or up to the first place at which it is left; the level is tidied. -/
theorem findT (hC : callR.Ok (cd n)) (hB : bl.Ok (cxD n f nt) c) (hR : rg.Ok (cxD n f nt) c) (id : Nat) (F : Nat → Frm) (G : Nat → Heap) (N : Nat) (p : Nat → Bool) (X : Nat → Frm × Heap) (Y : Frm × Heap) (hN : N < 99999)
    (hs : ∀ j, j < N → (execT (cxD n f nt) callR bl rg c (hints (F j)) (G j)).all fun x => if p j = true then x.1 = .ret ∧ strip x.2.1 = (X j).1 ∧ x.2.2 = (X j).2 else x.1 = .normal ∧ tidy (hNext (G 0)) (strip x.2.1) x.2.2 = (F (j + 1), G (j + 1)))
    (he : (execT (cxD n f nt) callR bl rg c (hints (F N)) (G N)).all fun x => x.1 = .exit id ∧ strip x.2.1 = Y.1 ∧ x.2.2 = Y.2) (x : Res)
    (hx : (Tr.ite (exN p N) (Tr.ok (.ret, hints (X (fN p N 0)).1, (X (fN p N 0)).2)) (Tr.ok (.normal, hints Y.1, Y.2))).run = some x) : exec (cxD n f nt) (.block id (.loop c)) (F 0) (G 0) = some x.st := by
  have key := iter_find (body := exec (cxD n f nt) c) (n := hNext (G 0)) F G N p (fun j => if j < N then (.ret, (X j).1, (X j).2) else (.exit id, Y.1, Y.2))
    (fun j hj hp => by
      obtain ⟨x, h1, h2⟩ := hs j hj
      rw [if_neg (by rw [hp]; simp)] at h2
      obtain ⟨e, f1, g1⟩ := x
      obtain ⟨rfl, h3⟩ := h2
      exact ⟨_, _, ex_ok hC hB hR h1, h3⟩)
    (fun j hj hp => by
      obtain ⟨x, h1, h2⟩ := hs j hj
      rw [if_pos hp] at h2
      obtain ⟨e, f1, g1⟩ := x
      obtain ⟨rfl, h3, h4⟩ := h2
      dsimp only at h3 h4
      rw [if_pos hj]
      refine ⟨?_, by simp⟩
      rw [ex_ok hC hB hR h1]
      simp only [Res.st]
      rw [h3, h4])
    (by
      obtain ⟨x, h1, h2⟩ := he
      obtain ⟨e, f1, g1⟩ := x
      obtain ⟨rfl, h3, h4⟩ := h2
      dsimp only at h3 h4
      rw [if_neg (by omega)]
      refine ⟨?_, by simp⟩
      rw [ex_ok hC hB hR h1]
      simp only [Res.st]
      rw [h3, h4]) N 0 100000 (by omega) (by omega)
  rcases Tr.ite_some hx with ⟨hc, hx⟩ | ⟨hc, hx⟩
  · have := exN_true hc
    rw [if_pos this] at key
    rw [← Tr.ok_some hx]
    simp only [Res.st, hints_eq]
    exact exec_block_loop_other (fun id' h => by cases h) key
  · have := exN_false hc
    rw [if_neg (by omega)] at key
    rw [← Tr.ok_some hx]
    simp only [Res.st, hints_eq]
    exact exec_block_loop key
/-- .. that goes up to N. -/
theorem forT (hC : callR.Ok (cd n)) (hB : bl.Ok (cxD n f nt) c) (hR : rg.Ok (cxD n f nt) c) (id : Nat) (F : Nat → Frm) (G : Nat → Heap) (N : Nat) (Y : Frm × Heap) (hN : N < 99999)
    (hs : ∀ j, j < N → (execT (cxD n f nt) callR bl rg c (hints (F j)) (G j)).all fun x => x.1 = .normal ∧ tidy (hNext (G 0)) (strip x.2.1) x.2.2 = (F (j + 1), G (j + 1)))
    (he : (execT (cxD n f nt) callR bl rg c (hints (F N)) (G N)).all fun x => x.1 = .exit id ∧ strip x.2.1 = Y.1 ∧ x.2.2 = Y.2) : exec (cxD n f nt) (.block id (.loop c)) (F 0) (G 0) = some (.normal, Y.1, Y.2) := by
  have h0 : exN (fun _ => false) N = false := by
    cases h : exN (fun _ => false) N with
    | false => rfl
    | true => obtain ⟨i, _, h2⟩ := (exN_iff _ _).1 h; cases h2
  have := findT hC hB hR id F G N (fun _ => false) (fun _ => ([], [])) Y hN (fun j hj => by simpa using hs j hj) he (.normal, hints Y.1, Y.2) (by rw [Tr.run_ite, h0]; rfl)
  rw [this]
  simp only [Res.st, hints_eq]
/-- .. of which a round leaves the level as it was. -/
theorem findL (hC : callR.Ok (cd n)) (hB : bl.Ok (cxD n f nt) c) (hR : rg.Ok (cxD n f nt) c) (id : Nat) (F : Nat → Frm) (G : Nat → Heap) (N : Nat) (p : Nat → Bool) (X : Nat → Frm × Heap) (Y : Frm × Heap) (hN : N < 99999)
    (hs : ∀ j, j < N → (execT (cxD n f nt) callR bl rg c (hints (F j)) (G j)).all fun x => if p j = true then x.1 = .ret ∧ strip x.2.1 = (X j).1 ∧ x.2.2 = (X j).2 else x.1 = .normal ∧ strip x.2.1 = F (j + 1) ∧ tidy (hNext (G 0)) (F (j + 1)) x.2.2 = (F (j + 1), G (j + 1)))
    (he : (execT (cxD n f nt) callR bl rg c (hints (F N)) (G N)).all fun x => x.1 = .exit id ∧ strip x.2.1 = Y.1 ∧ x.2.2 = Y.2) (x : Res)
    (hx : (Tr.ite (exN p N) (Tr.ok (.ret, hints (X (fN p N 0)).1, (X (fN p N 0)).2)) (Tr.ok (.normal, hints Y.1, Y.2))).run = some x) : exec (cxD n f nt) (.block id (.loop c)) (F 0) (G 0) = some x.st :=
  findT hC hB hR id F G N p X Y hN (fun j hj => Tr.all_mono (hs j hj) fun x hx => by
    split at hx
    · rename_i hp; rw [if_pos hp]; exact hx
    · rename_i hp; rw [if_neg hp]; exact ⟨hx.1, by rw [hx.2.1]; exact hx.2.2⟩) he x hx
theorem forL (hC : callR.Ok (cd n)) (hB : bl.Ok (cxD n f nt) c) (hR : rg.Ok (cxD n f nt) c) (id : Nat) (F : Nat → Frm) (G : Nat → Heap) (N : Nat) (Y : Frm × Heap) (hN : N < 99999)
    (hs : ∀ j, j < N → (execT (cxD n f nt) callR bl rg c (hints (F j)) (G j)).all fun x => x.1 = .normal ∧ strip x.2.1 = F (j + 1) ∧ tidy (hNext (G 0)) (F (j + 1)) x.2.2 = (F (j + 1), G (j + 1)))
    (he : (execT (cxD n f nt) callR bl rg c (hints (F N)) (G N)).all fun x => x.1 = .exit id ∧ strip x.2.1 = Y.1 ∧ x.2.2 = Y.2) : exec (cxD n f nt) (.block id (.loop c)) (F 0) (G 0) = some (.normal, Y.1, Y.2) :=
  forT hC hB hR id F G N Y hN (fun j hj => Tr.all_mono (hs j hj) fun x hx => ⟨hx.1, by rw [hx.2.1]; exact hx.2.2⟩) he
end
theorem forX {n f nt : Nat} {c : Code} (id : Nat) (F : Nat → Frm) (G : Nat → Heap) (N : Nat) (Y : Frm × Heap) (hN : N < 99999)
    (hs : ∀ j, j < N → ∃ x, exec (cxD n f nt) c (F j) (G j) = some x ∧ (x.1 = .normal ∧ tidy (hNext (G 0)) x.2.1 x.2.2 = (F (j + 1), G (j + 1))))
    (he : exec (cxD n f nt) c (F N) (G N) = some (.exit id, Y)) : exec (cxD n f nt) (.block id (.loop c)) (F 0) (G 0) = some (.normal, Y) := by
  have := findX id F G N (fun _ => false) (fun _ => Y) Y hN (fun j hj => by
    obtain ⟨x, h1, h2⟩ := hs j hj
    exact ⟨x, h1, by rw [if_neg (by simp)]; exact h2⟩) he
  have h0 : exN (fun _ => false) N = false := by
    cases h : exN (fun _ => false) N with
    | false => rfl
    | true => obtain ⟨i, _, h2⟩ := (exN_iff _ _).1 h; cases h2
  rw [h0] at this
  exact this
theorem ex_allR {n f nt : Nat} {c : Code} {callR : CallTr} {bl : BlkT} {rg : RgT} {fr : HFrm} {H : Heap} {T : Tr Res} (e : execT (cxD n f nt) callR bl rg c fr H = T) (hC : callR.Ok (cd n)) (hB : bl.Ok (cxD n f nt) c) (hR : rg.Ok (cxD n f nt) c) {Q : Ex × Frm × Heap → Prop} (h : T.all fun x => Q x.st) : ∃ x, exec (cxD n f nt) c (strip fr) H = some x ∧ Q x := by
  obtain ⟨x, h1, h2⟩ := h
  exact ⟨_, execT_ok (cx := cxD n f nt) hC c hB hR fr H x (by rw [e]; exact h1), h2⟩
end Go.Eng
end
section
namespace Go.Eng
open Go.Proofs
set_option linter.unusedVariables false
set_option linter.unusedSimpArgs false
set_option maxRecDepth 100000
noncomputable def lvE : Lvl := ⟨false, []⟩
noncomputable def fr84 (l : Nat) (z : Nat → Int) (j : Int) : Frm := [(0, slA 5 l z), (1, .fn (.func 58) [] []), (7, .int .i64 (Int.ofNat l)), (8, .int .i64 j)]
noncomputable def gF1 (L : AV) (i : Int) : List AV → Option (Prop × AV)
  | [a, .fn (.func 58) [] []] => some (a = L, .int .i64 i)
  | _ => none
noncomputable def gF2 (L : AV) (b : Bool) : List AV → Option (Prop × AV)
  | [a, .fn (.func 58) [] []] => some (a = L, .bool b)
  | _ => none
theorem t84 (n : Nat) (l : Nat) (z : Nat → Int) (H : Heap) (j : Int) : execT (cxD (n+6) 84 19) (il noCt (n+1) 5) noBT noRT (part Tryz.f84 [1,0,1,0,0]) (hints (fr84 l z j)) (lvE :: H) =
  Tr.ite (ltI j (Int.ofNat l)) (Tr.req (inI j l) (Tr.req (ltN (idO 0 j 5) (mulO l 5)) (Tr.req (ltN (addO (idO 0 j 5) 1) (mulO l 5)) (Tr.req (ltN (addO (idO 0 j 5) 2) (mulO l 5)) (Tr.req (ltN (addO (idO 0 j 5) 3) (mulO l 5)) (Tr.req (ltN (addO (idO 0 j 5) 4) (mulO l 5)) (Tr.req (inI (Int.ofNat 0) 4) (Tr.ite (ltI (z (idO 0 j 5)) (Int.ofNat 0)) (Tr.ok (Ex.ret, [(4, AV.int .i64 j, none)], lvE :: H)) (Tr.ite (ltI (Int.ofNat 10000) (z (idO 0 j 5))) (Tr.ok (Ex.ret, [(4, AV.int .i64 j, none)], lvE :: H)) (Tr.req (inI (Int.ofNat 1) 4) (Tr.ite (ltI (z (addO (idO 0 j 5) 1)) (Int.ofNat 0)) (Tr.ok (Ex.ret, [(4, AV.int .i64 j, none)], lvE :: H)) (Tr.ite (ltI (Int.ofNat 10000) (z (addO (idO 0 j 5) 1))) (Tr.ok (Ex.ret, [(4, AV.int .i64 j, none)], lvE :: H)) (Tr.req (inI (Int.ofNat 2) 4) (Tr.ite (ltI (z (addO (idO 0 j 5) 2)) (Int.ofNat 0)) (Tr.ok (Ex.ret, [(4, AV.int .i64 j, none)], lvE :: H)) (Tr.ite (ltI (Int.ofNat 10000) (z (addO (idO 0 j 5) 2))) (Tr.ok (Ex.ret, [(4, AV.int .i64 j, none)], lvE :: H)) (Tr.req (inI (Int.ofNat 3) 4) (Tr.ite (ltI (z (addO (idO 0 j 5) 3)) (Int.ofNat 0)) (Tr.ok (Ex.ret, [(4, AV.int .i64 j, none)], lvE :: H)) (Tr.ite (ltI (Int.ofNat 10000) (z (addO (idO 0 j 5) 3))) (Tr.ok (Ex.ret, [(4, AV.int .i64 j, none)], lvE :: H)) (Tr.ite (ltI (z (addO (idO 0 j 5) 1)) (z (idO 0 j 5))) (Tr.ok (Ex.ret, [(4, AV.int .i64 j, none)], lvE :: H)) (Tr.ite (ltI (z (addO (idO 0 j 5) 3)) (z (addO (idO 0 j 5) 2))) (Tr.ok (Ex.ret, [(4, AV.int .i64 j, none)], lvE :: H)) (Tr.req (inI (Int.ofNat 0) 1) (Tr.ite (ltI (z (addO (idO 0 j 5) 4)) (Int.ofNat 0)) (Tr.ok (Ex.ret, [(4, AV.int .i64 j, none)], lvE :: H)) (Tr.ite (ltI (Int.ofNat 100000) (z (addO (idO 0 j 5) 4))) (Tr.ok (Ex.ret, [(4, AV.int .i64 j, none)], lvE :: H)) (Tr.ok (Ex.normal, [(0, slA 5 l z, none), (1, AV.fn (Fn.func 58) [] [], none), (7, AV.int .i64 (Int.ofNat l), none), (8, AV.int .i64 (addI .i64 j (Int.ofNat 1)), none)], lvE :: H))))))))))))))))))))))))) (Tr.ok (Ex.exit 0, [(0, slA 5 l z, none), (1, AV.fn (Fn.func 58) [] [], none), (7, AV.int .i64 (Int.ofNat l), none), (8, AV.int .i64 j, none), (9, AV.bool false, some 1)], lvE :: H)) := by kernel_rfl
theorem u84 (n : Nat) (l : Nat) (z : Nat → Int) (H : Heap) (i : Int) (e : Bool) : bodyT Tryz.prog (cd (n+6)) 100000 84 Tryz.f84 (KtB.kt 84) (il noCt (n+6) 0) (blkE noBT 0 (fr84 l z 0) (lvE :: H) (.ite e (.ok (.ret, [(4, .int .i64 i, none)], lvE :: H)) (.ok (.normal, hints (fr84 l z (Int.ofNat l) ++ [(9, .bool false)]), lvE :: H)))) noRT [(slA 5 l z, none), (.fn (.func 58) [] [], none)] H =
  Tr.reqP ([(0, slA 5 l z), (1, AV.fn (Fn.func 58) [] []), (7, AV.int .i64 (Int.ofNat l)), (8, AV.int .i64 (Int.ofNat 0))] = [(0, slA 5 l z), (1, AV.fn (Fn.func 58) [] []), (7, AV.int .i64 (Int.ofNat l)), (8, AV.int .i64 (Int.ofNat 0))] ∧ lvE :: H = lvE :: H) (Tr.ite e (Tr.ok ((AV.int .i64 i, none), H)) (Tr.ok ((AV.int .i64 (Int.negSucc 0), some 1), H))) := by kernel_rfl
theorem u60 (n : Nat) (l : Nat) (z : Nat → Int) (H : Heap) (i : Int) : bodyT Tryz.prog (cd (n+7)) 100000 60 Tryz.f60 (KtB.kt 60) (il (ctG noCt 84 (gF1 (slA 5 l z) i)) (n+7) 0) noBT noRT [(slA 5 l z, none), (.fn (.func 58) [] [], none)] H =
  Tr.reqP (slA 5 l z = slA 5 l z) (Tr.ok ((AV.bool (leI (Int.ofNat 0) i), none), H)) := by kernel_rfl
theorem u20 (n : Nat) (l : Nat) (z : Nat → Int) (H : Heap) (b : Bool) : bodyT Tryz.prog (cd (n+8)) 100000 20 Tryz.f20 (KtB.kt 20) (il (ctG noCt 60 (gF2 (slA 5 l z) b)) (n+8) 0) noBT noRT [(slA 5 l z, none)] H =
  Tr.ite (eqI (Int.ofNat l) (Int.ofNat 0)) (Tr.ok ((AV.int .i64 (Int.ofNat 6), some 1), H)) (Tr.ite (ltI (Int.ofNat 14) (Int.ofNat l)) (Tr.ok ((AV.int .i64 (Int.ofNat 6), some 1), H)) (Tr.reqP (slA 5 l z = slA 5 l z) (Tr.ite b (Tr.ok ((AV.int .i64 (Int.ofNat 3), some 1), H)) (Tr.ok ((AV.int .i64 (Int.ofNat 0), some 1), H))))) := by kernel_rfl
theorem u20x (n : Nat) (l : Nat) (z : Nat → Int) (H : Heap) : bodyT Tryz.prog (cd (n+8)) 100000 20 Tryz.f20 (KtB.kt 20) (il (ctG noCt 60 (fun _ => none)) (n+8) 0) noBT noRT [(slA 5 l z, none)] H =
  Tr.ite (eqI (Int.ofNat l) (Int.ofNat 0)) (Tr.ok ((AV.int .i64 (Int.ofNat 6), some 1), H)) (Tr.ite (ltI (Int.ofNat 14) (Int.ofNat l)) (Tr.ok ((AV.int .i64 (Int.ofNat 6), some 1), H)) Tr.bad) := by kernel_rfl
/-- Is an order not valid? -/
def oddO (z : Nat → Int) (j : Nat) : Bool := !(decide (0 ≤ z (j * 5)) && (decide (z (j * 5) ≤ z (j * 5 + 1)) && (decide (z (j * 5 + 1) ≤ 10000) && (decide (0 ≤ z (j * 5 + 2)) && (decide (z (j * 5 + 2) ≤ z (j * 5 + 3)) && (decide (z (j * 5 + 3) ≤ 10000) && (decide (0 ≤ z (j * 5 + 4)) && decide (z (j * 5 + 4) ≤ 100000))))))))
/-- The error of orders. -/
def chkO (l : Nat) (z : Nat → Int) : Int := if l = 0 ∨ 14 < l then 6 else if exN (oddO z) l = true then 3 else 0
theorem b84 : ∀ b, (0, b) ∈ blocksOf (bodyOf Tryz.f84) → b = .loop (part Tryz.f84 [1,0,1,0,0]) := by
  have : ((blocksOf (bodyOf Tryz.f84)).filter fun x => Nat.beq x.1 0) = [(0, .loop (part Tryz.f84 [1,0,1,0,0]))] := by kernel_rfl
  intro b hb
  have hm : (0, b) ∈ ((blocksOf (bodyOf Tryz.f84)).filter fun x => Nat.beq x.1 0) := List.mem_filter.2 ⟨hb, rfl⟩
  rw [this] at hm; simpa using hm
section
variable (n : Nat) (l : Nat) (z : Nat → Int) (H : Heap)
theorem c84 (hl : l ≤ 1000) : cd (n + 7) (.fn 84) [slA 5 l z, .fn (.func 58) [] []] H = some (.int .i64 (cond (exN (oddO z) l) ((fN (oddO z) l 0 : Nat) : Int) (-1)), H) := by
  have lp := findX (n := n + 6) (f := 84) (nt := 19) (c := part Tryz.f84 [1,0,1,0,0]) 0 (fun j => fr84 l z (j : Int)) (fun _ => lvE :: H) l (oddO z) (fun j => ([(4, .int .i64 (j : Int))], lvE :: H)) (fr84 l z (Int.ofNat l) ++ [(9, .bool false)], lvE :: H) (by omega) (fun j hj => ?_) ?_
  · refine fn_all (n := n + 6) Tryz.func84 rfl rfl rfl (u84 n l z H ((fN (oddO z) l 0 : Nat) : Int) (exN (oddO z) l)) (il_no (n + 6) 0) (blkE_ok (noBT_ok _ _) b84 (fun x hx => ?_)) (noRT_ok _ _) ?_
    · refine Eq.trans lp ?_
      rcases Tr.ite_some hx with ⟨hc, hx⟩ | ⟨hc, hx⟩
      · rw [← Tr.ok_some hx, hc]; rfl
      · rw [← Tr.ok_some hx, hc]; simp only [Res.st, hints_eq]; rfl
    · repeat' first | (refine Tr.all_ite (fun hc => ?_) (fun hc => ?_) <;> (try simp (disch := omega) only [nV, mulO_eq, Int.cast_ofNat_Int, eq_self] at hc) <;> (try (exfalso; omega))) | (refine Tr.all_req ?_ ?_; · ((try simp (disch := omega) only [nV, mulO_eq, Int.cast_ofNat_Int, eq_self]); try omega)) | (refine Tr.all_reqP ?_ ?_; · first | exact trivial | rfl | exact ⟨rfl, rfl⟩ | exact ⟨rfl, rfl, rfl⟩ | (simp (disch := omega) only [nV, mulO_eq, Int.cast_ofNat_Int, eq_self]; done) | ((try simp (disch := omega) only [nV, mulO_eq, Int.cast_ofNat_Int, eq_self]); omega)) | fail
      all_goals refine Tr.all_ok ⟨?_, rfl⟩
      all_goals rw [hc]; rfl
  · have ej : addI .i64 (j : Int) (Int.ofNat 1) = ((j + 1 : Nat) : Int) := by rw [addI_eq, show Int.ofNat 1 = 1 from rfl]; exact wr_64 (by omega) (by omega)
    have ei : idO 0 (j : Int) 5 = j * 5 := by rw [idO_eq]; omega
    have hs : oddO z j = !(decide (0 ≤ z (j * 5)) && (decide (z (j * 5) ≤ z (j * 5 + 1)) && (decide (z (j * 5 + 1) ≤ 10000) && (decide (0 ≤ z (j * 5 + 2)) && (decide (z (j * 5 + 2) ≤ z (j * 5 + 3)) && (decide (z (j * 5 + 3) ≤ 10000) && (decide (0 ≤ z (j * 5 + 4)) && decide (z (j * 5 + 4) ≤ 100000)))))))) := rfl
    refine ex_all (t84 n l z H (j : Int)) (il_no (n + 1) 5) (noBT_ok _ _) (noRT_ok _ _) ?_
    repeat' first | (refine Tr.all_ite (fun hc => ?_) (fun hc => ?_) <;> (try simp (disch := omega) only [nV, mulO_eq, Int.cast_ofNat_Int, eq_self, ei] at hc) <;> (try (exfalso; omega))) | (refine Tr.all_req ?_ ?_; · ((try simp (disch := omega) only [nV, mulO_eq, Int.cast_ofNat_Int, eq_self, ei]); try omega)) | (refine Tr.all_reqP ?_ ?_; · first | exact trivial | rfl | exact ⟨rfl, rfl⟩ | exact ⟨rfl, rfl, rfl⟩ | (simp (disch := omega) only [nV, mulO_eq, Int.cast_ofNat_Int, eq_self, ei]; done) | ((try simp (disch := omega) only [nV, mulO_eq, Int.cast_ofNat_Int, eq_self, ei]); omega)) | fail
    all_goals refine Tr.all_ok ?_
    all_goals first
      | (rw [if_pos (by rw [hs]; simp; omega)]; rfl)
      | (rw [if_neg (by rw [hs]; simp; omega)]; exact ⟨rfl, by rw [ej]; rfl⟩)
      | fail
  · obtain ⟨x, h1, rfl⟩ := ex_all (Q := fun x => x = (.exit 0, fr84 l z (Int.ofNat l) ++ [(9, .bool false)], lvE :: H)) (t84 n l z H (Int.ofNat l)) (il_no (n + 1) 5) (noBT_ok _ _) (noRT_ok _ _) (by
      repeat' first | (refine Tr.all_ite (fun hc => ?_) (fun hc => ?_) <;> (try simp (disch := omega) only [nV, mulO_eq, Int.cast_ofNat_Int, eq_self] at hc) <;> (try (exfalso; omega))) | (refine Tr.all_req ?_ ?_; · ((try simp (disch := omega) only [nV, mulO_eq, Int.cast_ofNat_Int, eq_self]); try omega)) | (refine Tr.all_reqP ?_ ?_; · first | exact trivial | rfl | exact ⟨rfl, rfl⟩ | exact ⟨rfl, rfl, rfl⟩ | (simp (disch := omega) only [nV, mulO_eq, Int.cast_ofNat_Int, eq_self]; done) | ((try simp (disch := omega) only [nV, mulO_eq, Int.cast_ofNat_Int, eq_self]); omega)) | fail
      exact Tr.all_ok rfl)
    exact h1
theorem c60 (hl : l ≤ 1000) : cd (n + 8) (.fn 60) [slA 5 l z, .fn (.func 58) [] []] H = some (.bool (exN (oddO z) l), H) := by
  refine fn_all (n := n + 7) Tryz.func60 rfl rfl rfl (u60 n l z H (cond (exN (oddO z) l) ((fN (oddO z) l 0 : Nat) : Int) (-1))) (il_ok _ (n + 7) 0 (fun k => ctG_ok (noCt_ok _) (fun args p v hg hp H => ?_))) (noBT_ok _ _) (noRT_ok _ _) ?_
  · unfold gF1 at hg
    split at hg
    · simp only [Option.some.injEq, Prod.mk.injEq] at hg
      obtain ⟨rfl, rfl⟩ := hg
      subst hp
      rw [show n + 7 + k = n + k + 7 by omega]
      exact c84 _ l z H hl
    · cases hg
  · repeat' first | (refine Tr.all_ite (fun hc => ?_) (fun hc => ?_) <;> (try simp (disch := omega) only [nV, mulO_eq, Int.cast_ofNat_Int, eq_self] at hc) <;> (try (exfalso; omega))) | (refine Tr.all_req ?_ ?_; · ((try simp (disch := omega) only [nV, mulO_eq, Int.cast_ofNat_Int, eq_self]); try omega)) | (refine Tr.all_reqP ?_ ?_; · first | exact trivial | rfl | exact ⟨rfl, rfl⟩ | exact ⟨rfl, rfl, rfl⟩ | (simp (disch := omega) only [nV, mulO_eq, Int.cast_ofNat_Int, eq_self]; done) | ((try simp (disch := omega) only [nV, mulO_eq, Int.cast_ofNat_Int, eq_self]); omega)) | fail
    all_goals refine Tr.all_ok ⟨?_, rfl⟩
    rw [leI_eq]
    cases exN (oddO z) l
    · rfl
    · simp
theorem c20 : cd (n + 9) (.fn 20) [slA 5 l z] H = some (.int .i64 (chkO l z), H) := by
  unfold chkO
  by_cases hl : l = 0 ∨ 14 < l
  · rw [if_pos hl]
    refine fn_all (n := n + 8) Tryz.func20 rfl rfl rfl (u20x n l z H) (il_ok _ (n + 8) 0 (fun k => ctG_ok (noCt_ok _) (fun args p v hg hp H => by cases hg))) (noBT_ok _ _) (noRT_ok _ _) ?_
    repeat' first | (refine Tr.all_ite (fun hc => ?_) (fun hc => ?_) <;> (try simp (disch := omega) only [nV, mulO_eq, Int.cast_ofNat_Int, eq_self] at hc) <;> (try (exfalso; omega))) | (refine Tr.all_req ?_ ?_; · ((try simp (disch := omega) only [nV, mulO_eq, Int.cast_ofNat_Int, eq_self]); try omega)) | (refine Tr.all_reqP ?_ ?_; · first | exact trivial | rfl | exact ⟨rfl, rfl⟩ | exact ⟨rfl, rfl, rfl⟩ | (simp (disch := omega) only [nV, mulO_eq, Int.cast_ofNat_Int, eq_self]; done) | ((try simp (disch := omega) only [nV, mulO_eq, Int.cast_ofNat_Int, eq_self]); omega)) | fail
    all_goals exact Tr.all_ok ⟨rfl, rfl⟩
  · rw [if_neg hl]
    refine fn_all (n := n + 8) Tryz.func20 rfl rfl rfl (u20 n l z H (exN (oddO z) l)) (il_ok _ (n + 8) 0 (fun k => ctG_ok (noCt_ok _) (fun args p v hg hp H => ?_))) (noBT_ok _ _) (noRT_ok _ _) ?_
    · unfold gF2 at hg
      split at hg
      · simp only [Option.some.injEq, Prod.mk.injEq] at hg
        obtain ⟨rfl, rfl⟩ := hg
        subst hp
        rw [show n + 8 + k = n + k + 8 by omega]
        exact c60 _ l z H (by omega)
      · cases hg
    · cases hx : exN (oddO z) l
      · repeat' first | (refine Tr.all_ite (fun hc => ?_) (fun hc => ?_) <;> (try simp (disch := omega) only [nV, mulO_eq, Int.cast_ofNat_Int, eq_self, hx] at hc) <;> (try (exfalso; omega))) | (refine Tr.all_req ?_ ?_; · ((try simp (disch := omega) only [nV, mulO_eq, Int.cast_ofNat_Int, eq_self, hx]); try omega)) | (refine Tr.all_reqP ?_ ?_; · first | exact trivial | rfl | exact ⟨rfl, rfl⟩ | exact ⟨rfl, rfl, rfl⟩ | (simp (disch := omega) only [nV, mulO_eq, Int.cast_ofNat_Int, eq_self, hx]; done) | ((try simp (disch := omega) only [nV, mulO_eq, Int.cast_ofNat_Int, eq_self, hx]); omega)) | fail
        all_goals first
          | exact Tr.all_ok ⟨rfl, rfl⟩
          | fail
      · repeat' first | (refine Tr.all_ite (fun hc => ?_) (fun hc => ?_) <;> (try simp (disch := omega) only [nV, mulO_eq, Int.cast_ofNat_Int, eq_self, hx] at hc) <;> (try (exfalso; omega))) | (refine Tr.all_req ?_ ?_; · ((try simp (disch := omega) only [nV, mulO_eq, Int.cast_ofNat_Int, eq_self, hx]); try omega)) | (refine Tr.all_reqP ?_ ?_; · first | exact trivial | rfl | exact ⟨rfl, rfl⟩ | exact ⟨rfl, rfl, rfl⟩ | (simp (disch := omega) only [nV, mulO_eq, Int.cast_ofNat_Int, eq_self, hx]; done) | ((try simp (disch := omega) only [nV, mulO_eq, Int.cast_ofNat_Int, eq_self, hx]); omega)) | fail
        all_goals first
          | exact Tr.all_ok ⟨rfl, rfl⟩
          | fail
end
end Go.Eng
end
