/- Drop: a bath as an abstract value; the table of calls. -/
import Derived.Test.YtjmjkhpfipglcaaV6EngTgx3
import Derived.Test.YtjmjkhpfipglcaaV6EngPostx4
import Derived.Test.YtjmjkhpfipglcaaProg
import Derived.KernelRfl
section
namespace Go.Eng
open Go.Proofs Go.ChangeShapes
set_option linter.unusedVariables false
set_option maxRecDepth 100000

noncomputable def slA (n len : Nat) (z : Nat → Int) : AV := .slcT none (.M [.arr .i64 z (mulS len n)]) n len false
noncomputable def bathA (w : Int) (ls : Nat) (zs : Nat → Int) (ld : Nat) (zd : Nat → Int) : AV := .agg (.G [.int .i64 w, slA 2 ls zs, slA 3 ld zd])
noncomputable def oraD : CallT → FuncId → List AV → Heap → Option (AV × Heap) := oraS [⟨16, [], .bool true⟩]
def noD (f : FuncId) : Bool := Nat.beq f 16 || Nat.beq f 1000000
noncomputable def cd (n : Nat) : CallT := callN Try.prog oraD Kt.kt 100000 n
noncomputable def il (tab : Ctr) (n k : Nat) : CallTr := inlT Try.prog oraD Kt.kt 100000 noD tab n k
noncomputable def cxD (n : Nat) (f nt : Nat) : Cx := ⟨Try.prog, cd n, 100000, f, nt, Kt.kt f, none⟩

def nav : List Nat → Code → Code
 | [], c => c
 | x :: p, c => match c with
   | .seq a b => match x with
     | 0 => nav p a
     | _ => nav p b
   | .cond _ a b => match x with
     | 0 => nav p a
     | _ => nav p b
   | .block _ b => nav p b
   | .loop b => nav p b
   | .scope b => nav p b
   | .rangeFunc _ _ a b => match x with
     | 0 => nav p a
     | _ => nav p b
   | c => c
noncomputable def part (f : Func) (p : List Nat) : Code := nav p (bodyOf f)
theorem noD_ok (g : FuncId) (h : noD g = false) (c : CallT) (args : List AV) (H : Heap) : oraD c g args H = none := by
 unfold noD at h
 rw [Bool.or_eq_false_iff] at h
 unfold oraD oraS
 rw [h.2, cond_false]
 simp only [oraT]
 have : Nat.beq 16 g = false := by
  cases hb : Nat.beq 16 g with
  | false => rfl
  | true => have := Nat.eq_of_beq_eq_true hb; subst this; simp at h
 rw [this]; rfl
theorem il_ok (tab : Ctr) (n k : Nat) (ht : ∀ k, tab.Ok (cd (n + k))) : (il tab n k).Ok (cd (n + k)) := inlT_ok _ _ _ _ _ _ _ noD_ok (fun k => oraS_mode _ _ _ _ _) ht k
theorem il_no (n k : Nat) : (il noCt n k).Ok (cd (n + k)) := il_ok _ _ _ (fun k => noCt_ok _)
theorem il_no0 (n : Nat) : (il noCt n 0).Ok (cd n) := il_no n 0
theorem fn_ok {f : FuncId} {fn : Func} {n : Nat} (hf : Try.prog.funcs[f]? = some fn) (hb : fn.body.isSome = true) (hn : noD f = false) {args : List HV} (hle : Nat.ble args.length fn.ntmps = true) {H : Heap} {callR : CallTr} (hC : callR.Ok (cd n)) {bl : BlkT} (hB : bl.Ok (cxD n f fn.ntmps) (bodyOf fn)) {rg : RgT} (hR : rg.Ok (cxD n f fn.ntmps) (bodyOf fn)) {y : HV × Heap}
 (h : (bodyT Try.prog (cd n) 100000 f fn (Kt.kt f) callR bl rg args H).run = some y) : cd (n + 1) (.fn f) (avs args) H = some (y.1.1, y.2) :=
 bodyT_ok hf hb (noD_ok f hn _ _ _) hle hC hB hR h
theorem fn_of {f : FuncId} {fn : Func} {n : Nat} (hf : Try.prog.funcs[f]? = some fn) (hb : fn.body.isSome = true) (hn : noD f = false) {args : List HV} (hle : Nat.ble args.length fn.ntmps = true) {H : Heap} {callR : CallTr} {bl : BlkT} {rg : RgT} {T : Tr (HV × Heap)}
 (e : bodyT Try.prog (cd n) 100000 f fn (Kt.kt f) callR bl rg args H = T) (hC : callR.Ok (cd n)) (hB : bl.Ok (cxD n f fn.ntmps) (bodyOf fn)) (hR : rg.Ok (cxD n f fn.ntmps) (bodyOf fn)) {y : HV × Heap} (hr : T.run = some y) : cd (n + 1) (.fn f) (avs args) H = some (y.1.1, y.2) :=
 fn_ok hf hb hn hle hC hB hR (by rw [e]; exact hr)
theorem ex_ok {n f nt : Nat} {c : Code} {callR : CallTr} (hC : callR.Ok (cd n)) {bl : BlkT} (hB : bl.Ok (cxD n f nt) c) {rg : RgT} (hR : rg.Ok (cxD n f nt) c) {fr : Frm} {H : Heap} {x : Res} (h : (execT (cxD n f nt) callR bl rg c (hints fr) H).run = some x) : exec (cxD n f nt) c fr H = some x.st := by
 have := execT_ok hC c hB hR _ _ _ h
 rw [hints_eq] at this
 exact this

def stopB (bl : BlkT) (id0 : Nat) : BlkT := fun id fr H => cond (Nat.beq id id0) (some .bad) (bl id fr H)
theorem stopB_ok {bl : BlkT} {cx : Cx} {c : Code} (h : bl.Ok cx c) (id0 : Nat) : (stopB bl id0).Ok cx c := by
 intro id b hm fr H t y ht hy
 unfold stopB at ht
 cases hb : Nat.beq id id0 with
 | true =>
   rw [hb, cond_true, Option.some.injEq] at ht
   subst ht
   exact (Tr.bad_some hy).elim
 | false =>
   rw [hb, cond_false] at ht
   exact h id b hm fr H t y ht hy
theorem ex_of {n f nt : Nat} {c : Code} {callR : CallTr} {bl : BlkT} {rg : RgT} {fr : Frm} {H : Heap} {T : Tr Res} (e : execT (cxD n f nt) callR bl rg c (hints fr) H = T) (hC : callR.Ok (cd n)) (hB : bl.Ok (cxD n f nt) c) (hR : rg.Ok (cxD n f nt) c) {x : Res} (hr : T.run = some x) : exec (cxD n f nt) c fr H = some x.st :=
 ex_ok hC hB hR (by rw [e]; exact hr)
section
variable {n f nt : Nat} {c : Code} {callR : CallTr} {bl : BlkT} {rg : RgT}
theorem findE (id : Nat) (F : Nat → Frm) (G : Nat → Heap) (N : Nat) (p : Nat → Bool) (X : Nat → Res) (hN : N < 99999)
 (hs : ∀ j, j < N → p j = false → ∃ f' g, exec (cxD n f nt) c (F j) (G j) = some (.normal, f', g) ∧ f' = F (j + 1) ∧ tidy (hNext (G 0)) (F (j + 1)) g = (F (j + 1), G (j + 1)))
 (hh : ∀ j, j < N → p j = true → exec (cxD n f nt) c (F j) (G j) = some (X j).st ∧ (X j).1 = .ret)
 (he : exec (cxD n f nt) c (F N) (G N) = some (X N).st ∧ (X N).1 = .exit id) (x : Res)
 (hx : (fN p N 0 < N ∧ x.st = (X (fN p N 0)).st) ∨ (fN p N 0 = N ∧ x.st = (.normal, (X N).st.2))) : exec (cxD n f nt) (.block id (.loop c)) (F 0) (G 0) = some x.st := by
 have st : ∀ r : Res, r.st.1 = r.1 := fun r => rfl
 have key := iter_find (body := exec (cxD n f nt) c) (n := hNext (G 0)) F G N p (fun j => (X j).st)
  (fun j hj hp => by
    obtain ⟨f', g, h1, h2, h3⟩ := hs j hj hp
    exact ⟨f', g, h1, by rw [h2]; exact h3⟩)
  (fun j hj hp => by
    obtain ⟨h1, h2⟩ := hh j hj hp
    exact ⟨h1, by rw [st, h2]; simp⟩)
  (by
    obtain ⟨h1, h2⟩ := he
    exact ⟨h1, by rw [st, h2]; simp⟩) N 0 100000 (by omega) (by omega)
 rcases hx with ⟨h1, h2⟩ | ⟨h1, h2⟩
 · have hq := (fN_spec p N 0).2.2.2 (by omega)
   obtain ⟨_, hr⟩ := hh _ h1 hq
   rw [h2]
   generalize X (fN p N 0) = y at key hr
   obtain ⟨e, f1, g1⟩ := y
   dsimp only at hr
   subst hr
   exact exec_block_loop_other (fun id' h => by cases h) key
 · rw [h1] at key
   rw [h2]
   have hr := he.2
   generalize X N = y at key hr
   obtain ⟨e, f1, g1⟩ := y
   dsimp only at hr
   subst hr
   exact exec_block_loop key
theorem findB (hC : callR.Ok (cd n)) (hB : bl.Ok (cxD n f nt) c) (hR : rg.Ok (cxD n f nt) c) (id : Nat) (F : Nat → Frm) (G : Nat → Heap) (N : Nat) (p : Nat → Bool) (X : Nat → Res) (hN : N < 99999)
 (hs : ∀ j, j < N → p j = false → ∃ f' g, (execT (cxD n f nt) callR bl rg c (hints (F j)) (G j)).run = some (.normal, f', g) ∧ strip f' = F (j + 1) ∧ tidy (hNext (G 0)) (F (j + 1)) g = (F (j + 1), G (j + 1)))
 (hh : ∀ j, j < N → p j = true → (execT (cxD n f nt) callR bl rg c (hints (F j)) (G j)).run = some (X j) ∧ (X j).1 = .ret)
 (he : (execT (cxD n f nt) callR bl rg c (hints (F N)) (G N)).run = some (X N) ∧ (X N).1 = .exit id) (x : Res)
 (hx : (fN p N 0 < N ∧ x.st = (X (fN p N 0)).st) ∨ (fN p N 0 = N ∧ x.st = (.normal, (X N).st.2))) : exec (cxD n f nt) (.block id (.loop c)) (F 0) (G 0) = some x.st := by
 have st : ∀ r : Res, r.st.1 = r.1 := fun r => rfl
 have key := iter_find (body := exec (cxD n f nt) c) (n := hNext (G 0)) F G N p (fun j => (X j).st)
  (fun j hj hp => by
    obtain ⟨f', g, h1, h2, h3⟩ := hs j hj hp
    refine ⟨strip f', g, ex_ok hC hB hR h1, ?_⟩
    rw [h2]; exact h3)
  (fun j hj hp => by
    obtain ⟨h1, h2⟩ := hh j hj hp
    exact ⟨ex_ok hC hB hR h1, by rw [st, h2]; simp⟩)
  (by
    obtain ⟨h1, h2⟩ := he
    exact ⟨ex_ok hC hB hR h1, by rw [st, h2]; simp⟩) N 0 100000 (by omega) (by omega)
 rcases hx with ⟨h1, h2⟩ | ⟨h1, h2⟩
 · have hq := (fN_spec p N 0).2.2.2 (by omega)
   obtain ⟨_, hr⟩ := hh _ h1 hq
   rw [h2]
   generalize X (fN p N 0) = y at key hr
   obtain ⟨e, f1, g1⟩ := y
   dsimp only at hr
   subst hr
   exact exec_block_loop_other (fun id' h => by cases h) key
 · rw [h1] at key
   rw [h2]
   have hr := he.2
   generalize X N = y at key hr
   obtain ⟨e, f1, g1⟩ := y
   dsimp only at hr
   subst hr
   exact exec_block_loop key
theorem forB (hC : callR.Ok (cd n)) (hB : bl.Ok (cxD n f nt) c) (hR : rg.Ok (cxD n f nt) c) (id : Nat) (F : Nat → Frm) (G : Nat → Heap) (N : Nat) (y : Res) (hN : N < 99999)
 (hs : ∀ j, j < N → ∃ f' g, (execT (cxD n f nt) callR bl rg c (hints (F j)) (G j)).run = some (.normal, f', g) ∧ strip f' = F (j + 1) ∧ tidy (hNext (G 0)) (F (j + 1)) g = (F (j + 1), G (j + 1)))
 (he : (execT (cxD n f nt) callR bl rg c (hints (F N)) (G N)).run = some y ∧ y.1 = .exit id) : exec (cxD n f nt) (.block id (.loop c)) (F 0) (G 0) = some (.normal, y.st.2) := by
 have key := iter_for (body := exec (cxD n f nt) c) (n := hNext (G 0)) F G N y.st
  (fun j hj => by
    obtain ⟨f', g, h1, h2, h3⟩ := hs j hj
    refine ⟨strip f', g, ex_ok hC hB hR h1, ?_⟩
    rw [h2]; exact h3)
  (by
    obtain ⟨h1, h2⟩ := he
    exact ⟨ex_ok hC hB hR h1, by rw [show y.st.1 = y.1 from rfl, h2]; simp⟩) 100000 (by omega)
 have hr := he.2
 obtain ⟨e, f1, g1⟩ := y
 dsimp only at hr
 subst hr
 exact exec_block_loop key
end
theorem wrap_j (j : Nat) (h : j < 2 ^ 31) : IntKind.i64.wrap ((j : Int) + 1) = ((j + 1 : Nat) : Int) := by
 rw [show ((j : Int) + 1) = ((j + 1 : Nat) : Int) by omega]
 exact Go.IntWalk.i64_in _ (by omega)

def exN (p : Nat → Bool) (N : Nat) : Bool := decide (fN p N 0 < N)
theorem exN_true {p : Nat → Bool} {N : Nat} (h : exN p N = true) : fN p N 0 < N := by simpa [exN] using h
theorem exN_false {p : Nat → Bool} {N : Nat} (h : exN p N = false) : fN p N 0 = N := by
 have h1 := (fN_spec p N 0).2.1
 have : ¬ fN p N 0 < N := by simpa [exN] using h
 omega
theorem exN_iff (p : Nat → Bool) (N : Nat) : exN p N = true ↔ ∃ i, i < N ∧ p i = true := by
 obtain ⟨h1, h2, h3, h4⟩ := fN_spec p N 0
 constructor
 · intro h
   have := exN_true h
   exact ⟨_, this, h4 (by omega)⟩
 · rintro ⟨i, hi, hp⟩
   unfold exN
   rw [decide_eq_true_eq]
   apply Nat.lt_of_not_le
   intro hc
   have := h3 i (by omega) (by omega)
   rw [this] at hp; cases hp
theorem lt_mulO (a b c : Nat) : (a < mulO b c) = (a < b * c) := by rw [mulO_eq]
theorem le_mulO (a b c : Nat) : (a ≤ mulO b c) = (a ≤ b * c) := by rw [mulO_eq]

theorem nS : (∀ x y : Int, ltI x y = decide (x < y)) ∧
 (∀ x y : Int, leI x y = decide (x ≤ y)) ∧
 (∀ b : Bool, notB b = (!b)) ∧
 (∀ a b : Bool, andB a b = (a && b)) ∧
 (∀ (i : Int) (n : Nat), inI i n = decide (0 ≤ i ∧ i < (n : Int))) ∧
 (∀ x y : Nat, ltN x y = decide (x < y)) ∧
 (∀ x y : Nat, leN x y = decide (x ≤ y)) ∧
 (∀ a b c : Nat, (a < mulO b c) = (a < b * c)) ∧
 (∀ a b c : Nat, (a ≤ mulO b c) = (a ≤ b * c)) ∧
 (∀ (o : Nat) (i : Int) (s : Nat), idO o i s = o + i.toNat * s) ∧
 (∀ a b : Nat, addO a b = a + b) ∧
 (∀ (k : IntKind) (x y : Int), addI k x y = k.wrap (x + y)) ∧
 (∀ n : Nat, (n : Int).toNat = n) ∧
 (∀ n : Nat, 0 + n = n) ∧
 (((1 : Nat) : Int) = 1) ∧
 ((!true) = false) ∧
 ((!false) = true) ∧
 (∀ b : Bool, (b && true) = b) ∧
 (∀ b : Bool, (b && false) = false) ∧
 (∀ b : Bool, (true && b) = b) ∧
 (∀ b : Bool, (false && b) = false) :=
 ⟨ltI_eq, leI_eq, notB_eq, andB_eq, inI_eq, ltN_eq, leN_eq, lt_mulO, le_mulO, idO_eq, addO_eq, addI_eq, Int.toNat_natCast, Nat.zero_add, Int.natCast_one, Bool.not_true, Bool.not_false, Bool.and_true, Bool.and_false, Bool.true_and, Bool.false_and⟩
end Go.Eng
end
section
namespace Go.Eng
open Go.Proofs
set_option linter.unusedVariables false
set_option linter.unusedSimpArgs false
set_option maxRecDepth 100000

def sumS (zd tr : Nat → Int) (s : Int) : Nat → Int
 | 0 => 0
 | j + 1 => if zd (j * 3) = s then IntKind.i64.wrap (sumS zd tr s j + tr j) else sumS zd tr s j
noncomputable def fr45 (lt : Nat) (tr : Nat → Int) (s acc j : Int) : Frm := [(1, slA 1 lt tr), (2, .int .i64 s), (3, .ptr 0 0 0 0), (7, .int .i64 acc), (8, .int .i64 j)]
noncomputable def lvB (w : Int) (ls ld : Nat) (zs zd : Nat → Int) : Lvl := ⟨false, [(0, .row (.G [.int .i64 w, slA 2 ls zs, slA 3 ld zd]))]⟩
section
variable (n : Nat) (w : Int) (ls ld lt : Nat) (zs zd tr : Nat → Int) (H : Heap) (s : Int)
theorem t45 (acc j : Int) : execT (cxD n 45 31) (il noCt n 0) noBT noRT (part Try.f45 [1,1,0,1,0,0]) (hints (fr45 lt tr s acc j)) (lvB w ls ld zs zd :: H) =
 Tr.ite (ltI j (Int.ofNat ld))
  (Tr.req (inI j ld) (Tr.req (ltN (idO 0 j 3) (mulO ld 3))
    (Tr.ite (eqI (zd (idO 0 j 3)) s)
      (Tr.req (inI j lt) (Tr.req (ltN (idO 0 j 1) lt) (Tr.ok (Ex.normal, hints (fr45 lt tr s (addI .i64 acc (tr (idO 0 j 1))) (addI .i64 j (Int.ofNat 1))), lvB w ls ld zs zd :: H))))
      (Tr.ok (Ex.normal, hints (fr45 lt tr s acc (addI .i64 j (Int.ofNat 1))), lvB w ls ld zs zd :: H)))))
  (Tr.ok (Ex.exit 0, hints (fr45 lt tr s acc j) ++ [(13, AV.bool false, some 1)], lvB w ls ld zs zd :: H)) := by kernel_rfl
theorem b45 : blocksOf (bodyOf Try.f45) = [(0, .loop (part Try.f45 [1,1,0,1,0,0])), (1, part Try.f45 [1,1,0,1,0,0,1,0,0])] := by kernel_rfl
theorem l45 (h1 : ld ≤ lt) (h2 : ld < 2 ^ 16) : exec (cxD n 45 31) (.block 0 (.loop (part Try.f45 [1,1,0,1,0,0]))) (fr45 lt tr s 0 0) (lvB w ls ld zs zd :: H) = some (.normal, fr45 lt tr s (sumS zd tr s ld) (ld : Int) ++ [(13, AV.bool false)], lvB w ls ld zs zd :: H) := by
 refine forB (il_no0 n) (noBT_ok _ _) (noRT_ok _ _) 0 (fun j => fr45 lt tr s (sumS zd tr s j) (j : Int)) (fun _ => lvB w ls ld zs zd :: H) ld (.exit 0, hints (fr45 lt tr s (sumS zd tr s ld) (ld : Int)) ++ [(13, AV.bool false, some 1)], lvB w ls ld zs zd :: H) (by omega) (fun j hj => ?_) ⟨?_, rfl⟩
 · refine ⟨hints (fr45 lt tr s (sumS zd tr s (j + 1)) ((j + 1 : Nat) : Int)), lvB w ls ld zs zd :: H, ?_, hints_eq _, rfl⟩
   rw [t45]
   by_cases e : zd (j * 3) = s
   · simp (disch := omega) only [Tr.run_ite, Tr.run_req, Tr.run_ok, ltI_eq, inI_eq, ltN_eq, idO_eq, mulO_eq, addI_eq, eqI_eq, decide_eq_true, cond_true, Int.ofNat_eq_natCast, Int.toNat_natCast, Nat.zero_add, Nat.mul_one, e, beq_self_eq_true, sumS, if_true, Int.natCast_one, wrap_j]
   · simp (disch := omega) only [Tr.run_ite, Tr.run_req, Tr.run_ok, ltI_eq, inI_eq, ltN_eq, idO_eq, mulO_eq, addI_eq, eqI_eq, decide_eq_true, cond_true, Int.ofNat_eq_natCast, Int.toNat_natCast, Nat.zero_add, Nat.mul_one, e, beq_eq_false_iff_ne.2 e, cond_false, sumS, if_false, Int.natCast_one, wrap_j]
 · rw [t45]
   simp (disch := omega) only [Tr.run_ite, ltI_eq, Int.ofNat_eq_natCast, decide_eq_false, cond_false, Tr.run_ok]
theorem u45 (n : Nat) (w : Int) (ls ld lt : Nat) (zs zd tr : Nat → Int) (H : Heap) (s acc : Int) : bodyT Try.prog (cd n) 100000 45 Try.f45 (Kt.kt 45) (il noCt n 0) (blkE noBT 0 (fr45 lt tr s 0 0) (lvB w ls ld zs zd :: H) (.ok (.normal, hints (fr45 lt tr s acc (ld : Int)) ++ [(13, AV.bool false, none)], lvB w ls ld zs zd :: H))) noRT [(bathA w ls zs ld zd, none), (slA 1 lt tr, none), (.int .i64 s, none)] H =
 (fun (Z0 : Frm) => Tr.reqP (Z0 = Z0 ∧ lvB w ls ld zs zd :: H = lvB w ls ld zs zd :: H) (Tr.ok ((AV.int .i64 acc, none), H))) [(1, AV.slcT none (Row.M [Seg.arr .i64 tr lt]) 1 lt false), (2, AV.int .i64 s), (3, AV.ptr 0 0 0 0), (7, AV.int .i64 (Int.ofNat 0)), (8, AV.int .i64 (Int.ofNat 0))] := by kernel_rfl
theorem c45 (h1 : ld ≤ lt) (h2 : ld < 2 ^ 16) : cd (n + 1) (.fn 45) [bathA w ls zs ld zd, slA 1 lt tr, .int .i64 s] H = some (.int .i64 (sumS zd tr s ld), H) :=
 fn_of Try.func45 rfl rfl rfl (u45 n w ls ld lt zs zd tr H s (sumS zd tr s ld)) (il_no0 n)
  (blkE_ok (noBT_ok _ _) (B := .loop (part Try.f45 [1,1,0,1,0,0])) (fun b hb => by rw [b45] at hb; simpa using hb) (fun x hx => by rw [← Tr.ok_some hx]; exact l45 n w ls ld lt zs zd tr H s h1 h2))
  (noRT_ok _ _) (y := ((.int .i64 (sumS zd tr s ld), none), H)) (Tr.run_reqP ⟨rfl, rfl⟩)
end
end Go.Eng
end
section
namespace Go.Eng
open Go.Proofs
set_option linter.unusedVariables false
theorem fn_all {f : FuncId} {fn : Func} {n : Nat} (hf : Try.prog.funcs[f]? = some fn) (hb : fn.body.isSome = true) (hn : noD f = false) {args : List HV} (hle : Nat.ble args.length fn.ntmps = true) {H : Heap} {callR : CallTr} {bl : BlkT} {rg : RgT} {T : Tr (HV × Heap)}
 (e : bodyT Try.prog (cd n) 100000 f fn (Kt.kt f) callR bl rg args H = T) (hC : callR.Ok (cd n)) (hB : bl.Ok (cxD n f fn.ntmps) (bodyOf fn)) (hR : rg.Ok (cxD n f fn.ntmps) (bodyOf fn)) {v : AV} {H' : Heap} (h : T.all fun y => y.1.1 = v ∧ y.2 = H') : cd (n + 1) (.fn f) (avs args) H = some (v, H') := by
 obtain ⟨y, h1, h2, h3⟩ := h
 have := fn_of hf hb hn hle e hC hB hR h1
 rw [this, h2, h3]
theorem ex_all {n f nt : Nat} {c : Code} {callR : CallTr} {bl : BlkT} {rg : RgT} {fr : Frm} {H : Heap} {T : Tr Res} (e : execT (cxD n f nt) callR bl rg c (hints fr) H = T) (hC : callR.Ok (cd n)) (hB : bl.Ok (cxD n f nt) c) (hR : rg.Ok (cxD n f nt) c) {Q : Ex × Frm × Heap → Prop} (h : T.all fun x => Q x.st) : ∃ x, exec (cxD n f nt) c fr H = some x ∧ Q x := by
 obtain ⟨x, h1, h2⟩ := h
 exact ⟨_, ex_of e hC hB hR h1, h2⟩
section
variable {n f nt : Nat} {c : Code} {callR : CallTr} {bl : BlkT} {rg : RgT}
theorem findX (id : Nat) (F : Nat → Frm) (G : Nat → Heap) (N : Nat) (p : Nat → Bool) (X : Nat → Frm × Heap) (Y : Frm × Heap) (hN : N < 99999)
 (hs : ∀ j, j < N → ∃ x, exec (cxD n f nt) c (F j) (G j) = some x ∧ if p j = true then x = (.ret, X j) else x.1 = .normal ∧ tidy (hNext (G 0)) x.2.1 x.2.2 = (F (j + 1), G (j + 1)))
 (he : exec (cxD n f nt) c (F N) (G N) = some (.exit id, Y)) : exec (cxD n f nt) (.block id (.loop c)) (F 0) (G 0) = some (cond (exN p N) (.ret, X (fN p N 0)) (.normal, Y)) := by
 have key := iter_find (body := exec (cxD n f nt) c) (n := hNext (G 0)) F G N p (fun j => if j < N then (.ret, X j) else (.exit id, Y))
  (fun j hj hp => by
    obtain ⟨x, h1, h2⟩ := hs j hj
    rw [if_neg (by rw [hp]; simp)] at h2
    obtain ⟨e, f1, g1⟩ := x
    obtain ⟨rfl, h3⟩ := h2
    exact ⟨_, _, h1, h3⟩)
  (fun j hj hp => by
    obtain ⟨x, h1, h2⟩ := hs j hj
    rw [if_pos hp] at h2
    subst h2
    rw [if_pos hj]
    exact ⟨h1, by simp⟩)
  (by
    rw [if_neg (by omega)]
    exact ⟨he, by simp⟩) N 0 100000 (by omega) (by omega)
 cases hc : exN p N with
 | true =>
   have := exN_true hc
   rw [if_pos this] at key
   exact exec_block_loop_other (fun id' h => by cases h) key
 | false =>
   have := exN_false hc
   rw [if_neg (by omega)] at key
   exact exec_block_loop key
theorem findT (hC : callR.Ok (cd n)) (hB : bl.Ok (cxD n f nt) c) (hR : rg.Ok (cxD n f nt) c) (id : Nat) (F : Nat → Frm) (G : Nat → Heap) (N : Nat) (p : Nat → Bool) (X : Nat → Frm × Heap) (Y : Frm × Heap) (hN : N < 99999)
 (hs : ∀ j, j < N → (execT (cxD n f nt) callR bl rg c (hints (F j)) (G j)).all fun x => if p j = true then x.1 = .ret ∧ strip x.2.1 = (X j).1 ∧ x.2.2 = (X j).2 else x.1 = .normal ∧ tidy (hNext (G 0)) (strip x.2.1) x.2.2 = (F (j + 1), G (j + 1)))
 (he : (execT (cxD n f nt) callR bl rg c (hints (F N)) (G N)).all fun x => x.1 = .exit id ∧ strip x.2.1 = Y.1 ∧ x.2.2 = Y.2) (x : Res)
 (hx : (Tr.ite (exN p N) (Tr.ok (.ret, hints (X (fN p N 0)).1, (X (fN p N 0)).2)) (Tr.ok (.normal, hints Y.1, Y.2))).run = some x) : exec (cxD n f nt) (.block id (.loop c)) (F 0) (G 0) = some x.st := by
 have key := iter_find (body := exec (cxD n f nt) c) (n := hNext (G 0)) F G N p (fun j => if j < N then (.ret, (X j).1, (X j).2) else (.exit id, Y.1, Y.2))
  (fun j hj hp => by
    obtain ⟨x, h1, h2⟩ := hs j hj
    rw [if_neg (by rw [hp]; simp)] at h2
    obtain ⟨e, f1, g1⟩ := x
    obtain ⟨rfl, h3⟩ := h2
    exact ⟨_, _, ex_ok hC hB hR h1, h3⟩)
  (fun j hj hp => by
    obtain ⟨x, h1, h2⟩ := hs j hj
    rw [if_pos hp] at h2
    obtain ⟨e, f1, g1⟩ := x
    obtain ⟨rfl, h3, h4⟩ := h2
    dsimp only at h3 h4
    rw [if_pos hj]
    refine ⟨?_, by simp⟩
    rw [ex_ok hC hB hR h1]
    simp only [Res.st]
    rw [h3, h4])
  (by
    obtain ⟨x, h1, h2⟩ := he
    obtain ⟨e, f1, g1⟩ := x
    obtain ⟨rfl, h3, h4⟩ := h2
    dsimp only at h3 h4
    rw [if_neg (by omega)]
    refine ⟨?_, by simp⟩
    rw [ex_ok hC hB hR h1]
    simp only [Res.st]
    rw [h3, h4]) N 0 100000 (by omega) (by omega)
 rcases Tr.ite_some hx with ⟨hc, hx⟩ | ⟨hc, hx⟩
 · have := exN_true hc
   rw [if_pos this] at key
   rw [← Tr.ok_some hx]
   simp only [Res.st, hints_eq]
   exact exec_block_loop_other (fun id' h => by cases h) key
 · have := exN_false hc
   rw [if_neg (by omega)] at key
   rw [← Tr.ok_some hx]
   simp only [Res.st, hints_eq]
   exact exec_block_loop key
theorem forT (hC : callR.Ok (cd n)) (hB : bl.Ok (cxD n f nt) c) (hR : rg.Ok (cxD n f nt) c) (id : Nat) (F : Nat → Frm) (G : Nat → Heap) (N : Nat) (Y : Frm × Heap) (hN : N < 99999)
 (hs : ∀ j, j < N → (execT (cxD n f nt) callR bl rg c (hints (F j)) (G j)).all fun x => x.1 = .normal ∧ tidy (hNext (G 0)) (strip x.2.1) x.2.2 = (F (j + 1), G (j + 1)))
 (he : (execT (cxD n f nt) callR bl rg c (hints (F N)) (G N)).all fun x => x.1 = .exit id ∧ strip x.2.1 = Y.1 ∧ x.2.2 = Y.2) : exec (cxD n f nt) (.block id (.loop c)) (F 0) (G 0) = some (.normal, Y.1, Y.2) := by
 have h0 : exN (fun _ => false) N = false := by
  cases h : exN (fun _ => false) N with
  | false => rfl
  | true => obtain ⟨i, _, h2⟩ := (exN_iff _ _).1 h; cases h2
 have := findT hC hB hR id F G N (fun _ => false) (fun _ => ([], [])) Y hN (fun j hj => by simpa using hs j hj) he (.normal, hints Y.1, Y.2) (by rw [Tr.run_ite, h0]; rfl)
 rw [this]
 simp only [Res.st, hints_eq]
end
end Go.Eng
end
section
namespace Go.Eng
open Go.Proofs
set_option linter.unusedVariables false
set_option linter.unusedSimpArgs false
set_option maxRecDepth 100000
def upto (e : Nat → Int) (n : Nat) : Nat → Int := fun i => if i < n then e i else 0
theorem upto_one (e : Nat → Int) : lstO [e 0] = upto e 1 := by
 rw [lstO_fn]; funext i
 cases i with
 | zero => simp [upto]
 | succ i => simp [upto]
theorem upto_app (e : Nat → Int) (n : Nat) : appO (shO (upto e n) 0) n (lstO [e n]) = upto e (n + 1) := by
 rw [shO_zero, appO_fn, lstO_fn]; funext i
 simp only [upto]
 by_cases h : i < n
 · rw [if_pos h, if_pos h, if_pos (by omega)]
 · rw [if_neg h]
   by_cases h2 : i = n
   · subst h2; simp
   · rw [if_neg (by omega)]
     have : i - n = (i - n - 1) + 1 := by omega
     rw [this]; simp
def endS (h : Bool) (zd : Nat → Int) (i : Nat) : Int := cond h (zd (i * 3 + 1 + 1)) (zd (i * 3 + 1))
noncomputable def frE (h : Bool) : Nat → Frm
 | 0 => [(1, AV.bool h), (2, AV.ptr 0 0 0 0), (5, AV.nils), (6, AV.int IntKind.i64 ((0 : Nat) : Int))]
 | j + 1 => [(1, AV.bool h), (2, AV.ptr 0 0 0 0), (5, AV.slc 0 1 j 0 1 (j + 1) none), (6, AV.int IntKind.i64 ((j + 1 : Nat) : Int))]
noncomputable def lvE (w : Int) (ls ld : Nat) (zs zd : Nat → Int) (v m : Nat) (z : Nat → Int) : Lvl := ⟨false, [(0, .row (.G [.int .i64 w, slA 2 ls zs, slA 3 ld zd])), (v, .row (.M [.arr .i64 z m]))]⟩
noncomputable def hE (w : Int) (ls ld : Nat) (zs zd : Nat → Int) (H : Heap) (h : Bool) : Nat → Heap
 | 0 => lvB w ls ld zs zd :: H
 | j + 1 => lvE w ls ld zs zd j (j + 1) (upto (endS h zd) (j + 1)) :: H
theorem t61a (n : Nat) (w : Int) (ls ld : Nat) (zs zd : Nat → Int) (H : Heap) (h : Bool) (j : Int) : execT (cxD n 61 35) (il noCt n 0) noBT noRT (part Try.f61 [1,1,0,1,0,0]) (hints [(1, AV.bool h), (2, AV.ptr 0 0 0 0), (5, AV.nils), (6, AV.int IntKind.i64 j)]) (lvB w ls ld zs zd :: H) =
 (fun (Z0 : HFrm) => Tr.ite (ltI j (Int.ofNat ld)) (Tr.req (inI j ld) (Tr.req (ltN (addO (idO 0 j 3) 1) (mulO ld 3)) (Tr.ite h (Tr.req (inI j ld) (Tr.req (ltN (addO (addO (idO 0 j 3) 1) 1) (mulO ld 3)) (Tr.req (roomO 0 1 8) (Tr.req (leN 1 1) (Tr.ok (Ex.normal, Z0, { lock := false, bs := [(0, Blk.row (Row.G [AV.int .i64 w, slA 2 ls zs, slA 3 ld zd])), (0, Blk.row (Row.I .i64 [zd (addO (addO (idO 0 j 3) 1) 1)])), (0, Blk.row (Row.M [Seg.arr .i64 (lstO [zd (addO (addO (idO 0 j 3) 1) 1)]) 1]))] } :: H)))))) (Tr.req (roomO 0 1 8) (Tr.req (leN 1 1) (Tr.ok (Ex.normal, Z0, { lock := false, bs := [(0, Blk.row (Row.G [AV.int .i64 w, slA 2 ls zs, slA 3 ld zd])), (0, Blk.row (Row.I .i64 [zd (addO (idO 0 j 3) 1)])), (0, Blk.row (Row.M [Seg.arr .i64 (lstO [zd (addO (idO 0 j 3) 1)]) 1]))] } :: H))))))) (Tr.ok (Ex.exit 0, [(1, AV.bool h, none), (2, AV.ptr 0 0 0 0, none), (5, AV.nils, none), (6, AV.int .i64 j, none), (12, AV.bool false, some 1)], lvB w ls ld zs zd :: H))) [(1, AV.bool h, none), (2, AV.ptr 0 0 0 0, none), (5, AV.slc 0 2 0 0 1 1 none, none), (6, AV.int .i64 (addI .i64 j (Int.ofNat 1)), none)] := by kernel_rfl
theorem t61b (n : Nat) (w : Int) (ls ld : Nat) (zs zd : Nat → Int) (H : Heap) (h : Bool) (j : Int) (z : Nat → Int) (v m : Nat) : execT (cxD n 61 35) (il noCt n 0) noBT noRT (part Try.f61 [1,1,0,1,0,0]) (hints [(1, AV.bool h), (2, AV.ptr 0 0 0 0), (5, AV.slc 0 1 v 0 1 m none), (6, AV.int IntKind.i64 j)]) (lvE w ls ld zs zd v m z :: H) =
 (fun (Z0 : HFrm) => ((fun (Z1 : Nat × Blk) => Tr.ite (ltI j (Int.ofNat ld)) (Tr.req (inI j ld) (Tr.req (ltN (addO (idO 0 j 3) 1) (mulO ld 3)) (Tr.ite h (Tr.req (inI j ld) (Tr.req (ltN (addO (addO (idO 0 j 3) 1) 1) (mulO ld 3)) (Tr.req (roomO m 1 8) (Tr.req (leN 1 1) (Tr.req (eqN v v) (Tr.req (eqN (addO 0 m) m) (Tr.ok (Ex.normal, Z0, { lock := false, bs := [Z1, (Nat.succ v, Blk.row (Row.M [Seg.arr .i64 (appO (shO z 0) m (lstO [zd (addO (addO (idO 0 j 3) 1) 1)])) (addO m 1)])), (0, Blk.row (Row.I .i64 [zd (addO (addO (idO 0 j 3) 1) 1)]))] } :: H)))))))) (Tr.req (roomO m 1 8) (Tr.req (leN 1 1) (Tr.req (eqN v v) (Tr.req (eqN (addO 0 m) m) (Tr.ok (Ex.normal, Z0, { lock := false, bs := [Z1, (Nat.succ v, Blk.row (Row.M [Seg.arr .i64 (appO (shO z 0) m (lstO [zd (addO (idO 0 j 3) 1)])) (addO m 1)])), (0, Blk.row (Row.I .i64 [zd (addO (idO 0 j 3) 1)]))] } :: H))))))))) (Tr.ok (Ex.exit 0, [(1, AV.bool h, none), (2, AV.ptr 0 0 0 0, none), (5, AV.slc 0 1 v 0 1 m none, none), (6, AV.int .i64 j, none), (12, AV.bool false, some 1)], { lock := false, bs := [Z1, (v, Blk.row (Row.M [Seg.arr .i64 z m]))] } :: H))) (0, Blk.row (Row.G [AV.int .i64 w, slA 2 ls zs, slA 3 ld zd])))) [(1, AV.bool h, none), (2, AV.ptr 0 0 0 0, none), (5, AV.slc 0 1 (Nat.succ v) 0 1 (addO m 1) none, none), (6, AV.int .i64 (addI .i64 j (Int.ofNat 1)), none)] := by kernel_rfl
theorem b61 : blocksOf (bodyOf Try.f61) = [(0, .loop (part Try.f61 [1,1,0,1,0,0])), (1, part Try.f61 [1,1,0,1,0,0,1,0,0])] := by kernel_rfl
noncomputable def endV (h : Bool) (zd : Nat → Int) : Nat → AV
 | 0 => .nils
 | j + 1 => slA 1 (j + 1) (upto (endS h zd) (j + 1))
section
variable (n : Nat) (w : Int) (ls ld : Nat) (zs zd : Nat → Int) (H : Heap) (h : Bool)
theorem l61 (h2 : ld < 2 ^ 16) : exec (cxD n 61 35) (.block 0 (.loop (part Try.f61 [1,1,0,1,0,0]))) (frE h 0) (lvB w ls ld zs zd :: H) = some (.normal, frE h ld ++ [(12, AV.bool false)], hE w ls ld zs zd H h ld) := by
 refine forT (il_no0 n) (noBT_ok _ _) (noRT_ok _ _) 0 (frE h) (hE w ls ld zs zd H h) ld (frE h ld ++ [(12, AV.bool false)], hE w ls ld zs zd H h ld) (by omega) (fun j hj => ?_) ?_
 · cases j with
   | zero =>
     simp only [frE, hE]
     rw [t61a]
     cases h <;> repeat' first | (refine Tr.all_ite (fun hc => ?_) (fun hc => ?_) <;> (try simp (disch := omega) only [nV, mulO_eq, Int.cast_ofNat_Int, eq_self] at hc) <;> (try (exfalso; omega))) | (refine Tr.all_req ?_ ?_; · ((try simp (disch := omega) only [nV, mulO_eq, Int.cast_ofNat_Int, eq_self]); try omega)) | (refine Tr.all_reqP ?_ ?_; · first | exact trivial | rfl | exact ⟨rfl, rfl⟩ | exact ⟨rfl, rfl, rfl⟩ | (simp (disch := omega) only [nV, mulO_eq, Int.cast_ofNat_Int, eq_self]; done) | ((try simp (disch := omega) only [nV, mulO_eq, Int.cast_ofNat_Int, eq_self]); omega)) | fail
     all_goals
      refine Tr.all_ok ⟨rfl, ?_⟩
      simp (disch := omega) only [nV, Int.cast_ofNat_Int, eq_self, ← upto_one, endS, wrap_j, Nat.zero_mul]
      rfl
   | succ j =>
     simp only [frE, hE]
     rw [t61b]
     have hu := upto_app (endS h zd) (j + 1)
     cases h <;> repeat' first | (refine Tr.all_ite (fun hc => ?_) (fun hc => ?_) <;> (try simp (disch := omega) only [nV, mulO_eq, Int.cast_ofNat_Int, eq_self] at hc) <;> (try (exfalso; omega))) | (refine Tr.all_req ?_ ?_; · ((try simp (disch := omega) only [nV, mulO_eq, Int.cast_ofNat_Int, eq_self]); try omega)) | (refine Tr.all_reqP ?_ ?_; · first | exact trivial | rfl | exact ⟨rfl, rfl⟩ | exact ⟨rfl, rfl, rfl⟩ | (simp (disch := omega) only [nV, mulO_eq, Int.cast_ofNat_Int, eq_self]; done) | ((try simp (disch := omega) only [nV, mulO_eq, Int.cast_ofNat_Int, eq_self]); omega)) | fail
     all_goals
      refine Tr.all_ok ⟨rfl, ?_⟩
      simp (disch := omega) only [nV, Int.cast_ofNat_Int, eq_self, cond_true, cond_false, endS, wrap_j, Nat.zero_mul] at hu ⊢
      rw [hu]
      rfl
 · cases ld with
   | zero =>
     simp only [frE, hE]
     rw [t61a]
     repeat' first | (refine Tr.all_ite (fun hc => ?_) (fun hc => ?_) <;> (try simp (disch := omega) only [nV, mulO_eq, Int.cast_ofNat_Int, eq_self] at hc) <;> (try (exfalso; omega))) | (refine Tr.all_req ?_ ?_; · ((try simp (disch := omega) only [nV, mulO_eq, Int.cast_ofNat_Int, eq_self]); try omega)) | (refine Tr.all_reqP ?_ ?_; · first | exact trivial | rfl | exact ⟨rfl, rfl⟩ | exact ⟨rfl, rfl, rfl⟩ | (simp (disch := omega) only [nV, mulO_eq, Int.cast_ofNat_Int, eq_self]; done) | ((try simp (disch := omega) only [nV, mulO_eq, Int.cast_ofNat_Int, eq_self]); omega)) | fail
     exact Tr.all_ok ⟨rfl, rfl, rfl⟩
   | succ j =>
     simp only [frE, hE]
     rw [t61b]
     repeat' first | (refine Tr.all_ite (fun hc => ?_) (fun hc => ?_) <;> (try simp (disch := omega) only [nV, mulO_eq, Int.cast_ofNat_Int, eq_self] at hc) <;> (try (exfalso; omega))) | (refine Tr.all_req ?_ ?_; · ((try simp (disch := omega) only [nV, mulO_eq, Int.cast_ofNat_Int, eq_self]); try omega)) | (refine Tr.all_reqP ?_ ?_; · first | exact trivial | rfl | exact ⟨rfl, rfl⟩ | exact ⟨rfl, rfl, rfl⟩ | (simp (disch := omega) only [nV, mulO_eq, Int.cast_ofNat_Int, eq_self]; done) | ((try simp (disch := omega) only [nV, mulO_eq, Int.cast_ofNat_Int, eq_self]); omega)) | fail
     exact Tr.all_ok ⟨rfl, rfl, rfl⟩
theorem u61a (n : Nat) (w : Int) (ls ld : Nat) (zs zd : Nat → Int) (H : Heap) (h : Bool) : bodyT Try.prog (cd n) 100000 61 Try.f61 (Kt.kt 61) (il noCt n 0) (blkE noBT 0 [(1, AV.bool h), (2, AV.ptr 0 0 0 0), (5, AV.nils), (6, AV.int IntKind.i64 (Int.ofNat 0))] (lvB w ls ld zs zd :: H) (.ok (.normal, hints [(1, AV.bool h), (2, AV.ptr 0 0 0 0), (5, AV.nils), (6, AV.int IntKind.i64 (Int.ofNat 0)), (12, AV.bool false)], lvB w ls ld zs zd :: H))) noRT [(bathA w ls zs ld zd, none), (.bool h, none)] H =
 (fun (Z0 : Frm) => Tr.reqP (Z0 = Z0 ∧ lvB w ls ld zs zd :: H = lvB w ls ld zs zd :: H) (Tr.ok ((AV.nils, none), H))) [(1, AV.bool h), (2, AV.ptr 0 0 0 0), (5, AV.nils), (6, AV.int .i64 (Int.ofNat 0))] := by kernel_rfl
theorem u61b (n : Nat) (w : Int) (ls ld : Nat) (zs zd : Nat → Int) (H : Heap) (h : Bool) (j : Int) (z : Nat → Int) (v m : Nat) : bodyT Try.prog (cd n) 100000 61 Try.f61 (Kt.kt 61) (il noCt n 0) (blkE noBT 0 [(1, AV.bool h), (2, AV.ptr 0 0 0 0), (5, AV.nils), (6, AV.int IntKind.i64 (Int.ofNat 0))] (lvB w ls ld zs zd :: H) (.ok (.normal, hints [(1, AV.bool h), (2, AV.ptr 0 0 0 0), (5, AV.slc 0 1 v 0 1 m none), (6, AV.int IntKind.i64 j), (12, AV.bool false)], lvE w ls ld zs zd v m z :: H))) noRT [(bathA w ls zs ld zd, none), (.bool h, none)] H =
 (fun (Z0 : Frm) => Tr.reqP (Z0 = Z0 ∧ lvB w ls ld zs zd :: H = lvB w ls ld zs zd :: H) (Tr.req (eqN v v) (Tr.req (inO 0 m 0 m) (Tr.ok ((AV.slcT none (Row.M [Seg.arr .i64 (shO z 0) m]) 1 m false, none), H))))) [(1, AV.bool h), (2, AV.ptr 0 0 0 0), (5, AV.nils), (6, AV.int .i64 (Int.ofNat 0))] := by kernel_rfl
theorem c61 (h2 : ld < 2 ^ 16) : cd (n + 1) (.fn 61) [bathA w ls zs ld zd, .bool h] H = some (endV h zd ld, H) := by
 have hl := l61 n w ls ld zs zd H h h2
 have hb : ∀ b, (0, b) ∈ blocksOf (bodyOf Try.f61) → b = .loop (part Try.f61 [1,1,0,1,0,0]) := fun b hb => by rw [b61] at hb; simpa using hb
 cases ld with
 | zero =>
   exact fn_of Try.func61 rfl rfl rfl (u61a n w ls 0 zs zd H h) (il_no0 n) (blkE_ok (noBT_ok _ _) hb (fun x hx => by rw [← Tr.ok_some hx]; exact hl)) (noRT_ok _ _) (y := ((.nils, none), H)) (Tr.run_reqP ⟨rfl, rfl⟩)
 | succ m =>
   refine fn_of Try.func61 rfl rfl rfl (u61b n w ls (m + 1) zs zd H h ((m + 1 : Nat) : Int) (upto (endS h zd) (m + 1)) m (m + 1)) (il_no0 n) (blkE_ok (noBT_ok _ _) hb (fun x hx => by rw [← Tr.ok_some hx]; exact hl)) (noRT_ok _ _) (y := ((endV h zd (m + 1), none), H)) ((Tr.run_reqP ⟨rfl, rfl⟩).trans ?_)
   simp (disch := omega) only [Tr.run_req, Tr.run_ok, eqN_eq, inO_eq, decide_true, cond_true, decide_eq_true, shO_zero]
   rfl
end
end Go.Eng
end
