/- Drop: slices.ContainsFunc over drops, by their spot. -/
import Derived.Test.YtjmjkhpfipglcaaV4DrUV
namespace Go.Eng
open Go.Proofs
set_option linter.unusedVariables false
set_option linter.unusedSimpArgs false
set_option maxRecDepth 100000
def eqD (z : Nat → Int) (s : Int) (j : Nat) : Bool := z (j * 3) == s
noncomputable def slD (m : Nat) (z : Nat → Int) (full : Bool) : AV := .slcT none (.M [.arr .i64 z (mulO m 3)]) 3 m full
noncomputable def onto (s : Int) : AV := .fn (.func 73) [] [.ptrT none (.I .i64 [s]) 0]
noncomputable def frD (m : Nat) (z : Nat → Int) (full : Bool) (s : Int) (j : Int) : Frm := [(0, slD m z full), (1, onto s), (7, AV.int .i64 (Int.ofNat m)), (8, AV.int .i64 j)]
def g98 (ix : (Nat → Int) → Nat → Int → Int) : List AV → Option (Prop × AV)
  | [.slcT none (.M [.arr .i64 z N]) 3 m full, .fn (.func 73) [] [.ptrT none (.I .i64 [s]) 0]] => some (N = mulO m 3 ∧ leN m 1000 = true, .int .i64 (ix z m s))
  | _ => none
theorem u67 (n : Nat) (m : Nat) (z : Nat → Int) (full : Bool) (s : Int) (H : Heap) (ix : (Nat → Int) → Nat → Int → Int) : bodyT Try.prog (cd (n+3)) 100000 67 Try.f67 (Kt.kt 67) (il (ctG noCt 98 (g98 ix)) (n+2) 1) noBT noRT [(slD m z full, none), (onto s, none)] H =
  Tr.reqP (mulO m 3 = mulO m 3 ∧ leN m 1000 = true) (Tr.ok ((AV.bool (leI (Int.ofNat 0) (ix z m s)), none), H)) := by kernel_rfl
theorem tD (n : Nat) (m : Nat) (z : Nat → Int) (full : Bool) (s : Int) (H : Heap) (j : Int) : execT (cxD (n+1) 98 19) (il noCt n 1) noBT noRT (part Try.f98 [1,0,1,0,0]) (hints (frD m z full s j)) (lv0 :: H) =
  Tr.ite (ltI j (Int.ofNat m))
    (Tr.req (inI j m)
      (Tr.req (ltN (idO 0 j 3) (mulO m 3))
        (Tr.req (ltN (addO (idO 0 j 3) 1) (mulO m 3))
          (Tr.req (ltN (addO (idO 0 j 3) 2) (mulO m 3))
            (Tr.ite (eqI (z (idO 0 j 3)) s) (Tr.ok (Ex.ret, [(4, AV.int IntKind.i64 j, none)], { lock := false, bs := [] } :: H))
              (Tr.ok (Ex.normal, [(0, AV.slcT none (Row.M [Seg.arr IntKind.i64 z (mulO m 3)]) 3 m full, none), (1, AV.fn (Fn.func 73) [] [AV.ptrT none (Row.I IntKind.i64 [s]) 0], none), (7, AV.int IntKind.i64 (Int.ofNat m), none), (8, AV.int IntKind.i64 (addI IntKind.i64 j (Int.ofNat 1)), none)], { lock := false, bs := [] } :: H)))))))
    (Tr.ok (Ex.exit 0, [(0, AV.slcT none (Row.M [Seg.arr IntKind.i64 z (mulO m 3)]) 3 m full, none), (1, AV.fn (Fn.func 73) [] [AV.ptrT none (Row.I IntKind.i64 [s]) 0], none), (7, AV.int IntKind.i64 (Int.ofNat m), none), (8, AV.int IntKind.i64 j, none), (9, AV.bool false, some 1)], { lock := false, bs := [] } :: H)) := by kernel_rfl
theorem uD (n : Nat) (m : Nat) (z : Nat → Int) (full : Bool) (s : Int) (H : Heap) (q : Bool) (i : Int) : bodyT Try.prog (cd (n+1)) 100000 98 Try.f98 (Kt.kt 98) (il noCt n 1) (blkE noBT 0 (frD m z full s (Int.ofNat 0)) (lv0 :: H) (Tr.ite q (Tr.ok (.ret, hints [(4, AV.int .i64 i)], lv0 :: H)) (Tr.ok (.normal, hints (frD m z full s (Int.ofNat m) ++ [(9, AV.bool false)]), lv0 :: H)))) noRT [(slD m z full, none), (onto s, none)] H =
  Tr.reqP
    ([(0, AV.slcT none (Row.M [Seg.arr IntKind.i64 z (mulO m 3)]) 3 m full), (1, AV.fn (Fn.func 73) [] [AV.ptrT none (Row.I IntKind.i64 [s]) 0]), (7, AV.int IntKind.i64 (Int.ofNat m)), (8, AV.int IntKind.i64 (Int.ofNat 0))] =
        [(0, AV.slcT none (Row.M [Seg.arr IntKind.i64 z (mulO m 3)]) 3 m full), (1, AV.fn (Fn.func 73) [] [AV.ptrT none (Row.I IntKind.i64 [s]) 0]), (7, AV.int IntKind.i64 (Int.ofNat m)), (8, AV.int IntKind.i64 (Int.ofNat 0))] ∧
      { lock := false, bs := [] } :: H = { lock := false, bs := [] } :: H)
    (Tr.ite q (Tr.ok ((AV.int IntKind.i64 i, none), H)) (Tr.ok ((AV.int IntKind.i64 (Int.negSucc 0), some 1), H))) := by kernel_rfl
section
variable (n : Nat) (H : Heap)
theorem lD (m : Nat) (z : Nat → Int) (full : Bool) (s : Int) (h1 : m ≤ 1000) (x : Res) (hx : (Tr.ite (exN (eqD z s) m) (Tr.ok (.ret, hints [(4, AV.int .i64 (Int.ofNat (fN (eqD z s) m 0)))], lv0 :: H)) (Tr.ok (.normal, hints (frD m z full s (Int.ofNat m) ++ [(9, AV.bool false)]), lv0 :: H))).run = some x) :
    exec (cxD (n + 1) 98 19) (.block 0 (.loop (part Try.f98 [1,0,1,0,0]))) (frD m z full s (Int.ofNat 0)) (lv0 :: H) = some x.st := by
  refine findB (il_no n 1) (noBT_ok _ _) (noRT_ok _ _) 0 (fun j => frD m z full s (Int.ofNat j)) (fun _ => lv0 :: H) m (eqD z s)
    (fun j => if j < m then (.ret, hints [(4, AV.int .i64 (Int.ofNat j))], lv0 :: H) else (.exit 0, hints (frD m z full s (Int.ofNat m)) ++ [(9, AV.bool false, some 1)], lv0 :: H)) (by omega) (fun j hj hp => ?_) (fun j hj hp => ?_) ⟨?_, ?_⟩ x ?_
  · refine ⟨hints (frD m z full s (Int.ofNat (j + 1))), lv0 :: H, ?_, hints_eq _, rfl⟩
    rw [tD]
    simp (disch := omega) only [Tr.run_ite, Tr.run_req, Tr.run_ok, ltI_eq, leI_eq, eqI_eq, notB_eq, andB_eq, inI_eq, ltN_eq, leN_eq, lt_mulO, le_mulO, idO_eq, addO_eq, addI_eq, decide_eq_true, decide_eq_false, cond_true, cond_false, Int.ofNat_eq_natCast, Int.toNat_natCast, Nat.zero_add, Int.natCast_one, wrap_j, Bool.not_true, Bool.not_false, Bool.and_true, Bool.and_false, Bool.true_and, Bool.false_and]
    simp only [eqD] at hp
    rw [hp]
    rfl
  · rw [if_pos hj]
    refine ⟨?_, rfl⟩
    rw [tD]
    simp (disch := omega) only [Tr.run_ite, Tr.run_req, Tr.run_ok, ltI_eq, leI_eq, eqI_eq, notB_eq, andB_eq, inI_eq, ltN_eq, leN_eq, lt_mulO, le_mulO, idO_eq, addO_eq, addI_eq, decide_eq_true, decide_eq_false, cond_true, cond_false, Int.ofNat_eq_natCast, Int.toNat_natCast, Nat.zero_add, Int.natCast_one, wrap_j, Bool.not_true, Bool.not_false, Bool.and_true, Bool.and_false, Bool.true_and, Bool.false_and]
    simp only [eqD] at hp
    rw [hp]
    rfl
  · rw [if_neg (by omega), tD]
    simp (disch := omega) only [Tr.run_ite, Tr.run_req, Tr.run_ok, ltI_eq, leI_eq, eqI_eq, notB_eq, andB_eq, inI_eq, ltN_eq, leN_eq, lt_mulO, le_mulO, idO_eq, addO_eq, addI_eq, decide_eq_true, decide_eq_false, cond_true, cond_false, Int.ofNat_eq_natCast, Int.toNat_natCast, Nat.zero_add, Int.natCast_one, wrap_j, Bool.not_true, Bool.not_false, Bool.and_true, Bool.and_false, Bool.true_and, Bool.false_and]
    rfl
  · rw [if_neg (by omega)]
  · rcases Tr.ite_some hx with ⟨hc, hx⟩ | ⟨hc, hx⟩
    · have := exN_true hc
      exact .inl ⟨this, by rw [if_pos this, ← Tr.ok_some hx]⟩
    · exact .inr ⟨exN_false hc, by rw [if_neg (by omega), ← Tr.ok_some hx]; rfl⟩
theorem cD (m : Nat) (z : Nat → Int) (full : Bool) (s : Int) (h1 : m ≤ 1000) : cd (n + 2) (.fn 98) [slD m z full, onto s] H = some (.int .i64 (idxN (eqD z s) m), H) := by
  refine fn_of (n := n + 1) Try.func98 rfl rfl rfl (uD n m z full s H (exN (eqD z s) m) (Int.ofNat (fN (eqD z s) m 0))) (il_no n 1) (blkE_ok (noBT_ok _ _) b98 (fun x hx => lD n H m z full s h1 x hx)) (noRT_ok _ _) (y := ((.int .i64 (idxN (eqD z s) m), if exN (eqD z s) m then none else some 1), H)) ((Tr.run_reqP ⟨rfl, rfl⟩).trans ?_)
  unfold idxN
  cases exN (eqD z s) m <;> rfl
theorem c67 (m : Nat) (z : Nat → Int) (full : Bool) (s : Int) (h1 : m ≤ 1000) : cd (n + 4) (.fn 67) [slD m z full, onto s] H = some (.bool (exN (eqD z s) m), H) := by
  rw [← leI_idx]
  refine fn_of (n := n + 3) Try.func67 rfl rfl rfl (u67 n m z full s H (fun z m s => idxN (eqD z s) m)) (il_ok _ (n + 2) 1 (fun k => ctG_ok (noCt_ok _) (fun args p v hg hp H => ?_))) (noBT_ok _ _) (noRT_ok _ _) (y := ((.bool (leI (Int.ofNat 0) (idxN (eqD z s) m)), none), H)) ((Tr.run_reqP ⟨rfl, by rw [leN_eq, decide_eq_true h1]⟩).trans rfl)
  unfold g98 at hg
  split at hg
  · simp only [Option.some.injEq, Prod.mk.injEq] at hg
    obtain ⟨rfl, rfl⟩ := hg
    obtain ⟨rfl, hp⟩ := hp
    rw [leN_eq, decide_eq_true_eq] at hp
    rw [show n + 2 + k = n + k + 2 by omega]
    exact cD _ H _ _ _ _ hp
  · cases hg
end
end Go.Eng
