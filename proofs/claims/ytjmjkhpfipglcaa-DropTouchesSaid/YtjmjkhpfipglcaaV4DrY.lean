/- Drop: Beside of the definitions. -/
import Derived.Test.YtjmjkhpfipglcaaV4DrX
namespace Go.Eng
open Go.Proofs
set_option linter.unusedVariables false
set_option linter.unusedSimpArgs false
set_option maxRecDepth 100000
def eqF (zd : Nat → Int) (m j : Nat) : Bool := zd (j * 3) == zd (m * 3)
noncomputable def fr75 (m : Nat) (j : Int) : Frm := [(1, .int .i64 (Int.ofNat m)), (2, .ptr 0 0 0 0), (5, .int .i64 j)]
theorem u75 (n : Nat) (w : Int) (ls ld : Nat) (zs zd : Nat → Int) (H : Heap) (m : Nat) (q : Bool) : bodyT Try.prog (cd n) 100000 75 Try.f75 (Kt.kt 75) (il noCt n 0) (blkE noBT 0 (fr75 m (Int.ofNat 0)) (lvB w ls ld zs zd :: H) (Tr.ite q (Tr.ok (.ret, [(4, AV.bool false, some 1)], lvB w ls ld zs zd :: H)) (Tr.ok (.normal, hints (fr75 m (Int.ofNat m) ++ [(8, AV.bool false)]), lvB w ls ld zs zd :: H)))) noRT [(bathA w ls zs ld zd, none), (.int .i64 (Int.ofNat m), none)] H =
  Tr.reqP
    ([(1, AV.int IntKind.i64 (Int.ofNat m)), (2, AV.ptr 0 0 0 0), (5, AV.int IntKind.i64 (Int.ofNat 0))] = [(1, AV.int IntKind.i64 (Int.ofNat m)), (2, AV.ptr 0 0 0 0), (5, AV.int IntKind.i64 (Int.ofNat 0))] ∧
      { lock := false, bs := [(0, Blk.row (Row.G [AV.int IntKind.i64 w, AV.slcT none (Row.M [Seg.arr IntKind.i64 zs (mulO ls 2)]) 2 ls false, AV.slcT none (Row.M [Seg.arr IntKind.i64 zd (mulO ld 3)]) 3 ld false]))] } :: H =
        { lock := false, bs := [(0, Blk.row (Row.G [AV.int IntKind.i64 w, AV.slcT none (Row.M [Seg.arr IntKind.i64 zs (mulO ls 2)]) 2 ls false, AV.slcT none (Row.M [Seg.arr IntKind.i64 zd (mulO ld 3)]) 3 ld false]))] } :: H)
    (Tr.ite q (Tr.ok ((AV.bool false, some 1), H)) (Tr.ok ((AV.bool true, some 1), H))) := by kernel_rfl
theorem v24 (n : Nat) (w : Int) (ls ld : Nat) (zs zd : Nat → Int) (H : Heap) (p q e k a b : Int) (side : Prop) (fi : Int → Bool) : bodyT Try.prog (cd (n+6)) 100000 24 Try.f24 (Kt.kt 24) (il (ctG (ctG (ctG noCt 20 (g20 (bathA w ls zs ld zd) e)) 75 (g87 (bathA w ls zs ld zd) fi)) 71 (g71 (bathA w ls zs ld zd) a b k side)) (n+5) 1) (blkE noBT 0 [] [] .bad) noRT [(bathA w ls zs ld zd, none), (.int .i64 p, none), (.int .i64 q, none)] H =
  Tr.reqP (AV.agg (Row.G [AV.int IntKind.i64 w, AV.slcT none (Row.M [Seg.arr IntKind.i64 zs (mulO ls 2)]) 2 ls false, AV.slcT none (Row.M [Seg.arr IntKind.i64 zd (mulO ld 3)]) 3 ld false]) = AV.agg (Row.G [AV.int IntKind.i64 w, AV.slcT none (Row.M [Seg.arr IntKind.i64 zs (mulO ls 2)]) 2 ls false, AV.slcT none (Row.M [Seg.arr IntKind.i64 zd (mulO ld 3)]) 3 ld false]))
    (Tr.ite (notB (eqI e (Int.ofNat 0)))
      (Tr.reqP (AV.agg (Row.G [AV.int IntKind.i64 w, AV.slcT none (Row.M [Seg.arr IntKind.i64 zs (mulO ls 2)]) 2 ls false, AV.slcT none (Row.M [Seg.arr IntKind.i64 zd (mulO ld 3)]) 3 ld false]) = AV.agg (Row.G [AV.int IntKind.i64 w, AV.slcT none (Row.M [Seg.arr IntKind.i64 zs (mulO ls 2)]) 2 ls false, AV.slcT none (Row.M [Seg.arr IntKind.i64 zd (mulO ld 3)]) 3 ld false]))
        (Tr.ok ((AV.tup [AV.int IntKind.i64 (Int.ofNat 0), AV.int IntKind.i64 e], none), H)))
      (Tr.ite (leI (Int.ofNat 0) p)
        (Tr.ite (notB (ltI p (Int.ofNat ld))) (Tr.ok ((AV.tup [AV.int IntKind.i64 (Int.ofNat 0), AV.int IntKind.i64 (Int.ofNat 2)], none), H))
          (Tr.ite (leI (Int.ofNat 0) q)
            (Tr.ite (notB (ltI q (Int.ofNat ld))) (Tr.ok ((AV.tup [AV.int IntKind.i64 (Int.ofNat 0), AV.int IntKind.i64 (Int.ofNat 2)], none), H))
              (Tr.ite (eqI p q) (Tr.ok ((AV.tup [AV.int IntKind.i64 (Int.ofNat 0), AV.int IntKind.i64 (Int.ofNat 2)], none), H))
                (Tr.req (inI p ld)
                  (Tr.req (ltN (idO 0 p 3) (mulO ld 3))
                    (Tr.req (inI q ld)
                      (Tr.req (ltN (idO 0 q 3) (mulO ld 3))
                        (Tr.ite (eqI (zd (idO 0 p 3)) (zd (idO 0 q 3)))
                          (Tr.reqP
                            ([(1, AV.int IntKind.i64 p), (2, AV.int IntKind.i64 q), (3, AV.ptr 0 0 0 0), (8, AV.int IntKind.i64 (zd (idO 0 p 3))), (10, AV.int IntKind.i64 (addI IntKind.i64 (minO p q) (Int.ofNat 1)))] = [] ∧
                              { lock := false, bs := [(0, Blk.row (Row.G [AV.int IntKind.i64 w, AV.slcT none (Row.M [Seg.arr IntKind.i64 zs (mulO ls 2)]) 2 ls false, AV.slcT none (Row.M [Seg.arr IntKind.i64 zd (mulO ld 3)]) 3 ld false]))] } :: H = [])
                            Tr.bad)
                          (Tr.reqP (AV.agg (Row.G [AV.int IntKind.i64 w, AV.slcT none (Row.M [Seg.arr IntKind.i64 zs (mulO ls 2)]) 2 ls false, AV.slcT none (Row.M [Seg.arr IntKind.i64 zd (mulO ld 3)]) 3 ld false]) = AV.agg (Row.G [AV.int IntKind.i64 w, AV.slcT none (Row.M [Seg.arr IntKind.i64 zs (mulO ls 2)]) 2 ls false, AV.slcT none (Row.M [Seg.arr IntKind.i64 zd (mulO ld 3)]) 3 ld false]))
                            (Tr.ite (notB (fi p)) (Tr.ok ((AV.tup [AV.int IntKind.i64 (Int.ofNat 0), AV.int IntKind.i64 (Int.ofNat 0)], none), H))
                              (Tr.reqP (AV.agg (Row.G [AV.int IntKind.i64 w, AV.slcT none (Row.M [Seg.arr IntKind.i64 zs (mulO ls 2)]) 2 ls false, AV.slcT none (Row.M [Seg.arr IntKind.i64 zd (mulO ld 3)]) 3 ld false]) = AV.agg (Row.G [AV.int IntKind.i64 w, AV.slcT none (Row.M [Seg.arr IntKind.i64 zs (mulO ls 2)]) 2 ls false, AV.slcT none (Row.M [Seg.arr IntKind.i64 zd (mulO ld 3)]) 3 ld false]))
                                (Tr.ite (notB (fi q)) (Tr.ok ((AV.tup [AV.int IntKind.i64 (Int.ofNat 0), AV.int IntKind.i64 (Int.ofNat 0)], none), H))
                                  (Tr.reqP
                                    (AV.agg (Row.G [AV.int IntKind.i64 w, AV.slcT none (Row.M [Seg.arr IntKind.i64 zs (mulO ls 2)]) 2 ls false, AV.slcT none (Row.M [Seg.arr IntKind.i64 zd (mulO ld 3)]) 3 ld false]) = AV.agg (Row.G [AV.int IntKind.i64 w, AV.slcT none (Row.M [Seg.arr IntKind.i64 zs (mulO ls 2)]) 2 ls false, AV.slcT none (Row.M [Seg.arr IntKind.i64 zd (mulO ld 3)]) 3 ld false]) ∧
                                      zd (idO 0 p 3) = a ∧ zd (idO 0 q 3) = b ∧ side)
                                    (Tr.ok ((AV.tup [AV.int IntKind.i64 k, AV.int IntKind.i64 (Int.ofNat 0)], none), H))))))))))))))
            (Tr.ok ((AV.tup [AV.int IntKind.i64 (Int.ofNat 0), AV.int IntKind.i64 (Int.ofNat 2)], none), H))))
        (Tr.ok ((AV.tup [AV.int IntKind.i64 (Int.ofNat 0), AV.int IntKind.i64 (Int.ofNat 2)], none), H)))) := by kernel_rfl
theorem t75 (n : Nat) (w : Int) (ls ld : Nat) (zs zd : Nat → Int) (H : Heap) (m : Nat) (j : Int) : execT (cxD n 75 24) (il noCt n 0) noBT noRT (part Try.f75 [1,0,1,0,0]) (hints (fr75 m j)) (lvB w ls ld zs zd :: H) =
  Tr.ite (ltI j (Int.ofNat m))
    (Tr.req (inI j ld)
      (Tr.req (ltN (idO 0 j 3) (mulO ld 3))
        (Tr.req (inI (Int.ofNat m) ld)
          (Tr.req (ltN (idO 0 (Int.ofNat m) 3) (mulO ld 3))
            (Tr.ite (eqI (zd (idO 0 j 3)) (zd (idO 0 (Int.ofNat m) 3))) (Tr.ok (Ex.ret, [(4, AV.bool false, some 1)], { lock := false, bs := [(0, Blk.row (Row.G [AV.int IntKind.i64 w, AV.slcT none (Row.M [Seg.arr IntKind.i64 zs (mulO ls 2)]) 2 ls false, AV.slcT none (Row.M [Seg.arr IntKind.i64 zd (mulO ld 3)]) 3 ld false]))] } :: H))
              (Tr.ok (Ex.normal, [(1, AV.int IntKind.i64 (Int.ofNat m), none), (2, AV.ptr 0 0 0 0, none), (5, AV.int IntKind.i64 (addI IntKind.i64 j (Int.ofNat 1)), none)], { lock := false, bs := [(0, Blk.row (Row.G [AV.int IntKind.i64 w, AV.slcT none (Row.M [Seg.arr IntKind.i64 zs (mulO ls 2)]) 2 ls false, AV.slcT none (Row.M [Seg.arr IntKind.i64 zd (mulO ld 3)]) 3 ld false]))] } :: H)))))))
    (Tr.ok (Ex.exit 0, [(1, AV.int IntKind.i64 (Int.ofNat m), none), (2, AV.ptr 0 0 0 0, none), (5, AV.int IntKind.i64 j, none), (8, AV.bool false, some 1)], { lock := false, bs := [(0, Blk.row (Row.G [AV.int IntKind.i64 w, AV.slcT none (Row.M [Seg.arr IntKind.i64 zs (mulO ls 2)]) 2 ls false, AV.slcT none (Row.M [Seg.arr IntKind.i64 zd (mulO ld 3)]) 3 ld false]))] } :: H)) := by kernel_rfl
section
variable (n : Nat) (w : Int) (ls ld : Nat) (zs zd : Nat → Int) (H : Heap)
theorem l75 (m : Nat) (h0 : m < ld) (h1 : ld ≤ 40) (x : Res) (hx : (Tr.ite (exN (eqF zd m) m) (Tr.ok (.ret, [(4, AV.bool false, some 1)], lvB w ls ld zs zd :: H)) (Tr.ok (.normal, hints (fr75 m (Int.ofNat m) ++ [(8, AV.bool false)]), lvB w ls ld zs zd :: H))).run = some x) :
    exec (cxD (n) 75 24) (.block 0 (.loop (part Try.f75 [1,0,1,0,0]))) (fr75 m (Int.ofNat 0)) (lvB w ls ld zs zd :: H) = some x.st := by
  refine findB (il_no0 n) (noBT_ok _ _) (noRT_ok _ _) 0 (fun j => fr75 m (Int.ofNat j)) (fun _ => lvB w ls ld zs zd :: H) m (eqF zd m)
    (fun j => if j < m then (.ret, [(4, AV.bool false, some 1)], lvB w ls ld zs zd :: H) else (.exit 0, hints (fr75 m (Int.ofNat m)) ++ [(8, AV.bool false, some 1)], lvB w ls ld zs zd :: H)) (by omega) (fun j hj hp => ?_) (fun j hj hp => ?_) ⟨?_, ?_⟩ x ?_
  · refine ⟨hints (fr75 m (Int.ofNat (j + 1))), lvB w ls ld zs zd :: H, ?_, hints_eq _, rfl⟩
    rw [t75]
    simp (disch := omega) only [Tr.run_ite, Tr.run_req, Tr.run_ok, ltI_eq, leI_eq, eqI_eq, notB_eq, andB_eq, inI_eq, ltN_eq, leN_eq, lt_mulO, le_mulO, idO_eq, addO_eq, addI_eq, decide_eq_true, decide_eq_false, cond_true, cond_false, Int.ofNat_eq_natCast, Int.toNat_natCast, Nat.zero_add, Int.natCast_one, wrap_j, Bool.not_true, Bool.not_false, Bool.and_true, Bool.and_false, Bool.true_and, Bool.false_and]
    simp only [eqF] at hp
    rw [hp]
    rfl
  · rw [if_pos hj]
    refine ⟨?_, rfl⟩
    rw [t75]
    simp (disch := omega) only [Tr.run_ite, Tr.run_req, Tr.run_ok, ltI_eq, leI_eq, eqI_eq, notB_eq, andB_eq, inI_eq, ltN_eq, leN_eq, lt_mulO, le_mulO, idO_eq, addO_eq, addI_eq, decide_eq_true, decide_eq_false, cond_true, cond_false, Int.ofNat_eq_natCast, Int.toNat_natCast, Nat.zero_add, Int.natCast_one, wrap_j, Bool.not_true, Bool.not_false, Bool.and_true, Bool.and_false, Bool.true_and, Bool.false_and]
    simp only [eqF] at hp
    rw [hp]
    rfl
  · rw [if_neg (by omega), t75]
    simp (disch := omega) only [Tr.run_ite, Tr.run_req, Tr.run_ok, ltI_eq, leI_eq, eqI_eq, notB_eq, andB_eq, inI_eq, ltN_eq, leN_eq, lt_mulO, le_mulO, idO_eq, addO_eq, addI_eq, decide_eq_true, decide_eq_false, cond_true, cond_false, Int.ofNat_eq_natCast, Int.toNat_natCast, Nat.zero_add, Int.natCast_one, wrap_j, Bool.not_true, Bool.not_false, Bool.and_true, Bool.and_false, Bool.true_and, Bool.false_and]
    rfl
  · rw [if_neg (by omega)]
  · rcases Tr.ite_some hx with ⟨hc, hx⟩ | ⟨hc, hx⟩
    · have := exN_true hc
      exact .inl ⟨this, by rw [if_pos this, ← Tr.ok_some hx]⟩
    · exact .inr ⟨exN_false hc, by rw [if_neg (by omega), ← Tr.ok_some hx]; rfl⟩
theorem b75 : ∀ b, (0, b) ∈ blocksOf (bodyOf Try.f75) → b = .loop (part Try.f75 [1,0,1,0,0]) := by
  have : blocksOf (bodyOf Try.f75) = [(0, .loop (part Try.f75 [1,0,1,0,0])), (1, part Try.f75 [1, 0, 1, 0, 0, 1, 0, 0])] := by kernel_rfl
  intro b hb; rw [this] at hb; simpa using hb
/-- Is a drop the first on its spot? -/
theorem c75 (m : Nat) (h0 : m < ld) (h1 : ld ≤ 40) : cd (n + 1) (.fn 75) [bathA w ls zs ld zd, .int .i64 (Int.ofNat m)] H = some (.bool (!exN (eqF zd m) m), H) := by
  obtain ⟨y, hy1, hy2⟩ : ∃ y, (Tr.ite (exN (eqF zd m) m) (Tr.ok ((AV.bool false, some 1), H)) (Tr.ok ((AV.bool true, some 1), H))).run = some y ∧ (y.1.1, y.2) = (AV.bool (!exN (eqF zd m) m), H) := by
    rw [Tr.run_ite]
    cases exN (eqF zd m) m <;> exact ⟨_, rfl, rfl⟩
  refine fn_of Try.func75 rfl rfl rfl (u75 n w ls ld zs zd H m (exN (eqF zd m) m)) (il_no0 n) (blkE_ok (noBT_ok _ _) b75 (fun x hx => l75 n w ls ld zs zd H m h0 h1 x hx)) (noRT_ok _ _) (y := ((.bool (!exN (eqF zd m) m), some 1), H)) ((Tr.run_reqP ⟨rfl, rfl⟩).trans ?_)
  rw [Tr.run_ite]
  cases exN (eqF zd m) m <;> rfl
end
end Go.Eng
