/- Drop: CheckBath, as it is defined. -/
import Derived.Test.YtjmjkhpfipglcaaV6DrAx4
section
namespace Go.Eng
open Go.Proofs
set_option linter.unusedVariables false
set_option linter.unusedSimpArgs false
set_option maxRecDepth 100000
def badS (w : Int) (zs : Nat → Int) (j : Nat) : Bool := decide (zs (j * 2) < 1) || (decide (w ≤ zs (j * 2)) || (decide (zs (j * 2 + 1) < 0) || decide (1000 < zs (j * 2 + 1))))
def eqS (zs : Nat → Int) (i j : Nat) : Bool := (zs (i * 2) == zs (j * 2)) && (zs (i * 2 + 1) == zs (j * 2 + 1))
def badD (ls : Nat) (zd : Nat → Int) (j : Nat) : Bool := decide (zd (j * 3) < 0) || (decide ((ls : Int) ≤ zd (j * 3)) || (decide (zd (j * 3 + 1) < 1) || (decide (zd (j * 3 + 2) < zd (j * 3 + 1)) || decide (10000 < zd (j * 3 + 2)))))
def chkB (w : Int) (ls ld : Nat) (zs zd : Nat → Int) : Int :=
 cond (decide (w < 2)) 2 (cond (decide (1000 < w)) 2 (cond (decide (10 < ls)) 6 (cond (decide (40 < ld)) 6 (cond (exN (badS w zs) ls) 3 (cond (exN (fun i => exN (eqS zs i) i) ls) 15 (cond (exN (badD ls zd) ld) 16 0))))))
noncomputable def lvD (w : Int) (ls ld : Nat) (zs zd : Nat → Int) (x y z : Int) : Lvl := ⟨false, [(0, .row (.G [.int .i64 w, slA 2 ls zs, slA 3 ld zd])), (0, .row (.I .i64 [x, y, z]))]⟩
theorem t20a (n : Nat) (w : Int) (ls ld : Nat) (zs zd : Nat → Int) (H : Heap) (j : Int) : execT (cxD n 20 130) (il noCt n 0) noBT noRT (part Try.f20 [1,1,1,0,1,0,0]) (hints [(1, AV.ptr 0 0 0 0), (3, AV.int IntKind.i64 j)]) (lvB w ls ld zs zd :: H) =
 (fun (Z0 : HFrm) => Tr.ite (ltI j (Int.ofNat ls)) (Tr.req (inI j ls) (Tr.req (ltN (idO 0 j 2) (mulO ls 2)) (Tr.ite (ltI (zs (idO 0 j 2)) (Int.ofNat 1)) (Tr.ok (Ex.ret, Z0, lvB w ls ld zs zd :: H)) (Tr.req (inI j ls) (Tr.req (ltN (idO 0 j 2) (mulO ls 2)) (Tr.ite (leI w (zs (idO 0 j 2))) (Tr.ok (Ex.ret, Z0, lvB w ls ld zs zd :: H)) (Tr.req (inI j ls) (Tr.req (ltN (addO (idO 0 j 2) 1) (mulO ls 2)) (Tr.ite (ltI (zs (addO (idO 0 j 2) 1)) (Int.ofNat 0)) (Tr.ok (Ex.ret, Z0, lvB w ls ld zs zd :: H)) (Tr.req (inI j ls) (Tr.req (ltN (addO (idO 0 j 2) 1) (mulO ls 2)) (Tr.ite (ltI (Int.ofNat 1000) (zs (addO (idO 0 j 2) 1))) (Tr.ok (Ex.ret, Z0, lvB w ls ld zs zd :: H)) (Tr.ok (Ex.normal, [(1, AV.ptr 0 0 0 0, none), (3, AV.int .i64 (addI .i64 j (Int.ofNat 1)), none)], lvB w ls ld zs zd :: H)))))))))))))) (Tr.ok (Ex.exit 0, [(1, AV.ptr 0 0 0 0, none), (3, AV.int .i64 j, none), (30, AV.bool false, some 1)], lvB w ls ld zs zd :: H))) [(2, AV.int .i64 (Int.ofNat 3), some 1)] := by kernel_rfl
theorem t20c (n : Nat) (w : Int) (ls ld : Nat) (zs zd : Nat → Int) (H : Heap) (j i : Int) : execT (cxD n 20 130) (il noCt n 0) noBT noRT (part Try.f20 [1, 1, 1, 1, 0, 1, 0, 0, 1, 0, 0, 1, 0, 0]) (hints [(1, AV.ptr 0 0 0 0), (4, AV.int IntKind.i64 i), (5, AV.int IntKind.i64 j)]) (lvB w ls ld zs zd :: H) =
 Tr.ite (ltI j i) (Tr.req (inI i ls) (Tr.req (ltN (idO 0 i 2) (mulO ls 2)) (Tr.req (ltN (addO (idO 0 i 2) 1) (mulO ls 2)) (Tr.req (inI j ls) (Tr.req (ltN (idO 0 j 2) (mulO ls 2)) (Tr.req (ltN (addO (idO 0 j 2) 1) (mulO ls 2)) (Tr.ite (andB (eqI (zs (idO 0 i 2)) (zs (idO 0 j 2))) (eqI (zs (addO (idO 0 i 2) 1)) (zs (addO (idO 0 j 2) 1)))) (Tr.ok (Ex.ret, [(2, AV.int .i64 (Int.ofNat 15), some 1)], lvB w ls ld zs zd :: H)) (Tr.ok (Ex.normal, [(1, AV.ptr 0 0 0 0, none), (4, AV.int .i64 i, none), (5, AV.int .i64 (addI .i64 j (Int.ofNat 1)), none)], lvB w ls ld zs zd :: H))))))))) (Tr.ok (Ex.exit 4, [(1, AV.ptr 0 0 0 0, none), (4, AV.int .i64 i, none), (5, AV.int .i64 j, none), (78, AV.bool false, some 1)], lvB w ls ld zs zd :: H)) := by kernel_rfl
theorem t20b (n : Nat) (w : Int) (ls ld : Nat) (zs zd : Nat → Int) (H : Heap) (i : Int) (q : Bool) : execT (cxD n 20 130) (il noCt n 0) (blkE noBT 4 [(1, AV.ptr 0 0 0 0), (4, AV.int IntKind.i64 i), (5, AV.int IntKind.i64 (Int.ofNat 0))] (lvB w ls ld zs zd :: H) (.ite q (.ok (.ret, [(2, AV.int IntKind.i64 15, none)], lvB w ls ld zs zd :: H)) (.ok (.normal, hints [(1, AV.ptr 0 0 0 0), (4, AV.int IntKind.i64 i), (5, AV.int IntKind.i64 i), (78, AV.bool false)], lvB w ls ld zs zd :: H)))) noRT (part Try.f20 [1,1,1,1,0,1,0,0]) (hints [(1, AV.ptr 0 0 0 0), (4, AV.int IntKind.i64 i)]) (lvB w ls ld zs zd :: H) =
 Tr.ite (ltI i (Int.ofNat ls)) (Tr.reqP ([(1, AV.ptr 0 0 0 0), (4, AV.int .i64 i), (5, AV.int .i64 (Int.ofNat 0))] = [(1, AV.ptr 0 0 0 0), (4, AV.int .i64 i), (5, AV.int .i64 (Int.ofNat 0))] ∧ lvB w ls ld zs zd :: H = lvB w ls ld zs zd :: H) (Tr.ite q (Tr.ok (Ex.ret, [(2, AV.int .i64 (Int.ofNat 15), none)], lvB w ls ld zs zd :: H)) (Tr.ok (Ex.normal, [(1, AV.ptr 0 0 0 0, none), (4, AV.int .i64 (addI .i64 i (Int.ofNat 1)), none)], lvB w ls ld zs zd :: H)))) (Tr.ok (Ex.exit 2, [(1, AV.ptr 0 0 0 0, none), (4, AV.int .i64 i, none), (73, AV.bool false, some 1)], lvB w ls ld zs zd :: H)) := by kernel_rfl
theorem t20e (n : Nat) (w : Int) (ls ld : Nat) (zs zd : Nat → Int) (H : Heap) (i : Int) : execT (cxD n 20 130) (il noCt n 0) (stopB noBT 4) noRT (part Try.f20 [1,1,1,1,0,1,0,0]) (hints [(1, AV.ptr 0 0 0 0), (4, AV.int IntKind.i64 i)]) (lvB w ls ld zs zd :: H) =
 Tr.ite (ltI i (Int.ofNat ls)) Tr.bad (Tr.ok (Ex.exit 2, [(1, AV.ptr 0 0 0 0, none), (4, AV.int .i64 i, none), (73, AV.bool false, some 1)], lvB w ls ld zs zd :: H)) := by kernel_rfl
theorem t20d (n : Nat) (w : Int) (ls ld : Nat) (zs zd : Nat → Int) (H : Heap) (j : Int) : execT (cxD (n+1) 20 130) (il noCt n 1) noBT noRT (part Try.f20 [1, 1, 1, 1, 1, 0, 1, 0, 0]) (hints [(1, AV.ptr 0 0 0 0), (6, AV.int IntKind.i64 j)]) (lvB w ls ld zs zd :: H) =
 (fun (Z0 : Lvl) => ((fun (Z1 : HFrm) => Tr.ite (ltI j (Int.ofNat ld)) (Tr.req (inI j ld) (Tr.req (ltN (idO 0 j 3) (mulO ld 3)) (Tr.req (ltN (addO (idO 0 j 3) 1) (mulO ld 3)) (Tr.req (ltN (addO (idO 0 j 3) 2) (mulO ld 3)) (Tr.ite (leI (Int.ofNat 0) (zd (idO 0 j 3))) (Tr.ite (notB (ltI (zd (idO 0 j 3)) (Int.ofNat ls))) (Tr.ok (Ex.ret, Z1, Z0 :: H)) (Tr.ite (ltI (zd (addO (idO 0 j 3) 1)) (Int.ofNat 1)) (Tr.ok (Ex.ret, Z1, Z0 :: H)) (Tr.ite (ltI (zd (addO (idO 0 j 3) 2)) (zd (addO (idO 0 j 3) 1))) (Tr.ok (Ex.ret, Z1, Z0 :: H)) (Tr.ite (ltI (Int.ofNat 10000) (zd (addO (idO 0 j 3) 2))) (Tr.ok (Ex.ret, Z1, Z0 :: H)) (Tr.ok (Ex.normal, [(1, AV.ptr 0 0 0 0, none), (6, AV.int .i64 (addI .i64 j (Int.ofNat 1)), none)], Z0 :: H)))))) (Tr.ok (Ex.ret, Z1, Z0 :: H))))))) (Tr.ok (Ex.exit 6, [(1, AV.ptr 0 0 0 0, none), (6, AV.int .i64 j, none), (96, AV.bool false, some 1)], lvB w ls ld zs zd :: H))) [(2, AV.int .i64 (Int.ofNat 16), some 1)])) { lock := false, bs := [(0, Blk.row (Row.G [AV.int .i64 w, slA 2 ls zs, slA 3 ld zd])), (0, Blk.row (Row.I .i64 [zd (idO 0 j 3), zd (addO (idO 0 j 3) 1), zd (addO (idO 0 j 3) 2)]))] } := by kernel_rfl
theorem b20 : blocksOf (bodyOf Try.f20) = [(0, .loop (part Try.f20 [1,1,1,0,1,0,0])), (1, part Try.f20 [1, 1, 1, 0, 1, 0, 0, 1, 0, 0]), (2, .loop (part Try.f20 [1,1,1,1,0,1,0,0])), (3, part Try.f20 [1, 1, 1, 1, 0, 1, 0, 0, 1, 0, 0]), (4, .loop (part Try.f20 [1, 1, 1, 1, 0, 1, 0, 0, 1, 0, 0, 1, 0, 0])), (5, part Try.f20 [1, 1, 1, 1, 0, 1, 0, 0, 1, 0, 0, 1, 0, 0, 1, 0, 0]), (6, .loop (part Try.f20 [1, 1, 1, 1, 1, 0, 1, 0, 0])), (7, part Try.f20 [1, 1, 1, 1, 1, 0, 1, 0, 0, 1, 0, 0])] := by kernel_rfl
theorem b20b : blocksOf (part Try.f20 [1,1,1,1,0,1,0,0]) = [(3, part Try.f20 [1, 1, 1, 1, 0, 1, 0, 0, 1, 0, 0]), (4, .loop (part Try.f20 [1, 1, 1, 1, 0, 1, 0, 0, 1, 0, 0, 1, 0, 0])), (5, part Try.f20 [1, 1, 1, 1, 0, 1, 0, 0, 1, 0, 0, 1, 0, 0, 1, 0, 0])] := by kernel_rfl
section
variable (n : Nat) (w : Int) (ls ld : Nat) (zs zd : Nat → Int) (H : Heap)
theorem l20a (h1 : ls ≤ 10) (x : Res) (hx : (Tr.ite (exN (badS w zs) ls) (Tr.ok (.ret, [(2, AV.int IntKind.i64 3, none)], lvB w ls ld zs zd :: H)) (Tr.ok (.normal, hints [(1, AV.ptr 0 0 0 0), (3, AV.int IntKind.i64 (Int.ofNat ls)), (30, AV.bool false)], lvB w ls ld zs zd :: H))).run = some x) :
 exec (cxD n 20 130) (.block 0 (.loop (part Try.f20 [1,1,1,0,1,0,0]))) [(1, AV.ptr 0 0 0 0), (3, AV.int IntKind.i64 (Int.ofNat 0))] (lvB w ls ld zs zd :: H) = some x.st := by
 refine findB (il_no0 n) (noBT_ok _ _) (noRT_ok _ _) 0 (fun j => [(1, AV.ptr 0 0 0 0), (3, AV.int IntKind.i64 (Int.ofNat j))]) (fun _ => lvB w ls ld zs zd :: H) ls (badS w zs)
  (fun j => if j < ls then (.ret, [(2, AV.int IntKind.i64 3, some 1)], lvB w ls ld zs zd :: H) else (.exit 0, hints [(1, AV.ptr 0 0 0 0), (3, AV.int IntKind.i64 (Int.ofNat ls))] ++ [(30, AV.bool false, some 1)], lvB w ls ld zs zd :: H)) (by omega) (fun j hj hp => ?_) (fun j hj hp => ?_) ⟨?_, ?_⟩ x ?_
 · refine ⟨hints [(1, AV.ptr 0 0 0 0), (3, AV.int IntKind.i64 (Int.ofNat (j + 1)))], lvB w ls ld zs zd :: H, ?_, hints_eq _, rfl⟩
   simp only [badS, Bool.or_eq_false_iff, decide_eq_false_iff_not] at hp
   rw [t20a]
   simp (disch := omega) only [Tr.run_ite, Tr.run_req, Tr.run_ok, ltI_eq, leI_eq, inI_eq, ltN_eq, lt_mulO, idO_eq, addO_eq, addI_eq, decide_eq_true, decide_eq_false, cond_true, cond_false, Int.ofNat_eq_natCast, Int.toNat_natCast, Nat.zero_add, Int.natCast_one, wrap_j]
   rfl
 · rw [if_pos hj]
   refine ⟨?_, rfl⟩
   simp only [badS, Bool.or_eq_true, decide_eq_true_eq] at hp
   rw [t20a]
   by_cases e1 : zs (j * 2) < 1
   · simp (disch := omega) only [Tr.run_ite, Tr.run_req, Tr.run_ok, ltI_eq, leI_eq, inI_eq, ltN_eq, lt_mulO, idO_eq, addO_eq, addI_eq, decide_eq_true, decide_eq_false, cond_true, cond_false, Int.ofNat_eq_natCast, Int.toNat_natCast, Nat.zero_add]; rfl
   · by_cases e2 : w ≤ zs (j * 2)
     · simp (disch := omega) only [Tr.run_ite, Tr.run_req, Tr.run_ok, ltI_eq, leI_eq, inI_eq, ltN_eq, lt_mulO, idO_eq, addO_eq, addI_eq, decide_eq_true, decide_eq_false, cond_true, cond_false, Int.ofNat_eq_natCast, Int.toNat_natCast, Nat.zero_add]; rfl
     · by_cases e3 : zs (j * 2 + 1) < 0
       · simp (disch := omega) only [Tr.run_ite, Tr.run_req, Tr.run_ok, ltI_eq, leI_eq, inI_eq, ltN_eq, lt_mulO, idO_eq, addO_eq, addI_eq, decide_eq_true, decide_eq_false, cond_true, cond_false, Int.ofNat_eq_natCast, Int.toNat_natCast, Nat.zero_add]; rfl
       · simp (disch := omega) only [Tr.run_ite, Tr.run_req, Tr.run_ok, ltI_eq, leI_eq, inI_eq, ltN_eq, lt_mulO, idO_eq, addO_eq, addI_eq, decide_eq_true, decide_eq_false, cond_true, cond_false, Int.ofNat_eq_natCast, Int.toNat_natCast, Nat.zero_add]; rfl
 · rw [if_neg (by omega), t20a]
   simp (disch := omega) only [Tr.run_ite, ltI_eq, Int.ofNat_eq_natCast, decide_eq_false, cond_false, Tr.run_ok]
   rfl
 · rw [if_neg (by omega)]
 · rcases Tr.ite_some hx with ⟨hc, hx⟩ | ⟨hc, hx⟩
   · have := exN_true hc
     exact .inl ⟨this, by rw [if_pos this, ← Tr.ok_some hx]; rfl⟩
   · exact .inr ⟨exN_false hc, by rw [if_neg (by omega), ← Tr.ok_some hx]; rfl⟩
theorem l20c (h1 : ls ≤ 10) (i : Nat) (hi : i < ls) (x : Res) (hx : (Tr.ite (exN (eqS zs i) i) (Tr.ok (.ret, [(2, AV.int IntKind.i64 15, none)], lvB w ls ld zs zd :: H)) (Tr.ok (.normal, hints [(1, AV.ptr 0 0 0 0), (4, AV.int IntKind.i64 (Int.ofNat i)), (5, AV.int IntKind.i64 (Int.ofNat i)), (78, AV.bool false)], lvB w ls ld zs zd :: H))).run = some x) :
 exec (cxD n 20 130) (.block 4 (.loop (part Try.f20 [1, 1, 1, 1, 0, 1, 0, 0, 1, 0, 0, 1, 0, 0]))) [(1, AV.ptr 0 0 0 0), (4, AV.int IntKind.i64 (Int.ofNat i)), (5, AV.int IntKind.i64 (Int.ofNat 0))] (lvB w ls ld zs zd :: H) = some x.st := by
 refine findB (il_no0 n) (noBT_ok _ _) (noRT_ok _ _) 4 (fun j => [(1, AV.ptr 0 0 0 0), (4, AV.int IntKind.i64 (Int.ofNat i)), (5, AV.int IntKind.i64 (Int.ofNat j))]) (fun _ => lvB w ls ld zs zd :: H) i (eqS zs i)
  (fun j => if j < i then (.ret, [(2, AV.int IntKind.i64 15, some 1)], lvB w ls ld zs zd :: H) else (.exit 4, hints [(1, AV.ptr 0 0 0 0), (4, AV.int IntKind.i64 (Int.ofNat i)), (5, AV.int IntKind.i64 (Int.ofNat i))] ++ [(78, AV.bool false, some 1)], lvB w ls ld zs zd :: H)) (by omega) (fun j hj hp => ?_) (fun j hj hp => ?_) ⟨?_, ?_⟩ x ?_
 · refine ⟨hints [(1, AV.ptr 0 0 0 0), (4, AV.int IntKind.i64 (Int.ofNat i)), (5, AV.int IntKind.i64 (Int.ofNat (j + 1)))], lvB w ls ld zs zd :: H, ?_, hints_eq _, rfl⟩
   rw [t20c]
   simp (disch := omega) only [Tr.run_ite, Tr.run_req, Tr.run_ok, nS, eqI_eq, decide_eq_true, decide_eq_false, cond_true, cond_false, Int.ofNat_eq_natCast, wrap_j, ver0]
   simp only [eqS] at hp
   rw [hp]
   rfl
 · rw [if_pos hj]
   refine ⟨?_, rfl⟩
   rw [t20c]
   simp (disch := omega) only [Tr.run_ite, Tr.run_req, Tr.run_ok, nS, eqI_eq, decide_eq_true, decide_eq_false, cond_true, cond_false, Int.ofNat_eq_natCast, wrap_j, ver0]
   simp only [eqS] at hp
   rw [hp]
   rfl
 · rw [if_neg (by omega), t20c]
   simp (disch := omega) only [Tr.run_ite, Tr.run_req, Tr.run_ok, nS, eqI_eq, decide_eq_true, decide_eq_false, cond_true, cond_false, Int.ofNat_eq_natCast, wrap_j, ver0]
   rfl
 · rw [if_neg (by omega)]
 · rcases Tr.ite_some hx with ⟨hc, hx⟩ | ⟨hc, hx⟩
   · have := exN_true hc
     exact .inl ⟨this, by rw [if_pos this, ← Tr.ok_some hx]; rfl⟩
   · exact .inr ⟨exN_false hc, by rw [if_neg (by omega), ← Tr.ok_some hx]; rfl⟩
theorem l20b (h1 : ls ≤ 10) (x : Res) (hx : (Tr.ite (exN (fun i => exN (eqS zs i) i) ls) (Tr.ok (.ret, [(2, AV.int IntKind.i64 15, none)], lvB w ls ld zs zd :: H)) (Tr.ok (.normal, hints [(1, AV.ptr 0 0 0 0), (4, AV.int IntKind.i64 (Int.ofNat ls)), (73, AV.bool false)], lvB w ls ld zs zd :: H))).run = some x) :
 exec (cxD n 20 130) (.block 2 (.loop (part Try.f20 [1,1,1,1,0,1,0,0]))) [(1, AV.ptr 0 0 0 0), (4, AV.int IntKind.i64 (Int.ofNat 0))] (lvB w ls ld zs zd :: H) = some x.st := by
 have hB : ∀ i : Nat, i < ls → BlkT.Ok _ (cxD n 20 130) (part Try.f20 [1,1,1,1,0,1,0,0]) := fun i hi => blkE_ok (noBT_ok _ _) (id0 := 4) (B := .loop (part Try.f20 [1, 1, 1, 1, 0, 1, 0, 0, 1, 0, 0, 1, 0, 0])) (fun b hb => by rw [b20b] at hb; simpa using hb) (fun x hx => l20c n w ls ld zs zd H h1 i hi x hx)
 have step : ∀ j, j < ls → ∀ y, _ → exec (cxD n 20 130) (part Try.f20 [1,1,1,1,0,1,0,0]) [(1, AV.ptr 0 0 0 0), (4, AV.int IntKind.i64 (Int.ofNat j))] (lvB w ls ld zs zd :: H) = some (Res.st y) := fun j hj y hy => ex_of (t20b n w ls ld zs zd H (Int.ofNat j) (exN (eqS zs j) j)) (il_no0 n) (hB j hj) (noRT_ok _ _) (x := y) hy
 refine findE 2 (fun j => [(1, AV.ptr 0 0 0 0), (4, AV.int IntKind.i64 (Int.ofNat j))]) (fun _ => lvB w ls ld zs zd :: H) ls (fun i => exN (eqS zs i) i)
  (fun j => if j < ls then (.ret, [(2, AV.int IntKind.i64 15, none)], lvB w ls ld zs zd :: H) else (.exit 2, hints [(1, AV.ptr 0 0 0 0), (4, AV.int IntKind.i64 (Int.ofNat ls))] ++ [(73, AV.bool false, some 1)], lvB w ls ld zs zd :: H)) (by omega) (fun j hj hp => ?_) (fun j hj hp => ?_) ⟨?_, ?_⟩ x ?_
 · refine ⟨_, _, step j hj (.normal, hints [(1, AV.ptr 0 0 0 0), (4, AV.int IntKind.i64 (Int.ofNat (j + 1)))], lvB w ls ld zs zd :: H) ?_, rfl, rfl⟩
   rw [Tr.run_ite, ltI_eq, decide_eq_true (by simpa using hj), cond_true, Tr.run_reqP ⟨rfl, rfl⟩, hp]
   simp (disch := omega) only [Tr.run_ite, Tr.run_req, Tr.run_ok, nS, eqI_eq, decide_eq_true, decide_eq_false, cond_true, cond_false, Int.ofNat_eq_natCast, wrap_j, ver0]
   rfl
 · rw [if_pos hj]
   refine ⟨step j hj (.ret, [(2, AV.int IntKind.i64 15, none)], lvB w ls ld zs zd :: H) ?_, rfl⟩
   rw [Tr.run_ite, ltI_eq, decide_eq_true (by simpa using hj), cond_true, Tr.run_reqP ⟨rfl, rfl⟩, hp]
   rfl
 · rw [if_neg (by omega)]
   refine ex_of (t20e n w ls ld zs zd H (Int.ofNat ls)) (il_no0 n) (stopB_ok (noBT_ok _ _) 4) (noRT_ok _ _) ?_
   simp (disch := omega) only [Tr.run_ite, Tr.run_req, Tr.run_ok, nS, eqI_eq, decide_eq_true, decide_eq_false, cond_true, cond_false, Int.ofNat_eq_natCast, wrap_j, ver0]
   rfl
 · rw [if_neg (by omega)]
 · rcases Tr.ite_some hx with ⟨hc, hx⟩ | ⟨hc, hx⟩
   · have := exN_true hc
     exact .inl ⟨this, by rw [if_pos this, ← Tr.ok_some hx]⟩
   · exact .inr ⟨exN_false hc, by rw [if_neg (by omega), ← Tr.ok_some hx]; rfl⟩
theorem l20d (h1 : ld ≤ 40) (x : Res) (hx : (Tr.ite (exN (badD ls zd) ld) (Tr.ok (.ret, [(2, AV.int IntKind.i64 16, none)], lvD w ls ld zs zd (zd (fN (badD ls zd) ld 0 * 3)) (zd (fN (badD ls zd) ld 0 * 3 + 1)) (zd (fN (badD ls zd) ld 0 * 3 + 2)) :: H)) (Tr.ok (.normal, hints [(1, AV.ptr 0 0 0 0), (6, AV.int IntKind.i64 (Int.ofNat ld)), (96, AV.bool false)], lvB w ls ld zs zd :: H))).run = some x) :
 exec (cxD (n + 1) 20 130) (.block 6 (.loop (part Try.f20 [1, 1, 1, 1, 1, 0, 1, 0, 0]))) [(1, AV.ptr 0 0 0 0), (6, AV.int IntKind.i64 (Int.ofNat 0))] (lvB w ls ld zs zd :: H) = some x.st := by
 refine findB (il_no n 1) (noBT_ok _ _) (noRT_ok _ _) 6 (fun j => [(1, AV.ptr 0 0 0 0), (6, AV.int IntKind.i64 (Int.ofNat j))]) (fun _ => lvB w ls ld zs zd :: H) ld (badD ls zd)
  (fun j => if j < ld then (.ret, [(2, AV.int IntKind.i64 16, some 1)], lvD w ls ld zs zd (zd (j * 3)) (zd (j * 3 + 1)) (zd (j * 3 + 2)) :: H) else (.exit 6, hints [(1, AV.ptr 0 0 0 0), (6, AV.int IntKind.i64 (Int.ofNat ld))] ++ [(96, AV.bool false, some 1)], lvB w ls ld zs zd :: H)) (by omega) (fun j hj hp => ?_) (fun j hj hp => ?_) ⟨?_, ?_⟩ x ?_
 · refine ⟨hints [(1, AV.ptr 0 0 0 0), (6, AV.int IntKind.i64 (Int.ofNat (j + 1)))], lvD w ls ld zs zd (zd (j * 3)) (zd (j * 3 + 1)) (zd (j * 3 + 2)) :: H, ?_, hints_eq _, rfl⟩
   simp only [badD, Bool.or_eq_false_iff, decide_eq_false_iff_not] at hp
   rw [t20d]
   simp (disch := omega) only [Tr.run_ite, Tr.run_req, Tr.run_ok, nS, eqI_eq, decide_eq_true, decide_eq_false, cond_true, cond_false, Int.ofNat_eq_natCast, wrap_j, ver0]
   rfl
 · rw [if_pos hj]
   refine ⟨?_, rfl⟩
   simp only [badD, Bool.or_eq_true, decide_eq_true_eq] at hp
   rw [t20d]
   by_cases e1 : zd (j * 3) < 0 <;> by_cases e2 : (ls : Int) ≤ zd (j * 3) <;> by_cases e3 : zd (j * 3 + 1) < 1 <;> by_cases e4 : zd (j * 3 + 2) < zd (j * 3 + 1) <;> by_cases e5 : 10000 < zd (j * 3 + 2) <;> first
    | (exfalso; omega)
    | (simp (disch := omega) only [Tr.run_ite, Tr.run_req, Tr.run_ok, nS, eqI_eq, decide_eq_true, decide_eq_false, cond_true, cond_false, Int.ofNat_eq_natCast, wrap_j, ver0]; rfl)
 · rw [if_neg (by omega), t20d]
   simp (disch := omega) only [Tr.run_ite, Tr.run_req, Tr.run_ok, nS, eqI_eq, decide_eq_true, decide_eq_false, cond_true, cond_false, Int.ofNat_eq_natCast, wrap_j, ver0]
   rfl
 · rw [if_neg (by omega)]
 · rcases Tr.ite_some hx with ⟨hc, hx⟩ | ⟨hc, hx⟩
   · have := exN_true hc
     exact .inl ⟨this, by rw [if_pos this, ← Tr.ok_some hx]; rfl⟩
   · exact .inr ⟨exN_false hc, by rw [if_neg (by omega), ← Tr.ok_some hx]; rfl⟩
theorem u20 (n : Nat) (w : Int) (ls ld : Nat) (zs zd : Nat → Int) (H : Heap) (q1 q2 q3 : Bool) (x y z : Int) : bodyT Try.prog (cd (n+1)) 100000 20 Try.f20 (Kt.kt 20) (il noCt n 1) (blkE (blkE (blkE noBT 6 [(1, AV.ptr 0 0 0 0), (6, AV.int IntKind.i64 (Int.ofNat 0))] (lvB w ls ld zs zd :: H) (Tr.ite q3 (Tr.ok (.ret, [(2, AV.int IntKind.i64 16, none)], lvD w ls ld zs zd x y z :: H)) (Tr.ok (.normal, hints [(1, AV.ptr 0 0 0 0), (6, AV.int IntKind.i64 (Int.ofNat ld)), (96, AV.bool false)], lvB w ls ld zs zd :: H)))) 2 [(1, AV.ptr 0 0 0 0), (4, AV.int IntKind.i64 (Int.ofNat 0))] (lvB w ls ld zs zd :: H) (Tr.ite q2 (Tr.ok (.ret, [(2, AV.int IntKind.i64 15, none)], lvB w ls ld zs zd :: H)) (Tr.ok (.normal, hints [(1, AV.ptr 0 0 0 0), (4, AV.int IntKind.i64 (Int.ofNat ls)), (73, AV.bool false)], lvB w ls ld zs zd :: H)))) 0 [(1, AV.ptr 0 0 0 0), (3, AV.int IntKind.i64 (Int.ofNat 0))] (lvB w ls ld zs zd :: H) (Tr.ite q1 (Tr.ok (.ret, [(2, AV.int IntKind.i64 3, none)], lvB w ls ld zs zd :: H)) (Tr.ok (.normal, hints [(1, AV.ptr 0 0 0 0), (3, AV.int IntKind.i64 (Int.ofNat ls)), (30, AV.bool false)], lvB w ls ld zs zd :: H)))) noRT [(bathA w ls zs ld zd, none)] H =
 Tr.ite (ltI w (Int.ofNat 2)) (Tr.ok ((AV.int .i64 (Int.ofNat 2), some 1), H)) (Tr.ite (ltI (Int.ofNat 1000) w) (Tr.ok ((AV.int .i64 (Int.ofNat 2), some 1), H)) (Tr.ite (ltI (Int.ofNat 10) (Int.ofNat ls)) (Tr.ok ((AV.int .i64 (Int.ofNat 6), some 1), H)) (Tr.ite (ltI (Int.ofNat 40) (Int.ofNat ld)) (Tr.ok ((AV.int .i64 (Int.ofNat 6), some 1), H)) (Tr.reqP ([(1, AV.ptr 0 0 0 0), (3, AV.int .i64 (Int.ofNat 0))] = [(1, AV.ptr 0 0 0 0), (3, AV.int .i64 (Int.ofNat 0))] ∧ lvB w ls ld zs zd :: H = lvB w ls ld zs zd :: H) (Tr.ite q1 (Tr.ok ((AV.int .i64 (Int.ofNat 3), none), H)) (Tr.reqP ([(1, AV.ptr 0 0 0 0), (4, AV.int .i64 (Int.ofNat 0))] = [(1, AV.ptr 0 0 0 0), (4, AV.int .i64 (Int.ofNat 0))] ∧ lvB w ls ld zs zd :: H = lvB w ls ld zs zd :: H) (Tr.ite q2 (Tr.ok ((AV.int .i64 (Int.ofNat 15), none), H)) (Tr.reqP ([(1, AV.ptr 0 0 0 0), (6, AV.int .i64 (Int.ofNat 0))] = [(1, AV.ptr 0 0 0 0), (6, AV.int .i64 (Int.ofNat 0))] ∧ lvB w ls ld zs zd :: H = lvB w ls ld zs zd :: H) (Tr.ite q3 (Tr.ok ((AV.int .i64 (Int.ofNat 16), none), H)) (Tr.ok ((AV.int .i64 (Int.ofNat 0), some 1), H))))))))))) := by kernel_rfl
theorem s20 : ∀ id b, (id, b) ∈ blocksOf (bodyOf Try.f20) → (id = 0 → b = .loop (part Try.f20 [1,1,1,0,1,0,0])) ∧ (id = 2 → b = .loop (part Try.f20 [1,1,1,1,0,1,0,0])) ∧ (id = 6 → b = .loop (part Try.f20 [1, 1, 1, 1, 1, 0, 1, 0, 0])) := by
 intro id b hb
 rw [b20] at hb
 simp only [List.mem_cons, Prod.mk.injEq, List.not_mem_nil, or_false] at hb
 rcases hb with ⟨rfl, rfl⟩ | ⟨rfl, rfl⟩ | ⟨rfl, rfl⟩ | ⟨rfl, rfl⟩ | ⟨rfl, rfl⟩ | ⟨rfl, rfl⟩ | ⟨rfl, rfl⟩ | ⟨rfl, rfl⟩ <;> refine ⟨fun h => ?_, fun h => ?_, fun h => ?_⟩ <;> first | rfl | exact absurd h (by decide)
theorem v20 (n : Nat) (w : Int) (ls ld : Nat) (zs zd : Nat → Int) (H : Heap) : bodyT Try.prog (cd (n+1)) 100000 20 Try.f20 (Kt.kt 20) (il noCt n 1) (stopB (stopB (stopB noBT 6) 2) 0) noRT [(bathA w ls zs ld zd, none)] H =
 Tr.ite (ltI w (Int.ofNat 2)) (Tr.ok ((AV.int .i64 (Int.ofNat 2), some 1), H)) (Tr.ite (ltI (Int.ofNat 1000) w) (Tr.ok ((AV.int .i64 (Int.ofNat 2), some 1), H)) (Tr.ite (ltI (Int.ofNat 10) (Int.ofNat ls)) (Tr.ok ((AV.int .i64 (Int.ofNat 6), some 1), H)) (Tr.ite (ltI (Int.ofNat 40) (Int.ofNat ld)) (Tr.ok ((AV.int .i64 (Int.ofNat 6), some 1), H)) Tr.bad))) := by kernel_rfl
theorem c20 : cd (n + 2) (.fn 20) [bathA w ls zs ld zd] H = some (.int .i64 (chkB w ls ld zs zd), H) := by
 have out : (¬ ls ≤ 10 ∨ ¬ ld ≤ 40) → cd (n + 2) (.fn 20) [bathA w ls zs ld zd] H = some (.int .i64 (chkB w ls ld zs zd), H) := by
  intro ho
  refine fn_of (n := n + 1) Try.func20 rfl rfl rfl (v20 n w ls ld zs zd H) (il_no n 1) (stopB_ok (stopB_ok (stopB_ok (noBT_ok _ _) 6) 2) 0) (noRT_ok _ _) (y := ((.int .i64 (chkB w ls ld zs zd), some 1), H)) ?_
  by_cases e1 : w < 2 <;> by_cases e2 : 1000 < w <;> by_cases e3 : 10 < ls <;> by_cases e4 : 40 < ld <;> first
   | (exfalso; omega)
   | (simp (disch := omega) only [Tr.run_ite, Tr.run_req, Tr.run_ok, nS, eqI_eq, decide_eq_true, decide_eq_false, cond_true, cond_false, Int.ofNat_eq_natCast, wrap_j, ver0, chkB, e1, e2, e3, e4, decide_true, decide_false]; rfl)
 by_cases hls : ls ≤ 10
 · by_cases hld : ld ≤ 40
   · refine fn_of (n := n + 1) Try.func20 rfl rfl rfl (u20 n w ls ld zs zd H (exN (badS w zs) ls) (exN (fun i => exN (eqS zs i) i) ls) (exN (badD ls zd) ld) (zd (fN (badD ls zd) ld 0 * 3)) (zd (fN (badD ls zd) ld 0 * 3 + 1)) (zd (fN (badD ls zd) ld 0 * 3 + 2))) (il_no n 1)
      (blkE_ok (blkE_ok (blkE_ok (noBT_ok _ _) (fun b hb => (s20 _ b hb).2.2 rfl) (fun x hx => l20d n w ls ld zs zd H hld x hx)) (fun b hb => (s20 _ b hb).2.1 rfl) (fun x hx => l20b (n + 1) w ls ld zs zd H hls x hx)) (fun b hb => (s20 _ b hb).1 rfl) (fun x hx => l20a (n + 1) w ls ld zs zd H hls x hx)) (noRT_ok _ _) (y := ((.int .i64 (chkB w ls ld zs zd), if w < 2 then some 1 else if 1000 < w then some 1 else if exN (badS w zs) ls then none else if exN (fun i => exN (eqS zs i) i) ls then none else if exN (badD ls zd) ld then none else some 1), H)) ?_
     have e3 : ¬ 10 < ls := by omega
     have e4 : ¬ 40 < ld := by omega
     by_cases e1 : w < 2
     · simp (disch := omega) only [Tr.run_ite, Tr.run_req, Tr.run_ok, nS, eqI_eq, decide_eq_true, decide_eq_false, cond_true, cond_false, Int.ofNat_eq_natCast, wrap_j, ver0, chkB, e1, decide_true, if_true]
       rfl
     · by_cases e2 : 1000 < w
       · simp (disch := omega) only [Tr.run_ite, Tr.run_req, Tr.run_ok, nS, eqI_eq, decide_eq_true, decide_eq_false, cond_true, cond_false, Int.ofNat_eq_natCast, wrap_j, ver0, chkB, e1, e2, decide_true, decide_false, if_true, if_false]
         rfl
       · rw [Tr.run_ite, ltI_eq, decide_eq_false (by simpa using e1), cond_false, Tr.run_ite, ltI_eq, decide_eq_false (by simpa using e2), cond_false, Tr.run_ite, ltI_eq, decide_eq_false (by simp; omega), cond_false, Tr.run_ite, ltI_eq, decide_eq_false (by simp; omega), cond_false, Tr.run_reqP ⟨rfl, rfl⟩]
         simp only [chkB, e1, e2, e3, e4, decide_false, cond_false, if_false]
         cases exN (badS w zs) ls with
         | true => rfl
         | false =>
           rw [Tr.run_ite, cond_false, Tr.run_reqP (by simp)]
           cases exN (fun i => exN (eqS zs i) i) ls with
           | true => rfl
           | false =>
             rw [Tr.run_ite, cond_false, Tr.run_reqP (by simp)]
             cases exN (badD ls zd) ld <;> rfl
   · exact out (.inr hld)
 · exact out (.inl hls)
end
end Go.Eng
end
section
namespace Go.Eng
open Go.Proofs
set_option linter.unusedVariables false
set_option linter.unusedSimpArgs false
set_option maxRecDepth 100000
noncomputable def fr45n (s : Int) : Frm := [(1, AV.nils), (2, .int .i64 s), (3, .ptr 0 0 0 0), (7, .int .i64 (Int.ofNat 0)), (8, .int .i64 (Int.ofNat 0))]
def g61 (B : AV) (side : Prop) (ev : Bool → AV) : List AV → Option (Prop × AV)
 | [b, .bool h] => some (b = B ∧ side, ev h)
 | _ => none
def g45 (B : AV) (side : Prop) (ev : Bool → AV) (sm : AV → Int → Int) : List AV → Option (Prop × AV)
 | [b, t, .int .i64 s] => some (b = B ∧ side ∧ (t = ev false ∨ t = ev true), .int .i64 (sm t s))
 | _ => none
def g20 (B : AV) (e : Int) : List AV → Option (Prop × AV)
 | [b] => some (b = B, .int .i64 e)
 | _ => none
theorem t45n (n : Nat) (w : Int) (ls : Nat) (zs zd : Nat → Int) (H : Heap) (s : Int) : execT (cxD n 45 31) (il noCt n 0) noBT noRT (part Try.f45 [1,1,0,1,0,0]) (hints (fr45n s)) (lvB w ls 0 zs zd :: H) =
 (fun (Z0 : Lvl) => Tr.ite (ltI (Int.ofNat 0) (Int.ofNat 0)) (Tr.req (inI (Int.ofNat 0) 0) (Tr.req (ltN (idO 0 (Int.ofNat 0) 3) (mulO 0 3)) (Tr.ite (eqI (zd (idO 0 (Int.ofNat 0) 3)) s) Tr.bad (Tr.ok (Ex.normal, [(1, AV.nils, none), (2, AV.int .i64 s, none), (3, AV.ptr 0 0 0 0, none), (7, AV.int .i64 (Int.ofNat 0), none), (8, AV.int .i64 (addI .i64 (Int.ofNat 0) (Int.ofNat 1)), none)], Z0 :: H))))) (Tr.ok (Ex.exit 0, [(1, AV.nils, none), (2, AV.int .i64 s, none), (3, AV.ptr 0 0 0 0, none), (7, AV.int .i64 (Int.ofNat 0), none), (8, AV.int .i64 (Int.ofNat 0), none), (13, AV.bool false, some 1)], Z0 :: H))) { lock := false, bs := [(0, Blk.row (Row.G [AV.int .i64 w, slA 2 ls zs, AV.slcT none (Row.M [Seg.arr .i64 zd (mulO 0 3)]) 3 0 false]))] } := by kernel_rfl
theorem u45n (n : Nat) (w : Int) (ls : Nat) (zs zd : Nat → Int) (H : Heap) (s : Int) : bodyT Try.prog (cd n) 100000 45 Try.f45 (Kt.kt 45) (il noCt n 0) (blkE noBT 0 (fr45n s) (lvB w ls 0 zs zd :: H) (.ok (.normal, hints (fr45n s) ++ [(13, AV.bool false, none)], lvB w ls 0 zs zd :: H))) noRT [(bathA w ls zs 0 zd, none), (.nils, none), (.int .i64 s, none)] H =
 (fun (Z0 : Lvl) => ((fun (Z1 : Frm) => Tr.reqP (Z1 = Z1 ∧ Z0 :: H = Z0 :: H) (Tr.ok ((AV.int .i64 (Int.ofNat 0), none), H))) [(1, AV.nils), (2, AV.int .i64 s), (3, AV.ptr 0 0 0 0), (7, AV.int .i64 (Int.ofNat 0)), (8, AV.int .i64 (Int.ofNat 0))])) { lock := false, bs := [(0, Blk.row (Row.G [AV.int .i64 w, slA 2 ls zs, AV.slcT none (Row.M [Seg.arr .i64 zd (mulO 0 3)]) 3 0 false]))] } := by kernel_rfl
theorem u18 (n : Nat) (w : Int) (ls ld : Nat) (zs zd : Nat → Int) (H : Heap) (s e : Int) (side : Prop) (ev : Bool → AV) (sm : AV → Int → Int) : bodyT Try.prog (cd (n+3)) 100000 18 Try.f18 (Kt.kt 18) (il (ctG (ctG (ctG noCt 61 (g61 (bathA w ls zs ld zd) side ev)) 45 (g45 (bathA w ls zs ld zd) side ev sm)) 20 (g20 (bathA w ls zs ld zd) e)) (n+2) 1) noBT noRT [(bathA w ls zs ld zd, none), (.int .i64 s, none)] H =
 Tr.reqP (bathA w ls zs ld zd = bathA w ls zs ld zd) (Tr.ite (notB (eqI e (Int.ofNat 0))) (Tr.reqP (bathA w ls zs ld zd = bathA w ls zs ld zd) (Tr.ok ((AV.tup [AV.agg (Row.I .i64 [Int.ofNat 0, Int.ofNat 0]), AV.int .i64 e], none), H))) (Tr.ite (leI (Int.ofNat 0) s) (Tr.ite (notB (ltI s (Int.ofNat ls))) (Tr.ok ((AV.tup [AV.agg (Row.I .i64 [Int.ofNat 0, Int.ofNat 0]), AV.int .i64 (Int.ofNat 2)], none), H)) (Tr.reqP (bathA w ls zs ld zd = bathA w ls zs ld zd ∧ side) (Tr.reqP (bathA w ls zs ld zd = bathA w ls zs ld zd ∧ side ∧ (ev false = ev false ∨ ev false = ev true)) (Tr.reqP (bathA w ls zs ld zd = bathA w ls zs ld zd ∧ side) (Tr.reqP (bathA w ls zs ld zd = bathA w ls zs ld zd ∧ side ∧ (ev true = ev false ∨ ev true = ev true)) (Tr.req (andB (leN 0 0) (leN 0 1)) (Tr.ok ((AV.tup [AV.agg (Row.I .i64 [sm (ev false) s, sm (ev true) s]), AV.int .i64 (Int.ofNat 0)], none), H)))))))) (Tr.ok ((AV.tup [AV.agg (Row.I .i64 [Int.ofNat 0, Int.ofNat 0]), AV.int .i64 (Int.ofNat 2)], none), H)))) := by kernel_rfl
section
variable (n : Nat) (w : Int) (ls ld : Nat) (zs zd : Nat → Int) (H : Heap) (s : Int)
theorem l45n : exec (cxD n 45 31) (.block 0 (.loop (part Try.f45 [1,1,0,1,0,0]))) (fr45n s) (lvB w ls 0 zs zd :: H) = some (.normal, fr45n s ++ [(13, AV.bool false)], lvB w ls 0 zs zd :: H) := by
 refine forB (il_no0 n) (noBT_ok _ _) (noRT_ok _ _) 0 (fun _ => fr45n s) (fun _ => lvB w ls 0 zs zd :: H) 0 (.exit 0, hints (fr45n s) ++ [(13, AV.bool false, some 1)], lvB w ls 0 zs zd :: H) (by omega) (fun j hj => absurd hj (by omega)) ⟨?_, rfl⟩
 rw [t45n]
 simp (disch := omega) only [Tr.run_ite, Tr.run_req, Tr.run_ok, nS, eqI_eq, decide_eq_true, decide_eq_false, cond_true, cond_false, Int.ofNat_eq_natCast, wrap_j, ver0]
 rfl
theorem c45n : cd (n + 1) (.fn 45) [bathA w ls zs 0 zd, .nils, .int .i64 s] H = some (.int .i64 0, H) := by
 refine fn_of Try.func45 rfl rfl rfl (u45n n w ls zs zd H s) (il_no0 n) (blkE_ok (noBT_ok _ _) (B := .loop (part Try.f45 [1,1,0,1,0,0])) (fun b hb => by rw [b45] at hb; simpa using hb) (fun x hx => ?_)) (noRT_ok _ _) (y := ((.int .i64 0, none), H)) (Tr.run_reqP ⟨rfl, rfl⟩)
 rw [← Tr.ok_some hx]
 exact l45n n w ls zs zd H s
def szE (h : Bool) (zd : Nat → Int) (ld : Nat) (s : Int) : Int := sumS zd (upto (endS h zd) ld) s ld
def smV (zd : Nat → Int) (ld : Nat) (t : AV) (s : Int) : Int :=
 match t with
 | .slcT _ (.M [.arr _ z _]) _ _ _ => sumS zd z s ld
 | _ => 0
theorem smV_end (h : Bool) : smV zd ld (endV h zd ld) s = szE h zd ld s := by
 cases ld <;> rfl
theorem c45e (h : Bool) (h2 : ld < 2 ^ 16) : cd (n + 1) (.fn 45) [bathA w ls zs ld zd, endV h zd ld, .int .i64 s] H = some (.int .i64 (szE h zd ld s), H) := by
 cases ld with
 | zero => exact c45n n w ls zs zd H s
 | succ m => exact c45 n w ls (m + 1) (m + 1) zs zd (upto (endS h zd) (m + 1)) H s (Nat.le_refl _) h2
def sizeV (w : Int) (ls ld : Nat) (zs zd : Nat → Int) (s : Int) : AV :=
 if chkB w ls ld zs zd ≠ 0 then .tup [.agg (.I .i64 [0, 0]), .int .i64 (chkB w ls ld zs zd)]
 else if s < 0 ∨ (ls : Int) ≤ s then .tup [.agg (.I .i64 [0, 0]), .int .i64 2]
 else .tup [.agg (.I .i64 [szE false zd ld s, szE true zd ld s]), .int .i64 0]
theorem chk_len (h : chkB w ls ld zs zd = 0) : ls ≤ 10 ∧ ld ≤ 40 := by
 unfold chkB at h
 by_cases e1 : w < 2 <;> by_cases e2 : 1000 < w <;> by_cases e3 : 10 < ls <;> by_cases e4 : 40 < ld <;> simp only [e1, e2, e3, e4, decide_true, decide_false, cond_true, cond_false] at h <;> first | omega | (simp at h)
theorem ct20 (k : Nat) (t : Ctr) (ht : t.Ok (cd (n + 2 + k))) : (ctG t 20 (g20 (bathA w ls zs ld zd) (chkB w ls ld zs zd))).Ok (cd (n + 2 + k)) := by
 refine ctG_ok ht (fun args p v h hp H => ?_)
 unfold g20 at h
 split at h
 · simp only [Option.some.injEq, Prod.mk.injEq] at h
   obtain ⟨rfl, rfl⟩ := h
   rw [hp, show n + 2 + k = n + k + 2 by omega]
   exact c20 (n + k) w ls ld zs zd H
 · cases h
theorem c18 : cd (n + 4) (.fn 18) [bathA w ls zs ld zd, .int .i64 s] H = some (sizeV w ls ld zs zd s, H) := by
 refine fn_of (n := n + 3) Try.func18 rfl rfl rfl (u18 n w ls ld zs zd H s (chkB w ls ld zs zd) (ld < 2 ^ 16) (fun h => endV h zd ld) (smV zd ld)) (il_ok _ (n + 2) 1 (fun k => ct20 n w ls ld zs zd k _ (ctG_ok (ctG_ok (noCt_ok _) (fun args p v h hp H => ?_)) (fun args p v h hp H => ?_)))) (noBT_ok _ _) (noRT_ok _ _) (y := ((sizeV w ls ld zs zd s, none), H)) ?_
 · unfold g61 at h
   split at h
   · simp only [Option.some.injEq, Prod.mk.injEq] at h
     obtain ⟨rfl, rfl⟩ := h
     obtain ⟨rfl, h2⟩ := hp
     rw [show n + 2 + k = n + 1 + k + 1 by omega]
     exact c61 _ w ls ld zs zd H _ h2
   · cases h
 · unfold g45 at h
   split at h
   · simp only [Option.some.injEq, Prod.mk.injEq] at h
     obtain ⟨rfl, rfl⟩ := h
     obtain ⟨rfl, h2, hp⟩ := hp
     rw [show n + 2 + k = n + 1 + k + 1 by omega]
     rcases hp with rfl | rfl <;> rw [smV_end] <;> exact c45e _ w ls ld zs zd H _ _ h2
   · cases h
 · rw [Tr.run_reqP rfl]
   by_cases e : chkB w ls ld zs zd = 0
   · have e' : sizeV w ls ld zs zd s = if s < 0 ∨ (ls : Int) ≤ s then .tup [.agg (.I .i64 [0, 0]), .int .i64 2] else .tup [.agg (.I .i64 [szE false zd ld s, szE true zd ld s]), .int .i64 0] := by
      unfold sizeV; rw [if_neg (by simpa using e)]
     rw [e', Tr.run_ite, notB_eq, eqI_eq, e]
     simp only [beq_self_eq_true, Bool.not_true, cond_false, Int.ofNat_eq_natCast, Int.natCast_zero]
     by_cases e1 : s < 0
     · rw [if_pos (.inl e1), Tr.run_ite, leI_eq, decide_eq_false (by omega)]; rfl
     · rw [Tr.run_ite, leI_eq, decide_eq_true (by omega), cond_true]
       by_cases e2 : (ls : Int) ≤ s
       · rw [if_pos (.inr e2), Tr.run_ite, notB_eq, ltI_eq, decide_eq_false (by omega)]; rfl
       · rw [if_neg (by omega), Tr.run_ite, notB_eq, ltI_eq, decide_eq_true (by omega), Bool.not_true, cond_false]
         have h2 : ld < 2 ^ 16 := by have := (chk_len w ls ld zs zd e).2; omega
         rw [Tr.run_reqP (by simpa using h2), Tr.run_reqP (by simpa using h2), Tr.run_reqP (by simpa using h2), Tr.run_reqP (by simpa using h2), smV_end, smV_end, Tr.run_req, ver0]
         rfl
   · have e' : sizeV w ls ld zs zd s = .tup [.agg (.I .i64 [0, 0]), .int .i64 (chkB w ls ld zs zd)] := by
      unfold sizeV; rw [if_pos e]
     rw [e', Tr.run_ite, notB_eq, eqI_eq, show (chkB w ls ld zs zd == Int.ofNat 0) = false from by simpa using e, Bool.not_false, cond_true, Tr.run_reqP rfl]
     rfl
end
end Go.Eng
end
