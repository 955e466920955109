/- Drop: Ends; SizeOf over its answer. -/
import Derived.Test.YtjmjkhpfipglcaaV4DrAB
namespace Go.Eng
open Go.Proofs
set_option linter.unusedVariables false
set_option linter.unusedSimpArgs false
set_option maxRecDepth 100000
/-- The first n of these numbers, and nothing behind them. -/
def upto (e : Nat → Int) (n : Nat) : Nat → Int := fun i => if i < n then e i else 0
theorem upto_one (e : Nat → Int) : lstO [e 0] = upto e 1 := by
  rw [lstO_fn]; funext i
  cases i with
  | zero => simp [upto]
  | succ i => simp [upto]
theorem upto_app (e : Nat → Int) (n : Nat) : appO (shO (upto e n) 0) n (lstO [e n]) = upto e (n + 1) := by
  rw [shO_zero, appO_fn, lstO_fn]; funext i
  simp only [upto]
  by_cases h : i < n
  · rw [if_pos h, if_pos h, if_pos (by omega)]
  · rw [if_neg h]
    by_cases h2 : i = n
    · subst h2; simp
    · rw [if_neg (by omega)]
      have : i - n = (i - n - 1) + 1 := by omega
      rw [this]; simp
/-- An end of a drop's spread. -/
def endS (h : Bool) (zd : Nat → Int) (i : Nat) : Int := cond h (zd (i * 3 + 1 + 1)) (zd (i * 3 + 1))
noncomputable def frE (h : Bool) : Nat → Frm
  | 0 => [(1, AV.bool h), (2, AV.ptr 0 0 0 0), (5, AV.nils), (6, AV.int IntKind.i64 ((0 : Nat) : Int))]
  | j + 1 => [(1, AV.bool h), (2, AV.ptr 0 0 0 0), (5, AV.slc 0 2 j 0 1 (j + 1) none), (6, AV.int IntKind.i64 ((j + 1 : Nat) : Int))]
noncomputable def lvE (w : Int) (ls ld : Nat) (zs zd : Nat → Int) (x0 : Int) (v m : Nat) (z : Nat → Int) : Lvl := ⟨false, [(0, .row (.G [.int .i64 w, slA 2 ls zs, slA 3 ld zd])), (0, .row (.I .i64 [x0])), (v, .row (.M [.arr .i64 z m]))]⟩
noncomputable def hE (w : Int) (ls ld : Nat) (zs zd : Nat → Int) (H : Heap) (h : Bool) : Nat → Heap
  | 0 => lvB w ls ld zs zd :: H
  | j + 1 => lvE w ls ld zs zd (endS h zd 0) j (j + 1) (upto (endS h zd) (j + 1)) :: H
theorem t61a (n : Nat) (w : Int) (ls ld : Nat) (zs zd : Nat → Int) (H : Heap) (h : Bool) (j : Int) : execT (cxD n 61 35) (il noCt n 0) noBT noRT (part Try.f61 [1,1,0,1,0,0]) (hints [(1, AV.bool h), (2, AV.ptr 0 0 0 0), (5, AV.nils), (6, AV.int IntKind.i64 j)]) (lvB w ls ld zs zd :: H) =
  Tr.ite (ltI j (Int.ofNat ld))
    (Tr.req (inI j ld)
      (Tr.req (ltN (addO (idO 0 j 3) 1) (mulO ld 3))
        (Tr.ite h
          (Tr.req (inI j ld)
            (Tr.req (ltN (addO (addO (idO 0 j 3) 1) 1) (mulO ld 3))
              (Tr.req (roomO 0 1 8)
                (Tr.req (leN 1 1)
                  (Tr.ok
                    (Ex.normal, [(1, AV.bool h, none), (2, AV.ptr 0 0 0 0, none), (5, AV.slc 0 2 0 0 1 1 none, none), (6, AV.int IntKind.i64 (addI IntKind.i64 j (Int.ofNat 1)), none)],
                      { lock := false, bs := [(0, Blk.row (Row.G [AV.int IntKind.i64 w, AV.slcT none (Row.M [Seg.arr IntKind.i64 zs (mulO ls 2)]) 2 ls false, AV.slcT none (Row.M [Seg.arr IntKind.i64 zd (mulO ld 3)]) 3 ld false])), (0, Blk.row (Row.I IntKind.i64 [zd (addO (addO (idO 0 j 3) 1) 1)])), (0, Blk.row (Row.M [Seg.arr IntKind.i64 (lstO [zd (addO (addO (idO 0 j 3) 1) 1)]) 1]))] } :: H))))))
          (Tr.req (roomO 0 1 8)
            (Tr.req (leN 1 1)
              (Tr.ok
                (Ex.normal, [(1, AV.bool h, none), (2, AV.ptr 0 0 0 0, none), (5, AV.slc 0 2 0 0 1 1 none, none), (6, AV.int IntKind.i64 (addI IntKind.i64 j (Int.ofNat 1)), none)],
                  { lock := false, bs := [(0, Blk.row (Row.G [AV.int IntKind.i64 w, AV.slcT none (Row.M [Seg.arr IntKind.i64 zs (mulO ls 2)]) 2 ls false, AV.slcT none (Row.M [Seg.arr IntKind.i64 zd (mulO ld 3)]) 3 ld false])), (0, Blk.row (Row.I IntKind.i64 [zd (addO (idO 0 j 3) 1)])), (0, Blk.row (Row.M [Seg.arr IntKind.i64 (lstO [zd (addO (idO 0 j 3) 1)]) 1]))] } :: H)))))))
    (Tr.ok (Ex.exit 0, [(1, AV.bool h, none), (2, AV.ptr 0 0 0 0, none), (5, AV.nils, none), (6, AV.int IntKind.i64 j, none), (12, AV.bool false, some 1)], { lock := false, bs := [(0, Blk.row (Row.G [AV.int IntKind.i64 w, AV.slcT none (Row.M [Seg.arr IntKind.i64 zs (mulO ls 2)]) 2 ls false, AV.slcT none (Row.M [Seg.arr IntKind.i64 zd (mulO ld 3)]) 3 ld false]))] } :: H)) := by kernel_rfl
theorem t61b (n : Nat) (w : Int) (ls ld : Nat) (zs zd : Nat → Int) (H : Heap) (h : Bool) (j x0 : Int) (z : Nat → Int) (v m : Nat) : execT (cxD n 61 35) (il noCt n 0) noBT noRT (part Try.f61 [1,1,0,1,0,0]) (hints [(1, AV.bool h), (2, AV.ptr 0 0 0 0), (5, AV.slc 0 2 v 0 1 m none), (6, AV.int IntKind.i64 j)]) (lvE w ls ld zs zd x0 v m z :: H) =
  Tr.ite (ltI j (Int.ofNat ld))
    (Tr.req (inI j ld)
      (Tr.req (ltN (addO (idO 0 j 3) 1) (mulO ld 3))
        (Tr.ite h
          (Tr.req (inI j ld)
            (Tr.req (ltN (addO (addO (idO 0 j 3) 1) 1) (mulO ld 3))
              (Tr.req (roomO m 1 8)
                (Tr.req (leN 1 1)
                  (Tr.req (eqN v v)
                    (Tr.req (eqN (addO 0 m) m)
                      (Tr.ok
                        (Ex.normal, [(1, AV.bool h, none), (2, AV.ptr 0 0 0 0, none), (5, AV.slc 0 2 (Nat.succ v) 0 1 (addO m 1) none, none), (6, AV.int IntKind.i64 (addI IntKind.i64 j (Int.ofNat 1)), none)],
                          { lock := false,
                              bs :=
                                [(0, Blk.row (Row.G [AV.int IntKind.i64 w, AV.slcT none (Row.M [Seg.arr IntKind.i64 zs (mulO ls 2)]) 2 ls false, AV.slcT none (Row.M [Seg.arr IntKind.i64 zd (mulO ld 3)]) 3 ld false])), (0, Blk.row (Row.I IntKind.i64 [x0])), (Nat.succ v, Blk.row (Row.M [Seg.arr IntKind.i64 (appO (shO z 0) m (lstO [zd (addO (addO (idO 0 j 3) 1) 1)])) (addO m 1)])),
                                  (0, Blk.row (Row.I IntKind.i64 [zd (addO (addO (idO 0 j 3) 1) 1)]))] } ::
                            H))))))))
          (Tr.req (roomO m 1 8)
            (Tr.req (leN 1 1)
              (Tr.req (eqN v v)
                (Tr.req (eqN (addO 0 m) m)
                  (Tr.ok
                    (Ex.normal, [(1, AV.bool h, none), (2, AV.ptr 0 0 0 0, none), (5, AV.slc 0 2 (Nat.succ v) 0 1 (addO m 1) none, none), (6, AV.int IntKind.i64 (addI IntKind.i64 j (Int.ofNat 1)), none)],
                      { lock := false,
                          bs :=
                            [(0, Blk.row (Row.G [AV.int IntKind.i64 w, AV.slcT none (Row.M [Seg.arr IntKind.i64 zs (mulO ls 2)]) 2 ls false, AV.slcT none (Row.M [Seg.arr IntKind.i64 zd (mulO ld 3)]) 3 ld false])), (0, Blk.row (Row.I IntKind.i64 [x0])), (Nat.succ v, Blk.row (Row.M [Seg.arr IntKind.i64 (appO (shO z 0) m (lstO [zd (addO (idO 0 j 3) 1)])) (addO m 1)])),
                              (0, Blk.row (Row.I IntKind.i64 [zd (addO (idO 0 j 3) 1)]))] } ::
                        H)))))))))
    (Tr.ok
      (Ex.exit 0, [(1, AV.bool h, none), (2, AV.ptr 0 0 0 0, none), (5, AV.slc 0 2 v 0 1 m none, none), (6, AV.int IntKind.i64 j, none), (12, AV.bool false, some 1)],
        { lock := false, bs := [(0, Blk.row (Row.G [AV.int IntKind.i64 w, AV.slcT none (Row.M [Seg.arr IntKind.i64 zs (mulO ls 2)]) 2 ls false, AV.slcT none (Row.M [Seg.arr IntKind.i64 zd (mulO ld 3)]) 3 ld false])), (0, Blk.row (Row.I IntKind.i64 [x0])), (v, Blk.row (Row.M [Seg.arr IntKind.i64 z m]))] } :: H)) := by kernel_rfl
theorem b61 : blocksOf (bodyOf Try.f61) = [(0, .loop (part Try.f61 [1,1,0,1,0,0])), (1, part Try.f61 [1,1,0,1,0,0,1,0,0])] := by kernel_rfl
theorem room_ok {m n b : Nat} (h1 : m + n ≤ 2 ^ 20) (h2 : b ≤ 2 ^ 20) : roomO m n b = true := by
  rw [roomO_eq, decide_eq_true_eq]
  have : room = 2 ^ 46 := rfl
  have h3 : (m + n) * b ≤ 2 ^ 20 * 2 ^ 20 := Nat.mul_le_mul h1 h2
  have h4 : (2 : Nat) ^ 20 * 2 ^ 20 ≤ 2 ^ 46 := by decide
  have h5 : (2 : Nat) ^ 20 ≤ 2 ^ 46 := by decide
  omega
/-- What Ends answers. -/
noncomputable def endV (h : Bool) (zd : Nat → Int) : Nat → AV
  | 0 => .nils
  | j + 1 => slA 1 (j + 1) (upto (endS h zd) (j + 1))
section
variable (n : Nat) (w : Int) (ls ld : Nat) (zs zd : Nat → Int) (H : Heap) (h : Bool)
theorem l61 (h2 : ld < 2 ^ 16) : exec (cxD n 61 35) (.block 0 (.loop (part Try.f61 [1,1,0,1,0,0]))) (frE h 0) (lvB w ls ld zs zd :: H) = some (.normal, frE h ld ++ [(12, AV.bool false)], hE w ls ld zs zd H h ld) := by
  refine forB (il_no0 n) (noBT_ok _ _) (noRT_ok _ _) 0 (frE h) (hE w ls ld zs zd H h) ld (.exit 0, hints (frE h ld) ++ [(12, AV.bool false, some 1)], hE w ls ld zs zd H h ld) (by omega) (fun j hj => ?_) ⟨?_, rfl⟩ |>.trans ?_
  · cases j with
    | zero =>
      refine ⟨hints (frE h 1), hE w ls ld zs zd H h 1, ?_, hints_eq _, rfl⟩
      simp only [frE, hE]
      rw [t61a]
      cases h <;>
      simp (disch := omega) only [Tr.run_ite, Tr.run_req, Tr.run_ok, ltI_eq, inI_eq, ltN_eq, leN_eq, idO_eq, lt_mulO, addO_eq, addI_eq, decide_eq_true, cond_true, cond_false, Int.ofNat_eq_natCast, Int.toNat_natCast, Nat.zero_add, room_ok, ← upto_one, endS, Int.natCast_one, wrap_j, Nat.zero_mul] <;> rfl
    | succ j =>
      refine ⟨hints (frE h (j + 2)), ⟨false, [(0, .row (.G [.int .i64 w, slA 2 ls zs, slA 3 ld zd])), (0, .row (.I .i64 [endS h zd 0])), (j + 1, .row (.M [.arr .i64 (upto (endS h zd) (j + 2)) (j + 2)])), (0, .row (.I .i64 [endS h zd (j + 1)]))]⟩ :: H, ?_, hints_eq _, rfl⟩
      simp only [frE, hE]
      rw [t61b]
      have hu := upto_app (endS h zd) (j + 1)
      cases h <;>
      simp (disch := omega) only [Tr.run_ite, Tr.run_req, Tr.run_ok, ltI_eq, inI_eq, ltN_eq, leN_eq, eqN_eq, idO_eq, lt_mulO, addO_eq, addI_eq, decide_eq_true, cond_true, cond_false, Int.ofNat_eq_natCast, Int.toNat_natCast, Nat.zero_add, room_ok, endS, Int.natCast_one, wrap_j, Nat.zero_mul, decide_true] at hu ⊢ <;> rw [hu] <;> rfl
  · cases ld with
    | zero =>
      simp only [frE, hE]
      rw [t61a]
      simp (disch := omega) only [Tr.run_ite, ltI_eq, Int.ofNat_eq_natCast, decide_eq_false, cond_false, Tr.run_ok]
      rfl
    | succ j =>
      simp only [frE, hE]
      rw [t61b]
      simp (disch := omega) only [Tr.run_ite, ltI_eq, Int.ofNat_eq_natCast, decide_eq_false, cond_false, Tr.run_ok]
      rfl
  · cases ld <;> rfl
theorem u61a (n : Nat) (w : Int) (ls ld : Nat) (zs zd : Nat → Int) (H : Heap) (h : Bool) : bodyT Try.prog (cd n) 100000 61 Try.f61 (Kt.kt 61) (il noCt n 0) (blkE noBT 0 [(1, AV.bool h), (2, AV.ptr 0 0 0 0), (5, AV.nils), (6, AV.int IntKind.i64 (Int.ofNat 0))] (lvB w ls ld zs zd :: H) (.ok (.normal, hints [(1, AV.bool h), (2, AV.ptr 0 0 0 0), (5, AV.nils), (6, AV.int IntKind.i64 (Int.ofNat 0)), (12, AV.bool false)], lvB w ls ld zs zd :: H))) noRT [(bathA w ls zs ld zd, none), (.bool h, none)] H =
  Tr.reqP
    ([(1, AV.bool h), (2, AV.ptr 0 0 0 0), (5, AV.nils), (6, AV.int IntKind.i64 (Int.ofNat 0))] = [(1, AV.bool h), (2, AV.ptr 0 0 0 0), (5, AV.nils), (6, AV.int IntKind.i64 (Int.ofNat 0))] ∧
      { lock := false, bs := [(0, Blk.row (Row.G [AV.int IntKind.i64 w, AV.slcT none (Row.M [Seg.arr IntKind.i64 zs (mulO ls 2)]) 2 ls false, AV.slcT none (Row.M [Seg.arr IntKind.i64 zd (mulO ld 3)]) 3 ld false]))] } :: H =
        { lock := false, bs := [(0, Blk.row (Row.G [AV.int IntKind.i64 w, AV.slcT none (Row.M [Seg.arr IntKind.i64 zs (mulO ls 2)]) 2 ls false, AV.slcT none (Row.M [Seg.arr IntKind.i64 zd (mulO ld 3)]) 3 ld false]))] } :: H)
    (Tr.ok ((AV.nils, none), H)) := by kernel_rfl
theorem u61b (n : Nat) (w : Int) (ls ld : Nat) (zs zd : Nat → Int) (H : Heap) (h : Bool) (x0 j : Int) (z : Nat → Int) (v m : Nat) : bodyT Try.prog (cd n) 100000 61 Try.f61 (Kt.kt 61) (il noCt n 0) (blkE noBT 0 [(1, AV.bool h), (2, AV.ptr 0 0 0 0), (5, AV.nils), (6, AV.int IntKind.i64 (Int.ofNat 0))] (lvB w ls ld zs zd :: H) (.ok (.normal, hints [(1, AV.bool h), (2, AV.ptr 0 0 0 0), (5, AV.slc 0 2 v 0 1 m none), (6, AV.int IntKind.i64 j), (12, AV.bool false)], lvE w ls ld zs zd x0 v m z :: H))) noRT [(bathA w ls zs ld zd, none), (.bool h, none)] H =
  Tr.reqP
    ([(1, AV.bool h), (2, AV.ptr 0 0 0 0), (5, AV.nils), (6, AV.int IntKind.i64 (Int.ofNat 0))] = [(1, AV.bool h), (2, AV.ptr 0 0 0 0), (5, AV.nils), (6, AV.int IntKind.i64 (Int.ofNat 0))] ∧
      { lock := false, bs := [(0, Blk.row (Row.G [AV.int IntKind.i64 w, AV.slcT none (Row.M [Seg.arr IntKind.i64 zs (mulO ls 2)]) 2 ls false, AV.slcT none (Row.M [Seg.arr IntKind.i64 zd (mulO ld 3)]) 3 ld false]))] } :: H =
        { lock := false, bs := [(0, Blk.row (Row.G [AV.int IntKind.i64 w, AV.slcT none (Row.M [Seg.arr IntKind.i64 zs (mulO ls 2)]) 2 ls false, AV.slcT none (Row.M [Seg.arr IntKind.i64 zd (mulO ld 3)]) 3 ld false]))] } :: H)
    (Tr.req (eqN v v) (Tr.req (inO 0 m 0 m) (Tr.ok ((AV.slcT none (Row.M [Seg.arr IntKind.i64 (shO z 0) m]) 1 m false, none), H)))) := by kernel_rfl
theorem c61 (h2 : ld < 2 ^ 16) : cd (n + 1) (.fn 61) [bathA w ls zs ld zd, .bool h] H = some (endV h zd ld, H) := by
  have hl := l61 n w ls ld zs zd H h h2
  have hb : ∀ b, (0, b) ∈ blocksOf (bodyOf Try.f61) → b = .loop (part Try.f61 [1,1,0,1,0,0]) := fun b hb => by rw [b61] at hb; simpa using hb
  cases ld with
  | zero =>
    exact fn_of Try.func61 rfl rfl rfl (u61a n w ls 0 zs zd H h) (il_no0 n) (blkE_ok (noBT_ok _ _) hb (fun x hx => by rw [← Tr.ok_some hx]; exact hl)) (noRT_ok _ _) (y := ((.nils, none), H)) (Tr.run_reqP ⟨rfl, rfl⟩)
  | succ m =>
    refine fn_of Try.func61 rfl rfl rfl (u61b n w ls (m + 1) zs zd H h (endS h zd 0) ((m + 1 : Nat) : Int) (upto (endS h zd) (m + 1)) m (m + 1)) (il_no0 n) (blkE_ok (noBT_ok _ _) hb (fun x hx => by rw [← Tr.ok_some hx]; exact hl)) (noRT_ok _ _) (y := ((endV h zd (m + 1), none), H)) ((Tr.run_reqP ⟨rfl, rfl⟩).trans ?_)
    simp (disch := omega) only [Tr.run_req, Tr.run_ok, eqN_eq, inO_eq, decide_true, cond_true, decide_eq_true, shO_zero]
    rfl
end
end Go.Eng
