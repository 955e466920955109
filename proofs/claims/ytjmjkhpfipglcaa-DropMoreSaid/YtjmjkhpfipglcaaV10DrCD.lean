/- Drop: Ends; SizeOf over its answer. -/
import Derived.Test.YtjmjkhpfipglcaaV10DrAB
section
namespace Go.Eng
open Go.Proofs
set_option linter.unusedVariables false
set_option linter.unusedSimpArgs false
set_option maxRecDepth 100000
/-- The first n of these numbers, and nothing behind them. -/
def upto (e : Nat → Int) (n : Nat) : Nat → Int := fun i => if i < n then e i else 0
theorem upto_one (e : Nat → Int) : lstO [e 0] = upto e 1 := by
  rw [lstO_fn]; funext i
  cases i with
  | zero => simp [upto]
  | succ i => simp [upto]
theorem upto_app (e : Nat → Int) (n : Nat) : appO (shO (upto e n) 0) n (lstO [e n]) = upto e (n + 1) := by
  rw [shO_zero, appO_fn, lstO_fn]; funext i
  simp only [upto]
  by_cases h : i < n
  · rw [if_pos h, if_pos h, if_pos (by omega)]
  · rw [if_neg h]
    by_cases h2 : i = n
    · subst h2; simp
    · rw [if_neg (by omega)]
      have : i - n = (i - n - 1) + 1 := by omega
      rw [this]; simp
/-- An end of a drop's spread. -/
def endS (h : Bool) (zd : Nat → Int) (i : Nat) : Int := cond h (zd (i * 3 + 1 + 1)) (zd (i * 3 + 1))
noncomputable def frE (h : Bool) : Nat → Frm
  | 0 => [(1, AV.bool h), (2, AV.ptr 0 0 0 0), (5, AV.nils), (6, AV.int IntKind.i64 ((0 : Nat) : Int))]
  | j + 1 => [(1, AV.bool h), (2, AV.ptr 0 0 0 0), (5, AV.slc 0 1 j 0 1 (j + 1) none), (6, AV.int IntKind.i64 ((j + 1 : Nat) : Int))]
noncomputable def lvE (w : Int) (ls ld : Nat) (zs zd : Nat → Int) (v m : Nat) (z : Nat → Int) : Lvl := ⟨false, [(0, .row (.G [.int .i64 w, slA 2 ls zs, slA 3 ld zd])), (v, .row (.M [.arr .i64 z m]))]⟩
noncomputable def hE (w : Int) (ls ld : Nat) (zs zd : Nat → Int) (H : Heap) (h : Bool) : Nat → Heap
  | 0 => lvB w ls ld zs zd :: H
  | j + 1 => lvE w ls ld zs zd j (j + 1) (upto (endS h zd) (j + 1)) :: H
theorem t61a (n : Nat) (w : Int) (ls ld : Nat) (zs zd : Nat → Int) (H : Heap) (h : Bool) (j : Int) : execT (cxD n 61 35) (il noCt n 0) noBT noRT (part Try.f61 [1,1,0,1,0,0]) (hints [(1, AV.bool h), (2, AV.ptr 0 0 0 0), (5, AV.nils), (6, AV.int IntKind.i64 j)]) (lvB w ls ld zs zd :: H) =
  Tr.ite (ltI j (Int.ofNat ld)) (Tr.req (inI j ld) (Tr.req (ltN (addO (idO 0 j 3) 1) (mulO ld 3)) (Tr.ite h (Tr.req (inI j ld) (Tr.req (ltN (addO (addO (idO 0 j 3) 1) 1) (mulO ld 3)) (Tr.req (roomO 0 1 8) (Tr.req (leN 1 1) (Tr.ok (Ex.normal, [(1, AV.bool h, none), (2, AV.ptr 0 0 0 0, none), (5, AV.slc 0 2 0 0 1 1 none, none), (6, AV.int .i64 (addI .i64 j (Int.ofNat 1)), none)], { lock := false, bs := [(0, Blk.row (Row.G [AV.int .i64 w, slA 2 ls zs, slA 3 ld zd])), (0, Blk.row (Row.I .i64 [zd (addO (addO (idO 0 j 3) 1) 1)])), (0, Blk.row (Row.M [Seg.arr .i64 (lstO [zd (addO (addO (idO 0 j 3) 1) 1)]) 1]))] } :: H)))))) (Tr.req (roomO 0 1 8) (Tr.req (leN 1 1) (Tr.ok (Ex.normal, [(1, AV.bool h, none), (2, AV.ptr 0 0 0 0, none), (5, AV.slc 0 2 0 0 1 1 none, none), (6, AV.int .i64 (addI .i64 j (Int.ofNat 1)), none)], { lock := false, bs := [(0, Blk.row (Row.G [AV.int .i64 w, slA 2 ls zs, slA 3 ld zd])), (0, Blk.row (Row.I .i64 [zd (addO (idO 0 j 3) 1)])), (0, Blk.row (Row.M [Seg.arr .i64 (lstO [zd (addO (idO 0 j 3) 1)]) 1]))] } :: H))))))) (Tr.ok (Ex.exit 0, [(1, AV.bool h, none), (2, AV.ptr 0 0 0 0, none), (5, AV.nils, none), (6, AV.int .i64 j, none), (12, AV.bool false, some 1)], lvB w ls ld zs zd :: H)) := by kernel_rfl
theorem t61b (n : Nat) (w : Int) (ls ld : Nat) (zs zd : Nat → Int) (H : Heap) (h : Bool) (j : Int) (z : Nat → Int) (v m : Nat) : execT (cxD n 61 35) (il noCt n 0) noBT noRT (part Try.f61 [1,1,0,1,0,0]) (hints [(1, AV.bool h), (2, AV.ptr 0 0 0 0), (5, AV.slc 0 1 v 0 1 m none), (6, AV.int IntKind.i64 j)]) (lvE w ls ld zs zd v m z :: H) =
  Tr.ite (ltI j (Int.ofNat ld)) (Tr.req (inI j ld) (Tr.req (ltN (addO (idO 0 j 3) 1) (mulO ld 3)) (Tr.ite h (Tr.req (inI j ld) (Tr.req (ltN (addO (addO (idO 0 j 3) 1) 1) (mulO ld 3)) (Tr.req (roomO m 1 8) (Tr.req (leN 1 1) (Tr.req (eqN v v) (Tr.req (eqN (addO 0 m) m) (Tr.ok (Ex.normal, [(1, AV.bool h, none), (2, AV.ptr 0 0 0 0, none), (5, AV.slc 0 1 (Nat.succ v) 0 1 (addO m 1) none, none), (6, AV.int .i64 (addI .i64 j (Int.ofNat 1)), none)], { lock := false, bs := [(0, Blk.row (Row.G [AV.int .i64 w, slA 2 ls zs, slA 3 ld zd])), (Nat.succ v, Blk.row (Row.M [Seg.arr .i64 (appO (shO z 0) m (lstO [zd (addO (addO (idO 0 j 3) 1) 1)])) (addO m 1)])), (0, Blk.row (Row.I .i64 [zd (addO (addO (idO 0 j 3) 1) 1)]))] } :: H)))))))) (Tr.req (roomO m 1 8) (Tr.req (leN 1 1) (Tr.req (eqN v v) (Tr.req (eqN (addO 0 m) m) (Tr.ok (Ex.normal, [(1, AV.bool h, none), (2, AV.ptr 0 0 0 0, none), (5, AV.slc 0 1 (Nat.succ v) 0 1 (addO m 1) none, none), (6, AV.int .i64 (addI .i64 j (Int.ofNat 1)), none)], { lock := false, bs := [(0, Blk.row (Row.G [AV.int .i64 w, slA 2 ls zs, slA 3 ld zd])), (Nat.succ v, Blk.row (Row.M [Seg.arr .i64 (appO (shO z 0) m (lstO [zd (addO (idO 0 j 3) 1)])) (addO m 1)])), (0, Blk.row (Row.I .i64 [zd (addO (idO 0 j 3) 1)]))] } :: H))))))))) (Tr.ok (Ex.exit 0, [(1, AV.bool h, none), (2, AV.ptr 0 0 0 0, none), (5, AV.slc 0 1 v 0 1 m none, none), (6, AV.int .i64 j, none), (12, AV.bool false, some 1)], { lock := false, bs := [(0, Blk.row (Row.G [AV.int .i64 w, slA 2 ls zs, slA 3 ld zd])), (v, Blk.row (Row.M [Seg.arr .i64 z m]))] } :: H)) := by kernel_rfl
theorem b61 : blocksOf (bodyOf Try.f61) = [(0, .loop (part Try.f61 [1,1,0,1,0,0])), (1, part Try.f61 [1,1,0,1,0,0,1,0,0])] := by kernel_rfl
theorem room_ok {m n b : Nat} (h1 : m + n ≤ 2 ^ 20) (h2 : b ≤ 2 ^ 20) : roomO m n b = true := by
  rw [roomO_eq, decide_eq_true_eq]
  have : room = 2 ^ 46 := rfl
  have h3 : (m + n) * b ≤ 2 ^ 20 * 2 ^ 20 := Nat.mul_le_mul h1 h2
  have h4 : (2 : Nat) ^ 20 * 2 ^ 20 ≤ 2 ^ 46 := by decide
  have h5 : (2 : Nat) ^ 20 ≤ 2 ^ 46 := by decide
  omega
/-- What Ends answers. -/
noncomputable def endV (h : Bool) (zd : Nat → Int) : Nat → AV
  | 0 => .nils
  | j + 1 => slA 1 (j + 1) (upto (endS h zd) (j + 1))
section
variable (n : Nat) (w : Int) (ls ld : Nat) (zs zd : Nat → Int) (H : Heap) (h : Bool)
theorem l61 (h2 : ld < 2 ^ 16) : exec (cxD n 61 35) (.block 0 (.loop (part Try.f61 [1,1,0,1,0,0]))) (frE h 0) (lvB w ls ld zs zd :: H) = some (.normal, frE h ld ++ [(12, AV.bool false)], hE w ls ld zs zd H h ld) := by
  refine forT (il_no0 n) (noBT_ok _ _) (noRT_ok _ _) 0 (frE h) (hE w ls ld zs zd H h) ld (frE h ld ++ [(12, AV.bool false)], hE w ls ld zs zd H h ld) (by omega) (fun j hj => ?_) ?_
  · cases j with
    | zero =>
      simp only [frE, hE]
      rw [t61a]
      cases h <;> repeat' first | (refine Tr.all_ite (fun hc => ?_) (fun hc => ?_) <;> (try simp (disch := omega) only [nV, mulO_eq, Int.cast_ofNat_Int, eq_self] at hc) <;> (try (exfalso; omega))) | (refine Tr.all_req ?_ ?_; · ((try simp (disch := omega) only [nV, mulO_eq, Int.cast_ofNat_Int, eq_self]); try omega)) | (refine Tr.all_reqP ?_ ?_; · first | exact trivial | rfl | exact ⟨rfl, rfl⟩ | exact ⟨rfl, rfl, rfl⟩ | (simp (disch := omega) only [nV, mulO_eq, Int.cast_ofNat_Int, eq_self]; done) | ((try simp (disch := omega) only [nV, mulO_eq, Int.cast_ofNat_Int, eq_self]); omega)) | fail
      all_goals
        refine Tr.all_ok ⟨rfl, ?_⟩
        simp (disch := omega) only [nV, Int.cast_ofNat_Int, eq_self, ← upto_one, endS, wrap_j, Nat.zero_mul]
        rfl
    | succ j =>
      simp only [frE, hE]
      rw [t61b]
      have hu := upto_app (endS h zd) (j + 1)
      cases h <;> repeat' first | (refine Tr.all_ite (fun hc => ?_) (fun hc => ?_) <;> (try simp (disch := omega) only [nV, mulO_eq, Int.cast_ofNat_Int, eq_self] at hc) <;> (try (exfalso; omega))) | (refine Tr.all_req ?_ ?_; · ((try simp (disch := omega) only [nV, mulO_eq, Int.cast_ofNat_Int, eq_self]); try omega)) | (refine Tr.all_reqP ?_ ?_; · first | exact trivial | rfl | exact ⟨rfl, rfl⟩ | exact ⟨rfl, rfl, rfl⟩ | (simp (disch := omega) only [nV, mulO_eq, Int.cast_ofNat_Int, eq_self]; done) | ((try simp (disch := omega) only [nV, mulO_eq, Int.cast_ofNat_Int, eq_self]); omega)) | fail
      all_goals
        refine Tr.all_ok ⟨rfl, ?_⟩
        simp (disch := omega) only [nV, Int.cast_ofNat_Int, eq_self, cond_true, cond_false, endS, wrap_j, Nat.zero_mul] at hu ⊢
        rw [hu]
        rfl
  · cases ld with
    | zero =>
      simp only [frE, hE]
      rw [t61a]
      repeat' first | (refine Tr.all_ite (fun hc => ?_) (fun hc => ?_) <;> (try simp (disch := omega) only [nV, mulO_eq, Int.cast_ofNat_Int, eq_self] at hc) <;> (try (exfalso; omega))) | (refine Tr.all_req ?_ ?_; · ((try simp (disch := omega) only [nV, mulO_eq, Int.cast_ofNat_Int, eq_self]); try omega)) | (refine Tr.all_reqP ?_ ?_; · first | exact trivial | rfl | exact ⟨rfl, rfl⟩ | exact ⟨rfl, rfl, rfl⟩ | (simp (disch := omega) only [nV, mulO_eq, Int.cast_ofNat_Int, eq_self]; done) | ((try simp (disch := omega) only [nV, mulO_eq, Int.cast_ofNat_Int, eq_self]); omega)) | fail
      exact Tr.all_ok ⟨rfl, rfl, rfl⟩
    | succ j =>
      simp only [frE, hE]
      rw [t61b]
      repeat' first | (refine Tr.all_ite (fun hc => ?_) (fun hc => ?_) <;> (try simp (disch := omega) only [nV, mulO_eq, Int.cast_ofNat_Int, eq_self] at hc) <;> (try (exfalso; omega))) | (refine Tr.all_req ?_ ?_; · ((try simp (disch := omega) only [nV, mulO_eq, Int.cast_ofNat_Int, eq_self]); try omega)) | (refine Tr.all_reqP ?_ ?_; · first | exact trivial | rfl | exact ⟨rfl, rfl⟩ | exact ⟨rfl, rfl, rfl⟩ | (simp (disch := omega) only [nV, mulO_eq, Int.cast_ofNat_Int, eq_self]; done) | ((try simp (disch := omega) only [nV, mulO_eq, Int.cast_ofNat_Int, eq_self]); omega)) | fail
      exact Tr.all_ok ⟨rfl, rfl, rfl⟩
theorem u61a (n : Nat) (w : Int) (ls ld : Nat) (zs zd : Nat → Int) (H : Heap) (h : Bool) : bodyT Try.prog (cd n) 100000 61 Try.f61 (Kt.kt 61) (il noCt n 0) (blkE noBT 0 [(1, AV.bool h), (2, AV.ptr 0 0 0 0), (5, AV.nils), (6, AV.int IntKind.i64 (Int.ofNat 0))] (lvB w ls ld zs zd :: H) (.ok (.normal, hints [(1, AV.bool h), (2, AV.ptr 0 0 0 0), (5, AV.nils), (6, AV.int IntKind.i64 (Int.ofNat 0)), (12, AV.bool false)], lvB w ls ld zs zd :: H))) noRT [(bathA w ls zs ld zd, none), (.bool h, none)] H =
  Tr.reqP ([(1, AV.bool h), (2, AV.ptr 0 0 0 0), (5, AV.nils), (6, AV.int .i64 (Int.ofNat 0))] = [(1, AV.bool h), (2, AV.ptr 0 0 0 0), (5, AV.nils), (6, AV.int .i64 (Int.ofNat 0))] ∧ lvB w ls ld zs zd :: H = lvB w ls ld zs zd :: H) (Tr.ok ((AV.nils, none), H)) := by kernel_rfl
theorem u61b (n : Nat) (w : Int) (ls ld : Nat) (zs zd : Nat → Int) (H : Heap) (h : Bool) (j : Int) (z : Nat → Int) (v m : Nat) : bodyT Try.prog (cd n) 100000 61 Try.f61 (Kt.kt 61) (il noCt n 0) (blkE noBT 0 [(1, AV.bool h), (2, AV.ptr 0 0 0 0), (5, AV.nils), (6, AV.int IntKind.i64 (Int.ofNat 0))] (lvB w ls ld zs zd :: H) (.ok (.normal, hints [(1, AV.bool h), (2, AV.ptr 0 0 0 0), (5, AV.slc 0 1 v 0 1 m none), (6, AV.int IntKind.i64 j), (12, AV.bool false)], lvE w ls ld zs zd v m z :: H))) noRT [(bathA w ls zs ld zd, none), (.bool h, none)] H =
  Tr.reqP ([(1, AV.bool h), (2, AV.ptr 0 0 0 0), (5, AV.nils), (6, AV.int .i64 (Int.ofNat 0))] = [(1, AV.bool h), (2, AV.ptr 0 0 0 0), (5, AV.nils), (6, AV.int .i64 (Int.ofNat 0))] ∧ lvB w ls ld zs zd :: H = lvB w ls ld zs zd :: H) (Tr.req (eqN v v) (Tr.req (inO 0 m 0 m) (Tr.ok ((AV.slcT none (Row.M [Seg.arr .i64 (shO z 0) m]) 1 m false, none), H)))) := by kernel_rfl
theorem c61 (h2 : ld < 2 ^ 16) : cd (n + 1) (.fn 61) [bathA w ls zs ld zd, .bool h] H = some (endV h zd ld, H) := by
  have hl := l61 n w ls ld zs zd H h h2
  have hb : ∀ b, (0, b) ∈ blocksOf (bodyOf Try.f61) → b = .loop (part Try.f61 [1,1,0,1,0,0]) := fun b hb => by rw [b61] at hb; simpa using hb
  cases ld with
  | zero =>
    exact fn_of Try.func61 rfl rfl rfl (u61a n w ls 0 zs zd H h) (il_no0 n) (blkE_ok (noBT_ok _ _) hb (fun x hx => by rw [← Tr.ok_some hx]; exact hl)) (noRT_ok _ _) (y := ((.nils, none), H)) (Tr.run_reqP ⟨rfl, rfl⟩)
  | succ m =>
    refine fn_of Try.func61 rfl rfl rfl (u61b n w ls (m + 1) zs zd H h ((m + 1 : Nat) : Int) (upto (endS h zd) (m + 1)) m (m + 1)) (il_no0 n) (blkE_ok (noBT_ok _ _) hb (fun x hx => by rw [← Tr.ok_some hx]; exact hl)) (noRT_ok _ _) (y := ((endV h zd (m + 1), none), H)) ((Tr.run_reqP ⟨rfl, rfl⟩).trans ?_)
    simp (disch := omega) only [Tr.run_req, Tr.run_ok, eqN_eq, inO_eq, decide_true, cond_true, decide_eq_true, shO_zero]
    rfl
end
end Go.Eng
end

section
namespace Go.Eng
open Go.Proofs
set_option linter.unusedVariables false
set_option linter.unusedSimpArgs false
set_option maxRecDepth 100000
/-- A spot that lies outside. -/
def badS (w : Int) (zs : Nat → Int) (j : Nat) : Bool := decide (zs (j * 2) < 1) || (decide (w ≤ zs (j * 2)) || (decide (zs (j * 2 + 1) < 0) || decide (1000 < zs (j * 2 + 1))))
/-- Two spots that are one. -/
def eqS (zs : Nat → Int) (i j : Nat) : Bool := (zs (i * 2) == zs (j * 2)) && (zs (i * 2 + 1) == zs (j * 2 + 1))
/-- A drop that is not right. -/
def badD (ls : Nat) (zd : Nat → Int) (j : Nat) : Bool := decide (zd (j * 3) < 0) || (decide ((ls : Int) ≤ zd (j * 3)) || (decide (zd (j * 3 + 1) < 1) || (decide (zd (j * 3 + 2) < zd (j * 3 + 1)) || decide (10000 < zd (j * 3 + 2)))))
/-- The error of a bath. -/
def chkB (w : Int) (ls ld : Nat) (zs zd : Nat → Int) : Int :=
  cond (decide (w < 2)) 2 (cond (decide (1000 < w)) 2 (cond (decide (10 < ls)) 6 (cond (decide (40 < ld)) 6 (cond (exN (badS w zs) ls) 3 (cond (exN (fun i => exN (eqS zs i) i) ls) 15 (cond (exN (badD ls zd) ld) 16 0))))))
noncomputable def lvD (w : Int) (ls ld : Nat) (zs zd : Nat → Int) (x y z : Int) : Lvl := ⟨false, [(0, .row (.G [.int .i64 w, slA 2 ls zs, slA 3 ld zd])), (0, .row (.I .i64 [x, y, z]))]⟩
theorem t20a (n : Nat) (w : Int) (ls ld : Nat) (zs zd : Nat → Int) (H : Heap) (j : Int) : execT (cxD n 20 130) (il noCt n 0) noBT noRT (part Try.f20 [1,1,1,0,1,0,0]) (hints [(1, AV.ptr 0 0 0 0), (3, AV.int IntKind.i64 j)]) (lvB w ls ld zs zd :: H) =
  Tr.ite (ltI j (Int.ofNat ls)) (Tr.req (inI j ls) (Tr.req (ltN (idO 0 j 2) (mulO ls 2)) (Tr.ite (ltI (zs (idO 0 j 2)) (Int.ofNat 1)) (Tr.ok (Ex.ret, [(2, AV.int .i64 (Int.ofNat 3), some 1)], lvB w ls ld zs zd :: H)) (Tr.req (inI j ls) (Tr.req (ltN (idO 0 j 2) (mulO ls 2)) (Tr.ite (leI w (zs (idO 0 j 2))) (Tr.ok (Ex.ret, [(2, AV.int .i64 (Int.ofNat 3), some 1)], lvB w ls ld zs zd :: H)) (Tr.req (inI j ls) (Tr.req (ltN (addO (idO 0 j 2) 1) (mulO ls 2)) (Tr.ite (ltI (zs (addO (idO 0 j 2) 1)) (Int.ofNat 0)) (Tr.ok (Ex.ret, [(2, AV.int .i64 (Int.ofNat 3), some 1)], lvB w ls ld zs zd :: H)) (Tr.req (inI j ls) (Tr.req (ltN (addO (idO 0 j 2) 1) (mulO ls 2)) (Tr.ite (ltI (Int.ofNat 1000) (zs (addO (idO 0 j 2) 1))) (Tr.ok (Ex.ret, [(2, AV.int .i64 (Int.ofNat 3), some 1)], lvB w ls ld zs zd :: H)) (Tr.ok (Ex.normal, [(1, AV.ptr 0 0 0 0, none), (3, AV.int .i64 (addI .i64 j (Int.ofNat 1)), none)], lvB w ls ld zs zd :: H)))))))))))))) (Tr.ok (Ex.exit 0, [(1, AV.ptr 0 0 0 0, none), (3, AV.int .i64 j, none), (30, AV.bool false, some 1)], lvB w ls ld zs zd :: H)) := by kernel_rfl
theorem t20c (n : Nat) (w : Int) (ls ld : Nat) (zs zd : Nat → Int) (H : Heap) (j i : Int) : execT (cxD n 20 130) (il noCt n 0) noBT noRT (part Try.f20 [1, 1, 1, 1, 0, 1, 0, 0, 1, 0, 0, 1, 0, 0]) (hints [(1, AV.ptr 0 0 0 0), (4, AV.int IntKind.i64 i), (5, AV.int IntKind.i64 j)]) (lvB w ls ld zs zd :: H) =
  Tr.ite (ltI j i) (Tr.req (inI i ls) (Tr.req (ltN (idO 0 i 2) (mulO ls 2)) (Tr.req (ltN (addO (idO 0 i 2) 1) (mulO ls 2)) (Tr.req (inI j ls) (Tr.req (ltN (idO 0 j 2) (mulO ls 2)) (Tr.req (ltN (addO (idO 0 j 2) 1) (mulO ls 2)) (Tr.ite (andB (eqI (zs (idO 0 i 2)) (zs (idO 0 j 2))) (eqI (zs (addO (idO 0 i 2) 1)) (zs (addO (idO 0 j 2) 1)))) (Tr.ok (Ex.ret, [(2, AV.int .i64 (Int.ofNat 15), some 1)], lvB w ls ld zs zd :: H)) (Tr.ok (Ex.normal, [(1, AV.ptr 0 0 0 0, none), (4, AV.int .i64 i, none), (5, AV.int .i64 (addI .i64 j (Int.ofNat 1)), none)], lvB w ls ld zs zd :: H))))))))) (Tr.ok (Ex.exit 4, [(1, AV.ptr 0 0 0 0, none), (4, AV.int .i64 i, none), (5, AV.int .i64 j, none), (78, AV.bool false, some 1)], lvB w ls ld zs zd :: H)) := by kernel_rfl
theorem t20b (n : Nat) (w : Int) (ls ld : Nat) (zs zd : Nat → Int) (H : Heap) (i : Int) (q : Bool) : execT (cxD n 20 130) (il noCt n 0) (blkE noBT 4 [(1, AV.ptr 0 0 0 0), (4, AV.int IntKind.i64 i), (5, AV.int IntKind.i64 (Int.ofNat 0))] (lvB w ls ld zs zd :: H) (.ite q (.ok (.ret, [(2, AV.int IntKind.i64 15, none)], lvB w ls ld zs zd :: H)) (.ok (.normal, hints [(1, AV.ptr 0 0 0 0), (4, AV.int IntKind.i64 i), (5, AV.int IntKind.i64 i), (78, AV.bool false)], lvB w ls ld zs zd :: H)))) noRT (part Try.f20 [1,1,1,1,0,1,0,0]) (hints [(1, AV.ptr 0 0 0 0), (4, AV.int IntKind.i64 i)]) (lvB w ls ld zs zd :: H) =
  Tr.ite (ltI i (Int.ofNat ls)) (Tr.reqP ([(1, AV.ptr 0 0 0 0), (4, AV.int .i64 i), (5, AV.int .i64 (Int.ofNat 0))] = [(1, AV.ptr 0 0 0 0), (4, AV.int .i64 i), (5, AV.int .i64 (Int.ofNat 0))] ∧ lvB w ls ld zs zd :: H = lvB w ls ld zs zd :: H) (Tr.ite q (Tr.ok (Ex.ret, [(2, AV.int .i64 (Int.ofNat 15), none)], lvB w ls ld zs zd :: H)) (Tr.ok (Ex.normal, [(1, AV.ptr 0 0 0 0, none), (4, AV.int .i64 (addI .i64 i (Int.ofNat 1)), none)], lvB w ls ld zs zd :: H)))) (Tr.ok (Ex.exit 2, [(1, AV.ptr 0 0 0 0, none), (4, AV.int .i64 i, none), (73, AV.bool false, some 1)], lvB w ls ld zs zd :: H)) := by kernel_rfl
theorem t20e (n : Nat) (w : Int) (ls ld : Nat) (zs zd : Nat → Int) (H : Heap) (i : Int) : execT (cxD n 20 130) (il noCt n 0) (stopB noBT 4) noRT (part Try.f20 [1,1,1,1,0,1,0,0]) (hints [(1, AV.ptr 0 0 0 0), (4, AV.int IntKind.i64 i)]) (lvB w ls ld zs zd :: H) =
  Tr.ite (ltI i (Int.ofNat ls)) Tr.bad (Tr.ok (Ex.exit 2, [(1, AV.ptr 0 0 0 0, none), (4, AV.int .i64 i, none), (73, AV.bool false, some 1)], lvB w ls ld zs zd :: H)) := by kernel_rfl
theorem t20d (n : Nat) (w : Int) (ls ld : Nat) (zs zd : Nat → Int) (H : Heap) (j : Int) : execT (cxD (n+1) 20 130) (il noCt n 1) noBT noRT (part Try.f20 [1, 1, 1, 1, 1, 0, 1, 0, 0]) (hints [(1, AV.ptr 0 0 0 0), (6, AV.int IntKind.i64 j)]) (lvB w ls ld zs zd :: H) =
  Tr.ite (ltI j (Int.ofNat ld)) (Tr.req (inI j ld) (Tr.req (ltN (idO 0 j 3) (mulO ld 3)) (Tr.req (ltN (addO (idO 0 j 3) 1) (mulO ld 3)) (Tr.req (ltN (addO (idO 0 j 3) 2) (mulO ld 3)) (Tr.ite (leI (Int.ofNat 0) (zd (idO 0 j 3))) (Tr.ite (notB (ltI (zd (idO 0 j 3)) (Int.ofNat ls))) (Tr.ok (Ex.ret, [(2, AV.int .i64 (Int.ofNat 16), some 1)], { lock := false, bs := [(0, Blk.row (Row.G [AV.int .i64 w, slA 2 ls zs, slA 3 ld zd])), (0, Blk.row (Row.I .i64 [zd (idO 0 j 3), zd (addO (idO 0 j 3) 1), zd (addO (idO 0 j 3) 2)]))] } :: H)) (Tr.ite (ltI (zd (addO (idO 0 j 3) 1)) (Int.ofNat 1)) (Tr.ok (Ex.ret, [(2, AV.int .i64 (Int.ofNat 16), some 1)], { lock := false, bs := [(0, Blk.row (Row.G [AV.int .i64 w, slA 2 ls zs, slA 3 ld zd])), (0, Blk.row (Row.I .i64 [zd (idO 0 j 3), zd (addO (idO 0 j 3) 1), zd (addO (idO 0 j 3) 2)]))] } :: H)) (Tr.ite (ltI (zd (addO (idO 0 j 3) 2)) (zd (addO (idO 0 j 3) 1))) (Tr.ok (Ex.ret, [(2, AV.int .i64 (Int.ofNat 16), some 1)], { lock := false, bs := [(0, Blk.row (Row.G [AV.int .i64 w, slA 2 ls zs, slA 3 ld zd])), (0, Blk.row (Row.I .i64 [zd (idO 0 j 3), zd (addO (idO 0 j 3) 1), zd (addO (idO 0 j 3) 2)]))] } :: H)) (Tr.ite (ltI (Int.ofNat 10000) (zd (addO (idO 0 j 3) 2))) (Tr.ok (Ex.ret, [(2, AV.int .i64 (Int.ofNat 16), some 1)], { lock := false, bs := [(0, Blk.row (Row.G [AV.int .i64 w, slA 2 ls zs, slA 3 ld zd])), (0, Blk.row (Row.I .i64 [zd (idO 0 j 3), zd (addO (idO 0 j 3) 1), zd (addO (idO 0 j 3) 2)]))] } :: H)) (Tr.ok (Ex.normal, [(1, AV.ptr 0 0 0 0, none), (6, AV.int .i64 (addI .i64 j (Int.ofNat 1)), none)], { lock := false, bs := [(0, Blk.row (Row.G [AV.int .i64 w, slA 2 ls zs, slA 3 ld zd])), (0, Blk.row (Row.I .i64 [zd (idO 0 j 3), zd (addO (idO 0 j 3) 1), zd (addO (idO 0 j 3) 2)]))] } :: H)))))) (Tr.ok (Ex.ret, [(2, AV.int .i64 (Int.ofNat 16), some 1)], { lock := false, bs := [(0, Blk.row (Row.G [AV.int .i64 w, slA 2 ls zs, slA 3 ld zd])), (0, Blk.row (Row.I .i64 [zd (idO 0 j 3), zd (addO (idO 0 j 3) 1), zd (addO (idO 0 j 3) 2)]))] } :: H))))))) (Tr.ok (Ex.exit 6, [(1, AV.ptr 0 0 0 0, none), (6, AV.int .i64 j, none), (96, AV.bool false, some 1)], lvB w ls ld zs zd :: H)) := by kernel_rfl
theorem b20 : blocksOf (bodyOf Try.f20) = [(0, .loop (part Try.f20 [1,1,1,0,1,0,0])), (1, part Try.f20 [1, 1, 1, 0, 1, 0, 0, 1, 0, 0]), (2, .loop (part Try.f20 [1,1,1,1,0,1,0,0])), (3, part Try.f20 [1, 1, 1, 1, 0, 1, 0, 0, 1, 0, 0]), (4, .loop (part Try.f20 [1, 1, 1, 1, 0, 1, 0, 0, 1, 0, 0, 1, 0, 0])), (5, part Try.f20 [1, 1, 1, 1, 0, 1, 0, 0, 1, 0, 0, 1, 0, 0, 1, 0, 0]), (6, .loop (part Try.f20 [1, 1, 1, 1, 1, 0, 1, 0, 0])), (7, part Try.f20 [1, 1, 1, 1, 1, 0, 1, 0, 0, 1, 0, 0])] := by kernel_rfl
theorem b20b : blocksOf (part Try.f20 [1,1,1,1,0,1,0,0]) = [(3, part Try.f20 [1, 1, 1, 1, 0, 1, 0, 0, 1, 0, 0]), (4, .loop (part Try.f20 [1, 1, 1, 1, 0, 1, 0, 0, 1, 0, 0, 1, 0, 0])), (5, part Try.f20 [1, 1, 1, 1, 0, 1, 0, 0, 1, 0, 0, 1, 0, 0, 1, 0, 0])] := by kernel_rfl
section
variable (n : Nat) (w : Int) (ls ld : Nat) (zs zd : Nat → Int) (H : Heap)
theorem l20a (h1 : ls ≤ 10) (x : Res) (hx : (Tr.ite (exN (badS w zs) ls) (Tr.ok (.ret, [(2, AV.int IntKind.i64 3, none)], lvB w ls ld zs zd :: H)) (Tr.ok (.normal, hints [(1, AV.ptr 0 0 0 0), (3, AV.int IntKind.i64 (Int.ofNat ls)), (30, AV.bool false)], lvB w ls ld zs zd :: H))).run = some x) :
    exec (cxD n 20 130) (.block 0 (.loop (part Try.f20 [1,1,1,0,1,0,0]))) [(1, AV.ptr 0 0 0 0), (3, AV.int IntKind.i64 (Int.ofNat 0))] (lvB w ls ld zs zd :: H) = some x.st := by
  refine findB (il_no0 n) (noBT_ok _ _) (noRT_ok _ _) 0 (fun j => [(1, AV.ptr 0 0 0 0), (3, AV.int IntKind.i64 (Int.ofNat j))]) (fun _ => lvB w ls ld zs zd :: H) ls (badS w zs)
    (fun j => if j < ls then (.ret, [(2, AV.int IntKind.i64 3, some 1)], lvB w ls ld zs zd :: H) else (.exit 0, hints [(1, AV.ptr 0 0 0 0), (3, AV.int IntKind.i64 (Int.ofNat ls))] ++ [(30, AV.bool false, some 1)], lvB w ls ld zs zd :: H)) (by omega) (fun j hj hp => ?_) (fun j hj hp => ?_) ⟨?_, ?_⟩ x ?_
  · refine ⟨hints [(1, AV.ptr 0 0 0 0), (3, AV.int IntKind.i64 (Int.ofNat (j + 1)))], lvB w ls ld zs zd :: H, ?_, hints_eq _, rfl⟩
    simp only [badS, Bool.or_eq_false_iff, decide_eq_false_iff_not] at hp
    rw [t20a]
    simp (disch := omega) only [Tr.run_ite, Tr.run_req, Tr.run_ok, ltI_eq, leI_eq, inI_eq, ltN_eq, lt_mulO, idO_eq, addO_eq, addI_eq, decide_eq_true, decide_eq_false, cond_true, cond_false, Int.ofNat_eq_natCast, Int.toNat_natCast, Nat.zero_add, Int.natCast_one, wrap_j]
    rfl
  · rw [if_pos hj]
    refine ⟨?_, rfl⟩
    simp only [badS, Bool.or_eq_true, decide_eq_true_eq] at hp
    rw [t20a]
    by_cases e1 : zs (j * 2) < 1
    · simp (disch := omega) only [Tr.run_ite, Tr.run_req, Tr.run_ok, ltI_eq, leI_eq, inI_eq, ltN_eq, lt_mulO, idO_eq, addO_eq, addI_eq, decide_eq_true, decide_eq_false, cond_true, cond_false, Int.ofNat_eq_natCast, Int.toNat_natCast, Nat.zero_add]; rfl
    · by_cases e2 : w ≤ zs (j * 2)
      · simp (disch := omega) only [Tr.run_ite, Tr.run_req, Tr.run_ok, ltI_eq, leI_eq, inI_eq, ltN_eq, lt_mulO, idO_eq, addO_eq, addI_eq, decide_eq_true, decide_eq_false, cond_true, cond_false, Int.ofNat_eq_natCast, Int.toNat_natCast, Nat.zero_add]; rfl
      · by_cases e3 : zs (j * 2 + 1) < 0
        · simp (disch := omega) only [Tr.run_ite, Tr.run_req, Tr.run_ok, ltI_eq, leI_eq, inI_eq, ltN_eq, lt_mulO, idO_eq, addO_eq, addI_eq, decide_eq_true, decide_eq_false, cond_true, cond_false, Int.ofNat_eq_natCast, Int.toNat_natCast, Nat.zero_add]; rfl
        · simp (disch := omega) only [Tr.run_ite, Tr.run_req, Tr.run_ok, ltI_eq, leI_eq, inI_eq, ltN_eq, lt_mulO, idO_eq, addO_eq, addI_eq, decide_eq_true, decide_eq_false, cond_true, cond_false, Int.ofNat_eq_natCast, Int.toNat_natCast, Nat.zero_add]; rfl
  · rw [if_neg (by omega), t20a]
    simp (disch := omega) only [Tr.run_ite, ltI_eq, Int.ofNat_eq_natCast, decide_eq_false, cond_false, Tr.run_ok]
    rfl
  · rw [if_neg (by omega)]
  · rcases Tr.ite_some hx with ⟨hc, hx⟩ | ⟨hc, hx⟩
    · have := exN_true hc
      exact .inl ⟨this, by rw [if_pos this, ← Tr.ok_some hx]; rfl⟩
    · exact .inr ⟨exN_false hc, by rw [if_neg (by omega), ← Tr.ok_some hx]; rfl⟩
theorem l20c (h1 : ls ≤ 10) (i : Nat) (hi : i < ls) (x : Res) (hx : (Tr.ite (exN (eqS zs i) i) (Tr.ok (.ret, [(2, AV.int IntKind.i64 15, none)], lvB w ls ld zs zd :: H)) (Tr.ok (.normal, hints [(1, AV.ptr 0 0 0 0), (4, AV.int IntKind.i64 (Int.ofNat i)), (5, AV.int IntKind.i64 (Int.ofNat i)), (78, AV.bool false)], lvB w ls ld zs zd :: H))).run = some x) :
    exec (cxD n 20 130) (.block 4 (.loop (part Try.f20 [1, 1, 1, 1, 0, 1, 0, 0, 1, 0, 0, 1, 0, 0]))) [(1, AV.ptr 0 0 0 0), (4, AV.int IntKind.i64 (Int.ofNat i)), (5, AV.int IntKind.i64 (Int.ofNat 0))] (lvB w ls ld zs zd :: H) = some x.st := by
  refine findB (il_no0 n) (noBT_ok _ _) (noRT_ok _ _) 4 (fun j => [(1, AV.ptr 0 0 0 0), (4, AV.int IntKind.i64 (Int.ofNat i)), (5, AV.int IntKind.i64 (Int.ofNat j))]) (fun _ => lvB w ls ld zs zd :: H) i (eqS zs i)
    (fun j => if j < i then (.ret, [(2, AV.int IntKind.i64 15, some 1)], lvB w ls ld zs zd :: H) else (.exit 4, hints [(1, AV.ptr 0 0 0 0), (4, AV.int IntKind.i64 (Int.ofNat i)), (5, AV.int IntKind.i64 (Int.ofNat i))] ++ [(78, AV.bool false, some 1)], lvB w ls ld zs zd :: H)) (by omega) (fun j hj hp => ?_) (fun j hj hp => ?_) ⟨?_, ?_⟩ x ?_
  · refine ⟨hints [(1, AV.ptr 0 0 0 0), (4, AV.int IntKind.i64 (Int.ofNat i)), (5, AV.int IntKind.i64 (Int.ofNat (j + 1)))], lvB w ls ld zs zd :: H, ?_, hints_eq _, rfl⟩
    rw [t20c]
    simp (disch := omega) only [Tr.run_ite, Tr.run_req, Tr.run_ok, nS, eqI_eq, decide_eq_true, decide_eq_false, cond_true, cond_false, Int.ofNat_eq_natCast, wrap_j]
    simp only [eqS] at hp
    rw [hp]
    rfl
  · rw [if_pos hj]
    refine ⟨?_, rfl⟩
    rw [t20c]
    simp (disch := omega) only [Tr.run_ite, Tr.run_req, Tr.run_ok, nS, eqI_eq, decide_eq_true, decide_eq_false, cond_true, cond_false, Int.ofNat_eq_natCast, wrap_j]
    simp only [eqS] at hp
    rw [hp]
    rfl
  · rw [if_neg (by omega), t20c]
    simp (disch := omega) only [Tr.run_ite, Tr.run_req, Tr.run_ok, nS, eqI_eq, decide_eq_true, decide_eq_false, cond_true, cond_false, Int.ofNat_eq_natCast, wrap_j]
    rfl
  · rw [if_neg (by omega)]
  · rcases Tr.ite_some hx with ⟨hc, hx⟩ | ⟨hc, hx⟩
    · have := exN_true hc
      exact .inl ⟨this, by rw [if_pos this, ← Tr.ok_some hx]; rfl⟩
    · exact .inr ⟨exN_false hc, by rw [if_neg (by omega), ← Tr.ok_some hx]; rfl⟩
theorem l20b (h1 : ls ≤ 10) (x : Res) (hx : (Tr.ite (exN (fun i => exN (eqS zs i) i) ls) (Tr.ok (.ret, [(2, AV.int IntKind.i64 15, none)], lvB w ls ld zs zd :: H)) (Tr.ok (.normal, hints [(1, AV.ptr 0 0 0 0), (4, AV.int IntKind.i64 (Int.ofNat ls)), (73, AV.bool false)], lvB w ls ld zs zd :: H))).run = some x) :
    exec (cxD n 20 130) (.block 2 (.loop (part Try.f20 [1,1,1,1,0,1,0,0]))) [(1, AV.ptr 0 0 0 0), (4, AV.int IntKind.i64 (Int.ofNat 0))] (lvB w ls ld zs zd :: H) = some x.st := by
  have hB : ∀ i : Nat, i < ls → BlkT.Ok _ (cxD n 20 130) (part Try.f20 [1,1,1,1,0,1,0,0]) := fun i hi => blkE_ok (noBT_ok _ _) (id0 := 4) (B := .loop (part Try.f20 [1, 1, 1, 1, 0, 1, 0, 0, 1, 0, 0, 1, 0, 0])) (fun b hb => by rw [b20b] at hb; simpa using hb) (fun x hx => l20c n w ls ld zs zd H h1 i hi x hx)
  have step : ∀ j, j < ls → ∀ y, _ → exec (cxD n 20 130) (part Try.f20 [1,1,1,1,0,1,0,0]) [(1, AV.ptr 0 0 0 0), (4, AV.int IntKind.i64 (Int.ofNat j))] (lvB w ls ld zs zd :: H) = some (Res.st y) := fun j hj y hy => ex_of (t20b n w ls ld zs zd H (Int.ofNat j) (exN (eqS zs j) j)) (il_no0 n) (hB j hj) (noRT_ok _ _) (x := y) hy
  refine findE 2 (fun j => [(1, AV.ptr 0 0 0 0), (4, AV.int IntKind.i64 (Int.ofNat j))]) (fun _ => lvB w ls ld zs zd :: H) ls (fun i => exN (eqS zs i) i)
    (fun j => if j < ls then (.ret, [(2, AV.int IntKind.i64 15, none)], lvB w ls ld zs zd :: H) else (.exit 2, hints [(1, AV.ptr 0 0 0 0), (4, AV.int IntKind.i64 (Int.ofNat ls))] ++ [(73, AV.bool false, some 1)], lvB w ls ld zs zd :: H)) (by omega) (fun j hj hp => ?_) (fun j hj hp => ?_) ⟨?_, ?_⟩ x ?_
  · refine ⟨_, _, step j hj (.normal, hints [(1, AV.ptr 0 0 0 0), (4, AV.int IntKind.i64 (Int.ofNat (j + 1)))], lvB w ls ld zs zd :: H) ?_, rfl, rfl⟩
    rw [Tr.run_ite, ltI_eq, decide_eq_true (by simpa using hj), cond_true, Tr.run_reqP ⟨rfl, rfl⟩, hp]
    simp (disch := omega) only [Tr.run_ite, Tr.run_req, Tr.run_ok, nS, eqI_eq, decide_eq_true, decide_eq_false, cond_true, cond_false, Int.ofNat_eq_natCast, wrap_j]
    rfl
  · rw [if_pos hj]
    refine ⟨step j hj (.ret, [(2, AV.int IntKind.i64 15, none)], lvB w ls ld zs zd :: H) ?_, rfl⟩
    rw [Tr.run_ite, ltI_eq, decide_eq_true (by simpa using hj), cond_true, Tr.run_reqP ⟨rfl, rfl⟩, hp]
    rfl
  · rw [if_neg (by omega)]
    refine ex_of (t20e n w ls ld zs zd H (Int.ofNat ls)) (il_no0 n) (stopB_ok (noBT_ok _ _) 4) (noRT_ok _ _) ?_
    simp (disch := omega) only [Tr.run_ite, Tr.run_req, Tr.run_ok, nS, eqI_eq, decide_eq_true, decide_eq_false, cond_true, cond_false, Int.ofNat_eq_natCast, wrap_j]
    rfl
  · rw [if_neg (by omega)]
  · rcases Tr.ite_some hx with ⟨hc, hx⟩ | ⟨hc, hx⟩
    · have := exN_true hc
      exact .inl ⟨this, by rw [if_pos this, ← Tr.ok_some hx]⟩
    · exact .inr ⟨exN_false hc, by rw [if_neg (by omega), ← Tr.ok_some hx]; rfl⟩
theorem l20d (h1 : ld ≤ 40) (x : Res) (hx : (Tr.ite (exN (badD ls zd) ld) (Tr.ok (.ret, [(2, AV.int IntKind.i64 16, none)], lvD w ls ld zs zd (zd (fN (badD ls zd) ld 0 * 3)) (zd (fN (badD ls zd) ld 0 * 3 + 1)) (zd (fN (badD ls zd) ld 0 * 3 + 2)) :: H)) (Tr.ok (.normal, hints [(1, AV.ptr 0 0 0 0), (6, AV.int IntKind.i64 (Int.ofNat ld)), (96, AV.bool false)], lvB w ls ld zs zd :: H))).run = some x) :
    exec (cxD (n + 1) 20 130) (.block 6 (.loop (part Try.f20 [1, 1, 1, 1, 1, 0, 1, 0, 0]))) [(1, AV.ptr 0 0 0 0), (6, AV.int IntKind.i64 (Int.ofNat 0))] (lvB w ls ld zs zd :: H) = some x.st := by
  refine findB (il_no n 1) (noBT_ok _ _) (noRT_ok _ _) 6 (fun j => [(1, AV.ptr 0 0 0 0), (6, AV.int IntKind.i64 (Int.ofNat j))]) (fun _ => lvB w ls ld zs zd :: H) ld (badD ls zd)
    (fun j => if j < ld then (.ret, [(2, AV.int IntKind.i64 16, some 1)], lvD w ls ld zs zd (zd (j * 3)) (zd (j * 3 + 1)) (zd (j * 3 + 2)) :: H) else (.exit 6, hints [(1, AV.ptr 0 0 0 0), (6, AV.int IntKind.i64 (Int.ofNat ld))] ++ [(96, AV.bool false, some 1)], lvB w ls ld zs zd :: H)) (by omega) (fun j hj hp => ?_) (fun j hj hp => ?_) ⟨?_, ?_⟩ x ?_
  · refine ⟨hints [(1, AV.ptr 0 0 0 0), (6, AV.int IntKind.i64 (Int.ofNat (j + 1)))], lvD w ls ld zs zd (zd (j * 3)) (zd (j * 3 + 1)) (zd (j * 3 + 2)) :: H, ?_, hints_eq _, rfl⟩
    simp only [badD, Bool.or_eq_false_iff, decide_eq_false_iff_not] at hp
    rw [t20d]
    simp (disch := omega) only [Tr.run_ite, Tr.run_req, Tr.run_ok, nS, eqI_eq, decide_eq_true, decide_eq_false, cond_true, cond_false, Int.ofNat_eq_natCast, wrap_j]
    rfl
  · rw [if_pos hj]
    refine ⟨?_, rfl⟩
    simp only [badD, Bool.or_eq_true, decide_eq_true_eq] at hp
    rw [t20d]
    by_cases e1 : zd (j * 3) < 0 <;> by_cases e2 : (ls : Int) ≤ zd (j * 3) <;> by_cases e3 : zd (j * 3 + 1) < 1 <;> by_cases e4 : zd (j * 3 + 2) < zd (j * 3 + 1) <;> by_cases e5 : 10000 < zd (j * 3 + 2) <;> first
      | (exfalso; omega)
      | (simp (disch := omega) only [Tr.run_ite, Tr.run_req, Tr.run_ok, nS, eqI_eq, decide_eq_true, decide_eq_false, cond_true, cond_false, Int.ofNat_eq_natCast, wrap_j]; rfl)
  · rw [if_neg (by omega), t20d]
    simp (disch := omega) only [Tr.run_ite, Tr.run_req, Tr.run_ok, nS, eqI_eq, decide_eq_true, decide_eq_false, cond_true, cond_false, Int.ofNat_eq_natCast, wrap_j]
    rfl
  · rw [if_neg (by omega)]
  · rcases Tr.ite_some hx with ⟨hc, hx⟩ | ⟨hc, hx⟩
    · have := exN_true hc
      exact .inl ⟨this, by rw [if_pos this, ← Tr.ok_some hx]; rfl⟩
    · exact .inr ⟨exN_false hc, by rw [if_neg (by omega), ← Tr.ok_some hx]; rfl⟩
theorem u20 (n : Nat) (w : Int) (ls ld : Nat) (zs zd : Nat → Int) (H : Heap) (q1 q2 q3 : Bool) (x y z : Int) : bodyT Try.prog (cd (n+1)) 100000 20 Try.f20 (Kt.kt 20) (il noCt n 1) (blkE (blkE (blkE noBT 6 [(1, AV.ptr 0 0 0 0), (6, AV.int IntKind.i64 (Int.ofNat 0))] (lvB w ls ld zs zd :: H) (Tr.ite q3 (Tr.ok (.ret, [(2, AV.int IntKind.i64 16, none)], lvD w ls ld zs zd x y z :: H)) (Tr.ok (.normal, hints [(1, AV.ptr 0 0 0 0), (6, AV.int IntKind.i64 (Int.ofNat ld)), (96, AV.bool false)], lvB w ls ld zs zd :: H)))) 2 [(1, AV.ptr 0 0 0 0), (4, AV.int IntKind.i64 (Int.ofNat 0))] (lvB w ls ld zs zd :: H) (Tr.ite q2 (Tr.ok (.ret, [(2, AV.int IntKind.i64 15, none)], lvB w ls ld zs zd :: H)) (Tr.ok (.normal, hints [(1, AV.ptr 0 0 0 0), (4, AV.int IntKind.i64 (Int.ofNat ls)), (73, AV.bool false)], lvB w ls ld zs zd :: H)))) 0 [(1, AV.ptr 0 0 0 0), (3, AV.int IntKind.i64 (Int.ofNat 0))] (lvB w ls ld zs zd :: H) (Tr.ite q1 (Tr.ok (.ret, [(2, AV.int IntKind.i64 3, none)], lvB w ls ld zs zd :: H)) (Tr.ok (.normal, hints [(1, AV.ptr 0 0 0 0), (3, AV.int IntKind.i64 (Int.ofNat ls)), (30, AV.bool false)], lvB w ls ld zs zd :: H)))) noRT [(bathA w ls zs ld zd, none)] H =
  Tr.ite (ltI w (Int.ofNat 2)) (Tr.ok ((AV.int .i64 (Int.ofNat 2), some 1), H)) (Tr.ite (ltI (Int.ofNat 1000) w) (Tr.ok ((AV.int .i64 (Int.ofNat 2), some 1), H)) (Tr.ite (ltI (Int.ofNat 10) (Int.ofNat ls)) (Tr.ok ((AV.int .i64 (Int.ofNat 6), some 1), H)) (Tr.ite (ltI (Int.ofNat 40) (Int.ofNat ld)) (Tr.ok ((AV.int .i64 (Int.ofNat 6), some 1), H)) (Tr.reqP ([(1, AV.ptr 0 0 0 0), (3, AV.int .i64 (Int.ofNat 0))] = [(1, AV.ptr 0 0 0 0), (3, AV.int .i64 (Int.ofNat 0))] ∧ lvB w ls ld zs zd :: H = lvB w ls ld zs zd :: H) (Tr.ite q1 (Tr.ok ((AV.int .i64 (Int.ofNat 3), none), H)) (Tr.reqP ([(1, AV.ptr 0 0 0 0), (4, AV.int .i64 (Int.ofNat 0))] = [(1, AV.ptr 0 0 0 0), (4, AV.int .i64 (Int.ofNat 0))] ∧ lvB w ls ld zs zd :: H = lvB w ls ld zs zd :: H) (Tr.ite q2 (Tr.ok ((AV.int .i64 (Int.ofNat 15), none), H)) (Tr.reqP ([(1, AV.ptr 0 0 0 0), (6, AV.int .i64 (Int.ofNat 0))] = [(1, AV.ptr 0 0 0 0), (6, AV.int .i64 (Int.ofNat 0))] ∧ lvB w ls ld zs zd :: H = lvB w ls ld zs zd :: H) (Tr.ite q3 (Tr.ok ((AV.int .i64 (Int.ofNat 16), none), H)) (Tr.ok ((AV.int .i64 (Int.ofNat 0), some 1), H))))))))))) := by kernel_rfl
theorem s20 : ∀ id b, (id, b) ∈ blocksOf (bodyOf Try.f20) → (id = 0 → b = .loop (part Try.f20 [1,1,1,0,1,0,0])) ∧ (id = 2 → b = .loop (part Try.f20 [1,1,1,1,0,1,0,0])) ∧ (id = 6 → b = .loop (part Try.f20 [1, 1, 1, 1, 1, 0, 1, 0, 0])) := by
  intro id b hb
  rw [b20] at hb
  simp only [List.mem_cons, Prod.mk.injEq, List.not_mem_nil, or_false] at hb
  rcases hb with ⟨rfl, rfl⟩ | ⟨rfl, rfl⟩ | ⟨rfl, rfl⟩ | ⟨rfl, rfl⟩ | ⟨rfl, rfl⟩ | ⟨rfl, rfl⟩ | ⟨rfl, rfl⟩ | ⟨rfl, rfl⟩ <;> refine ⟨fun h => ?_, fun h => ?_, fun h => ?_⟩ <;> first | rfl | exact absurd h (by decide)
theorem v20 (n : Nat) (w : Int) (ls ld : Nat) (zs zd : Nat → Int) (H : Heap) : bodyT Try.prog (cd (n+1)) 100000 20 Try.f20 (Kt.kt 20) (il noCt n 1) (stopB (stopB (stopB noBT 6) 2) 0) noRT [(bathA w ls zs ld zd, none)] H =
  Tr.ite (ltI w (Int.ofNat 2)) (Tr.ok ((AV.int .i64 (Int.ofNat 2), some 1), H)) (Tr.ite (ltI (Int.ofNat 1000) w) (Tr.ok ((AV.int .i64 (Int.ofNat 2), some 1), H)) (Tr.ite (ltI (Int.ofNat 10) (Int.ofNat ls)) (Tr.ok ((AV.int .i64 (Int.ofNat 6), some 1), H)) (Tr.ite (ltI (Int.ofNat 40) (Int.ofNat ld)) (Tr.ok ((AV.int .i64 (Int.ofNat 6), some 1), H)) Tr.bad))) := by kernel_rfl
theorem c20 : cd (n + 2) (.fn 20) [bathA w ls zs ld zd] H = some (.int .i64 (chkB w ls ld zs zd), H) := by
  have out : (¬ ls ≤ 10 ∨ ¬ ld ≤ 40) → cd (n + 2) (.fn 20) [bathA w ls zs ld zd] H = some (.int .i64 (chkB w ls ld zs zd), H) := by
    intro ho
    refine fn_of (n := n + 1) Try.func20 rfl rfl rfl (v20 n w ls ld zs zd H) (il_no n 1) (stopB_ok (stopB_ok (stopB_ok (noBT_ok _ _) 6) 2) 0) (noRT_ok _ _) (y := ((.int .i64 (chkB w ls ld zs zd), some 1), H)) ?_
    by_cases e1 : w < 2 <;> by_cases e2 : 1000 < w <;> by_cases e3 : 10 < ls <;> by_cases e4 : 40 < ld <;> first
      | (exfalso; omega)
      | (simp (disch := omega) only [Tr.run_ite, Tr.run_req, Tr.run_ok, nS, eqI_eq, decide_eq_true, decide_eq_false, cond_true, cond_false, Int.ofNat_eq_natCast, wrap_j, chkB, e1, e2, e3, e4, decide_true, decide_false]; rfl)
  by_cases hls : ls ≤ 10
  · by_cases hld : ld ≤ 40
    · refine fn_of (n := n + 1) Try.func20 rfl rfl rfl (u20 n w ls ld zs zd H (exN (badS w zs) ls) (exN (fun i => exN (eqS zs i) i) ls) (exN (badD ls zd) ld) (zd (fN (badD ls zd) ld 0 * 3)) (zd (fN (badD ls zd) ld 0 * 3 + 1)) (zd (fN (badD ls zd) ld 0 * 3 + 2))) (il_no n 1)
        (blkE_ok (blkE_ok (blkE_ok (noBT_ok _ _) (fun b hb => (s20 _ b hb).2.2 rfl) (fun x hx => l20d n w ls ld zs zd H hld x hx)) (fun b hb => (s20 _ b hb).2.1 rfl) (fun x hx => l20b (n + 1) w ls ld zs zd H hls x hx)) (fun b hb => (s20 _ b hb).1 rfl) (fun x hx => l20a (n + 1) w ls ld zs zd H hls x hx)) (noRT_ok _ _) (y := ((.int .i64 (chkB w ls ld zs zd), if w < 2 then some 1 else if 1000 < w then some 1 else if exN (badS w zs) ls then none else if exN (fun i => exN (eqS zs i) i) ls then none else if exN (badD ls zd) ld then none else some 1), H)) ?_
      have e3 : ¬ 10 < ls := by omega
      have e4 : ¬ 40 < ld := by omega
      by_cases e1 : w < 2
      · simp (disch := omega) only [Tr.run_ite, Tr.run_req, Tr.run_ok, nS, eqI_eq, decide_eq_true, decide_eq_false, cond_true, cond_false, Int.ofNat_eq_natCast, wrap_j, chkB, e1, decide_true, if_true]
        rfl
      · by_cases e2 : 1000 < w
        · simp (disch := omega) only [Tr.run_ite, Tr.run_req, Tr.run_ok, nS, eqI_eq, decide_eq_true, decide_eq_false, cond_true, cond_false, Int.ofNat_eq_natCast, wrap_j, chkB, e1, e2, decide_true, decide_false, if_true, if_false]
          rfl
        · rw [Tr.run_ite, ltI_eq, decide_eq_false (by simpa using e1), cond_false, Tr.run_ite, ltI_eq, decide_eq_false (by simpa using e2), cond_false, Tr.run_ite, ltI_eq, decide_eq_false (by simp; omega), cond_false, Tr.run_ite, ltI_eq, decide_eq_false (by simp; omega), cond_false, Tr.run_reqP ⟨rfl, rfl⟩]
          simp only [chkB, e1, e2, e3, e4, decide_false, cond_false, if_false]
          cases exN (badS w zs) ls with
          | true => rfl
          | false =>
            rw [Tr.run_ite, cond_false, Tr.run_reqP (by simp)]
            cases exN (fun i => exN (eqS zs i) i) ls with
            | true => rfl
            | false =>
              rw [Tr.run_ite, cond_false, Tr.run_reqP (by simp)]
              cases exN (badD ls zd) ld <;> rfl
    · exact out (.inr hld)
  · exact out (.inl hls)
end
end Go.Eng
end
