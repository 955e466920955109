/- Drop: newTable: sizes, touch. -/
import Derived.Test.YtjmjkhpfipglcaaV12DrFx3
import Derived.Test.YtjmjkhpfipglcaaV12EngArgx3
namespace Go.Eng
open Go.Proofs
set_option linter.unusedVariables false
set_option linter.unusedSimpArgs false
set_option maxRecDepth 100000
noncomputable def lvT (w : Int) (ls ld : Nat) (zs zd sz kd : Nat → Int) (rest : List (Nat × Blk)) : Lvl := ⟨false, (0, .row (.G [.int .i64 w, slA 2 ls zs, slA 3 ld zd])) :: (0, .row (.M [.arr .i64 sz (mulO ls 2)])) :: (0, .row (.M [.one (.int .i64 w), .one (slA 2 ls zs), .one (slA 3 ld zd), .one (.slc 0 1 0 0 2 ls (some ls)), .arr .i64 kd 144])) :: (0, .row (.G [.ptr 0 2 0 0])) :: rest⟩
noncomputable def fr77 (ld : Nat) (zd : Nat → Int) (j : Int) : Frm := [(3, AV.ptr 0 3 0 0), (17, slA 3 ld zd), (18, AV.int .i64 (Int.ofNat ld)), (19, AV.int .i64 j)]
noncomputable def cxR (n f nt d i : Nat) : Cx := ⟨Try.prog, cd n, 100000, f, nt, Kt.kt f, some (d, i)⟩
noncomputable def cap0 (s : Nat) : AV := .ptrT (some s) (.G [.ptr 0 2 0 0]) 0
noncomputable def lvP (p : Int) (rest : List (Nat × Blk)) : Lvl := ⟨false, (0, .row (.I .i64 [p])) :: rest⟩
def g112 (bo : Int → Int → Int → Int → Int → Int → Bool) : List AV → Option (Prop × AV)
  | [.int .i64 a, .int .i64 c, .agg (.I .i64 [x, y]), .agg (.I .i64 [x', y'])] => some (True, .bool (bo a c x y x' y'))
  | _ => none
/-- The heap in which newTable's inner rounds run. -/
noncomputable def hT (pp w : Int) (ls ld : Nat) (zs zd sz kd : Nat → Int) (H : Heap) (L Li : ALoop) : Heap := lv0 :: lv0 :: lvP pp [(0, .loop Li)] :: lv0 :: lvT w ls ld zs zd sz kd [(0, .loop L)] :: H
/-- The sizes' cells behind the first j drops. -/
def szs (zd : Nat → Int) : Nat → Nat → Int
  | 0 => fun _ => 0
  | j + 1 => fun i => if i = (zd (j * 3)).toNat * 2 + 1 then IntKind.i64.wrap (szs zd j ((zd (j * 3)).toNat * 2 + 1) + zd (j * 3 + 2)) else if i = (zd (j * 3)).toNat * 2 then IntKind.i64.wrap (szs zd j ((zd (j * 3)).toNat * 2) + zd (j * 3 + 1)) else szs zd j i
theorem t77 (n : Nat) (w : Int) (ls ld : Nat) (zs zd sz kd : Nat → Int) (H : Heap) (j : Int) : execT (cxD n 77 94) (il noCt n 0) noBT noRT (part Try.f77 [1,1,0,1,0,0]) (hints (fr77 ld zd j)) (lvT w ls ld zs zd sz kd [] :: H) =
  Tr.ite (ltI j (Int.ofNat ld)) (Tr.req (inI j ld) (Tr.req (ltN (idO 0 j 3) (mulO ld 3)) (Tr.req (ltN (addO (idO 0 j 3) 1) (mulO ld 3)) (Tr.req (ltN (addO (idO 0 j 3) 2) (mulO ld 3)) (Tr.req (inI (zd (idO 0 j 3)) ls) (Tr.req (eqN 0 0) (Tr.req (ltN (idO 0 (zd (idO 0 j 3)) 2) (mulO ls 2)) (Tr.req (eqN 0 0) (Tr.req (ltN (idO 0 (zd (idO 0 j 3)) 2) (mulO ls 2)) (Tr.req (andB (leN 0 0) (leN 0 1)) (Tr.req (eqN 0 0) (Tr.req (ltN (addO (idO 0 (zd (idO 0 j 3)) 2) 1) (mulO ls 2)) (Tr.req (eqN 0 0) (Tr.req (ltN (addO (idO 0 (zd (idO 0 j 3)) 2) 1) (mulO ls 2)) (Tr.req (andB (leN 0 0) (leN 0 1)) (Tr.ok (Ex.normal, [(3, AV.ptr 0 3 0 0, none), (17, slA 3 ld zd, none), (18, AV.int .i64 (Int.ofNat ld), none), (19, AV.int .i64 (addI .i64 j (Int.ofNat 1)), none)], { lock := false, bs := [(0, Blk.row (Row.G [AV.int .i64 w, slA 2 ls zs, slA 3 ld zd])), (0, Blk.row (Row.M [Seg.arr .i64 (updO (updO sz (idO 0 (zd (idO 0 j 3)) 2) (addI .i64 (sz (idO 0 (zd (idO 0 j 3)) 2)) (zd (addO (idO 0 j 3) 1)))) (addO (idO 0 (zd (idO 0 j 3)) 2) 1) (addI .i64 (updO sz (idO 0 (zd (idO 0 j 3)) 2) (addI .i64 (sz (idO 0 (zd (idO 0 j 3)) 2)) (zd (addO (idO 0 j 3) 1))) (addO (idO 0 (zd (idO 0 j 3)) 2) 1)) (zd (addO (idO 0 j 3) 2)))) (mulO ls 2)])), (0, Blk.row (Row.M [Seg.one (AV.int .i64 w), Seg.one (slA 2 ls zs), Seg.one (slA 3 ld zd), Seg.one (AV.slc 0 1 0 0 2 ls (some ls)), Seg.arr .i64 kd 144])), (0, Blk.row (Row.G [AV.ptr 0 2 0 0])), (0, Blk.row (Row.I .i64 [zd (idO 0 j 3), zd (addO (idO 0 j 3) 1), zd (addO (idO 0 j 3) 2)]))] } :: H))))))))))))))))) (Tr.ok (Ex.exit 0, [(3, AV.ptr 0 3 0 0, none), (17, slA 3 ld zd, none), (18, AV.int .i64 (Int.ofNat ld), none), (19, AV.int .i64 j, none), (20, AV.bool false, some 1)], { lock := false, bs := [(0, Blk.row (Row.G [AV.int .i64 w, slA 2 ls zs, slA 3 ld zd])), (0, Blk.row (Row.M [Seg.arr .i64 sz (mulO ls 2)])), (0, Blk.row (Row.M [Seg.one (AV.int .i64 w), Seg.one (slA 2 ls zs), Seg.one (slA 3 ld zd), Seg.one (AV.slc 0 1 0 0 2 ls (some ls)), Seg.arr .i64 kd 144])), (0, Blk.row (Row.G [AV.ptr 0 2 0 0]))] } :: H)) := by kernel_rfl
theorem u112 (n : Nat) (a c x y x' y' : Int) (H : Heap) : bodyT Try.prog (cd n) 100000 112 Try.f112 (Kt.kt 112) (il noCt n 0) noBT noRT [(.int .i64 a, none), (.int .i64 c, none), (.agg (.I .i64 [x, y]), none), (.agg (.I .i64 [x', y']), none)] H =
  Tr.ite (ltI (Int.ofNat 0) c) (Tr.ite (leI (subI .i64 (subI .i64 (addI .i64 (mulI .i64 (subI .i64 x x') (subI .i64 x x')) (mulI .i64 (subI .i64 y y') (subI .i64 y y'))) a) c) (Int.ofNat 0)) (Tr.ok ((AV.bool true, some 1), H)) (Tr.ok ((AV.bool (leI (mulI .i64 (subI .i64 (subI .i64 (addI .i64 (mulI .i64 (subI .i64 x x') (subI .i64 x x')) (mulI .i64 (subI .i64 y y') (subI .i64 y y'))) a) c) (subI .i64 (subI .i64 (addI .i64 (mulI .i64 (subI .i64 x x') (subI .i64 x x')) (mulI .i64 (subI .i64 y y') (subI .i64 y y'))) a) c)) (mulI .i64 (mulI .i64 (Int.ofNat 4) a) c)), none), H))) (Tr.ok ((AV.bool false, some 1), H)) := by kernel_rfl
/-- Do two spots of these sizes touch? -/
def bothT (a c x y x' y' : Int) : Bool :=
  let wr := IntKind.i64.wrap
  let lack := wr (wr (wr (wr (wr (x - x') * wr (x - x')) + wr (wr (y - y') * wr (y - y'))) - a) - c)
  decide (0 < c) && (decide (lack ≤ 0) || decide (wr (lack * lack) ≤ wr (wr (4 * a) * c)))
theorem c112 (n : Nat) (a c x y x' y' : Int) (H : Heap) : cd (n + 1) (.fn 112) [.int .i64 a, .int .i64 c, .agg (.I .i64 [x, y]), .agg (.I .i64 [x', y'])] H = some (.bool (bothT a c x y x' y'), H) := by
  refine fn_of Try.func112 rfl rfl rfl (u112 n a c x y x' y' H) (il_no0 n) (noBT_ok _ _) (noRT_ok _ _) (y := ((.bool (bothT a c x y x' y'), if 0 < c then (if leI (subI .i64 (subI .i64 (addI .i64 (mulI .i64 (subI .i64 x x') (subI .i64 x x')) (mulI .i64 (subI .i64 y y') (subI .i64 y y'))) a) c) 0 then some 1 else none) else some 1), H)) ?_
  have e0 : Int.ofNat 0 = 0 := rfl
  have e4 : Int.ofNat 4 = 4 := rfl
  simp only [Tr.run_ite, bothT, ltI_eq, leI_eq, subI_eq, addI_eq, mulI_eq, Tr.run_ok, e0, e4]
  by_cases h1 : 0 < c
  · simp only [h1, decide_true, cond_true, Bool.true_and, if_true]
    generalize IntKind.i64.wrap (IntKind.i64.wrap (IntKind.i64.wrap (IntKind.i64.wrap (IntKind.i64.wrap (x - x') * IntKind.i64.wrap (x - x')) + IntKind.i64.wrap (IntKind.i64.wrap (y - y') * IntKind.i64.wrap (y - y'))) - a) - c) = lack
    by_cases h2 : lack ≤ 0
    · simp only [h2, decide_true, cond_true, Bool.true_or, if_true]
    · simp only [h2, decide_false, cond_false, Bool.false_or, Bool.false_eq_true, if_false]
  · simp only [h1, decide_false, cond_false, Bool.false_and, if_false]
section
variable (n : Nat) (w : Int) (ls ld : Nat) (zs zd kd : Nat → Int) (H : Heap)
theorem l77 (h1 : ld ≤ 40) (hd : ∀ j, j < ld → 0 ≤ zd (j * 3) ∧ zd (j * 3) < ls) : exec (cxD n 77 94) (.block 0 (.loop (part Try.f77 [1,1,0,1,0,0]))) (fr77 ld zd (Int.ofNat 0)) (lvT w ls ld zs zd (szs zd 0) kd [] :: H) = some (.normal, fr77 ld zd (Int.ofNat ld) ++ [(20, AV.bool false)], lvT w ls ld zs zd (szs zd ld) kd [] :: H) := by
  refine forB (il_no0 n) (noBT_ok _ _) (noRT_ok _ _) 0 (fun j => fr77 ld zd (Int.ofNat j)) (fun j => lvT w ls ld zs zd (szs zd j) kd [] :: H) ld (.exit 0, hints (fr77 ld zd (Int.ofNat ld)) ++ [(20, AV.bool false, some 1)], lvT w ls ld zs zd (szs zd ld) kd [] :: H) (by omega) (fun j hj => ?_) ⟨?_, rfl⟩
  · obtain ⟨d1, d2⟩ := hd j hj
    refine ⟨hints (fr77 ld zd (Int.ofNat (j + 1))), lvT w ls ld zs zd (szs zd (j + 1)) kd [(0, .row (.I .i64 [zd (j * 3), zd (j * 3 + 1), zd (j * 3 + 2)]))] :: H, ?_, hints_eq _, rfl⟩
    rw [t77]
    have hz : updO (updO (szs zd j) ((zd (j * 3)).toNat * 2) (IntKind.i64.wrap (szs zd j ((zd (j * 3)).toNat * 2) + zd (j * 3 + 1)))) ((zd (j * 3)).toNat * 2 + 1) (IntKind.i64.wrap (updO (szs zd j) ((zd (j * 3)).toNat * 2) (IntKind.i64.wrap (szs zd j ((zd (j * 3)).toNat * 2) + zd (j * 3 + 1))) ((zd (j * 3)).toNat * 2 + 1) + zd (j * 3 + 2))) = szs zd (j + 1) := by
      rw [updO_fn]
      funext i
      simp only [szs]
      by_cases e1 : i = (zd (j * 3)).toNat * 2 + 1
      · rw [if_pos e1, if_pos e1, if_neg (by omega)]
      · rw [if_neg e1, if_neg e1]
    simp (disch := omega) only [Tr.run_ite, Tr.run_req, Tr.run_ok, nS, eqI_eq, decide_eq_true, decide_eq_false, cond_true, cond_false, Int.ofNat_eq_natCast, wrap_j, ver0, eqN_eq, decide_true]
    rw [hz]
    rfl
  · rw [t77]
    simp (disch := omega) only [Tr.run_ite, Tr.run_req, Tr.run_ok, nS, eqI_eq, decide_eq_true, decide_eq_false, cond_true, cond_false, Int.ofNat_eq_natCast, wrap_j, ver0]
    rfl
end
end Go.Eng
