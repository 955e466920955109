/- Drop: newTable: the inner loop. -/
import Derived.Test.YtjmjkhpfipglcaaV2DrK
namespace Go.Eng
open Go.Proofs
set_option linter.unusedVariables false
set_option linter.unusedSimpArgs false
set_option maxRecDepth 100000
/-- The kinds behind j rounds of the inner loop. -/
def kdI (w : Int) (zs sz : Nat → Int) (p : Int) (kd : Nat → Int) : Nat → Nat → Int
  | 0 => kd
  | j + 1 => kdS w zs sz p ((j : Int) - 2) (kdI w zs sz p kd j)
theorem wrap_p (j : Nat) (h : j < 1000) : IntKind.i64.wrap (((j : Int) - 2) + 1) = ((j + 1 : Nat) : Int) - 2 := by
  rw [show ((j : Int) - 2 + 1) = ((j + 1 : Nat) : Int) - 2 by omega]
  exact Go.IntWalk.i64_in _ (by omega)
noncomputable def gI (pp w : Int) (ls ld : Nat) (zs zd sz kd : Nat → Int) (H : Heap) (L Li : ALoop) : Heap := lv0 :: lvP pp [(0, .loop Li)] :: lv0 :: lvT w ls ld zs zd sz kd [(0, .loop L)] :: H
noncomputable def frL (j : Nat) : Frm := [(0, .yld 1 1), (1, .ptrT (some 1) (.G [.ptr 2 2 0 0]) 0), (3, .int .i64 ((j : Int) - 2))]
theorem b109 : ∀ b, (0, b) ∈ blocksOf (bodyOf Try.f109) → b = .loop (part Try.f109 [1,0,0]) := by
  have : blocksOf (bodyOf Try.f109) = [(0, .loop (part Try.f109 [1,0,0])), (1, part Try.f109 [1, 0, 0, 1, 0, 0])] := by kernel_rfl
  intro b hb; rw [this] at hb; simpa using hb
theorem t109x (n : Nat) (pp w : Int) (ls ld : Nat) (zs zd sz kd : Nat → Int) (H : Heap) (L Li : ALoop) (q : Int) : execT (cxD n 109 18) (il noCt n 0) noBT noRT (part Try.f109 [1,0,0]) (hints [(0, .yld 1 1), (1, .ptrT (some 1) (.G [.ptr 2 2 0 0]) 0), (3, .int .i64 q)]) (lv0 :: lvP pp [(0, .loop Li)] :: lv0 :: lvT w ls ld zs zd sz kd [(0, .loop L)] :: H) =
  Tr.ite (ltI q (Int.ofNat ls)) Tr.bad
    (Tr.ok
      (Ex.exit 0, [(0, AV.yld 1 1, none), (1, AV.ptrT (some 1) (Row.G [AV.ptr 2 2 0 0]) 0, none), (3, AV.int IntKind.i64 q, none), (11, AV.bool false, some 1)],
        { lock := false, bs := [] } ::
          { lock := false, bs := [(0, Blk.row (Row.I IntKind.i64 [pp])), (0, Blk.loop Li)] } ::
            { lock := false, bs := [] } ::
              { lock := false,
                  bs :=
                    [(0, Blk.row (Row.G [AV.int IntKind.i64 w, AV.slcT none (Row.M [Seg.arr IntKind.i64 zs (mulO ls 2)]) 2 ls false, AV.slcT none (Row.M [Seg.arr IntKind.i64 zd (mulO ld 3)]) 3 ld false])), (0, Blk.row (Row.M [Seg.arr IntKind.i64 sz (mulO ls 2)])),
                      (0, Blk.row (Row.M [Seg.one (AV.int IntKind.i64 w), Seg.one (AV.slcT none (Row.M [Seg.arr IntKind.i64 zs (mulO ls 2)]) 2 ls false), Seg.one (AV.slcT none (Row.M [Seg.arr IntKind.i64 zd (mulO ld 3)]) 3 ld false), Seg.one (AV.slc 0 1 0 0 2 ls (some ls)), Seg.arr IntKind.i64 kd 144])), (0, Blk.row (Row.G [AV.ptr 0 2 0 0])), (0, Blk.loop L)] } ::
                H)) := by kernel_rfl
theorem t109y (n : Nat) (w : Int) (ls ld : Nat) (zs zd sz kd : Nat → Int) (H : Heap) (L : ALoop) (q : Int) : execT (cxD n 109 18) (il noCt n 0) noBT noRT (part Try.f109 [1,0,0]) (hints [(0, .yld 1 4), (1, cap0 1), (3, .int .i64 q)]) (lv0 :: lvT w ls ld zs zd sz kd [(0, .loop L)] :: H) =
  Tr.ite (ltI q (Int.ofNat ls)) Tr.bad
    (Tr.ok
      (Ex.exit 0, [(0, AV.yld 1 4, none), (1, AV.ptrT (some 1) (Row.G [AV.ptr 0 2 0 0]) 0, none), (3, AV.int IntKind.i64 q, none), (11, AV.bool false, some 1)],
        { lock := false, bs := [] } ::
          { lock := false,
              bs :=
                [(0, Blk.row (Row.G [AV.int IntKind.i64 w, AV.slcT none (Row.M [Seg.arr IntKind.i64 zs (mulO ls 2)]) 2 ls false, AV.slcT none (Row.M [Seg.arr IntKind.i64 zd (mulO ld 3)]) 3 ld false])), (0, Blk.row (Row.M [Seg.arr IntKind.i64 sz (mulO ls 2)])),
                  (0, Blk.row (Row.M [Seg.one (AV.int IntKind.i64 w), Seg.one (AV.slcT none (Row.M [Seg.arr IntKind.i64 zs (mulO ls 2)]) 2 ls false), Seg.one (AV.slcT none (Row.M [Seg.arr IntKind.i64 zd (mulO ld 3)]) 3 ld false), Seg.one (AV.slc 0 1 0 0 2 ls (some ls)), Seg.arr IntKind.i64 kd 144])), (0, Blk.row (Row.G [AV.ptr 0 2 0 0])), (0, Blk.loop L)] } ::
            H)) := by kernel_rfl
section
variable (n : Nat) (pp w : Int) (ls ld : Nat) (zs zd sz kd : Nat → Int) (H : Heap) (L : ALoop)
theorem rd_i (hls : ls ≤ 10) (q : Int) (h1 : -2 ≤ pp ∧ pp < ls) (h2 : -2 ≤ q ∧ q < ls) : cd (n + 4) (.round 1 1) [.int .i64 q] (gI pp w ls ld zs zd sz kd H L recI) = some (.bool true, gI pp w ls ld zs zd sz (kdS w zs sz pp q kd) H L recI) := by
  obtain ⟨fr', h2⟩ := r77i n pp w ls ld zs zd sz kd H L { recI with state := .busy } hls q h1 h2
  have ha : exec (cxR (n + 3) 77 94 2 1) (part Try.f77 [1, 1, 1, 0, 1, 0, 1, 0, 1, 0, 0]) [(3, .ptr 4 3 0 0), (7, .ptr 2 0 0 0), (55, AV.fn (Fn.func 109) [] [AV.ptrT (some 2) (Row.G [AV.ptr 2 2 0 0]) 0]), (56, .int .i64 q)] (hT pp w ls ld zs zd sz kd H L recI) = some (.normal, frI q, hT pp w ls ld zs zd sz kd H L recI) := by
    have := execT_ok (cx := cxR (n + 3) 77 94 2 1) (il_no0 (n + 3)) (part Try.f77 [1, 1, 1, 0, 1, 0, 1, 0, 1, 0, 0]) (noBT_ok _ _) (noRT_ok _ _) (hints [(3, .ptr 4 3 0 0), (7, .ptr 2 0 0 0), (55, AV.fn (Fn.func 109) [] [AV.ptrT (some 2) (Row.G [AV.ptr 2 2 0 0]) 0]), (56, .int .i64 q)]) (hT pp w ls ld zs zd sz kd H L recI) (.normal, hints (frI q), hT pp w ls ld zs zd sz kd H L recI) (by rw [t77a]; rfl)
    exact this
  exact round_of (n := n + 3) (l := recI) (l1 := recI) (l2 := { recI with state := .busy }) rfl rfl rfl rfl ha rfl rfl h2 rfl
theorem l109i (hls : ls ≤ 10) (h1 : -2 ≤ pp ∧ pp < ls) : exec (cxD (n + 4) 109 18) (.block 0 (.loop (part Try.f109 [1,0,0]))) (frL 0) (gI pp w ls ld zs zd sz kd H L recI) = some (.normal, frL (ls + 2) ++ [(11, .bool false)], gI pp w ls ld zs zd sz (kdI w zs sz pp kd (ls + 2)) H L recI) := by
  refine forE 0 frL (fun j => gI pp w ls ld zs zd sz (kdI w zs sz pp kd j) H L recI) (ls + 2) (.exit 0, hints (frL (ls + 2)) ++ [(11, .bool false, some 1)], gI pp w ls ld zs zd sz (kdI w zs sz pp kd (ls + 2)) H L recI) (by omega) (fun j hj => ?_) ⟨?_, rfl⟩
  · have hr := rd_i n pp w ls ld zs zd sz (kdI w zs sz pp kd j) H L hls ((j : Int) - 2) h1 ⟨by omega, by omega⟩
    refine ⟨frL (j + 1), gI pp w ls ld zs zd sz (kdI w zs sz pp kd (j + 1)) H L recI, ex_of (t109i (n + 4) pp w ls ld zs zd sz (kdI w zs sz pp kd j) (kdI w zs sz pp kd (j + 1)) H L recI ((j : Int) - 2)) (rdE_ok (il_no0 (n + 4)) (fun x hx => ?_)) (noBT_ok _ _) (noRT_ok _ _) (x := (.normal, hints (frL (j + 1)), gI pp w ls ld zs zd sz (kdI w zs sz pp kd (j + 1)) H L recI)) ?_, rfl, rfl⟩
    · rw [← Tr.ok_some hx]; exact hr
    · rw [Tr.run_ite, ltI_eq, decide_eq_true (by simp; omega), cond_true, Tr.run_reqP ⟨rfl, rfl⟩, Tr.run_ite, notB_eq, Bool.not_true, cond_false, Tr.run_ok, addI_eq, show Int.ofNat 1 = 1 from rfl, wrap_p j (by omega)]
      rfl
  · refine ex_of (t109x (n + 4) pp w ls ld zs zd sz (kdI w zs sz pp kd (ls + 2)) H L recI (((ls + 2 : Nat) : Int) - 2)) (il_no0 (n + 4)) (noBT_ok _ _) (noRT_ok _ _) ?_
    rw [Tr.run_ite, ltI_eq, decide_eq_false (by show ¬ ((ls + 2 : Nat) : Int) - 2 < ((ls : Nat) : Int); omega), cond_false]
    rfl
theorem c109i (hls : ls ≤ 10) (h1 : -2 ≤ pp ∧ pp < ls) : cd (n + 5) (.fn 109) [.yld 0 1, .ptrT (some 0) (.G [.ptr 2 2 0 0]) 0] (lvP pp [(0, .loop recI)] :: lv0 :: lvT w ls ld zs zd sz kd [(0, .loop L)] :: H) = some (.tup [], lvP pp [(0, .loop recI)] :: lv0 :: lvT w ls ld zs zd sz (kdI w zs sz pp kd (ls + 2)) [(0, .loop L)] :: H) := by
  have hl := l109i n pp w ls ld zs zd sz kd H L hls h1
  have e : ((ls + 2 : Nat) : Int) - 2 = Int.ofNat ls := by show _ = ((ls : Nat) : Int); omega
  unfold frL at hl
  rw [e] at hl
  exact fn_of (n := n + 4) Try.func109 rfl rfl rfl (u109i (n + 4) pp w ls ld zs zd sz kd (kdI w zs sz pp kd (ls + 2)) H L recI) (il_no0 (n + 4)) (blkE_ok (noBT_ok _ _) b109 (fun x hx => by rw [← Tr.ok_some hx]; exact hl)) (noRT_ok _ _) (y := ((.tup [], none), lvP pp [(0, .loop recI)] :: lv0 :: lvT w ls ld zs zd sz (kdI w zs sz pp kd (ls + 2)) [(0, .loop L)] :: H)) (Tr.run_reqP ⟨rfl, rfl⟩)
/-- The inner loop, in a round of the outer one. -/
theorem rg_i (hls : ls ≤ 10) (h1 : -2 ≤ pp ∧ pp < ls) : exec (cxR (n + 5) 77 94 2 4) (.rangeFunc (.tmp 55) #[56] (part Try.f77 [1, 1, 1, 0, 1, 0, 1, 0, 1, 0, 0]) (part Try.f77 [1, 1, 1, 0, 1, 0, 1, 0, 1, 0, 1])) [(3, .ptr 2 3 0 0), (7, .ptr 0 0 0 0), (55, AV.fn (Fn.func 109) [] [AV.ptrT (some 0) (Row.G [AV.ptr 2 2 0 0]) 0])] (lvP pp [] :: lv0 :: lvT w ls ld zs zd sz kd [(0, .loop L)] :: H) =
    some (.normal, [(3, .ptr 2 3 0 0), (7, .ptr 0 0 0 0), (55, AV.fn (Fn.func 109) [] [AV.ptrT (some 0) (Row.G [AV.ptr 2 2 0 0]) 0])], lvP pp [(0, .dead)] :: lv0 :: lvT w ls ld zs zd sz (kdI w zs sz pp kd (ls + 2)) [(0, .loop L)] :: H) :=
  range_of (cx := cxR (n + 5) 77 94 2 4) (l := recI) (f := .tmp 55) (ps := #[56]) (fr := [(3, .ptr 2 3 0 0), (7, .ptr 0 0 0 0), (55, AV.fn (Fn.func 109) [] [AV.ptrT (some 0) (Row.G [AV.ptr 2 2 0 0]) 0])]) (H := lvP pp [] :: lv0 :: lvT w ls ld zs zd sz kd [(0, .loop L)] :: H) (g := 109) (a := []) (b := [AV.ptrT (some 0) (Row.G [AV.ptr 2 2 0 0]) 0]) rfl rfl rfl (c109i n pp w ls ld zs zd sz kd H L hls h1) rfl rfl rfl
end
end Go.Eng
