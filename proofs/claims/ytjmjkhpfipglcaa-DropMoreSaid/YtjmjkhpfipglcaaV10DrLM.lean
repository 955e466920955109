/- Drop: newTable: the inner loop. -/
import Derived.Test.YtjmjkhpfipglcaaV10DrK
section
namespace Go.Eng
open Go.Proofs
set_option linter.unusedVariables false
set_option linter.unusedSimpArgs false
set_option maxRecDepth 100000
/-- The kinds behind j rounds of the inner loop. -/
def kdI (w : Int) (zs sz : Nat → Int) (p : Int) (kd : Nat → Int) : Nat → Nat → Int
  | 0 => kd
  | j + 1 => kdS w zs sz p ((j : Int) - 2) (kdI w zs sz p kd j)
theorem wrap_p (j : Nat) (h : j < 1000) : IntKind.i64.wrap (((j : Int) - 2) + 1) = ((j + 1 : Nat) : Int) - 2 := by
  rw [show ((j : Int) - 2 + 1) = ((j + 1 : Nat) : Int) - 2 by omega]
  exact Go.IntWalk.i64_in _ (by omega)
noncomputable def gI (pp w : Int) (ls ld : Nat) (zs zd sz kd : Nat → Int) (H : Heap) (L Li : ALoop) : Heap := lv0 :: lvP pp [(0, .loop Li)] :: lv0 :: lvT w ls ld zs zd sz kd [(0, .loop L)] :: H
noncomputable def frL (j : Nat) : Frm := [(0, .yld 1 1), (1, .ptrT (some 1) (.G [.ptr 2 2 0 0]) 0), (3, .int .i64 ((j : Int) - 2))]
theorem b109 : ∀ b, (0, b) ∈ blocksOf (bodyOf Try.f109) → b = .loop (part Try.f109 [1,0,0]) := by
  have : blocksOf (bodyOf Try.f109) = [(0, .loop (part Try.f109 [1,0,0])), (1, part Try.f109 [1, 0, 0, 1, 0, 0])] := by kernel_rfl
  intro b hb; rw [this] at hb; simpa using hb
theorem t109x (n : Nat) (pp w : Int) (ls ld : Nat) (zs zd sz kd : Nat → Int) (H : Heap) (L Li : ALoop) (q : Int) : execT (cxD n 109 18) (il noCt n 0) noBT noRT (part Try.f109 [1,0,0]) (hints [(0, .yld 1 1), (1, .ptrT (some 1) (.G [.ptr 2 2 0 0]) 0), (3, .int .i64 q)]) (lv0 :: lvP pp [(0, .loop Li)] :: lv0 :: lvT w ls ld zs zd sz kd [(0, .loop L)] :: H) =
  Tr.ite (ltI q (Int.ofNat ls)) Tr.bad (Tr.ok (Ex.exit 0, [(0, AV.yld 1 1, none), (1, AV.ptrT (some 1) (Row.G [AV.ptr 2 2 0 0]) 0, none), (3, AV.int .i64 q, none), (11, AV.bool false, some 1)], { lock := false, bs := [] } :: { lock := false, bs := [(0, Blk.row (Row.I .i64 [pp])), (0, Blk.loop Li)] } :: { lock := false, bs := [] } :: { lock := false, bs := [(0, Blk.row (Row.G [AV.int .i64 w, slA 2 ls zs, slA 3 ld zd])), (0, Blk.row (Row.M [Seg.arr .i64 sz (mulO ls 2)])), (0, Blk.row (Row.M [Seg.one (AV.int .i64 w), Seg.one (slA 2 ls zs), Seg.one (slA 3 ld zd), Seg.one (AV.slc 0 1 0 0 2 ls (some ls)), Seg.arr .i64 kd 144])), (0, Blk.row (Row.G [AV.ptr 0 2 0 0])), (0, Blk.loop L)] } :: H)) := by kernel_rfl
theorem t109y (n : Nat) (w : Int) (ls ld : Nat) (zs zd sz kd : Nat → Int) (H : Heap) (L : ALoop) (q : Int) : execT (cxD n 109 18) (il noCt n 0) noBT noRT (part Try.f109 [1,0,0]) (hints [(0, .yld 1 4), (1, cap0 1), (3, .int .i64 q)]) (lv0 :: lvT w ls ld zs zd sz kd [(0, .loop L)] :: H) =
  Tr.ite (ltI q (Int.ofNat ls)) Tr.bad (Tr.ok (Ex.exit 0, [(0, AV.yld 1 4, none), (1, AV.ptrT (some 1) (Row.G [AV.ptr 0 2 0 0]) 0, none), (3, AV.int .i64 q, none), (11, AV.bool false, some 1)], { lock := false, bs := [] } :: { lock := false, bs := [(0, Blk.row (Row.G [AV.int .i64 w, slA 2 ls zs, slA 3 ld zd])), (0, Blk.row (Row.M [Seg.arr .i64 sz (mulO ls 2)])), (0, Blk.row (Row.M [Seg.one (AV.int .i64 w), Seg.one (slA 2 ls zs), Seg.one (slA 3 ld zd), Seg.one (AV.slc 0 1 0 0 2 ls (some ls)), Seg.arr .i64 kd 144])), (0, Blk.row (Row.G [AV.ptr 0 2 0 0])), (0, Blk.loop L)] } :: H)) := by kernel_rfl
section
variable (n : Nat) (pp w : Int) (ls ld : Nat) (zs zd sz kd : Nat → Int) (H : Heap) (L : ALoop)
theorem rd_i (hls : ls ≤ 10) (q : Int) (h1 : -2 ≤ pp ∧ pp < ls) (h2 : -2 ≤ q ∧ q < ls) : cd (n + 4) (.round 1 1) [.int .i64 q] (gI pp w ls ld zs zd sz kd H L recI) = some (.bool true, gI pp w ls ld zs zd sz (kdS w zs sz pp q kd) H L recI) := by
  obtain ⟨fr', h2⟩ := r77i n pp w ls ld zs zd sz kd H L { recI with state := .busy } hls q h1 h2
  have ha : exec (cxR (n + 3) 77 94 2 1) (part Try.f77 [1, 1, 1, 0, 1, 0, 1, 0, 1, 0, 0]) [(3, .ptr 4 3 0 0), (7, .ptr 2 0 0 0), (55, AV.fn (Fn.func 109) [] [AV.ptrT (some 2) (Row.G [AV.ptr 2 2 0 0]) 0]), (56, .int .i64 q)] (hT pp w ls ld zs zd sz kd H L recI) = some (.normal, frI q, hT pp w ls ld zs zd sz kd H L recI) := by
    have := execT_ok (cx := cxR (n + 3) 77 94 2 1) (il_no0 (n + 3)) (part Try.f77 [1, 1, 1, 0, 1, 0, 1, 0, 1, 0, 0]) (noBT_ok _ _) (noRT_ok _ _) (hints [(3, .ptr 4 3 0 0), (7, .ptr 2 0 0 0), (55, AV.fn (Fn.func 109) [] [AV.ptrT (some 2) (Row.G [AV.ptr 2 2 0 0]) 0]), (56, .int .i64 q)]) (hT pp w ls ld zs zd sz kd H L recI) (.normal, hints (frI q), hT pp w ls ld zs zd sz kd H L recI) (by rw [t77a]; rfl)
    exact this
  exact round_of (n := n + 3) (l := recI) (l1 := recI) (l2 := { recI with state := .busy }) rfl rfl rfl rfl ha rfl rfl h2 rfl
theorem l109i (hls : ls ≤ 10) (h1 : -2 ≤ pp ∧ pp < ls) : exec (cxD (n + 4) 109 18) (.block 0 (.loop (part Try.f109 [1,0,0]))) (frL 0) (gI pp w ls ld zs zd sz kd H L recI) = some (.normal, frL (ls + 2) ++ [(11, .bool false)], gI pp w ls ld zs zd sz (kdI w zs sz pp kd (ls + 2)) H L recI) := by
  refine forE 0 frL (fun j => gI pp w ls ld zs zd sz (kdI w zs sz pp kd j) H L recI) (ls + 2) (.exit 0, hints (frL (ls + 2)) ++ [(11, .bool false, some 1)], gI pp w ls ld zs zd sz (kdI w zs sz pp kd (ls + 2)) H L recI) (by omega) (fun j hj => ?_) ⟨?_, rfl⟩
  · have hr := rd_i n pp w ls ld zs zd sz (kdI w zs sz pp kd j) H L hls ((j : Int) - 2) h1 ⟨by omega, by omega⟩
    refine ⟨frL (j + 1), gI pp w ls ld zs zd sz (kdI w zs sz pp kd (j + 1)) H L recI, ex_of (t109i (n + 4) pp w ls ld zs zd sz (kdI w zs sz pp kd j) (kdI w zs sz pp kd (j + 1)) H L recI ((j : Int) - 2)) (rdE_ok (il_no0 (n + 4)) (fun x hx => ?_)) (noBT_ok _ _) (noRT_ok _ _) (x := (.normal, hints (frL (j + 1)), gI pp w ls ld zs zd sz (kdI w zs sz pp kd (j + 1)) H L recI)) ?_, rfl, rfl⟩
    · rw [← Tr.ok_some hx]; exact hr
    · rw [Tr.run_ite, ltI_eq, decide_eq_true (by simp; omega), cond_true, Tr.run_reqP ⟨rfl, rfl⟩, Tr.run_ite, notB_eq, Bool.not_true, cond_false, Tr.run_ok, addI_eq, show Int.ofNat 1 = 1 from rfl, wrap_p j (by omega)]
      rfl
  · refine ex_of (t109x (n + 4) pp w ls ld zs zd sz (kdI w zs sz pp kd (ls + 2)) H L recI (((ls + 2 : Nat) : Int) - 2)) (il_no0 (n + 4)) (noBT_ok _ _) (noRT_ok _ _) ?_
    rw [Tr.run_ite, ltI_eq, decide_eq_false (by show ¬ ((ls + 2 : Nat) : Int) - 2 < ((ls : Nat) : Int); omega), cond_false]
    rfl
theorem c109i (hls : ls ≤ 10) (h1 : -2 ≤ pp ∧ pp < ls) : cd (n + 5) (.fn 109) [.yld 0 1, .ptrT (some 0) (.G [.ptr 2 2 0 0]) 0] (lvP pp [(0, .loop recI)] :: lv0 :: lvT w ls ld zs zd sz kd [(0, .loop L)] :: H) = some (.tup [], lvP pp [(0, .loop recI)] :: lv0 :: lvT w ls ld zs zd sz (kdI w zs sz pp kd (ls + 2)) [(0, .loop L)] :: H) := by
  have hl := l109i n pp w ls ld zs zd sz kd H L hls h1
  have e : ((ls + 2 : Nat) : Int) - 2 = Int.ofNat ls := by show _ = ((ls : Nat) : Int); omega
  unfold frL at hl
  rw [e] at hl
  exact fn_of (n := n + 4) Try.func109 rfl rfl rfl (u109i (n + 4) pp w ls ld zs zd sz kd (kdI w zs sz pp kd (ls + 2)) H L recI) (il_no0 (n + 4)) (blkE_ok (noBT_ok _ _) b109 (fun x hx => by rw [← Tr.ok_some hx]; exact hl)) (noRT_ok _ _) (y := ((.tup [], none), lvP pp [(0, .loop recI)] :: lv0 :: lvT w ls ld zs zd sz (kdI w zs sz pp kd (ls + 2)) [(0, .loop L)] :: H)) (Tr.run_reqP ⟨rfl, rfl⟩)
/-- The inner loop, in a round of the outer one. -/
theorem rg_i (hls : ls ≤ 10) (h1 : -2 ≤ pp ∧ pp < ls) : exec (cxR (n + 5) 77 94 2 4) (.rangeFunc (.tmp 55) #[56] (part Try.f77 [1, 1, 1, 0, 1, 0, 1, 0, 1, 0, 0]) (part Try.f77 [1, 1, 1, 0, 1, 0, 1, 0, 1, 0, 1])) [(3, .ptr 2 3 0 0), (7, .ptr 0 0 0 0), (55, AV.fn (Fn.func 109) [] [AV.ptrT (some 0) (Row.G [AV.ptr 2 2 0 0]) 0])] (lvP pp [] :: lv0 :: lvT w ls ld zs zd sz kd [(0, .loop L)] :: H) =
    some (.normal, [(3, .ptr 2 3 0 0), (7, .ptr 0 0 0 0), (55, AV.fn (Fn.func 109) [] [AV.ptrT (some 0) (Row.G [AV.ptr 2 2 0 0]) 0])], lvP pp [(0, .dead)] :: lv0 :: lvT w ls ld zs zd sz (kdI w zs sz pp kd (ls + 2)) [(0, .loop L)] :: H) :=
  range_of (cx := cxR (n + 5) 77 94 2 4) (l := recI) (f := .tmp 55) (ps := #[56]) (fr := [(3, .ptr 2 3 0 0), (7, .ptr 0 0 0 0), (55, AV.fn (Fn.func 109) [] [AV.ptrT (some 0) (Row.G [AV.ptr 2 2 0 0]) 0])]) (H := lvP pp [] :: lv0 :: lvT w ls ld zs zd sz kd [(0, .loop L)] :: H) (g := 109) (a := []) (b := [AV.ptrT (some 0) (Row.G [AV.ptr 2 2 0 0]) 0]) rfl rfl rfl (c109i n pp w ls ld zs zd sz kd H L hls h1) rfl rfl rfl
end
end Go.Eng
end

section
namespace Go.Eng
open Go.Proofs
set_option linter.unusedVariables false
set_option linter.unusedSimpArgs false
set_option maxRecDepth 100000
noncomputable def frO : Frm := [(3, .ptr 0 3 0 0), (52, AV.fn (Fn.func 109) [] [cap0 0])]
noncomputable def frC : Frm := [(3, .ptr 2 3 0 0), (7, .ptr 0 0 0 0), (55, AV.fn (Fn.func 109) [] [AV.ptrT (some 0) (Row.G [AV.ptr 2 2 0 0]) 0])]
/-- A table, as newTable hands it down. -/
noncomputable def tabV (w : Int) (ls ld : Nat) (zs zd sz kd : Nat → Int) : AV := .ptrT (some 0) (.M [.one (.int .i64 w), .one (slA 2 ls zs), .one (slA 3 ld zd), .one (.slcT none (.M [.arr .i64 sz (mulO ls 2)]) 2 ls true), .arr .i64 kd 144]) 0
noncomputable def recO : ALoop := { state := .ready, pending := none, fn := 77, nt := 94, fr := frO, params := [53], assign := part Try.f77 [1, 1, 1, 0, 1, 0, 0], body := part Try.f77 [1, 1, 1, 0, 1, 0, 1] }
theorem t77b (n : Nat) (w : Int) (ls ld : Nat) (zs zd sz kd : Nat → Int) (H : Heap) (L : ALoop) (p : Int) : execT (cxR n 77 94 2 4) (il noCt n 0) noBT noRT (part Try.f77 [1, 1, 1, 0, 1, 0, 0]) (hints [(3, .ptr 2 3 0 0), (52, AV.fn (Fn.func 109) [] [cap0 2]), (53, .int .i64 p)]) (lv0 :: lv0 :: lvT w ls ld zs zd sz kd [(0, .loop L)] :: H) =
  Tr.ok (Ex.normal, [(3, AV.ptr 2 3 0 0, none), (7, AV.ptr 0 0 0 0, none)], { lock := false, bs := [(0, Blk.row (Row.I .i64 [p]))] } :: { lock := false, bs := [] } :: { lock := false, bs := [(0, Blk.row (Row.G [AV.int .i64 w, slA 2 ls zs, slA 3 ld zd])), (0, Blk.row (Row.M [Seg.arr .i64 sz (mulO ls 2)])), (0, Blk.row (Row.M [Seg.one (AV.int .i64 w), Seg.one (slA 2 ls zs), Seg.one (slA 3 ld zd), Seg.one (AV.slc 0 1 0 0 2 ls (some ls)), Seg.arr .i64 kd 144])), (0, Blk.row (Row.G [AV.ptr 0 2 0 0])), (0, Blk.loop L)] } :: H) := by kernel_rfl
theorem t77c (n : Nat) (w : Int) (ls ld : Nat) (zs zd sz kd kd' : Nat → Int) (H : Heap) (L : ALoop) (p : Int) : execT (cxR (n+1) 77 94 2 4) (il noCt n 1) noBT (rgE noRT (fun _ => true) frC (lvP p [] :: lv0 :: lvT w ls ld zs zd sz kd [(0, .loop L)] :: H) (.ok (.normal, hints frC, lvP p [(0, .dead)] :: lv0 :: lvT w ls ld zs zd sz kd' [(0, .loop L)] :: H))) (part Try.f77 [1, 1, 1, 0, 1, 0, 1]) (hints [(3, .ptr 2 3 0 0), (7, .ptr 0 0 0 0)]) (lvP p [] :: lv0 :: lvT w ls ld zs zd sz kd [(0, .loop L)] :: H) =
  Tr.reqP ([(3, AV.ptr 2 3 0 0), (7, AV.ptr 0 0 0 0), (55, AV.fn (Fn.func 109) [] [AV.ptrT (some 0) (Row.G [AV.ptr 2 2 0 0]) 0])] = [(3, AV.ptr 2 3 0 0), (7, AV.ptr 0 0 0 0), (55, AV.fn (Fn.func 109) [] [AV.ptrT (some 0) (Row.G [AV.ptr 2 2 0 0]) 0])] ∧ { lock := false, bs := [(0, Blk.row (Row.I .i64 [p]))] } :: { lock := false, bs := [] } :: { lock := false, bs := [(0, Blk.row (Row.G [AV.int .i64 w, slA 2 ls zs, slA 3 ld zd])), (0, Blk.row (Row.M [Seg.arr .i64 sz (mulO ls 2)])), (0, Blk.row (Row.M [Seg.one (AV.int .i64 w), Seg.one (slA 2 ls zs), Seg.one (slA 3 ld zd), Seg.one (AV.slc 0 1 0 0 2 ls (some ls)), Seg.arr .i64 kd 144])), (0, Blk.row (Row.G [AV.ptr 0 2 0 0])), (0, Blk.loop L)] } :: H = { lock := false, bs := [(0, Blk.row (Row.I .i64 [p]))] } :: { lock := false, bs := [] } :: { lock := false, bs := [(0, Blk.row (Row.G [AV.int .i64 w, slA 2 ls zs, slA 3 ld zd])), (0, Blk.row (Row.M [Seg.arr .i64 sz (mulO ls 2)])), (0, Blk.row (Row.M [Seg.one (AV.int .i64 w), Seg.one (slA 2 ls zs), Seg.one (slA 3 ld zd), Seg.one (AV.slc 0 1 0 0 2 ls (some ls)), Seg.arr .i64 kd 144])), (0, Blk.row (Row.G [AV.ptr 0 2 0 0])), (0, Blk.loop L)] } :: H) (Tr.ok (Ex.normal, [(3, AV.ptr 2 3 0 0, none), (7, AV.ptr 0 0 0 0, none), (55, AV.fn (Fn.func 109) [] [AV.ptrT (some 0) (Row.G [AV.ptr 2 2 0 0]) 0], none)], { lock := false, bs := [(0, Blk.row (Row.I .i64 [p])), (0, Blk.dead)] } :: { lock := false, bs := [] } :: { lock := false, bs := [(0, Blk.row (Row.G [AV.int .i64 w, slA 2 ls zs, slA 3 ld zd])), (0, Blk.row (Row.M [Seg.arr .i64 sz (mulO ls 2)])), (0, Blk.row (Row.M [Seg.one (AV.int .i64 w), Seg.one (slA 2 ls zs), Seg.one (slA 3 ld zd), Seg.one (AV.slc 0 1 0 0 2 ls (some ls)), Seg.arr .i64 kd' 144])), (0, Blk.row (Row.G [AV.ptr 0 2 0 0])), (0, Blk.loop L)] } :: H)) := by kernel_rfl
theorem u77 (n : Nat) (w : Int) (ls ld : Nat) (zs zd sz kd : Nat → Int) (H : Heap) : bodyT Try.prog (cd (n+1)) 100000 77 Try.f77 (Kt.kt 77) (il noCt n 1) (blkE noBT 0 (fr77 ld zd (Int.ofNat 0)) (lvT w ls ld zs zd (fun _ => 0) (fun _ => 0) [] :: H) (.ok (.normal, hints (fr77 ld zd (Int.ofNat ld) ++ [(20, AV.bool false)]), lvT w ls ld zs zd sz (fun _ => 0) [] :: H))) (rgE noRT (fun _ => true) frO (lvT w ls ld zs zd sz (fun _ => 0) [] :: H) (.ok (.normal, hints frO, lvT w ls ld zs zd sz kd [(0, .dead)] :: H))) [(bathA w ls zs ld zd, none)] H =
  Tr.req (mkO (Int.ofNat ls) (Int.ofNat ls) 16) (Tr.reqP ([(3, AV.ptr 0 3 0 0), (17, slA 3 ld zd), (18, AV.int .i64 (Int.ofNat ld)), (19, AV.int .i64 (Int.ofNat 0))] = [(3, AV.ptr 0 3 0 0), (17, slA 3 ld zd), (18, AV.int .i64 (Int.ofNat ld)), (19, AV.int .i64 (Int.ofNat 0))] ∧ { lock := false, bs := [(0, Blk.row (Row.G [AV.int .i64 w, slA 2 ls zs, slA 3 ld zd])), (0, Blk.row (Row.M [Seg.arr .i64 (fun x => Int.ofNat 0) (mulO (toN (Int.ofNat ls)) 2)])), (0, Blk.row (Row.M [Seg.one (AV.int .i64 w), Seg.one (slA 2 ls zs), Seg.one (slA 3 ld zd), Seg.one (AV.slc 0 1 0 0 2 (toN (Int.ofNat ls)) (some (toN (Int.ofNat ls)))), Seg.arr .i64 (fun x => Int.ofNat 0) 144])), (0, Blk.row (Row.G [AV.ptr 0 2 0 0]))] } :: H = { lock := false, bs := [(0, Blk.row (Row.G [AV.int .i64 w, slA 2 ls zs, slA 3 ld zd])), (0, Blk.row (Row.M [Seg.arr .i64 (fun x => Int.ofNat 0) (mulO ls 2)])), (0, Blk.row (Row.M [Seg.one (AV.int .i64 w), Seg.one (slA 2 ls zs), Seg.one (slA 3 ld zd), Seg.one (AV.slc 0 1 0 0 2 ls (some ls)), Seg.arr .i64 (fun x => Int.ofNat 0) 144])), (0, Blk.row (Row.G [AV.ptr 0 2 0 0]))] } :: H) (Tr.reqP ([(3, AV.ptr 0 3 0 0), (52, AV.fn (Fn.func 109) [] [AV.ptrT (some 0) (Row.G [AV.ptr 0 2 0 0]) 0])] = [(3, AV.ptr 0 3 0 0), (52, AV.fn (Fn.func 109) [] [AV.ptrT (some 0) (Row.G [AV.ptr 0 2 0 0]) 0])] ∧ { lock := false, bs := [(0, Blk.row (Row.G [AV.int .i64 w, slA 2 ls zs, slA 3 ld zd])), (0, Blk.row (Row.M [Seg.arr .i64 sz (mulO ls 2)])), (0, Blk.row (Row.M [Seg.one (AV.int .i64 w), Seg.one (slA 2 ls zs), Seg.one (slA 3 ld zd), Seg.one (AV.slc 0 1 0 0 2 ls (some ls)), Seg.arr .i64 (fun x => Int.ofNat 0) 144])), (0, Blk.row (Row.G [AV.ptr 0 2 0 0]))] } :: H = { lock := false, bs := [(0, Blk.row (Row.G [AV.int .i64 w, slA 2 ls zs, slA 3 ld zd])), (0, Blk.row (Row.M [Seg.arr .i64 sz (mulO ls 2)])), (0, Blk.row (Row.M [Seg.one (AV.int .i64 w), Seg.one (slA 2 ls zs), Seg.one (slA 3 ld zd), Seg.one (AV.slc 0 1 0 0 2 ls (some ls)), Seg.arr .i64 (fun x => Int.ofNat 0) 144])), (0, Blk.row (Row.G [AV.ptr 0 2 0 0]))] } :: H) (Tr.req (eqN 0 0) (Tr.req (inO 0 (mulO ls 2) 0 (mulO ls 2)) (Tr.ok ((AV.ptrT (some 0) (Row.M [Seg.one (AV.int .i64 w), Seg.one (slA 2 ls zs), Seg.one (slA 3 ld zd), Seg.one (AV.slcT none (Row.M [Seg.arr .i64 (shO sz 0) (mulO ls 2)]) 2 ls (eqN ls ls)), Seg.arr .i64 kd 144]) 0, none), H)))))) := by kernel_rfl
/-- The kinds behind j rounds of the outer loop. -/
def kdO (w : Int) (ls : Nat) (zs sz : Nat → Int) : Nat → Nat → Int
  | 0 => fun _ => 0
  | j + 1 => kdI w zs sz ((j : Int) - 2) (kdO w ls zs sz j) (ls + 2)
noncomputable def gO (w : Int) (ls ld : Nat) (zs zd sz kd : Nat → Int) (H : Heap) (L : ALoop) : Heap := lv0 :: lvT w ls ld zs zd sz kd [(0, .loop L)] :: H
noncomputable def frM (j : Nat) : Frm := [(0, .yld 1 4), (1, cap0 1), (3, .int .i64 ((j : Int) - 2))]
theorem r77c : rangesOf (part Try.f77 [1, 1, 1, 0, 1, 0, 1]) = [(.tmp 55, #[56], part Try.f77 [1, 1, 1, 0, 1, 0, 1, 0, 1, 0, 0], part Try.f77 [1, 1, 1, 0, 1, 0, 1, 0, 1, 0, 1])] := by kernel_rfl
theorem r77o : rangesOf (bodyOf Try.f77) = [(.tmp 52, #[53], part Try.f77 [1, 1, 1, 0, 1, 0, 0], part Try.f77 [1, 1, 1, 0, 1, 0, 1])] := by kernel_rfl
theorem b77 : ∀ b, (0, b) ∈ blocksOf (bodyOf Try.f77) → b = .loop (part Try.f77 [1,1,0,1,0,0]) := by
  have : blocksOf (bodyOf Try.f77) = [(0, .loop (part Try.f77 [1,1,0,1,0,0])), (1, part Try.f77 [1, 1, 0, 1, 0, 0, 1, 1, 0, 0]), (2, part Try.f77 [1, 1, 1, 0, 1, 0])] := by kernel_rfl
  intro b hb; rw [this] at hb; simpa using hb
section
variable (n : Nat) (w : Int) (ls ld : Nat) (zs zd sz kd : Nat → Int) (H : Heap)
theorem rd_o (hls : ls ≤ 10) (p : Int) (h1 : -2 ≤ p ∧ p < ls) : cd (n + 6) (.round 1 4) [.int .i64 p] (gO w ls ld zs zd sz kd H recO) = some (.bool true, gO w ls ld zs zd sz (kdI w zs sz p kd (ls + 2)) H recO) := by
  have ha : exec (cxR (n + 5) 77 94 2 4) (part Try.f77 [1, 1, 1, 0, 1, 0, 0]) [(3, .ptr 2 3 0 0), (52, AV.fn (Fn.func 109) [] [cap0 2]), (53, .int .i64 p)] (lv0 :: lv0 :: lvT w ls ld zs zd sz kd [(0, .loop recO)] :: H) = some (.normal, [(3, .ptr 2 3 0 0), (7, .ptr 0 0 0 0)], lvP p [] :: lv0 :: lvT w ls ld zs zd sz kd [(0, .loop recO)] :: H) := by
    have := execT_ok (cx := cxR (n + 5) 77 94 2 4) (il_no0 (n + 5)) (part Try.f77 [1, 1, 1, 0, 1, 0, 0]) (noBT_ok _ _) (noRT_ok _ _) (hints [(3, .ptr 2 3 0 0), (52, AV.fn (Fn.func 109) [] [cap0 2]), (53, .int .i64 p)]) (lv0 :: lv0 :: lvT w ls ld zs zd sz kd [(0, .loop recO)] :: H) (.normal, hints [(3, .ptr 2 3 0 0), (7, .ptr 0 0 0 0)], lvP p [] :: lv0 :: lvT w ls ld zs zd sz kd [(0, .loop recO)] :: H) (by rw [t77b]; rfl)
    exact this
  have hb : exec (cxR (n + 5) 77 94 2 4) (part Try.f77 [1, 1, 1, 0, 1, 0, 1]) [(3, .ptr 2 3 0 0), (7, .ptr 0 0 0 0)] (lvP p [] :: lv0 :: lvT w ls ld zs zd sz kd [(0, .loop { recO with state := .busy })] :: H) = some (.normal, frC, lvP p [(0, .dead)] :: lv0 :: lvT w ls ld zs zd sz (kdI w zs sz p kd (ls + 2)) [(0, .loop { recO with state := .busy })] :: H) := by
    have := execT_ok (cx := cxR (n + 5) 77 94 2 4) (il_no (n + 4) 1) (part Try.f77 [1, 1, 1, 0, 1, 0, 1]) (noBT_ok _ _) (rgE_ok (noRT_ok _ _) (tf := fun _ => true) (fr0 := frC) (H0 := lvP p [] :: lv0 :: lvT w ls ld zs zd sz kd [(0, .loop { recO with state := .busy })] :: H) (u := .ok (.normal, hints frC, lvP p [(0, .dead)] :: lv0 :: lvT w ls ld zs zd sz (kdI w zs sz p kd (ls + 2)) [(0, .loop { recO with state := .busy })] :: H)) (fun f ps a b _ hm x hx => by
      rw [r77c] at hm
      simp only [List.mem_cons, Prod.mk.injEq, List.not_mem_nil, or_false] at hm
      obtain ⟨rfl, rfl, rfl, rfl⟩ := hm
      rw [← Tr.ok_some hx]
      exact rg_i n p w ls ld zs zd sz kd H { recO with state := .busy } hls h1)) (hints [(3, .ptr 2 3 0 0), (7, .ptr 0 0 0 0)]) (lvP p [] :: lv0 :: lvT w ls ld zs zd sz kd [(0, .loop { recO with state := .busy })] :: H) (.normal, hints frC, lvP p [(0, .dead)] :: lv0 :: lvT w ls ld zs zd sz (kdI w zs sz p kd (ls + 2)) [(0, .loop { recO with state := .busy })] :: H)
      (by rw [show n + 5 = n + 4 + 1 from rfl, t77c, Tr.run_reqP ⟨rfl, rfl⟩]; rfl)
    exact this
  exact round_of (n := n + 5) (l := recO) (l1 := recO) (l2 := { recO with state := .busy }) rfl rfl rfl rfl ha rfl rfl hb rfl
theorem l109o (hls : ls ≤ 10) : exec (cxD (n + 6) 109 18) (.block 0 (.loop (part Try.f109 [1,0,0]))) (frM 0) (gO w ls ld zs zd sz (fun _ => 0) H recO) = some (.normal, frM (ls + 2) ++ [(11, .bool false)], gO w ls ld zs zd sz (kdO w ls zs sz (ls + 2)) H recO) := by
  refine forE 0 frM (fun j => gO w ls ld zs zd sz (kdO w ls zs sz j) H recO) (ls + 2) (.exit 0, hints (frM (ls + 2)) ++ [(11, .bool false, some 1)], gO w ls ld zs zd sz (kdO w ls zs sz (ls + 2)) H recO) (by omega) (fun j hj => ?_) ⟨?_, rfl⟩
  · have hr := rd_o n w ls ld zs zd sz (kdO w ls zs sz j) H hls ((j : Int) - 2) ⟨by omega, by omega⟩
    refine ⟨frM (j + 1), gO w ls ld zs zd sz (kdO w ls zs sz (j + 1)) H recO, ex_of (t109o (n + 6) w ls ld zs zd sz (kdO w ls zs sz j) (kdO w ls zs sz (j + 1)) H recO ((j : Int) - 2)) (rdE_ok (il_no0 (n + 6)) (fun x hx => ?_)) (noBT_ok _ _) (noRT_ok _ _) (x := (.normal, hints (frM (j + 1)), gO w ls ld zs zd sz (kdO w ls zs sz (j + 1)) H recO)) ?_, rfl, rfl⟩
    · rw [← Tr.ok_some hx]; exact hr
    · rw [Tr.run_ite, ltI_eq, decide_eq_true (by simp; omega), cond_true, Tr.run_reqP ⟨rfl, rfl⟩, Tr.run_ite, notB_eq, Bool.not_true, cond_false, Tr.run_ok, addI_eq, show Int.ofNat 1 = 1 from rfl, wrap_p j (by omega)]
      rfl
  · refine ex_of (t109y (n + 6) w ls ld zs zd sz (kdO w ls zs sz (ls + 2)) H recO (((ls + 2 : Nat) : Int) - 2)) (il_no0 (n + 6)) (noBT_ok _ _) (noRT_ok _ _) ?_
    rw [Tr.run_ite, ltI_eq, decide_eq_false (by show ¬ ((ls + 2 : Nat) : Int) - 2 < ((ls : Nat) : Int); omega), cond_false]
    rfl
theorem c109o (hls : ls ≤ 10) : cd (n + 7) (.fn 109) [.yld 0 4, cap0 0] (lvT w ls ld zs zd sz (fun _ => 0) [(0, .loop recO)] :: H) = some (.tup [], lvT w ls ld zs zd sz (kdO w ls zs sz (ls + 2)) [(0, .loop recO)] :: H) := by
  have hl := l109o n w ls ld zs zd sz H hls
  have e : ((ls + 2 : Nat) : Int) - 2 = Int.ofNat ls := by show _ = ((ls : Nat) : Int); omega
  unfold frM at hl
  rw [e] at hl
  exact fn_of (n := n + 6) Try.func109 rfl rfl rfl (u109o (n + 6) w ls ld zs zd sz (fun _ => 0) (kdO w ls zs sz (ls + 2)) H recO) (il_no0 (n + 6)) (blkE_ok (noBT_ok _ _) b109 (fun x hx => by rw [← Tr.ok_some hx]; exact hl)) (noRT_ok _ _) (y := ((.tup [], none), lvT w ls ld zs zd sz (kdO w ls zs sz (ls + 2)) [(0, .loop recO)] :: H)) (Tr.run_reqP ⟨rfl, rfl⟩)
theorem rg_o (hls : ls ≤ 10) : exec (cxD (n + 7) 77 94) (.rangeFunc (.tmp 52) #[53] (part Try.f77 [1, 1, 1, 0, 1, 0, 0]) (part Try.f77 [1, 1, 1, 0, 1, 0, 1])) frO (lvT w ls ld zs zd sz (fun _ => 0) [] :: H) =
    some (.normal, frO, lvT w ls ld zs zd sz (kdO w ls zs sz (ls + 2)) [(0, .dead)] :: H) :=
  range_of (cx := cxD (n + 7) 77 94) (l := recO) (f := .tmp 52) (ps := #[53]) (fr := frO) (H := lvT w ls ld zs zd sz (fun _ => 0) [] :: H) (g := 109) (a := []) (b := [cap0 0]) rfl rfl rfl (c109o n w ls ld zs zd sz H hls) rfl rfl rfl
/-- newTable. -/
theorem c77 (hls : ls ≤ 10) (hld : ld ≤ 40) (hd : ∀ j, j < ld → 0 ≤ zd (j * 3) ∧ zd (j * 3) < ls) : cd (n + 8) (.fn 77) [bathA w ls zs ld zd] H = some (tabV w ls ld zs zd (szs zd ld) (kdO w ls zs (szs zd ld) (ls + 2)), H) := by
  refine fn_of (n := n + 7) Try.func77 rfl rfl rfl (u77 (n + 6) w ls ld zs zd (szs zd ld) (kdO w ls zs (szs zd ld) (ls + 2)) H) (il_no (n + 6) 1) (blkE_ok (noBT_ok _ _) b77 (fun x hx => by rw [← Tr.ok_some hx]; exact l77 (n + 7) w ls ld zs zd (fun _ => 0) H hld hd)) (rgE_ok (noRT_ok _ _) (fun f ps a b _ hm x hx => ?_)) (y := ((tabV w ls ld zs zd (szs zd ld) (kdO w ls zs (szs zd ld) (ls + 2)), none), H)) ?_
  · rw [r77o] at hm
    simp only [List.mem_cons, Prod.mk.injEq, List.not_mem_nil, or_false] at hm
    obtain ⟨rfl, rfl, rfl, rfl⟩ := hm
    rw [← Tr.ok_some hx]
    exact rg_o n w ls ld zs zd (szs zd ld) H hls
  · have em : mkO (Int.ofNat ls) (Int.ofNat ls) 16 = true := by
      rw [mkO_eq, decide_eq_true_eq]
      have : room = 2 ^ 46 := rfl
      have e : (Int.ofNat ls).toNat = ls := rfl
      rw [e]
      refine ⟨by simp, by simp, ?_, ?_⟩ <;> omega
    rw [Tr.run_req, em, cond_true, toN_eq, show (Int.ofNat ls).toNat = ls from rfl, Tr.run_reqP ⟨rfl, rfl⟩, Tr.run_reqP ⟨rfl, rfl⟩, Tr.run_req, beqN_self, cond_true, Tr.run_req, inO_eq, decide_eq_true (by omega), cond_true, Tr.run_ok, shO_zero, beqN_self]
    rfl
end
end Go.Eng
end
