/- Drop: newTable: the inner loop. -/
import Derived.Test.YtjmjkhpfipglcaaV6DrJx2
section
namespace Go.Eng
open Go.Proofs
set_option linter.unusedVariables false
set_option linter.unusedSimpArgs false
set_option maxRecDepth 100000
def kdI (w : Int) (zs sz : Nat → Int) (p : Int) (kd : Nat → Int) : Nat → Nat → Int
 | 0 => kd
 | j + 1 => kdS w zs sz p ((j : Int) - 2) (kdI w zs sz p kd j)
theorem wrap_p (j : Nat) (h : j < 1000) : IntKind.i64.wrap (((j : Int) - 2) + 1) = ((j + 1 : Nat) : Int) - 2 := by
 rw [show ((j : Int) - 2 + 1) = ((j + 1 : Nat) : Int) - 2 by omega]
 exact Go.IntWalk.i64_in _ (by omega)
noncomputable def gI (pp w : Int) (ls ld : Nat) (zs zd sz kd : Nat → Int) (H : Heap) (L Li : ALoop) : Heap := lv0 :: lvP pp [(0, .loop Li)] :: lv0 :: lvT w ls ld zs zd sz kd [(0, .loop L)] :: H
noncomputable def frL (j : Nat) : Frm := [(0, .yld 1 1), (1, .ptrT (some 1) (.G [.ptr 2 2 0 0]) 0), (3, .int .i64 ((j : Int) - 2))]
theorem b109 : ∀ b, (0, b) ∈ blocksOf (bodyOf Try.f109) → b = .loop (part Try.f109 [1,0,0]) := by
 have : blocksOf (bodyOf Try.f109) = [(0, .loop (part Try.f109 [1,0,0])), (1, part Try.f109 [1, 0, 0, 1, 0, 0])] := by kernel_rfl
 intro b hb; rw [this] at hb; simpa using hb
theorem t109x (n : Nat) (pp w : Int) (ls ld : Nat) (zs zd sz kd : Nat → Int) (H : Heap) (L Li : ALoop) (q : Int) : execT (cxD n 109 18) (il noCt n 0) noBT noRT (part Try.f109 [1,0,0]) (hints [(0, .yld 1 1), (1, .ptrT (some 1) (.G [.ptr 2 2 0 0]) 0), (3, .int .i64 q)]) (lv0 :: lvP pp [(0, .loop Li)] :: lv0 :: lvT w ls ld zs zd sz kd [(0, .loop L)] :: H) =
 Tr.ite (ltI q (Int.ofNat ls)) Tr.bad (Tr.ok (Ex.exit 0, [(0, AV.yld 1 1, none), (1, AV.ptrT (some 1) (Row.G [AV.ptr 2 2 0 0]) 0, none), (3, AV.int .i64 q, none), (11, AV.bool false, some 1)], lv0 :: { lock := false, bs := [(0, Blk.row (Row.I .i64 [pp])), (0, Blk.loop Li)] } :: lv0 :: { lock := false, bs := [(0, Blk.row (Row.G [AV.int .i64 w, slA 2 ls zs, slA 3 ld zd])), (0, Blk.row (Row.M [Seg.arr .i64 sz (mulO ls 2)])), (0, Blk.row (Row.M [Seg.one (AV.int .i64 w), Seg.one (slA 2 ls zs), Seg.one (slA 3 ld zd), Seg.one (AV.slc 0 1 0 0 2 ls (some ls)), Seg.arr .i64 kd 144])), (0, Blk.row (Row.G [AV.ptr 0 2 0 0])), (0, Blk.loop L)] } :: H)) := by kernel_rfl
theorem t109y (n : Nat) (w : Int) (ls ld : Nat) (zs zd sz kd : Nat → Int) (H : Heap) (L : ALoop) (q : Int) : execT (cxD n 109 18) (il noCt n 0) noBT noRT (part Try.f109 [1,0,0]) (hints [(0, .yld 1 4), (1, cap0 1), (3, .int .i64 q)]) (lv0 :: lvT w ls ld zs zd sz kd [(0, .loop L)] :: H) =
 Tr.ite (ltI q (Int.ofNat ls)) Tr.bad (Tr.ok (Ex.exit 0, [(0, AV.yld 1 4, none), (1, AV.ptrT (some 1) (Row.G [AV.ptr 0 2 0 0]) 0, none), (3, AV.int .i64 q, none), (11, AV.bool false, some 1)], lv0 :: { lock := false, bs := [(0, Blk.row (Row.G [AV.int .i64 w, slA 2 ls zs, slA 3 ld zd])), (0, Blk.row (Row.M [Seg.arr .i64 sz (mulO ls 2)])), (0, Blk.row (Row.M [Seg.one (AV.int .i64 w), Seg.one (slA 2 ls zs), Seg.one (slA 3 ld zd), Seg.one (AV.slc 0 1 0 0 2 ls (some ls)), Seg.arr .i64 kd 144])), (0, Blk.row (Row.G [AV.ptr 0 2 0 0])), (0, Blk.loop L)] } :: H)) := by kernel_rfl
section
variable (n : Nat) (pp w : Int) (ls ld : Nat) (zs zd sz kd : Nat → Int) (H : Heap) (L : ALoop)
theorem rd_i (hls : ls ≤ 10) (q : Int) (h1 : -2 ≤ pp ∧ pp < ls) (h2 : -2 ≤ q ∧ q < ls) : cd (n + 4) (.round 1 1) [.int .i64 q] (gI pp w ls ld zs zd sz kd H L recI) = some (.bool true, gI pp w ls ld zs zd sz (kdS w zs sz pp q kd) H L recI) := by
 obtain ⟨fr', h2⟩ := r77i n pp w ls ld zs zd sz kd H L { recI with state := .busy } hls q h1 h2
 have ha : exec (cxR (n + 3) 77 94 2 1) (part Try.f77 [1, 1, 1, 0, 1, 0, 1, 0, 1, 0, 0]) [(3, .ptr 4 3 0 0), (7, .ptr 2 0 0 0), (55, AV.fn (Fn.func 109) [] [AV.ptrT (some 2) (Row.G [AV.ptr 2 2 0 0]) 0]), (56, .int .i64 q)] (hT pp w ls ld zs zd sz kd H L recI) = some (.normal, frI q, hT pp w ls ld zs zd sz kd H L recI) := by
  have := execT_ok (cx := cxR (n + 3) 77 94 2 1) (il_no0 (n + 3)) (part Try.f77 [1, 1, 1, 0, 1, 0, 1, 0, 1, 0, 0]) (noBT_ok _ _) (noRT_ok _ _) (hints [(3, .ptr 4 3 0 0), (7, .ptr 2 0 0 0), (55, AV.fn (Fn.func 109) [] [AV.ptrT (some 2) (Row.G [AV.ptr 2 2 0 0]) 0]), (56, .int .i64 q)]) (hT pp w ls ld zs zd sz kd H L recI) (.normal, hints (frI q), hT pp w ls ld zs zd sz kd H L recI) (by rw [t77a]; rfl)
  exact this
 exact round_of (n := n + 3) (l := recI) (l1 := recI) (l2 := { recI with state := .busy }) rfl rfl rfl rfl ha rfl rfl h2 rfl
theorem l109i (hls : ls ≤ 10) (h1 : -2 ≤ pp ∧ pp < ls) : exec (cxD (n + 4) 109 18) (.block 0 (.loop (part Try.f109 [1,0,0]))) (frL 0) (gI pp w ls ld zs zd sz kd H L recI) = some (.normal, frL (ls + 2) ++ [(11, .bool false)], gI pp w ls ld zs zd sz (kdI w zs sz pp kd (ls + 2)) H L recI) := by
 refine forE 0 frL (fun j => gI pp w ls ld zs zd sz (kdI w zs sz pp kd j) H L recI) (ls + 2) (.exit 0, hints (frL (ls + 2)) ++ [(11, .bool false, some 1)], gI pp w ls ld zs zd sz (kdI w zs sz pp kd (ls + 2)) H L recI) (by omega) (fun j hj => ?_) ⟨?_, rfl⟩
 · have hr := rd_i n pp w ls ld zs zd sz (kdI w zs sz pp kd j) H L hls ((j : Int) - 2) h1 ⟨by omega, by omega⟩
   refine ⟨frL (j + 1), gI pp w ls ld zs zd sz (kdI w zs sz pp kd (j + 1)) H L recI, ex_of (t109i (n + 4) pp w ls ld zs zd sz (kdI w zs sz pp kd j) (kdI w zs sz pp kd (j + 1)) H L recI ((j : Int) - 2)) (rdE_ok (il_no0 (n + 4)) (fun x hx => ?_)) (noBT_ok _ _) (noRT_ok _ _) (x := (.normal, hints (frL (j + 1)), gI pp w ls ld zs zd sz (kdI w zs sz pp kd (j + 1)) H L recI)) ?_, rfl, rfl⟩
   · rw [← Tr.ok_some hx]; exact hr
   · rw [Tr.run_ite, ltI_eq, decide_eq_true (by simp; omega), cond_true, Tr.run_reqP ⟨rfl, rfl⟩, Tr.run_ite, notB_eq, Bool.not_true, cond_false, Tr.run_ok, addI_eq, show Int.ofNat 1 = 1 from rfl, wrap_p j (by omega)]
     rfl
 · refine ex_of (t109x (n + 4) pp w ls ld zs zd sz (kdI w zs sz pp kd (ls + 2)) H L recI (((ls + 2 : Nat) : Int) - 2)) (il_no0 (n + 4)) (noBT_ok _ _) (noRT_ok _ _) ?_
   rw [Tr.run_ite, ltI_eq, decide_eq_false (by show ¬ ((ls + 2 : Nat) : Int) - 2 < ((ls : Nat) : Int); omega), cond_false]
   rfl
theorem c109i (hls : ls ≤ 10) (h1 : -2 ≤ pp ∧ pp < ls) : cd (n + 5) (.fn 109) [.yld 0 1, .ptrT (some 0) (.G [.ptr 2 2 0 0]) 0] (lvP pp [(0, .loop recI)] :: lv0 :: lvT w ls ld zs zd sz kd [(0, .loop L)] :: H) = some (.tup [], lvP pp [(0, .loop recI)] :: lv0 :: lvT w ls ld zs zd sz (kdI w zs sz pp kd (ls + 2)) [(0, .loop L)] :: H) := by
 have hl := l109i n pp w ls ld zs zd sz kd H L hls h1
 have e : ((ls + 2 : Nat) : Int) - 2 = Int.ofNat ls := by show _ = ((ls : Nat) : Int); omega
 unfold frL at hl
 rw [e] at hl
 exact fn_of (n := n + 4) Try.func109 rfl rfl rfl (u109i (n + 4) pp w ls ld zs zd sz kd (kdI w zs sz pp kd (ls + 2)) H L recI) (il_no0 (n + 4)) (blkE_ok (noBT_ok _ _) b109 (fun x hx => by rw [← Tr.ok_some hx]; exact hl)) (noRT_ok _ _) (y := ((.tup [], none), lvP pp [(0, .loop recI)] :: lv0 :: lvT w ls ld zs zd sz (kdI w zs sz pp kd (ls + 2)) [(0, .loop L)] :: H)) (Tr.run_reqP ⟨rfl, rfl⟩)
theorem rg_i (hls : ls ≤ 10) (h1 : -2 ≤ pp ∧ pp < ls) : exec (cxR (n + 5) 77 94 2 4) (.rangeFunc (.tmp 55) #[56] (part Try.f77 [1, 1, 1, 0, 1, 0, 1, 0, 1, 0, 0]) (part Try.f77 [1, 1, 1, 0, 1, 0, 1, 0, 1, 0, 1])) [(3, .ptr 2 3 0 0), (7, .ptr 0 0 0 0), (55, AV.fn (Fn.func 109) [] [AV.ptrT (some 0) (Row.G [AV.ptr 2 2 0 0]) 0])] (lvP pp [] :: lv0 :: lvT w ls ld zs zd sz kd [(0, .loop L)] :: H) =
 some (.normal, [(3, .ptr 2 3 0 0), (7, .ptr 0 0 0 0), (55, AV.fn (Fn.func 109) [] [AV.ptrT (some 0) (Row.G [AV.ptr 2 2 0 0]) 0])], lvP pp [(0, .dead)] :: lv0 :: lvT w ls ld zs zd sz (kdI w zs sz pp kd (ls + 2)) [(0, .loop L)] :: H) :=
 range_of (cx := cxR (n + 5) 77 94 2 4) (l := recI) (f := .tmp 55) (ps := #[56]) (fr := [(3, .ptr 2 3 0 0), (7, .ptr 0 0 0 0), (55, AV.fn (Fn.func 109) [] [AV.ptrT (some 0) (Row.G [AV.ptr 2 2 0 0]) 0])]) (H := lvP pp [] :: lv0 :: lvT w ls ld zs zd sz kd [(0, .loop L)] :: H) (g := 109) (a := []) (b := [AV.ptrT (some 0) (Row.G [AV.ptr 2 2 0 0]) 0]) rfl rfl rfl (c109i n pp w ls ld zs zd sz kd H L hls h1) rfl rfl rfl
end
end Go.Eng
end
section
namespace Go.Eng
open Go.Proofs
set_option linter.unusedVariables false
set_option linter.unusedSimpArgs false
set_option maxRecDepth 100000
noncomputable def frO : Frm := [(3, .ptr 0 3 0 0), (52, AV.fn (Fn.func 109) [] [cap0 0])]
noncomputable def frC : Frm := [(3, .ptr 2 3 0 0), (7, .ptr 0 0 0 0), (55, AV.fn (Fn.func 109) [] [AV.ptrT (some 0) (Row.G [AV.ptr 2 2 0 0]) 0])]
noncomputable def tabV (w : Int) (ls ld : Nat) (zs zd sz kd : Nat → Int) : AV := .ptrT (some 0) (.M [.one (.int .i64 w), .one (slA 2 ls zs), .one (slA 3 ld zd), .one (.slcT none (.M [.arr .i64 sz (mulO ls 2)]) 2 ls true), .arr .i64 kd 144]) 0
noncomputable def recO : ALoop := { state := .ready, pending := none, fn := 77, nt := 94, fr := frO, params := [53], assign := part Try.f77 [1, 1, 1, 0, 1, 0, 0], body := part Try.f77 [1, 1, 1, 0, 1, 0, 1] }
theorem t77b (n : Nat) (w : Int) (ls ld : Nat) (zs zd sz kd : Nat → Int) (H : Heap) (L : ALoop) (p : Int) : execT (cxR n 77 94 2 4) (il noCt n 0) noBT noRT (part Try.f77 [1, 1, 1, 0, 1, 0, 0]) (hints [(3, .ptr 2 3 0 0), (52, AV.fn (Fn.func 109) [] [cap0 2]), (53, .int .i64 p)]) (lv0 :: lv0 :: lvT w ls ld zs zd sz kd [(0, .loop L)] :: H) =
 Tr.ok (Ex.normal, [(3, AV.ptr 2 3 0 0, none), (7, AV.ptr 0 0 0 0, none)], { lock := false, bs := [(0, Blk.row (Row.I .i64 [p]))] } :: lv0 :: { lock := false, bs := [(0, Blk.row (Row.G [AV.int .i64 w, slA 2 ls zs, slA 3 ld zd])), (0, Blk.row (Row.M [Seg.arr .i64 sz (mulO ls 2)])), (0, Blk.row (Row.M [Seg.one (AV.int .i64 w), Seg.one (slA 2 ls zs), Seg.one (slA 3 ld zd), Seg.one (AV.slc 0 1 0 0 2 ls (some ls)), Seg.arr .i64 kd 144])), (0, Blk.row (Row.G [AV.ptr 0 2 0 0])), (0, Blk.loop L)] } :: H) := by kernel_rfl
theorem t77c (n : Nat) (w : Int) (ls ld : Nat) (zs zd sz kd kd' : Nat → Int) (H : Heap) (L : ALoop) (p : Int) : execT (cxR (n+1) 77 94 2 4) (il noCt n 1) noBT (rgE noRT (fun _ => true) frC (lvP p [] :: lv0 :: lvT w ls ld zs zd sz kd [(0, .loop L)] :: H) (.ok (.normal, hints frC, lvP p [(0, .dead)] :: lv0 :: lvT w ls ld zs zd sz kd' [(0, .loop L)] :: H))) (part Try.f77 [1, 1, 1, 0, 1, 0, 1]) (hints [(3, .ptr 2 3 0 0), (7, .ptr 0 0 0 0)]) (lvP p [] :: lv0 :: lvT w ls ld zs zd sz kd [(0, .loop L)] :: H) =
 (fun (Z0 : Lvl) => ((fun (Z1 : Frm) => Tr.reqP (Z1 = Z1 ∧ { lock := false, bs := [(0, Blk.row (Row.I .i64 [p]))] } :: lv0 :: Z0 :: H = { lock := false, bs := [(0, Blk.row (Row.I .i64 [p]))] } :: lv0 :: Z0 :: H) (Tr.ok (Ex.normal, [(3, AV.ptr 2 3 0 0, none), (7, AV.ptr 0 0 0 0, none), (55, AV.fn (Fn.func 109) [] [AV.ptrT (some 0) (Row.G [AV.ptr 2 2 0 0]) 0], none)], { lock := false, bs := [(0, Blk.row (Row.I .i64 [p])), (0, Blk.dead)] } :: lv0 :: { lock := false, bs := [(0, Blk.row (Row.G [AV.int .i64 w, slA 2 ls zs, slA 3 ld zd])), (0, Blk.row (Row.M [Seg.arr .i64 sz (mulO ls 2)])), (0, Blk.row (Row.M [Seg.one (AV.int .i64 w), Seg.one (slA 2 ls zs), Seg.one (slA 3 ld zd), Seg.one (AV.slc 0 1 0 0 2 ls (some ls)), Seg.arr .i64 kd' 144])), (0, Blk.row (Row.G [AV.ptr 0 2 0 0])), (0, Blk.loop L)] } :: H))) [(3, AV.ptr 2 3 0 0), (7, AV.ptr 0 0 0 0), (55, AV.fn (Fn.func 109) [] [AV.ptrT (some 0) (Row.G [AV.ptr 2 2 0 0]) 0])])) { lock := false, bs := [(0, Blk.row (Row.G [AV.int .i64 w, slA 2 ls zs, slA 3 ld zd])), (0, Blk.row (Row.M [Seg.arr .i64 sz (mulO ls 2)])), (0, Blk.row (Row.M [Seg.one (AV.int .i64 w), Seg.one (slA 2 ls zs), Seg.one (slA 3 ld zd), Seg.one (AV.slc 0 1 0 0 2 ls (some ls)), Seg.arr .i64 kd 144])), (0, Blk.row (Row.G [AV.ptr 0 2 0 0])), (0, Blk.loop L)] } := by kernel_rfl
theorem u77 (n : Nat) (w : Int) (ls ld : Nat) (zs zd sz kd : Nat → Int) (H : Heap) : bodyT Try.prog (cd (n+1)) 100000 77 Try.f77 (Kt.kt 77) (il noCt n 1) (blkE noBT 0 (fr77 ld zd (Int.ofNat 0)) (lvT w ls ld zs zd (fun _ => 0) (fun _ => 0) [] :: H) (.ok (.normal, hints (fr77 ld zd (Int.ofNat ld) ++ [(20, AV.bool false)]), lvT w ls ld zs zd sz (fun _ => 0) [] :: H))) (rgE noRT (fun _ => true) frO (lvT w ls ld zs zd sz (fun _ => 0) [] :: H) (.ok (.normal, hints frO, lvT w ls ld zs zd sz kd [(0, .dead)] :: H))) [(bathA w ls zs ld zd, none)] H =
 (fun (Z0 : Lvl) => ((fun (Z1 : Frm) => ((fun (Z2 : Frm) => Tr.req (mkO (Int.ofNat ls) (Int.ofNat ls) 16) (Tr.req (andB (leN 0 0) (leN 0 1)) (Tr.reqP (Z1 = Z1 ∧ { lock := false, bs := [(0, Blk.row (Row.G [AV.int .i64 w, slA 2 ls zs, slA 3 ld zd])), (0, Blk.row (Row.M [Seg.arr .i64 (fun x => Int.ofNat 0) (mulO (toN (Int.ofNat ls)) 2)])), (0, Blk.row (Row.M [Seg.one (AV.int .i64 w), Seg.one (slA 2 ls zs), Seg.one (slA 3 ld zd), Seg.one (AV.slc 0 1 0 0 2 (toN (Int.ofNat ls)) (some (toN (Int.ofNat ls)))), Seg.arr .i64 (fun x => Int.ofNat 0) 144])), (0, Blk.row (Row.G [AV.ptr 0 2 0 0]))] } :: H = { lock := false, bs := [(0, Blk.row (Row.G [AV.int .i64 w, slA 2 ls zs, slA 3 ld zd])), (0, Blk.row (Row.M [Seg.arr .i64 (fun x => Int.ofNat 0) (mulO ls 2)])), (0, Blk.row (Row.M [Seg.one (AV.int .i64 w), Seg.one (slA 2 ls zs), Seg.one (slA 3 ld zd), Seg.one (AV.slc 0 1 0 0 2 ls (some ls)), Seg.arr .i64 (fun x => Int.ofNat 0) 144])), (0, Blk.row (Row.G [AV.ptr 0 2 0 0]))] } :: H) (Tr.reqP (Z2 = Z2 ∧ Z0 :: H = Z0 :: H) (Tr.req (eqN 0 0) (Tr.req (inO 0 (mulO ls 2) 0 (mulO ls 2)) (Tr.ok ((AV.ptrT (some 0) (Row.M [Seg.one (AV.int .i64 w), Seg.one (slA 2 ls zs), Seg.one (slA 3 ld zd), Seg.one (AV.slcT none (Row.M [Seg.arr .i64 (shO sz 0) (mulO ls 2)]) 2 ls (eqN ls ls)), Seg.arr .i64 kd 144]) 0, none), H)))))))) [(3, AV.ptr 0 3 0 0), (52, AV.fn (Fn.func 109) [] [AV.ptrT (some 0) (Row.G [AV.ptr 0 2 0 0]) 0])])) [(3, AV.ptr 0 3 0 0), (17, slA 3 ld zd), (18, AV.int .i64 (Int.ofNat ld)), (19, AV.int .i64 (Int.ofNat 0))])) { lock := false, bs := [(0, Blk.row (Row.G [AV.int .i64 w, slA 2 ls zs, slA 3 ld zd])), (0, Blk.row (Row.M [Seg.arr .i64 sz (mulO ls 2)])), (0, Blk.row (Row.M [Seg.one (AV.int .i64 w), Seg.one (slA 2 ls zs), Seg.one (slA 3 ld zd), Seg.one (AV.slc 0 1 0 0 2 ls (some ls)), Seg.arr .i64 (fun x => Int.ofNat 0) 144])), (0, Blk.row (Row.G [AV.ptr 0 2 0 0]))] } := by kernel_rfl
def kdO (w : Int) (ls : Nat) (zs sz : Nat → Int) : Nat → Nat → Int
 | 0 => fun _ => 0
 | j + 1 => kdI w zs sz ((j : Int) - 2) (kdO w ls zs sz j) (ls + 2)
noncomputable def gO (w : Int) (ls ld : Nat) (zs zd sz kd : Nat → Int) (H : Heap) (L : ALoop) : Heap := lv0 :: lvT w ls ld zs zd sz kd [(0, .loop L)] :: H
noncomputable def frM (j : Nat) : Frm := [(0, .yld 1 4), (1, cap0 1), (3, .int .i64 ((j : Int) - 2))]
theorem r77c : rangesOf (part Try.f77 [1, 1, 1, 0, 1, 0, 1]) = [(.tmp 55, #[56], part Try.f77 [1, 1, 1, 0, 1, 0, 1, 0, 1, 0, 0], part Try.f77 [1, 1, 1, 0, 1, 0, 1, 0, 1, 0, 1])] := by kernel_rfl
theorem r77o : rangesOf (bodyOf Try.f77) = [(.tmp 52, #[53], part Try.f77 [1, 1, 1, 0, 1, 0, 0], part Try.f77 [1, 1, 1, 0, 1, 0, 1])] := by kernel_rfl
theorem b77 : ∀ b, (0, b) ∈ blocksOf (bodyOf Try.f77) → b = .loop (part Try.f77 [1,1,0,1,0,0]) := by
 have : blocksOf (bodyOf Try.f77) = [(0, .loop (part Try.f77 [1,1,0,1,0,0])), (1, part Try.f77 [1, 1, 0, 1, 0, 0, 1, 1, 0, 0]), (2, part Try.f77 [1, 1, 1, 0, 1, 0])] := by kernel_rfl
 intro b hb; rw [this] at hb; simpa using hb
section
variable (n : Nat) (w : Int) (ls ld : Nat) (zs zd sz kd : Nat → Int) (H : Heap)
theorem rd_o (hls : ls ≤ 10) (p : Int) (h1 : -2 ≤ p ∧ p < ls) : cd (n + 6) (.round 1 4) [.int .i64 p] (gO w ls ld zs zd sz kd H recO) = some (.bool true, gO w ls ld zs zd sz (kdI w zs sz p kd (ls + 2)) H recO) := by
 have ha : exec (cxR (n + 5) 77 94 2 4) (part Try.f77 [1, 1, 1, 0, 1, 0, 0]) [(3, .ptr 2 3 0 0), (52, AV.fn (Fn.func 109) [] [cap0 2]), (53, .int .i64 p)] (lv0 :: lv0 :: lvT w ls ld zs zd sz kd [(0, .loop recO)] :: H) = some (.normal, [(3, .ptr 2 3 0 0), (7, .ptr 0 0 0 0)], lvP p [] :: lv0 :: lvT w ls ld zs zd sz kd [(0, .loop recO)] :: H) := by
  have := execT_ok (cx := cxR (n + 5) 77 94 2 4) (il_no0 (n + 5)) (part Try.f77 [1, 1, 1, 0, 1, 0, 0]) (noBT_ok _ _) (noRT_ok _ _) (hints [(3, .ptr 2 3 0 0), (52, AV.fn (Fn.func 109) [] [cap0 2]), (53, .int .i64 p)]) (lv0 :: lv0 :: lvT w ls ld zs zd sz kd [(0, .loop recO)] :: H) (.normal, hints [(3, .ptr 2 3 0 0), (7, .ptr 0 0 0 0)], lvP p [] :: lv0 :: lvT w ls ld zs zd sz kd [(0, .loop recO)] :: H) (by rw [t77b]; rfl)
  exact this
 have hb : exec (cxR (n + 5) 77 94 2 4) (part Try.f77 [1, 1, 1, 0, 1, 0, 1]) [(3, .ptr 2 3 0 0), (7, .ptr 0 0 0 0)] (lvP p [] :: lv0 :: lvT w ls ld zs zd sz kd [(0, .loop { recO with state := .busy })] :: H) = some (.normal, frC, lvP p [(0, .dead)] :: lv0 :: lvT w ls ld zs zd sz (kdI w zs sz p kd (ls + 2)) [(0, .loop { recO with state := .busy })] :: H) := by
  have := execT_ok (cx := cxR (n + 5) 77 94 2 4) (il_no (n + 4) 1) (part Try.f77 [1, 1, 1, 0, 1, 0, 1]) (noBT_ok _ _) (rgE_ok (noRT_ok _ _) (tf := fun _ => true) (fr0 := frC) (H0 := lvP p [] :: lv0 :: lvT w ls ld zs zd sz kd [(0, .loop { recO with state := .busy })] :: H) (u := .ok (.normal, hints frC, lvP p [(0, .dead)] :: lv0 :: lvT w ls ld zs zd sz (kdI w zs sz p kd (ls + 2)) [(0, .loop { recO with state := .busy })] :: H)) (fun f ps a b _ hm x hx => by
   rw [r77c] at hm
   simp only [List.mem_cons, Prod.mk.injEq, List.not_mem_nil, or_false] at hm
   obtain ⟨rfl, rfl, rfl, rfl⟩ := hm
   rw [← Tr.ok_some hx]
   exact rg_i n p w ls ld zs zd sz kd H { recO with state := .busy } hls h1)) (hints [(3, .ptr 2 3 0 0), (7, .ptr 0 0 0 0)]) (lvP p [] :: lv0 :: lvT w ls ld zs zd sz kd [(0, .loop { recO with state := .busy })] :: H) (.normal, hints frC, lvP p [(0, .dead)] :: lv0 :: lvT w ls ld zs zd sz (kdI w zs sz p kd (ls + 2)) [(0, .loop { recO with state := .busy })] :: H)
   (by rw [show n + 5 = n + 4 + 1 from rfl, t77c, Tr.run_reqP ⟨rfl, rfl⟩]; rfl)
  exact this
 exact round_of (n := n + 5) (l := recO) (l1 := recO) (l2 := { recO with state := .busy }) rfl rfl rfl rfl ha rfl rfl hb rfl
theorem l109o (hls : ls ≤ 10) : exec (cxD (n + 6) 109 18) (.block 0 (.loop (part Try.f109 [1,0,0]))) (frM 0) (gO w ls ld zs zd sz (fun _ => 0) H recO) = some (.normal, frM (ls + 2) ++ [(11, .bool false)], gO w ls ld zs zd sz (kdO w ls zs sz (ls + 2)) H recO) := by
 refine forE 0 frM (fun j => gO w ls ld zs zd sz (kdO w ls zs sz j) H recO) (ls + 2) (.exit 0, hints (frM (ls + 2)) ++ [(11, .bool false, some 1)], gO w ls ld zs zd sz (kdO w ls zs sz (ls + 2)) H recO) (by omega) (fun j hj => ?_) ⟨?_, rfl⟩
 · have hr := rd_o n w ls ld zs zd sz (kdO w ls zs sz j) H hls ((j : Int) - 2) ⟨by omega, by omega⟩
   refine ⟨frM (j + 1), gO w ls ld zs zd sz (kdO w ls zs sz (j + 1)) H recO, ex_of (t109o (n + 6) w ls ld zs zd sz (kdO w ls zs sz j) (kdO w ls zs sz (j + 1)) H recO ((j : Int) - 2)) (rdE_ok (il_no0 (n + 6)) (fun x hx => ?_)) (noBT_ok _ _) (noRT_ok _ _) (x := (.normal, hints (frM (j + 1)), gO w ls ld zs zd sz (kdO w ls zs sz (j + 1)) H recO)) ?_, rfl, rfl⟩
   · rw [← Tr.ok_some hx]; exact hr
   · rw [Tr.run_ite, ltI_eq, decide_eq_true (by simp; omega), cond_true, Tr.run_reqP ⟨rfl, rfl⟩, Tr.run_ite, notB_eq, Bool.not_true, cond_false, Tr.run_ok, addI_eq, show Int.ofNat 1 = 1 from rfl, wrap_p j (by omega)]
     rfl
 · refine ex_of (t109y (n + 6) w ls ld zs zd sz (kdO w ls zs sz (ls + 2)) H recO (((ls + 2 : Nat) : Int) - 2)) (il_no0 (n + 6)) (noBT_ok _ _) (noRT_ok _ _) ?_
   rw [Tr.run_ite, ltI_eq, decide_eq_false (by show ¬ ((ls + 2 : Nat) : Int) - 2 < ((ls : Nat) : Int); omega), cond_false]
   rfl
theorem c109o (hls : ls ≤ 10) : cd (n + 7) (.fn 109) [.yld 0 4, cap0 0] (lvT w ls ld zs zd sz (fun _ => 0) [(0, .loop recO)] :: H) = some (.tup [], lvT w ls ld zs zd sz (kdO w ls zs sz (ls + 2)) [(0, .loop recO)] :: H) := by
 have hl := l109o n w ls ld zs zd sz H hls
 have e : ((ls + 2 : Nat) : Int) - 2 = Int.ofNat ls := by show _ = ((ls : Nat) : Int); omega
 unfold frM at hl
 rw [e] at hl
 exact fn_of (n := n + 6) Try.func109 rfl rfl rfl (u109o (n + 6) w ls ld zs zd sz (fun _ => 0) (kdO w ls zs sz (ls + 2)) H recO) (il_no0 (n + 6)) (blkE_ok (noBT_ok _ _) b109 (fun x hx => by rw [← Tr.ok_some hx]; exact hl)) (noRT_ok _ _) (y := ((.tup [], none), lvT w ls ld zs zd sz (kdO w ls zs sz (ls + 2)) [(0, .loop recO)] :: H)) (Tr.run_reqP ⟨rfl, rfl⟩)
theorem rg_o (hls : ls ≤ 10) : exec (cxD (n + 7) 77 94) (.rangeFunc (.tmp 52) #[53] (part Try.f77 [1, 1, 1, 0, 1, 0, 0]) (part Try.f77 [1, 1, 1, 0, 1, 0, 1])) frO (lvT w ls ld zs zd sz (fun _ => 0) [] :: H) =
 some (.normal, frO, lvT w ls ld zs zd sz (kdO w ls zs sz (ls + 2)) [(0, .dead)] :: H) :=
 range_of (cx := cxD (n + 7) 77 94) (l := recO) (f := .tmp 52) (ps := #[53]) (fr := frO) (H := lvT w ls ld zs zd sz (fun _ => 0) [] :: H) (g := 109) (a := []) (b := [cap0 0]) rfl rfl rfl (c109o n w ls ld zs zd sz H hls) rfl rfl rfl
theorem c77 (hls : ls ≤ 10) (hld : ld ≤ 40) (hd : ∀ j, j < ld → 0 ≤ zd (j * 3) ∧ zd (j * 3) < ls) : cd (n + 8) (.fn 77) [bathA w ls zs ld zd] H = some (tabV w ls ld zs zd (szs zd ld) (kdO w ls zs (szs zd ld) (ls + 2)), H) := by
 refine fn_of (n := n + 7) Try.func77 rfl rfl rfl (u77 (n + 6) w ls ld zs zd (szs zd ld) (kdO w ls zs (szs zd ld) (ls + 2)) H) (il_no (n + 6) 1) (blkE_ok (noBT_ok _ _) b77 (fun x hx => by rw [← Tr.ok_some hx]; exact l77 (n + 7) w ls ld zs zd (fun _ => 0) H hld hd)) (rgE_ok (noRT_ok _ _) (fun f ps a b _ hm x hx => ?_)) (y := ((tabV w ls ld zs zd (szs zd ld) (kdO w ls zs (szs zd ld) (ls + 2)), none), H)) ?_
 · rw [r77o] at hm
   simp only [List.mem_cons, Prod.mk.injEq, List.not_mem_nil, or_false] at hm
   obtain ⟨rfl, rfl, rfl, rfl⟩ := hm
   rw [← Tr.ok_some hx]
   exact rg_o n w ls ld zs zd (szs zd ld) H hls
 · have em : mkO (Int.ofNat ls) (Int.ofNat ls) 16 = true := by
    rw [mkO_eq, decide_eq_true_eq]
    have : room = 2 ^ 46 := rfl
    have e : (Int.ofNat ls).toNat = ls := rfl
    rw [e]
    refine ⟨by simp, by simp, ?_, ?_⟩ <;> omega
   rw [Tr.run_req, em, cond_true, toN_eq, show (Int.ofNat ls).toNat = ls from rfl, Tr.run_req, ver0, cond_true, Tr.run_reqP ⟨rfl, rfl⟩, Tr.run_reqP ⟨rfl, rfl⟩, Tr.run_req, beqN_self, cond_true, Tr.run_req, inO_eq, decide_eq_true (by omega), cond_true, Tr.run_ok, shO_zero, beqN_self]
   rfl
end
end Go.Eng
end
section
namespace Go.Eng
open Go.Proofs
set_option linter.unusedVariables false
set_option linter.unusedSimpArgs false
set_option maxRecDepth 100000
def g77 (B : AV) (side : Prop) (t : AV) : List AV → Option (Prop × AV)
 | [b] => some (b = B ∧ side, t)
 | _ => none
def gS (B : AV) (s : Int) (a b e : Int) : List AV → Option (Prop × AV)
 | [c, .int .i64 k] => some (c = B ∧ k = s, .tup [.agg (.I .i64 [a, b]), .int .i64 e])
 | _ => none
def g16 : List AV → Option (Prop × AV)
 | [] => some (True, .bool true)
 | _ => none
theorem u17 (n : Nat) (w : Int) (ls ld : Nat) (zs zd sz kd : Nat → Int) (H : Heap) (s e : Int) (side : Prop) : bodyT Try.prog (cd (n+12)) 100000 17 Try.f17 (Kt.kt 17) (il (ctG (ctG noCt 19 (g20 (bathA w ls zs ld zd) e)) 77 (g77 (bathA w ls zs ld zd) side (tabV w ls ld zs zd sz kd))) (n+11) 1) noBT noRT [(bathA w ls zs ld zd, none), (.int .i64 s, none)] H =
 (fun (Z0 : AV × Option Nat) => Tr.reqP (bathA w ls zs ld zd = bathA w ls zs ld zd) (Tr.ite (notB (eqI e (Int.ofNat 0))) (Tr.ite (notB (eqI e (Int.ofNat 0))) (Tr.ok ((AV.tup [AV.agg (Row.I .i64 [Int.ofNat 0, Int.ofNat 0]), AV.int .i64 e], none), H)) (Tr.ite (ltI s (Int.ofNat 0)) (Tr.ok (Z0, H)) (Tr.ite (leI (Int.negSucc 1) s) Tr.bad (Tr.ok (Z0, H))))) (Tr.reqP (bathA w ls zs ld zd = bathA w ls zs ld zd ∧ side) (Tr.ite (notB (eqI (Int.ofNat 0) (Int.ofNat 0))) (Tr.ok ((AV.tup [AV.agg (Row.I .i64 [Int.ofNat 0, Int.ofNat 0]), AV.int .i64 (Int.ofNat 0)], none), H)) (Tr.ite (ltI s (Int.ofNat 0)) (Tr.ok (Z0, H)) (Tr.ite (leI (Int.negSucc 1) s) (Tr.ite (notB (ltI s (Int.ofNat ls))) (Tr.ok (Z0, H)) (Tr.req (inI s ls) (Tr.req (ltN (idO 0 s 2) (mulO ls 2)) (Tr.req (ltN (addO (idO 0 s 2) 1) (mulO ls 2)) (Tr.ok ((AV.tup [AV.agg (Row.I .i64 [sz (idO 0 s 2), sz (addO (idO 0 s 2) 1)]), AV.int .i64 (Int.ofNat 0)], none), H)))))) (Tr.ok (Z0, H)))))))) (AV.tup [AV.agg (Row.I .i64 [Int.ofNat 0, Int.ofNat 0]), AV.int .i64 (Int.ofNat 2)], none) := by kernel_rfl
theorem u3 (n : Nat) (w : Int) (ls ld : Nat) (zs zd : Nat → Int) (H : Heap) (s e a b e1 a' b' e2 : Int) : bodyT Try.prog (cd (n+14)) 100000 3 Try.f3 (Kt.kt 3) (il (ctG (ctG (ctG (ctG (ctG noCt 16 g16) 17 (gS (bathA w ls zs ld zd) s a b e1)) 18 (gS (bathA w ls zs ld zd) s a' b' e2)) 19 (g20 (bathA w ls zs ld zd) e)) 20 (g20 (bathA w ls zs ld zd) e)) (n+13) 1) noBT noRT [(bathA w ls zs ld zd, none), (.int .i64 s, none)] H =
 Tr.ite (ltI (Int.ofNat 15) (Int.ofNat ls)) (Tr.reqP True (Tr.ok ((AV.bool true, none), H))) (Tr.ite (ltI (Int.ofNat 50) (Int.ofNat ld)) (Tr.reqP True (Tr.ok ((AV.bool true, none), H))) (Tr.reqP (bathA w ls zs ld zd = bathA w ls zs ld zd ∧ s = s) (Tr.reqP (bathA w ls zs ld zd = bathA w ls zs ld zd ∧ s = s) (Tr.reqP (bathA w ls zs ld zd = bathA w ls zs ld zd) (Tr.reqP (bathA w ls zs ld zd = bathA w ls zs ld zd) (Tr.ite (eqI e e) (Tr.ite (andB (eqI a a') (eqI b b')) (Tr.ite (eqI e1 e2) (Tr.reqP True (Tr.ok ((AV.bool true, none), H))) (Tr.ok ((AV.bool false, some 1), H))) (Tr.ok ((AV.bool false, some 1), H))) (Tr.ok ((AV.bool false, some 1), H)))))))) := by kernel_rfl
theorem szs_sum (zd : Nat → Int) (ld s : Nat) (hd : ∀ j, j < ld → 0 ≤ zd (j * 3)) : ∀ j, j ≤ ld → szs zd j (s * 2) = sumS zd (upto (endS false zd) ld) s j ∧ szs zd j (s * 2 + 1) = sumS zd (upto (endS true zd) ld) s j
 | 0, _ => ⟨rfl, rfl⟩
 | j + 1, hj => by
   obtain ⟨h1, h2⟩ := szs_sum zd ld s hd j (by omega)
   have h0 := hd j (by omega)
   have u : ∀ h, upto (endS h zd) ld j = endS h zd j := fun h => by unfold upto; rw [if_pos (by omega)]
   simp only [szs, sumS, u]
   by_cases e : zd (j * 3) = s
   · have et : (zd (j * 3)).toNat = s := by omega
     rw [if_pos e, if_pos e, if_neg (by omega), if_pos (by omega), if_pos (by omega), et, h1, h2]
     exact ⟨rfl, rfl⟩
   · have et : (zd (j * 3)).toNat ≠ s := by omega
     rw [if_neg e, if_neg e, if_neg (by omega), if_neg (by omega), if_neg (by omega), if_neg (by omega)]
     exact ⟨h1, h2⟩
theorem chk_drops {w : Int} {ls ld : Nat} {zs zd : Nat → Int} (h : chkB w ls ld zs zd = 0) : ls ≤ 10 ∧ ld ≤ 40 ∧ ∀ j, j < ld → 0 ≤ zd (j * 3) ∧ zd (j * 3) < ls := by
 have h1 := chk_len w ls ld zs zd h
 refine ⟨h1.1, h1.2, fun j hj => ?_⟩
 have hb : badD ls zd j = false := by
  cases hq : badD ls zd j with
  | false => rfl
  | true =>
    have he : exN (badD ls zd) ld = true := (exN_iff _ _).2 ⟨j, hj, hq⟩
    unfold chkB at h
    rw [he] at h
    generalize exN (badS w zs) ls = b1 at h
    generalize exN (fun i => exN (eqS zs i) i) ls = b2 at h
    by_cases e1 : w < 2 <;> by_cases e2 : 1000 < w <;> by_cases e3 : 10 < ls <;> by_cases e4 : 40 < ld <;> cases b1 <;> cases b2 <;> simp [e1, e2, e3, e4] at h
 simp only [badD, Bool.or_eq_false_iff, decide_eq_false_iff_not] at hb
 omega
section
variable (n : Nat) (w : Int) (ls ld : Nat) (zs zd : Nat → Int) (H : Heap) (s : Int)
theorem ct19 (k : Nat) (t : Ctr) (ht : t.Ok (cd (n + 11 + k))) : (ctG t 19 (g20 (bathA w ls zs ld zd) (chkB w ls ld zs zd))).Ok (cd (n + 11 + k)) := by
 refine ctG_ok ht (fun args p v h hp H => ?_)
 unfold g20 at h
 split at h
 · simp only [Option.some.injEq, Prod.mk.injEq] at h
   obtain ⟨rfl, rfl⟩ := h
   rw [hp, show n + 11 + k = n + k + 11 by omega]
   exact c19 (n + k) w ls ld zs zd H
 · cases h
theorem c17 : cd (n + 13) (.fn 17) [bathA w ls zs ld zd, .int .i64 s] H = some (sizeV w ls ld zs zd s, H) := by
 refine fn_of (n := n + 12) Try.func17 rfl rfl rfl (u17 n w ls ld zs zd (szs zd ld) (kdO w ls zs (szs zd ld) (ls + 2)) H s (chkB w ls ld zs zd) (ls ≤ 10 ∧ ld ≤ 40 ∧ ∀ j, j < ld → 0 ≤ zd (j * 3) ∧ zd (j * 3) < ls)) (il_ok _ (n + 11) 1 (fun k => ctG_ok (ct19 n w ls ld zs zd k _ (noCt_ok _)) (fun args p v h hp H => ?_))) (noBT_ok _ _) (noRT_ok _ _) (y := ((sizeV w ls ld zs zd s, none), H)) ?_
 · unfold g77 at h
   split at h
   · simp only [Option.some.injEq, Prod.mk.injEq] at h
     obtain ⟨rfl, rfl⟩ := h
     obtain ⟨rfl, h1, h2, h3⟩ := hp
     rw [show n + 11 + k = n + 3 + k + 8 by omega]
     exact c77 _ w ls ld zs zd H h1 h2 h3
   · cases h
 · rw [Tr.run_reqP rfl]
   by_cases e : chkB w ls ld zs zd = 0
   · have hc := chk_drops e
     have e' : sizeV w ls ld zs zd s = if s < 0 ∨ (ls : Int) ≤ s then .tup [.agg (.I .i64 [0, 0]), .int .i64 2] else .tup [.agg (.I .i64 [szE false zd ld s, szE true zd ld s]), .int .i64 0] := by
      unfold sizeV; rw [if_neg (by simpa using e)]
     rw [e', Tr.run_ite, notB_eq, eqI_dec, decide_eq_true (by rw [e]; rfl), Bool.not_true, cond_false, Tr.run_reqP ⟨rfl, hc⟩, Tr.run_ite, notB_eq, eqI_dec, decide_eq_true rfl, Bool.not_true, cond_false, Tr.run_ite, ltI_eq]
     by_cases e1 : s < 0
     · rw [if_pos (.inl e1), decide_eq_true (by simpa using e1)]; rfl
     · rw [decide_eq_false (by simpa using e1), cond_false, Tr.run_ite, leI_eq, decide_eq_true (by show (-2 : Int) ≤ s; omega), cond_true, Tr.run_ite, notB_eq, ltI_eq]
       by_cases e2 : (ls : Int) ≤ s
       · rw [if_pos (.inr e2), decide_eq_false (by show ¬ s < ((ls : Nat) : Int); omega)]; rfl
       · obtain ⟨m, rfl⟩ : ∃ m : Nat, s = (m : Int) := ⟨s.toNat, by omega⟩
         have hs := szs_sum zd ld m (fun j hj => (hc.2.2 j hj).1) ld (Nat.le_refl _)
         rw [if_neg (by omega), decide_eq_true (by show ((m : Nat) : Int) < ((ls : Nat) : Int); omega), Bool.not_true, cond_false]
         simp (disch := omega) only [Tr.run_ite, Tr.run_req, Tr.run_ok, nS, eqI_eq, decide_eq_true, decide_eq_false, cond_true, cond_false, Int.ofNat_eq_natCast, wrap_j, ver0]
         rw [hs.1, hs.2]
         rfl
   · have e' : sizeV w ls ld zs zd s = .tup [.agg (.I .i64 [0, 0]), .int .i64 (chkB w ls ld zs zd)] := by
      unfold sizeV; rw [if_pos e]
     rw [e', Tr.run_ite, notB_eq, eqI_dec, decide_eq_false (by simpa using e), Bool.not_false, cond_true, Tr.run_ite, cond_true]
     rfl
theorem c16 : cd (n + 1) (.fn 16) [] H = some (.bool true, H) := rfl
end
def sizeN (w : Int) (ls ld : Nat) (zs zd : Nat → Int) (s : Int) : Int × Int × Int :=
 if chkB w ls ld zs zd ≠ 0 then (0, 0, chkB w ls ld zs zd)
 else if s < 0 ∨ (ls : Int) ≤ s then (0, 0, 2)
 else (szE false zd ld s, szE true zd ld s, 0)
theorem sizeN_eq (w : Int) (ls ld : Nat) (zs zd : Nat → Int) (s : Int) : sizeV w ls ld zs zd s = .tup [.agg (.I .i64 [(sizeN w ls ld zs zd s).1, (sizeN w ls ld zs zd s).2.1]), .int .i64 (sizeN w ls ld zs zd s).2.2] := by
 unfold sizeV sizeN
 split
 · rfl
 · split <;> rfl
section
variable (n : Nat) (w : Int) (ls ld : Nat) (zs zd : Nat → Int) (H : Heap) (s : Int)
theorem c3 : cd (n + 15) (.fn 3) [bathA w ls zs ld zd, .int .i64 s] H = some (.bool true, H) := by
 refine fn_of (n := n + 14) Try.func3 rfl rfl rfl (u3 n w ls ld zs zd H s (chkB w ls ld zs zd) (sizeN w ls ld zs zd s).1 (sizeN w ls ld zs zd s).2.1 (sizeN w ls ld zs zd s).2.2 (sizeN w ls ld zs zd s).1 (sizeN w ls ld zs zd s).2.1 (sizeN w ls ld zs zd s).2.2) (il_ok _ (n + 13) 1 (fun k => ?_)) (noBT_ok _ _) (noRT_ok _ _) (y := ((.bool true, none), H)) ?_
 · refine ctG_ok (ctG_ok (ctG_ok (ctG_ok (ctG_ok (noCt_ok _) (fun args p v h hp H => ?_)) (fun args p v h hp H => ?_)) (fun args p v h hp H => ?_)) (fun args p v h hp H => ?_)) (fun args p v h hp H => ?_)
   · unfold g16 at h
     split at h
     · simp only [Option.some.injEq, Prod.mk.injEq] at h
       obtain ⟨_, rfl⟩ := h
       rw [show n + 13 + k = n + 12 + k + 1 by omega]
       exact c16 _ H
     · cases h
   · unfold gS at h
     split at h
     · simp only [Option.some.injEq, Prod.mk.injEq] at h
       obtain ⟨rfl, rfl⟩ := h
       obtain ⟨rfl, rfl⟩ := hp
       rw [show n + 13 + k = n + k + 13 by omega, ← sizeN_eq]
       exact c17 (n + k) w ls ld zs zd H _
     · cases h
   · unfold gS at h
     split at h
     · simp only [Option.some.injEq, Prod.mk.injEq] at h
       obtain ⟨rfl, rfl⟩ := h
       obtain ⟨rfl, rfl⟩ := hp
       rw [show n + 13 + k = n + 9 + k + 4 by omega, ← sizeN_eq]
       exact c18 _ w ls ld zs zd H _
     · cases h
   · unfold g20 at h
     split at h
     · simp only [Option.some.injEq, Prod.mk.injEq] at h
       obtain ⟨rfl, rfl⟩ := h
       rw [hp, show n + 13 + k = n + 2 + k + 11 by omega]
       exact c19 _ w ls ld zs zd H
     · cases h
   · unfold g20 at h
     split at h
     · simp only [Option.some.injEq, Prod.mk.injEq] at h
       obtain ⟨rfl, rfl⟩ := h
       rw [hp, show n + 13 + k = n + 11 + k + 2 by omega]
       exact c20 _ w ls ld zs zd H
     · cases h
 · rw [Tr.run_ite]
   cases ltI (Int.ofNat 15) (Int.ofNat ls) with
   | true => rw [cond_true, Tr.run_reqP trivial]; rfl
   | false =>
     rw [cond_false, Tr.run_ite]
     cases ltI (Int.ofNat 50) (Int.ofNat ld) with
     | true => rw [cond_true, Tr.run_reqP trivial]; rfl
     | false =>
       rw [cond_false, Tr.run_reqP ⟨rfl, rfl⟩, Tr.run_reqP ⟨rfl, rfl⟩, Tr.run_reqP rfl, Tr.run_reqP rfl, Tr.run_ite, eqI_dec, decide_eq_true rfl, cond_true, Tr.run_ite, andB_eq, eqI_dec, eqI_dec, decide_eq_true rfl, decide_eq_true rfl, Bool.and_true, cond_true, Tr.run_ite, eqI_dec, decide_eq_true rfl, cond_true, Tr.run_reqP trivial]
       rfl
end
end Go.Eng
end
