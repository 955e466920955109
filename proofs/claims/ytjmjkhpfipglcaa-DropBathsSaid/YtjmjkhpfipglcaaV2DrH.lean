/- Drop: CheckBath of the program is that of the reference. -/
import Derived.Test.YtjmjkhpfipglcaaV2DrG
namespace Go.Eng
open Go.Proofs
set_option linter.unusedVariables false
set_option linter.unusedSimpArgs false
set_option maxRecDepth 100000
theorem u19 (n : Nat) (w : Int) (ls ld : Nat) (zs zd : Nat → Int) (H : Heap) (q : Bool) (i1 i2 x y : Int) : bodyT Try.prog (cd (n+10)) 100000 19 Try.f19 (Kt.kt 19) (il (ctE (ctE noCt 96 [slA 2 ls zs, .fn (.func 62) [] [.ptr 1 0 0 0]] (lv0 :: lvW w ls ld zs zd :: H) (.ok (.int .i64 i1, lv0 :: lvW w ls ld zs zd :: H))) 98 [slA 3 ld zd, .fn (.func 64) [] [.ptr 1 0 0 0]] (lv0 :: lvW w ls ld zs zd :: H) (.ok (.int .i64 i2, lv0 :: lvW w ls ld zs zd :: H))) (n + 6) 4) (blkE noBT 1 (fr19 ls zs (Int.ofNat 0)) (lvW w ls ld zs zd :: H) (Tr.ite q (Tr.ok (.ret, hints [(2, AV.int .i64 15)], lvX w ls ld zs zd x y :: H)) (Tr.ok (.normal, hints (fr19 ls zs (Int.ofNat ls) ++ [(35, AV.bool false)]), lvW w ls ld zs zd :: H)))) noRT [(bathA w ls zs ld zd, none)] H =
  Tr.req (inI (Int.ofNat 0) 1)
    (Tr.ite (ltI w (Int.ofNat 2)) (Tr.ok ((AV.int IntKind.i64 (Int.ofNat 2), some 1), H))
      (Tr.ite (ltI (Int.ofNat 1000) w) (Tr.ok ((AV.int IntKind.i64 (Int.ofNat 2), some 1), H))
        (Tr.ite (ltI (Int.ofNat 10) (Int.ofNat ls)) (Tr.ok ((AV.int IntKind.i64 (Int.ofNat 6), some 1), H))
          (Tr.ite (ltI (Int.ofNat 40) (Int.ofNat ld)) (Tr.ok ((AV.int IntKind.i64 (Int.ofNat 6), some 1), H))
            (Tr.reqP
              ([AV.slcT none (Row.M [Seg.arr IntKind.i64 zs (mulO ls 2)]) 2 ls false, AV.fn (Fn.func 62) [] [AV.ptr 1 0 0 0]] = [AV.slcT none (Row.M [Seg.arr IntKind.i64 zs (mulO ls 2)]) 2 ls false, AV.fn (Fn.func 62) [] [AV.ptr 1 0 0 0]] ∧
                { lock := false, bs := [] } :: { lock := false, bs := [(0, Blk.row (Row.G [AV.int IntKind.i64 w, AV.slcT none (Row.M [Seg.arr IntKind.i64 zs (mulO ls 2)]) 2 ls false, AV.slcT none (Row.M [Seg.arr IntKind.i64 zd (mulO ld 3)]) 3 ld false])), (0, Blk.row (Row.I IntKind.i64 [w]))] } :: H =
                  { lock := false, bs := [] } :: { lock := false, bs := [(0, Blk.row (Row.G [AV.int IntKind.i64 w, AV.slcT none (Row.M [Seg.arr IntKind.i64 zs (mulO ls 2)]) 2 ls false, AV.slcT none (Row.M [Seg.arr IntKind.i64 zd (mulO ld 3)]) 3 ld false])), (0, Blk.row (Row.I IntKind.i64 [w]))] } :: H)
              (Tr.ite (leI (Int.ofNat 0) i1) (Tr.ok ((AV.int IntKind.i64 (Int.ofNat 3), some 1), H))
                (Tr.reqP
                  ([(1, AV.ptr 0 0 0 0), (4, AV.fn (Fn.func 64) [] [AV.ptr 0 0 0 0]), (32, AV.slcT none (Row.M [Seg.arr IntKind.i64 zs (mulO ls 2)]) 2 ls false), (33, AV.int IntKind.i64 (Int.ofNat ls)), (34, AV.int IntKind.i64 (Int.ofNat 0))] =
                      [(1, AV.ptr 0 0 0 0), (4, AV.fn (Fn.func 64) [] [AV.ptr 0 0 0 0]), (32, AV.slcT none (Row.M [Seg.arr IntKind.i64 zs (mulO ls 2)]) 2 ls false), (33, AV.int IntKind.i64 (Int.ofNat ls)), (34, AV.int IntKind.i64 (Int.ofNat 0))] ∧
                    { lock := false, bs := [(0, Blk.row (Row.G [AV.int IntKind.i64 w, AV.slcT none (Row.M [Seg.arr IntKind.i64 zs (mulO ls 2)]) 2 ls false, AV.slcT none (Row.M [Seg.arr IntKind.i64 zd (mulO ld 3)]) 3 ld false])), (0, Blk.row (Row.I IntKind.i64 [w]))] } :: H =
                      { lock := false, bs := [(0, Blk.row (Row.G [AV.int IntKind.i64 w, AV.slcT none (Row.M [Seg.arr IntKind.i64 zs (mulO ls 2)]) 2 ls false, AV.slcT none (Row.M [Seg.arr IntKind.i64 zd (mulO ld 3)]) 3 ld false])), (0, Blk.row (Row.I IntKind.i64 [w]))] } :: H)
                  (Tr.ite q (Tr.ok ((AV.int IntKind.i64 (Int.ofNat 15), none), H))
                    (Tr.reqP
                      ([AV.slcT none (Row.M [Seg.arr IntKind.i64 zd (mulO ld 3)]) 3 ld false, AV.fn (Fn.func 64) [] [AV.ptr 1 0 0 0]] = [AV.slcT none (Row.M [Seg.arr IntKind.i64 zd (mulO ld 3)]) 3 ld false, AV.fn (Fn.func 64) [] [AV.ptr 1 0 0 0]] ∧
                        { lock := false, bs := [] } :: { lock := false, bs := [(0, Blk.row (Row.G [AV.int IntKind.i64 w, AV.slcT none (Row.M [Seg.arr IntKind.i64 zs (mulO ls 2)]) 2 ls false, AV.slcT none (Row.M [Seg.arr IntKind.i64 zd (mulO ld 3)]) 3 ld false])), (0, Blk.row (Row.I IntKind.i64 [w]))] } :: H =
                          { lock := false, bs := [] } :: { lock := false, bs := [(0, Blk.row (Row.G [AV.int IntKind.i64 w, AV.slcT none (Row.M [Seg.arr IntKind.i64 zs (mulO ls 2)]) 2 ls false, AV.slcT none (Row.M [Seg.arr IntKind.i64 zd (mulO ld 3)]) 3 ld false])), (0, Blk.row (Row.I IntKind.i64 [w]))] } :: H)
                      (Tr.ite (leI (Int.ofNat 0) i2) (Tr.ok ((AV.int IntKind.i64 (Int.ofNat 16), some 1), H)) (Tr.ok ((AV.int IntKind.i64 (Int.ofNat 0), some 1), H)))))))))))) := by kernel_rfl
theorem v19 (n : Nat) (w : Int) (ls ld : Nat) (zs zd : Nat → Int) (H : Heap) : bodyT Try.prog (cd (n+4)) 100000 19 Try.f19 (Kt.kt 19) (il (ctE (ctE noCt 96 [] [] .bad) 98 [] [] .bad) n 4) (stopB noBT 1) noRT [(bathA w ls zs ld zd, none)] H =
  Tr.req (inI (Int.ofNat 0) 1)
    (Tr.ite (ltI w (Int.ofNat 2)) (Tr.ok ((AV.int IntKind.i64 (Int.ofNat 2), some 1), H))
      (Tr.ite (ltI (Int.ofNat 1000) w) (Tr.ok ((AV.int IntKind.i64 (Int.ofNat 2), some 1), H))
        (Tr.ite (ltI (Int.ofNat 10) (Int.ofNat ls)) (Tr.ok ((AV.int IntKind.i64 (Int.ofNat 6), some 1), H))
          (Tr.ite (ltI (Int.ofNat 40) (Int.ofNat ld)) (Tr.ok ((AV.int IntKind.i64 (Int.ofNat 6), some 1), H))
            (Tr.reqP
              ([AV.slcT none (Row.M [Seg.arr IntKind.i64 zs (mulO ls 2)]) 2 ls false, AV.fn (Fn.func 62) [] [AV.ptr 1 0 0 0]] = [] ∧
                { lock := false, bs := [] } :: { lock := false, bs := [(0, Blk.row (Row.G [AV.int IntKind.i64 w, AV.slcT none (Row.M [Seg.arr IntKind.i64 zs (mulO ls 2)]) 2 ls false, AV.slcT none (Row.M [Seg.arr IntKind.i64 zd (mulO ld 3)]) 3 ld false])), (0, Blk.row (Row.I IntKind.i64 [w]))] } :: H = [])
              Tr.bad))))) := by kernel_rfl
theorem b19 : ∀ b, (1, b) ∈ blocksOf (bodyOf Try.f19) → b = .loop (part Try.f19 [1,1,1,1,0,1,0,0]) := by
  have : blocksOf (bodyOf Try.f19) = [(0, part Try.f19 [1, 1, 1, 0, 0]), (1, .loop (part Try.f19 [1,1,1,1,0,1,0,0])), (2, part Try.f19 [1, 1, 1, 1, 0, 1, 0, 0, 1, 1, 0, 0])] := by kernel_rfl
  intro b hb; rw [this] at hb; simpa using hb
theorem exN_congr {p q : Nat → Bool} {N : Nat} (h : ∀ i, i < N → p i = q i) : exN p N = exN q N := by
  rw [Bool.eq_iff_iff, exN_iff, exN_iff]
  constructor
  · rintro ⟨i, h1, h2⟩; exact ⟨i, h1, by rw [← h i h1]; exact h2⟩
  · rintro ⟨i, h1, h2⟩; exact ⟨i, h1, by rw [h i h1]; exact h2⟩
theorem badP_eq (w : Int) (zs : Nat → Int) (j : Nat) : badP w zs j = badS w zs j := by
  unfold badP badS
  rw [show decide (w - 1 < zs (j * 2)) = decide (w ≤ zs (j * 2)) by rw [decide_eq_decide]; omega]
theorem badQ_eq (ls : Nat) (zd : Nat → Int) (j : Nat) : badQ ls zd j = badD ls zd j := by
  rw [Bool.eq_iff_iff]
  unfold badQ badD
  simp only [Bool.or_eq_true, decide_eq_true_eq]
  omega
section
variable (n : Nat) (w : Int) (ls ld : Nat) (zs zd : Nat → Int) (H : Heap)
theorem c19 : cd (n + 11) (.fn 19) [bathA w ls zs ld zd] H = some (.int .i64 (chkB w ls ld zs zd), H) := by
  have out : (w < 2 ∨ 1000 < w ∨ ¬ ls ≤ 10 ∨ ¬ ld ≤ 40) → cd (n + 11) (.fn 19) [bathA w ls zs ld zd] H = some (.int .i64 (chkB w ls ld zs zd), H) := by
    intro ho
    refine fn_of (n := n + 6 + 4) Try.func19 rfl rfl rfl (v19 (n + 6) w ls ld zs zd H) (il_ok _ (n + 6) 4 (fun k => ctE_ok (ctE_ok (noCt_ok _) (fun x hx => (Tr.bad_some hx).elim)) (fun x hx => (Tr.bad_some hx).elim))) (stopB_ok (noBT_ok _ _) 1) (noRT_ok _ _) (y := ((.int .i64 (chkB w ls ld zs zd), some 1), H)) ?_
    by_cases e1 : w < 2 <;> by_cases e2 : 1000 < w <;> by_cases e3 : 10 < ls <;> by_cases e4 : 40 < ld <;> first
      | (exfalso; omega)
      | (simp (disch := omega) only [Tr.run_ite, Tr.run_req, Tr.run_ok, ltI_eq, leI_eq, eqI_eq, notB_eq, andB_eq, inI_eq, ltN_eq, leN_eq, lt_mulO, le_mulO, idO_eq, addO_eq, addI_eq, decide_eq_true, decide_eq_false, cond_true, cond_false, Int.ofNat_eq_natCast, Int.toNat_natCast, Nat.zero_add, Int.natCast_one, wrap_j, Bool.not_true, Bool.not_false, Bool.and_true, Bool.and_false, Bool.true_and, Bool.false_and, chkB, e1, e2, e3, e4, decide_true, decide_false]; rfl)
  by_cases hw1 : w < 2
  · exact out (.inl hw1)
  by_cases hw2 : 1000 < w
  · exact out (.inr (.inl hw2))
  by_cases hls : ls ≤ 10
  case neg => exact out (.inr (.inr (.inl hls)))
  by_cases hld : ld ≤ 40
  case neg => exact out (.inr (.inr (.inr hld)))
  have q1 : exN (badP w zs) ls = exN (badS w zs) ls := exN_congr fun i _ => badP_eq w zs i
  have q2 : exN (badQ ls zd) ld = exN (badD ls zd) ld := exN_congr fun i _ => badQ_eq ls zd i
  refine fn_of (n := n + 10) Try.func19 rfl rfl rfl (u19 n w ls ld zs zd H (exN (fun i => exN (eqS zs i) i) ls) (idxN (badP w zs) ls) (idxN (badQ ls zd) ld) (zs (fN (fun i => exN (eqS zs i) i) ls 0 * 2)) (zs (fN (fun i => exN (eqS zs i) i) ls 0 * 2 + 1))) (il_ok _ (n + 6) 4 (fun k => ctE_ok (ctE_ok (noCt_ok _) (fun x hx => ?_)) (fun x hx => ?_))) (blkE_ok (noBT_ok _ _) b19 (fun x hx => l19 (n + 8) w ls ld zs zd H hls x hx)) (noRT_ok _ _) (y := ((.int .i64 (chkB w ls ld zs zd), if exN (badS w zs) ls then some 1 else if exN (fun i => exN (eqS zs i) i) ls then none else some 1), H)) ?_
  · rw [← Tr.ok_some hx, show n + 6 + k = n + k + 6 by omega]
    exact c96 (n + k) w ls ld zs zd H hls (by omega)
  · rw [← Tr.ok_some hx, show n + 6 + k = n + k + 6 by omega]
    exact c98 (n + k) w ls ld zs zd H hld
  · rw [Tr.run_req, inI_eq, decide_eq_true (by decide), cond_true, Tr.run_ite, ltI_eq, decide_eq_false (by simpa using hw1), cond_false, Tr.run_ite, ltI_eq, decide_eq_false (by simpa using hw2), cond_false, Tr.run_ite, ltI_eq, decide_eq_false (by simp; omega), cond_false, Tr.run_ite, ltI_eq, decide_eq_false (by simp; omega), cond_false, Tr.run_reqP ⟨rfl, rfl⟩, Tr.run_ite, leI_idx, q1]
    have e3 : ¬ 10 < ls := by omega
    have e4 : ¬ 40 < ld := by omega
    simp only [chkB, hw1, hw2, e3, e4, decide_false, cond_false]
    cases exN (badS w zs) ls with
    | true => rfl
    | false =>
      rw [cond_false, Tr.run_reqP (by simp), Tr.run_ite]
      cases exN (fun i => exN (eqS zs i) i) ls with
      | true => rfl
      | false =>
        rw [cond_false, Tr.run_reqP (by simp), Tr.run_ite, leI_idx, q2]
        cases exN (badD ls zd) ld <;> rfl
end
end Go.Eng
