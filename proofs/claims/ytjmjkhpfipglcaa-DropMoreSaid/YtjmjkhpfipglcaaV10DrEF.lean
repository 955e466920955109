/- Drop: Size, as it is defined. -/
import Derived.Test.YtjmjkhpfipglcaaV10DrCD
section
namespace Go.Eng
open Go.Proofs
set_option linter.unusedVariables false
set_option linter.unusedSimpArgs false
set_option maxRecDepth 100000
noncomputable def fr45n (s : Int) : Frm := [(1, AV.nils), (2, .int .i64 s), (3, .ptr 0 0 0 0), (7, .int .i64 (Int.ofNat 0)), (8, .int .i64 (Int.ofNat 0))]
def g61 (B : AV) (side : Prop) (ev : Bool → AV) : List AV → Option (Prop × AV)
  | [b, .bool h] => some (b = B ∧ side, ev h)
  | _ => none
def g45 (B : AV) (side : Prop) (ev : Bool → AV) (sm : AV → Int → Int) : List AV → Option (Prop × AV)
  | [b, t, .int .i64 s] => some (b = B ∧ side ∧ (t = ev false ∨ t = ev true), .int .i64 (sm t s))
  | _ => none
def g20 (B : AV) (e : Int) : List AV → Option (Prop × AV)
  | [b] => some (b = B, .int .i64 e)
  | _ => none
theorem t45n (n : Nat) (w : Int) (ls : Nat) (zs zd : Nat → Int) (H : Heap) (s : Int) : execT (cxD n 45 31) (il noCt n 0) noBT noRT (part Try.f45 [1,1,0,1,0,0]) (hints (fr45n s)) (lvB w ls 0 zs zd :: H) =
  Tr.ite (ltI (Int.ofNat 0) (Int.ofNat 0)) (Tr.req (inI (Int.ofNat 0) 0) (Tr.req (ltN (idO 0 (Int.ofNat 0) 3) (mulO 0 3)) (Tr.ite (eqI (zd (idO 0 (Int.ofNat 0) 3)) s) Tr.bad (Tr.ok (Ex.normal, [(1, AV.nils, none), (2, AV.int .i64 s, none), (3, AV.ptr 0 0 0 0, none), (7, AV.int .i64 (Int.ofNat 0), none), (8, AV.int .i64 (addI .i64 (Int.ofNat 0) (Int.ofNat 1)), none)], { lock := false, bs := [(0, Blk.row (Row.G [AV.int .i64 w, slA 2 ls zs, AV.slcT none (Row.M [Seg.arr .i64 zd (mulO 0 3)]) 3 0 false]))] } :: H))))) (Tr.ok (Ex.exit 0, [(1, AV.nils, none), (2, AV.int .i64 s, none), (3, AV.ptr 0 0 0 0, none), (7, AV.int .i64 (Int.ofNat 0), none), (8, AV.int .i64 (Int.ofNat 0), none), (13, AV.bool false, some 1)], { lock := false, bs := [(0, Blk.row (Row.G [AV.int .i64 w, slA 2 ls zs, AV.slcT none (Row.M [Seg.arr .i64 zd (mulO 0 3)]) 3 0 false]))] } :: H)) := by kernel_rfl
theorem u45n (n : Nat) (w : Int) (ls : Nat) (zs zd : Nat → Int) (H : Heap) (s : Int) : bodyT Try.prog (cd n) 100000 45 Try.f45 (Kt.kt 45) (il noCt n 0) (blkE noBT 0 (fr45n s) (lvB w ls 0 zs zd :: H) (.ok (.normal, hints (fr45n s) ++ [(13, AV.bool false, none)], lvB w ls 0 zs zd :: H))) noRT [(bathA w ls zs 0 zd, none), (.nils, none), (.int .i64 s, none)] H =
  Tr.reqP ([(1, AV.nils), (2, AV.int .i64 s), (3, AV.ptr 0 0 0 0), (7, AV.int .i64 (Int.ofNat 0)), (8, AV.int .i64 (Int.ofNat 0))] = [(1, AV.nils), (2, AV.int .i64 s), (3, AV.ptr 0 0 0 0), (7, AV.int .i64 (Int.ofNat 0)), (8, AV.int .i64 (Int.ofNat 0))] ∧ { lock := false, bs := [(0, Blk.row (Row.G [AV.int .i64 w, slA 2 ls zs, AV.slcT none (Row.M [Seg.arr .i64 zd (mulO 0 3)]) 3 0 false]))] } :: H = { lock := false, bs := [(0, Blk.row (Row.G [AV.int .i64 w, slA 2 ls zs, AV.slcT none (Row.M [Seg.arr .i64 zd (mulO 0 3)]) 3 0 false]))] } :: H) (Tr.ok ((AV.int .i64 (Int.ofNat 0), none), H)) := by kernel_rfl
theorem u18 (n : Nat) (w : Int) (ls ld : Nat) (zs zd : Nat → Int) (H : Heap) (s e : Int) (side : Prop) (ev : Bool → AV) (sm : AV → Int → Int) : bodyT Try.prog (cd (n+3)) 100000 18 Try.f18 (Kt.kt 18) (il (ctG (ctG (ctG noCt 61 (g61 (bathA w ls zs ld zd) side ev)) 45 (g45 (bathA w ls zs ld zd) side ev sm)) 20 (g20 (bathA w ls zs ld zd) e)) (n+2) 1) noBT noRT [(bathA w ls zs ld zd, none), (.int .i64 s, none)] H =
  Tr.reqP (bathA w ls zs ld zd = bathA w ls zs ld zd) (Tr.ite (notB (eqI e (Int.ofNat 0))) (Tr.reqP (bathA w ls zs ld zd = bathA w ls zs ld zd) (Tr.ok ((AV.tup [AV.agg (Row.I .i64 [Int.ofNat 0, Int.ofNat 0]), AV.int .i64 e], none), H))) (Tr.ite (leI (Int.ofNat 0) s) (Tr.ite (notB (ltI s (Int.ofNat ls))) (Tr.ok ((AV.tup [AV.agg (Row.I .i64 [Int.ofNat 0, Int.ofNat 0]), AV.int .i64 (Int.ofNat 2)], none), H)) (Tr.reqP (bathA w ls zs ld zd = bathA w ls zs ld zd ∧ side) (Tr.reqP (bathA w ls zs ld zd = bathA w ls zs ld zd ∧ side ∧ (ev false = ev false ∨ ev false = ev true)) (Tr.reqP (bathA w ls zs ld zd = bathA w ls zs ld zd ∧ side) (Tr.reqP (bathA w ls zs ld zd = bathA w ls zs ld zd ∧ side ∧ (ev true = ev false ∨ ev true = ev true)) (Tr.ok ((AV.tup [AV.agg (Row.I .i64 [sm (ev false) s, sm (ev true) s]), AV.int .i64 (Int.ofNat 0)], none), H))))))) (Tr.ok ((AV.tup [AV.agg (Row.I .i64 [Int.ofNat 0, Int.ofNat 0]), AV.int .i64 (Int.ofNat 2)], none), H)))) := by kernel_rfl
section
variable (n : Nat) (w : Int) (ls ld : Nat) (zs zd : Nat → Int) (H : Heap) (s : Int)
theorem l45n : exec (cxD n 45 31) (.block 0 (.loop (part Try.f45 [1,1,0,1,0,0]))) (fr45n s) (lvB w ls 0 zs zd :: H) = some (.normal, fr45n s ++ [(13, AV.bool false)], lvB w ls 0 zs zd :: H) := by
  refine forB (il_no0 n) (noBT_ok _ _) (noRT_ok _ _) 0 (fun _ => fr45n s) (fun _ => lvB w ls 0 zs zd :: H) 0 (.exit 0, hints (fr45n s) ++ [(13, AV.bool false, some 1)], lvB w ls 0 zs zd :: H) (by omega) (fun j hj => absurd hj (by omega)) ⟨?_, rfl⟩
  rw [t45n]
  simp (disch := omega) only [Tr.run_ite, Tr.run_req, Tr.run_ok, nS, eqI_eq, decide_eq_true, decide_eq_false, cond_true, cond_false, Int.ofNat_eq_natCast, wrap_j]
  rfl
theorem c45n : cd (n + 1) (.fn 45) [bathA w ls zs 0 zd, .nils, .int .i64 s] H = some (.int .i64 0, H) := by
  refine fn_of Try.func45 rfl rfl rfl (u45n n w ls zs zd H s) (il_no0 n) (blkE_ok (noBT_ok _ _) (B := .loop (part Try.f45 [1,1,0,1,0,0])) (fun b hb => by rw [b45] at hb; simpa using hb) (fun x hx => ?_)) (noRT_ok _ _) (y := ((.int .i64 0, none), H)) (Tr.run_reqP ⟨rfl, rfl⟩)
  rw [← Tr.ok_some hx]
  exact l45n n w ls zs zd H s
/-- What SizeOf adds up over an end of all spreads. -/
def szE (h : Bool) (zd : Nat → Int) (ld : Nat) (s : Int) : Int := sumS zd (upto (endS h zd) ld) s ld
def smV (zd : Nat → Int) (ld : Nat) (t : AV) (s : Int) : Int :=
  match t with
  | .slcT _ (.M [.arr _ z _]) _ _ _ => sumS zd z s ld
  | _ => 0
theorem smV_end (h : Bool) : smV zd ld (endV h zd ld) s = szE h zd ld s := by
  cases ld <;> rfl
theorem c45e (h : Bool) (h2 : ld < 2 ^ 16) : cd (n + 1) (.fn 45) [bathA w ls zs ld zd, endV h zd ld, .int .i64 s] H = some (.int .i64 (szE h zd ld s), H) := by
  cases ld with
  | zero => exact c45n n w ls zs zd H s
  | succ m => exact c45 n w ls (m + 1) (m + 1) zs zd (upto (endS h zd) (m + 1)) H s (Nat.le_refl _) h2
/-- What Size answers. -/
def sizeV (w : Int) (ls ld : Nat) (zs zd : Nat → Int) (s : Int) : AV :=
  if chkB w ls ld zs zd ≠ 0 then .tup [.agg (.I .i64 [0, 0]), .int .i64 (chkB w ls ld zs zd)]
  else if s < 0 ∨ (ls : Int) ≤ s then .tup [.agg (.I .i64 [0, 0]), .int .i64 2]
  else .tup [.agg (.I .i64 [szE false zd ld s, szE true zd ld s]), .int .i64 0]
theorem chk_len (h : chkB w ls ld zs zd = 0) : ls ≤ 10 ∧ ld ≤ 40 := by
  unfold chkB at h
  by_cases e1 : w < 2 <;> by_cases e2 : 1000 < w <;> by_cases e3 : 10 < ls <;> by_cases e4 : 40 < ld <;> simp only [e1, e2, e3, e4, decide_true, decide_false, cond_true, cond_false] at h <;> first | omega | (simp at h)
theorem ct20 (k : Nat) (t : Ctr) (ht : t.Ok (cd (n + 2 + k))) : (ctG t 20 (g20 (bathA w ls zs ld zd) (chkB w ls ld zs zd))).Ok (cd (n + 2 + k)) := by
  refine ctG_ok ht (fun args p v h hp H => ?_)
  unfold g20 at h
  split at h
  · simp only [Option.some.injEq, Prod.mk.injEq] at h
    obtain ⟨rfl, rfl⟩ := h
    rw [hp, show n + 2 + k = n + k + 2 by omega]
    exact c20 (n + k) w ls ld zs zd H
  · cases h
theorem c18 : cd (n + 4) (.fn 18) [bathA w ls zs ld zd, .int .i64 s] H = some (sizeV w ls ld zs zd s, H) := by
  refine fn_of (n := n + 3) Try.func18 rfl rfl rfl (u18 n w ls ld zs zd H s (chkB w ls ld zs zd) (ld < 2 ^ 16) (fun h => endV h zd ld) (smV zd ld)) (il_ok _ (n + 2) 1 (fun k => ct20 n w ls ld zs zd k _ (ctG_ok (ctG_ok (noCt_ok _) (fun args p v h hp H => ?_)) (fun args p v h hp H => ?_)))) (noBT_ok _ _) (noRT_ok _ _) (y := ((sizeV w ls ld zs zd s, none), H)) ?_
  · unfold g61 at h
    split at h
    · simp only [Option.some.injEq, Prod.mk.injEq] at h
      obtain ⟨rfl, rfl⟩ := h
      obtain ⟨rfl, h2⟩ := hp
      rw [show n + 2 + k = n + 1 + k + 1 by omega]
      exact c61 _ w ls ld zs zd H _ h2
    · cases h
  · unfold g45 at h
    split at h
    · simp only [Option.some.injEq, Prod.mk.injEq] at h
      obtain ⟨rfl, rfl⟩ := h
      obtain ⟨rfl, h2, hp⟩ := hp
      rw [show n + 2 + k = n + 1 + k + 1 by omega]
      rcases hp with rfl | rfl <;> rw [smV_end] <;> exact c45e _ w ls ld zs zd H _ _ h2
    · cases h
  · rw [Tr.run_reqP rfl]
    by_cases e : chkB w ls ld zs zd = 0
    · have e' : sizeV w ls ld zs zd s = if s < 0 ∨ (ls : Int) ≤ s then .tup [.agg (.I .i64 [0, 0]), .int .i64 2] else .tup [.agg (.I .i64 [szE false zd ld s, szE true zd ld s]), .int .i64 0] := by
        unfold sizeV; rw [if_neg (by simpa using e)]
      rw [e', Tr.run_ite, notB_eq, eqI_eq, e]
      simp only [beq_self_eq_true, Bool.not_true, cond_false, Int.ofNat_eq_natCast, Int.natCast_zero]
      by_cases e1 : s < 0
      · rw [if_pos (.inl e1), Tr.run_ite, leI_eq, decide_eq_false (by omega)]; rfl
      · rw [Tr.run_ite, leI_eq, decide_eq_true (by omega), cond_true]
        by_cases e2 : (ls : Int) ≤ s
        · rw [if_pos (.inr e2), Tr.run_ite, notB_eq, ltI_eq, decide_eq_false (by omega)]; rfl
        · rw [if_neg (by omega), Tr.run_ite, notB_eq, ltI_eq, decide_eq_true (by omega), Bool.not_true, cond_false]
          have h2 : ld < 2 ^ 16 := by have := (chk_len w ls ld zs zd e).2; omega
          rw [Tr.run_reqP (by simpa using h2), Tr.run_reqP (by simpa using h2), Tr.run_reqP (by simpa using h2), Tr.run_reqP (by simpa using h2), smV_end, smV_end]
          rfl
    · have e' : sizeV w ls ld zs zd s = .tup [.agg (.I .i64 [0, 0]), .int .i64 (chkB w ls ld zs zd)] := by
        unfold sizeV; rw [if_pos e]
      rw [e', Tr.run_ite, notB_eq, eqI_eq, show (chkB w ls ld zs zd == Int.ofNat 0) = false from by simpa using e, Bool.not_false, cond_true, Tr.run_reqP rfl]
      rfl
end
end Go.Eng
end

section
namespace Go.Eng
open Go.Proofs
set_option linter.unusedVariables false
set_option linter.unusedSimpArgs false
set_option maxRecDepth 100000
noncomputable def lvW (w : Int) (ls ld : Nat) (zs zd : Nat → Int) : Lvl := ⟨false, [(0, .row (.G [.int .i64 w, slA 2 ls zs, slA 3 ld zd])), (0, .row (.I .i64 [w]))]⟩
def lv0 : Lvl := ⟨false, []⟩
noncomputable def slM (m : Nat) (z : Nat → Int) (full : Bool) : AV := .slcT none (.M [.arr .i64 z (mulO m 2)]) 2 m full
noncomputable def fr96 (ls : Nat) (zs : Nat → Int) (j : Int) : Frm := [(0, slA 2 ls zs), (1, AV.fn (Fn.func 62) [] [AV.ptr 2 0 0 0]), (7, AV.int .i64 (Int.ofNat ls)), (8, AV.int .i64 j)]
noncomputable def fr98 (ld : Nat) (zd : Nat → Int) (j : Int) : Frm := [(0, slA 3 ld zd), (1, AV.fn (Fn.func 64) [] [AV.ptr 2 0 0 0]), (7, AV.int .i64 (Int.ofNat ld)), (8, AV.int .i64 j)]
noncomputable def h96 (w : Int) (ls ld : Nat) (zs zd : Nat → Int) (H : Heap) : Heap := lv0 :: lv0 :: lvW w ls ld zs zd :: H
noncomputable def fr97 (m : Nat) (z : Nat → Int) (full : Bool) (j : Int) : Frm := [(0, slM m z full), (3, .ptr 0 0 0 0), (7, AV.int .i64 (Int.ofNat m)), (8, AV.int .i64 j)]
noncomputable def lv97 (x y : Int) : Lvl := ⟨false, [(0, .row (.I .i64 [x, y]))]⟩
theorem t96 (n : Nat) (w : Int) (ls ld : Nat) (zs zd : Nat → Int) (H : Heap) (j : Int) : execT (cxD (n+5) 96 19) (il noCt n 5) noBT noRT (part Try.f96 [1,0,1,0,0]) (hints (fr96 ls zs j)) (h96 w ls ld zs zd H) =
  Tr.ite (ltI j (Int.ofNat ls)) (Tr.req (inI j ls) (Tr.req (ltN (idO 0 j 2) (mulO ls 2)) (Tr.req (ltN (addO (idO 0 j 2) 1) (mulO ls 2)) (Tr.req (inI (Int.ofNat 0) 1) (Tr.ite (ltI (zs (idO 0 j 2)) (Int.ofNat 1)) (Tr.ok (Ex.ret, [(4, AV.int .i64 j, none)], { lock := false, bs := [] } :: { lock := false, bs := [] } :: { lock := false, bs := [(0, Blk.row (Row.G [AV.int .i64 w, slA 2 ls zs, slA 3 ld zd])), (0, Blk.row (Row.I .i64 [w]))] } :: H)) (Tr.ite (ltI (subI .i64 w (Int.ofNat 1)) (zs (idO 0 j 2))) (Tr.ok (Ex.ret, [(4, AV.int .i64 j, none)], { lock := false, bs := [] } :: { lock := false, bs := [] } :: { lock := false, bs := [(0, Blk.row (Row.G [AV.int .i64 w, slA 2 ls zs, slA 3 ld zd])), (0, Blk.row (Row.I .i64 [w]))] } :: H)) (Tr.req (inI (Int.ofNat 0) 1) (Tr.ite (ltI (zs (addO (idO 0 j 2) 1)) (Int.ofNat 0)) (Tr.ok (Ex.ret, [(4, AV.int .i64 j, none)], { lock := false, bs := [] } :: { lock := false, bs := [] } :: { lock := false, bs := [(0, Blk.row (Row.G [AV.int .i64 w, slA 2 ls zs, slA 3 ld zd])), (0, Blk.row (Row.I .i64 [w]))] } :: H)) (Tr.ite (ltI (Int.ofNat 1000) (zs (addO (idO 0 j 2) 1))) (Tr.ok (Ex.ret, [(4, AV.int .i64 j, none)], { lock := false, bs := [] } :: { lock := false, bs := [] } :: { lock := false, bs := [(0, Blk.row (Row.G [AV.int .i64 w, slA 2 ls zs, slA 3 ld zd])), (0, Blk.row (Row.I .i64 [w]))] } :: H)) (Tr.ok (Ex.normal, [(0, slA 2 ls zs, none), (1, AV.fn (Fn.func 62) [] [AV.ptr 2 0 0 0], none), (7, AV.int .i64 (Int.ofNat ls), none), (8, AV.int .i64 (addI .i64 j (Int.ofNat 1)), none)], { lock := false, bs := [] } :: { lock := false, bs := [] } :: { lock := false, bs := [(0, Blk.row (Row.G [AV.int .i64 w, slA 2 ls zs, slA 3 ld zd])), (0, Blk.row (Row.I .i64 [w]))] } :: H))))))))))) (Tr.ok (Ex.exit 0, [(0, slA 2 ls zs, none), (1, AV.fn (Fn.func 62) [] [AV.ptr 2 0 0 0], none), (7, AV.int .i64 (Int.ofNat ls), none), (8, AV.int .i64 j, none), (9, AV.bool false, some 1)], { lock := false, bs := [] } :: { lock := false, bs := [] } :: { lock := false, bs := [(0, Blk.row (Row.G [AV.int .i64 w, slA 2 ls zs, slA 3 ld zd])), (0, Blk.row (Row.I .i64 [w]))] } :: H)) := by kernel_rfl
theorem t98 (n : Nat) (w : Int) (ls ld : Nat) (zs zd : Nat → Int) (H : Heap) (j : Int) : execT (cxD (n+5) 98 19) (il noCt n 5) noBT noRT (part Try.f98 [1,0,1,0,0]) (hints (fr98 ld zd j)) (h96 w ls ld zs zd H) =
  Tr.ite (ltI j (Int.ofNat ld)) (Tr.req (inI j ld) (Tr.req (ltN (idO 0 j 3) (mulO ld 3)) (Tr.req (ltN (addO (idO 0 j 3) 1) (mulO ld 3)) (Tr.req (ltN (addO (idO 0 j 3) 2) (mulO ld 3)) (Tr.ite (ltI (zd (idO 0 j 3)) (Int.ofNat 0)) (Tr.ok (Ex.ret, [(4, AV.int .i64 j, none)], { lock := false, bs := [] } :: { lock := false, bs := [] } :: { lock := false, bs := [(0, Blk.row (Row.G [AV.int .i64 w, slA 2 ls zs, slA 3 ld zd])), (0, Blk.row (Row.I .i64 [w]))] } :: H)) (Tr.ite (leI (Int.ofNat ls) (zd (idO 0 j 3))) (Tr.ok (Ex.ret, [(4, AV.int .i64 j, none)], { lock := false, bs := [] } :: { lock := false, bs := [] } :: { lock := false, bs := [(0, Blk.row (Row.G [AV.int .i64 w, slA 2 ls zs, slA 3 ld zd])), (0, Blk.row (Row.I .i64 [w]))] } :: H)) (Tr.ite (ltI (zd (addO (idO 0 j 3) 2)) (zd (addO (idO 0 j 3) 1))) (Tr.ok (Ex.ret, [(4, AV.int .i64 j, none)], { lock := false, bs := [] } :: { lock := false, bs := [] } :: { lock := false, bs := [(0, Blk.row (Row.G [AV.int .i64 w, slA 2 ls zs, slA 3 ld zd])), (0, Blk.row (Row.I .i64 [w]))] } :: H)) (Tr.req (inI (Int.ofNat 0) 2) (Tr.ite (ltI (zd (addO (idO 0 j 3) 1)) (Int.ofNat 1)) (Tr.ok (Ex.ret, [(4, AV.int .i64 j, none)], { lock := false, bs := [] } :: { lock := false, bs := [] } :: { lock := false, bs := [(0, Blk.row (Row.G [AV.int .i64 w, slA 2 ls zs, slA 3 ld zd])), (0, Blk.row (Row.I .i64 [w]))] } :: H)) (Tr.ite (ltI (Int.ofNat 10000) (zd (addO (idO 0 j 3) 1))) (Tr.ok (Ex.ret, [(4, AV.int .i64 j, none)], { lock := false, bs := [] } :: { lock := false, bs := [] } :: { lock := false, bs := [(0, Blk.row (Row.G [AV.int .i64 w, slA 2 ls zs, slA 3 ld zd])), (0, Blk.row (Row.I .i64 [w]))] } :: H)) (Tr.req (inI (Int.ofNat 1) 2) (Tr.ite (ltI (zd (addO (idO 0 j 3) 2)) (Int.ofNat 1)) (Tr.ok (Ex.ret, [(4, AV.int .i64 j, none)], { lock := false, bs := [] } :: { lock := false, bs := [] } :: { lock := false, bs := [(0, Blk.row (Row.G [AV.int .i64 w, slA 2 ls zs, slA 3 ld zd])), (0, Blk.row (Row.I .i64 [w]))] } :: H)) (Tr.ite (ltI (Int.ofNat 10000) (zd (addO (idO 0 j 3) 2))) (Tr.ok (Ex.ret, [(4, AV.int .i64 j, none)], { lock := false, bs := [] } :: { lock := false, bs := [] } :: { lock := false, bs := [(0, Blk.row (Row.G [AV.int .i64 w, slA 2 ls zs, slA 3 ld zd])), (0, Blk.row (Row.I .i64 [w]))] } :: H)) (Tr.ok (Ex.normal, [(0, slA 3 ld zd, none), (1, AV.fn (Fn.func 64) [] [AV.ptr 2 0 0 0], none), (7, AV.int .i64 (Int.ofNat ld), none), (8, AV.int .i64 (addI .i64 j (Int.ofNat 1)), none)], { lock := false, bs := [] } :: { lock := false, bs := [] } :: { lock := false, bs := [(0, Blk.row (Row.G [AV.int .i64 w, slA 2 ls zs, slA 3 ld zd])), (0, Blk.row (Row.I .i64 [w]))] } :: H))))))))))))))) (Tr.ok (Ex.exit 0, [(0, slA 3 ld zd, none), (1, AV.fn (Fn.func 64) [] [AV.ptr 2 0 0 0], none), (7, AV.int .i64 (Int.ofNat ld), none), (8, AV.int .i64 j, none), (9, AV.bool false, some 1)], { lock := false, bs := [] } :: { lock := false, bs := [] } :: { lock := false, bs := [(0, Blk.row (Row.G [AV.int .i64 w, slA 2 ls zs, slA 3 ld zd])), (0, Blk.row (Row.I .i64 [w]))] } :: H)) := by kernel_rfl
theorem t97 (n : Nat) (m : Nat) (z : Nat → Int) (full : Bool) (x y : Int) (H : Heap) (j : Int) : execT (cxD n 97 19) (il noCt n 0) noBT noRT (part Try.f97 [1,0,1,0,0]) (hints (fr97 m z full j)) (lv97 x y :: H) =
  Tr.ite (ltI j (Int.ofNat m)) (Tr.req (inI j m) (Tr.req (ltN (idO 0 j 2) (mulO m 2)) (Tr.req (ltN (addO (idO 0 j 2) 1) (mulO m 2)) (Tr.ite (andB (eqI x (z (idO 0 j 2))) (eqI y (z (addO (idO 0 j 2) 1)))) (Tr.ok (Ex.ret, [(4, AV.int .i64 j, none)], { lock := false, bs := [(0, Blk.row (Row.I .i64 [x, y]))] } :: H)) (Tr.ok (Ex.normal, [(0, AV.slcT none (Row.M [Seg.arr .i64 z (mulO m 2)]) 2 m full, none), (3, AV.ptr 0 0 0 0, none), (7, AV.int .i64 (Int.ofNat m), none), (8, AV.int .i64 (addI .i64 j (Int.ofNat 1)), none)], { lock := false, bs := [(0, Blk.row (Row.I .i64 [x, y]))] } :: H)))))) (Tr.ok (Ex.exit 0, [(0, AV.slcT none (Row.M [Seg.arr .i64 z (mulO m 2)]) 2 m full, none), (3, AV.ptr 0 0 0 0, none), (7, AV.int .i64 (Int.ofNat m), none), (8, AV.int .i64 j, none), (9, AV.bool false, some 1)], { lock := false, bs := [(0, Blk.row (Row.I .i64 [x, y]))] } :: H)) := by kernel_rfl
/-- A spot that lies outside, as the program tests it. -/
def badP (w : Int) (zs : Nat → Int) (j : Nat) : Bool := decide (zs (j * 2) < 1) || (decide (w - 1 < zs (j * 2)) || (decide (zs (j * 2 + 1) < 0) || decide (1000 < zs (j * 2 + 1))))
def badQ (ls : Nat) (zd : Nat → Int) (j : Nat) : Bool := decide (zd (j * 3) < 0) || (decide ((ls : Int) ≤ zd (j * 3)) || (decide (zd (j * 3 + 2) < zd (j * 3 + 1)) || (decide (zd (j * 3 + 1) < 1) || (decide (10000 < zd (j * 3 + 1)) || (decide (zd (j * 3 + 2) < 1) || decide (10000 < zd (j * 3 + 2)))))))
def eqP (z : Nat → Int) (x y : Int) (j : Nat) : Bool := (x == z (j * 2)) && (y == z (j * 2 + 1))
section
variable (n : Nat) (w : Int) (ls ld : Nat) (zs zd : Nat → Int) (H : Heap)
theorem l96 (h1 : ls ≤ 10) (hw : 2 ≤ w ∧ w ≤ 1000) (x : Res) (hx : (Tr.ite (exN (badP w zs) ls) (Tr.ok (.ret, hints [(4, AV.int .i64 (Int.ofNat (fN (badP w zs) ls 0)))], h96 w ls ld zs zd H)) (Tr.ok (.normal, hints (fr96 ls zs (Int.ofNat ls) ++ [(9, AV.bool false)]), h96 w ls ld zs zd H))).run = some x) :
    exec (cxD (n + 5) 96 19) (.block 0 (.loop (part Try.f96 [1,0,1,0,0]))) (fr96 ls zs (Int.ofNat 0)) (h96 w ls ld zs zd H) = some x.st := by
  have hw1 : IntKind.i64.wrap (w - 1) = w - 1 := Go.IntWalk.i64_in _ (by omega)
  refine findB (il_no n 5) (noBT_ok _ _) (noRT_ok _ _) 0 (fun j => fr96 ls zs (Int.ofNat j)) (fun _ => h96 w ls ld zs zd H) ls (badP w zs)
    (fun j => if j < ls then (.ret, hints [(4, AV.int .i64 (Int.ofNat j))], h96 w ls ld zs zd H) else (.exit 0, hints (fr96 ls zs (Int.ofNat ls)) ++ [(9, AV.bool false, some 1)], h96 w ls ld zs zd H)) (by omega) (fun j hj hp => ?_) (fun j hj hp => ?_) ⟨?_, ?_⟩ x ?_
  · refine ⟨hints (fr96 ls zs (Int.ofNat (j + 1))), h96 w ls ld zs zd H, ?_, hints_eq _, rfl⟩
    simp only [badP, Bool.or_eq_false_iff, decide_eq_false_iff_not] at hp
    rw [t96]
    simp (disch := omega) only [Tr.run_ite, Tr.run_req, Tr.run_ok, nS, eqI_eq, decide_eq_true, decide_eq_false, cond_true, cond_false, Int.ofNat_eq_natCast, wrap_j, subI_eq, hw1]
    rfl
  · rw [if_pos hj]
    refine ⟨?_, rfl⟩
    simp only [badP, Bool.or_eq_true, decide_eq_true_eq] at hp
    rw [t96]
    by_cases e1 : zs (j * 2) < 1 <;> by_cases e2 : w - 1 < zs (j * 2) <;> by_cases e3 : zs (j * 2 + 1) < 0 <;> by_cases e4 : 1000 < zs (j * 2 + 1) <;> first
      | (exfalso; omega)
      | (simp (disch := omega) only [Tr.run_ite, Tr.run_req, Tr.run_ok, nS, eqI_eq, decide_eq_true, decide_eq_false, cond_true, cond_false, Int.ofNat_eq_natCast, wrap_j, subI_eq, hw1]; rfl)
  · rw [if_neg (by omega), t96]
    simp (disch := omega) only [Tr.run_ite, Tr.run_req, Tr.run_ok, nS, eqI_eq, decide_eq_true, decide_eq_false, cond_true, cond_false, Int.ofNat_eq_natCast, wrap_j, subI_eq, hw1]
    rfl
  · rw [if_neg (by omega)]
  · rcases Tr.ite_some hx with ⟨hc, hx⟩ | ⟨hc, hx⟩
    · have := exN_true hc
      exact .inl ⟨this, by rw [if_pos this, ← Tr.ok_some hx]⟩
    · exact .inr ⟨exN_false hc, by rw [if_neg (by omega), ← Tr.ok_some hx]; rfl⟩
theorem l98 (h1 : ld ≤ 40) (x : Res) (hx : (Tr.ite (exN (badQ ls zd) ld) (Tr.ok (.ret, hints [(4, AV.int .i64 (Int.ofNat (fN (badQ ls zd) ld 0)))], h96 w ls ld zs zd H)) (Tr.ok (.normal, hints (fr98 ld zd (Int.ofNat ld) ++ [(9, AV.bool false)]), h96 w ls ld zs zd H))).run = some x) :
    exec (cxD (n + 5) 98 19) (.block 0 (.loop (part Try.f98 [1,0,1,0,0]))) (fr98 ld zd (Int.ofNat 0)) (h96 w ls ld zs zd H) = some x.st := by
  refine findB (il_no n 5) (noBT_ok _ _) (noRT_ok _ _) 0 (fun j => fr98 ld zd (Int.ofNat j)) (fun _ => h96 w ls ld zs zd H) ld (badQ ls zd)
    (fun j => if j < ld then (.ret, hints [(4, AV.int .i64 (Int.ofNat j))], h96 w ls ld zs zd H) else (.exit 0, hints (fr98 ld zd (Int.ofNat ld)) ++ [(9, AV.bool false, some 1)], h96 w ls ld zs zd H)) (by omega) (fun j hj hp => ?_) (fun j hj hp => ?_) ⟨?_, ?_⟩ x ?_
  · refine ⟨hints (fr98 ld zd (Int.ofNat (j + 1))), h96 w ls ld zs zd H, ?_, hints_eq _, rfl⟩
    simp only [badQ, Bool.or_eq_false_iff, decide_eq_false_iff_not] at hp
    rw [t98]
    simp (disch := omega) only [Tr.run_ite, Tr.run_req, Tr.run_ok, nS, eqI_eq, decide_eq_true, decide_eq_false, cond_true, cond_false, Int.ofNat_eq_natCast, wrap_j]
    rfl
  · rw [if_pos hj]
    refine ⟨?_, rfl⟩
    simp only [badQ, Bool.or_eq_true, decide_eq_true_eq] at hp
    rw [t98]
    by_cases e1 : zd (j * 3) < 0 <;> by_cases e2 : (ls : Int) ≤ zd (j * 3) <;> by_cases e3 : zd (j * 3 + 2) < zd (j * 3 + 1) <;> by_cases e4 : zd (j * 3 + 1) < 1 <;> by_cases e5 : 10000 < zd (j * 3 + 1) <;> by_cases e6 : zd (j * 3 + 2) < 1 <;> by_cases e7 : 10000 < zd (j * 3 + 2) <;> first
      | (exfalso; omega)
      | (simp (disch := omega) only [Tr.run_ite, Tr.run_req, Tr.run_ok, nS, eqI_eq, decide_eq_true, decide_eq_false, cond_true, cond_false, Int.ofNat_eq_natCast, wrap_j]; rfl)
  · rw [if_neg (by omega), t98]
    simp (disch := omega) only [Tr.run_ite, Tr.run_req, Tr.run_ok, nS, eqI_eq, decide_eq_true, decide_eq_false, cond_true, cond_false, Int.ofNat_eq_natCast, wrap_j]
    rfl
  · rw [if_neg (by omega)]
  · rcases Tr.ite_some hx with ⟨hc, hx⟩ | ⟨hc, hx⟩
    · have := exN_true hc
      exact .inl ⟨this, by rw [if_pos this, ← Tr.ok_some hx]⟩
    · exact .inr ⟨exN_false hc, by rw [if_neg (by omega), ← Tr.ok_some hx]; rfl⟩
theorem l97 (m : Nat) (z : Nat → Int) (full : Bool) (x' y' : Int) (h1 : m ≤ 1000) (x : Res) (hx : (Tr.ite (exN (eqP z x' y') m) (Tr.ok (.ret, hints [(4, AV.int .i64 (Int.ofNat (fN (eqP z x' y') m 0)))], lv97 x' y' :: H)) (Tr.ok (.normal, hints (fr97 m z full (Int.ofNat m) ++ [(9, AV.bool false)]), lv97 x' y' :: H))).run = some x) :
    exec (cxD (n) 97 19) (.block 0 (.loop (part Try.f97 [1,0,1,0,0]))) (fr97 m z full (Int.ofNat 0)) (lv97 x' y' :: H) = some x.st := by
  refine findB (il_no0 n) (noBT_ok _ _) (noRT_ok _ _) 0 (fun j => fr97 m z full (Int.ofNat j)) (fun _ => lv97 x' y' :: H) m (eqP z x' y')
    (fun j => if j < m then (.ret, hints [(4, AV.int .i64 (Int.ofNat j))], lv97 x' y' :: H) else (.exit 0, hints (fr97 m z full (Int.ofNat m)) ++ [(9, AV.bool false, some 1)], lv97 x' y' :: H)) (by omega) (fun j hj hp => ?_) (fun j hj hp => ?_) ⟨?_, ?_⟩ x ?_
  · refine ⟨hints (fr97 m z full (Int.ofNat (j + 1))), lv97 x' y' :: H, ?_, hints_eq _, rfl⟩
    rw [t97]
    simp (disch := omega) only [Tr.run_ite, Tr.run_req, Tr.run_ok, nS, eqI_eq, decide_eq_true, decide_eq_false, cond_true, cond_false, Int.ofNat_eq_natCast, wrap_j]
    simp only [eqP] at hp
    rw [hp]
    rfl
  · rw [if_pos hj]
    refine ⟨?_, rfl⟩
    rw [t97]
    simp (disch := omega) only [Tr.run_ite, Tr.run_req, Tr.run_ok, nS, eqI_eq, decide_eq_true, decide_eq_false, cond_true, cond_false, Int.ofNat_eq_natCast, wrap_j]
    simp only [eqP] at hp
    rw [hp]
    rfl
  · rw [if_neg (by omega), t97]
    simp (disch := omega) only [Tr.run_ite, Tr.run_req, Tr.run_ok, nS, eqI_eq, decide_eq_true, decide_eq_false, cond_true, cond_false, Int.ofNat_eq_natCast, wrap_j]
    rfl
  · rw [if_neg (by omega)]
  · rcases Tr.ite_some hx with ⟨hc, hx⟩ | ⟨hc, hx⟩
    · have := exN_true hc
      exact .inl ⟨this, by rw [if_pos this, ← Tr.ok_some hx]⟩
    · exact .inr ⟨exN_false hc, by rw [if_neg (by omega), ← Tr.ok_some hx]; rfl⟩
end
end Go.Eng
end
