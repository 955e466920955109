/- Drop: Beside of the program. -/
import Derived.Test.YtjmjkhpfipglcaaV4DrX
import Derived.Test.YtjmjkhpfipglcaaV4DrAj
namespace Go.Eng
open Go.Proofs
set_option linter.unusedVariables false
set_option linter.unusedSimpArgs false
set_option maxRecDepth 100000
def g67 (any : (Nat → Int) → Nat → Int → Bool) : List AV → Option (Prop × AV)
  | [.slcT none (.M [.arr .i64 z N]) 3 m full, .fn (.func 73) [] [.ptrT none (.I .i64 [s]) 0]] => some (N = mulO m 3 ∧ leN m 1000 = true, .bool (any z m s))
  | _ => none
theorem u23 (n : Nat) (w : Int) (ls ld : Nat) (zs zd sz kd : Nat → Int) (H : Heap) (p q e : Int) (side : Prop) (any : (Nat → Int) → Nat → Int → Bool) : bodyT Try.prog (cd (n+15)) 100000 23 Try.f23 (Kt.kt 23) (il (ctG (ctG (ctG noCt 19 (g20 (bathA w ls zs ld zd) e)) 77 (g77 (bathA w ls zs ld zd) side (tabV w ls ld zs zd sz kd))) 67 (g67 any)) (n+11) 4) noBT noRT [(bathA w ls zs ld zd, none), (.int .i64 p, none), (.int .i64 q, none)] H =
  Tr.reqP (AV.agg (Row.G [AV.int IntKind.i64 w, AV.slcT none (Row.M [Seg.arr IntKind.i64 zs (mulO ls 2)]) 2 ls false, AV.slcT none (Row.M [Seg.arr IntKind.i64 zd (mulO ld 3)]) 3 ld false]) = AV.agg (Row.G [AV.int IntKind.i64 w, AV.slcT none (Row.M [Seg.arr IntKind.i64 zs (mulO ls 2)]) 2 ls false, AV.slcT none (Row.M [Seg.arr IntKind.i64 zd (mulO ld 3)]) 3 ld false]))
    (Tr.ite (notB (eqI e (Int.ofNat 0)))
      (Tr.ite (notB (eqI e (Int.ofNat 0))) (Tr.ok ((AV.tup [AV.int IntKind.i64 (Int.ofNat 0), AV.int IntKind.i64 e], none), H))
        (Tr.req (inI (Int.ofNat 0) 2)
          (Tr.ite (ltI p (Int.ofNat 0)) (Tr.ok ((AV.tup [AV.int IntKind.i64 (Int.ofNat 0), AV.int IntKind.i64 (Int.ofNat 2)], none), H))
            (Tr.ite (ltI (subI IntKind.i64 (Int.ofNat ld) (Int.ofNat 1)) p) (Tr.ok ((AV.tup [AV.int IntKind.i64 (Int.ofNat 0), AV.int IntKind.i64 (Int.ofNat 2)], none), H))
              (Tr.req (inI (Int.ofNat 1) 2)
                (Tr.ite (ltI q (Int.ofNat 0)) (Tr.ok ((AV.tup [AV.int IntKind.i64 (Int.ofNat 0), AV.int IntKind.i64 (Int.ofNat 2)], none), H))
                  (Tr.ite (ltI (subI IntKind.i64 (Int.ofNat ld) (Int.ofNat 1)) q) (Tr.ok ((AV.tup [AV.int IntKind.i64 (Int.ofNat 0), AV.int IntKind.i64 (Int.ofNat 2)], none), H))
                    (Tr.ite (eqI p q) (Tr.ok ((AV.tup [AV.int IntKind.i64 (Int.ofNat 0), AV.int IntKind.i64 (Int.ofNat 2)], none), H))
                      (Tr.req (inI (minO p q) ld)
                        (Tr.req (ltN (idO 0 (minO p q) 3) (mulO ld 3))
                          (Tr.req (inI (maxO p q) ld)
                            (Tr.req (ltN (idO 0 (maxO p q) 3) (mulO ld 3))
                              (Tr.ite (eqI (zd (idO 0 (minO p q) 3)) (zd (idO 0 (maxO p q) 3)))
                                (Tr.req (bndI (maxO p q) ld)
                                  (Tr.req (bndI (addI IntKind.i64 (minO p q) (Int.ofNat 1)) (toN (maxO p q)))
                                    (Tr.req (leN (addO (mulO (toN (addI IntKind.i64 (minO p q) (Int.ofNat 1))) 3) (mulO (subO (toN (maxO p q)) (toN (addI IntKind.i64 (minO p q) (Int.ofNat 1)))) 3)) (mulO ld 3))
                                      (Tr.reqP (mulO (subO (toN (maxO p q)) (toN (addI IntKind.i64 (minO p q) (Int.ofNat 1)))) 3 = mulO (subO (toN (maxO p q)) (toN (addI IntKind.i64 (minO p q) (Int.ofNat 1)))) 3 ∧ leN (subO (toN (maxO p q)) (toN (addI IntKind.i64 (minO p q) (Int.ofNat 1)))) 1000 = true)
                                        (Tr.ite (notB (any (shO zd (mulO (toN (addI IntKind.i64 (minO p q) (Int.ofNat 1))) 3)) (subO (toN (maxO p q)) (toN (addI IntKind.i64 (minO p q) (Int.ofNat 1)))) (zd (idO 0 (minO p q) 3)))) (Tr.ok ((AV.tup [AV.int IntKind.i64 (Int.ofNat 2), AV.int IntKind.i64 (Int.ofNat 0)], none), H))
                                          (Tr.ite (eqI (zd (idO 0 (minO p q) 3)) (zd (idO 0 (maxO p q) 3))) (Tr.ok ((AV.tup [AV.int IntKind.i64 (Int.ofNat 0), AV.int IntKind.i64 (Int.ofNat 0)], none), H))
                                            (Tr.req (bndI (minO p q) ld)
                                              (Tr.req (leN (addO (mulO 0 3) (mulO (toN (minO p q)) 3)) (mulO ld 3))
                                                (Tr.reqP (mulO (toN (minO p q)) 3 = mulO (toN (minO p q)) 3 ∧ leN (toN (minO p q)) 1000 = true)
                                                  (Tr.ite (any zd (toN (minO p q)) (zd (idO 0 (minO p q) 3))) (Tr.ok ((AV.tup [AV.int IntKind.i64 (Int.ofNat 0), AV.int IntKind.i64 (Int.ofNat 0)], none), H))
                                                    (Tr.req (bndI (maxO p q) ld)
                                                      (Tr.req (leN (addO (mulO 0 3) (mulO (toN (maxO p q)) 3)) (mulO ld 3)) (Tr.reqP (mulO (toN (maxO p q)) 3 = mulO (toN (maxO p q)) 3 ∧ leN (toN (maxO p q)) 1000 = true) (Tr.ite (any zd (toN (maxO p q)) (zd (idO 0 (maxO p q) 3))) (Tr.ok ((AV.tup [AV.int IntKind.i64 (Int.ofNat 0), AV.int IntKind.i64 (Int.ofNat 0)], none), H)) Tr.bad))))))))))))))
                                (Tr.ite (eqI (zd (idO 0 (minO p q) 3)) (zd (idO 0 (maxO p q) 3))) (Tr.ok ((AV.tup [AV.int IntKind.i64 (Int.ofNat 0), AV.int IntKind.i64 (Int.ofNat 0)], none), H))
                                  (Tr.req (bndI (minO p q) ld)
                                    (Tr.req (leN (addO (mulO 0 3) (mulO (toN (minO p q)) 3)) (mulO ld 3))
                                      (Tr.reqP (mulO (toN (minO p q)) 3 = mulO (toN (minO p q)) 3 ∧ leN (toN (minO p q)) 1000 = true)
                                        (Tr.ite (any zd (toN (minO p q)) (zd (idO 0 (minO p q) 3))) (Tr.ok ((AV.tup [AV.int IntKind.i64 (Int.ofNat 0), AV.int IntKind.i64 (Int.ofNat 0)], none), H))
                                          (Tr.req (bndI (maxO p q) ld)
                                            (Tr.req (leN (addO (mulO 0 3) (mulO (toN (maxO p q)) 3)) (mulO ld 3)) (Tr.reqP (mulO (toN (maxO p q)) 3 = mulO (toN (maxO p q)) 3 ∧ leN (toN (maxO p q)) 1000 = true) (Tr.ite (any zd (toN (maxO p q)) (zd (idO 0 (maxO p q) 3))) (Tr.ok ((AV.tup [AV.int IntKind.i64 (Int.ofNat 0), AV.int IntKind.i64 (Int.ofNat 0)], none), H)) Tr.bad))))))))))))))))))))))
      (Tr.reqP (AV.agg (Row.G [AV.int IntKind.i64 w, AV.slcT none (Row.M [Seg.arr IntKind.i64 zs (mulO ls 2)]) 2 ls false, AV.slcT none (Row.M [Seg.arr IntKind.i64 zd (mulO ld 3)]) 3 ld false]) = AV.agg (Row.G [AV.int IntKind.i64 w, AV.slcT none (Row.M [Seg.arr IntKind.i64 zs (mulO ls 2)]) 2 ls false, AV.slcT none (Row.M [Seg.arr IntKind.i64 zd (mulO ld 3)]) 3 ld false]) ∧ side)
        (Tr.ite (notB (eqI (Int.ofNat 0) (Int.ofNat 0))) (Tr.ok ((AV.tup [AV.int IntKind.i64 (Int.ofNat 0), AV.int IntKind.i64 (Int.ofNat 0)], none), H))
          (Tr.req (inI (Int.ofNat 0) 2)
            (Tr.ite (ltI p (Int.ofNat 0)) (Tr.ok ((AV.tup [AV.int IntKind.i64 (Int.ofNat 0), AV.int IntKind.i64 (Int.ofNat 2)], none), H))
              (Tr.ite (ltI (subI IntKind.i64 (Int.ofNat ld) (Int.ofNat 1)) p) (Tr.ok ((AV.tup [AV.int IntKind.i64 (Int.ofNat 0), AV.int IntKind.i64 (Int.ofNat 2)], none), H))
                (Tr.req (inI (Int.ofNat 1) 2)
                  (Tr.ite (ltI q (Int.ofNat 0)) (Tr.ok ((AV.tup [AV.int IntKind.i64 (Int.ofNat 0), AV.int IntKind.i64 (Int.ofNat 2)], none), H))
                    (Tr.ite (ltI (subI IntKind.i64 (Int.ofNat ld) (Int.ofNat 1)) q) (Tr.ok ((AV.tup [AV.int IntKind.i64 (Int.ofNat 0), AV.int IntKind.i64 (Int.ofNat 2)], none), H))
                      (Tr.ite (eqI p q) (Tr.ok ((AV.tup [AV.int IntKind.i64 (Int.ofNat 0), AV.int IntKind.i64 (Int.ofNat 2)], none), H))
                        (Tr.req (inI (minO p q) ld)
                          (Tr.req (ltN (idO 0 (minO p q) 3) (mulO ld 3))
                            (Tr.req (inI (maxO p q) ld)
                              (Tr.req (ltN (idO 0 (maxO p q) 3) (mulO ld 3))
                                (Tr.ite (eqI (zd (idO 0 (minO p q) 3)) (zd (idO 0 (maxO p q) 3)))
                                  (Tr.req (bndI (maxO p q) ld)
                                    (Tr.req (bndI (addI IntKind.i64 (minO p q) (Int.ofNat 1)) (toN (maxO p q)))
                                      (Tr.req (leN (addO (mulO (toN (addI IntKind.i64 (minO p q) (Int.ofNat 1))) 3) (mulO (subO (toN (maxO p q)) (toN (addI IntKind.i64 (minO p q) (Int.ofNat 1)))) 3)) (mulO ld 3))
                                        (Tr.reqP (mulO (subO (toN (maxO p q)) (toN (addI IntKind.i64 (minO p q) (Int.ofNat 1)))) 3 = mulO (subO (toN (maxO p q)) (toN (addI IntKind.i64 (minO p q) (Int.ofNat 1)))) 3 ∧ leN (subO (toN (maxO p q)) (toN (addI IntKind.i64 (minO p q) (Int.ofNat 1)))) 1000 = true)
                                          (Tr.ite (notB (any (shO zd (mulO (toN (addI IntKind.i64 (minO p q) (Int.ofNat 1))) 3)) (subO (toN (maxO p q)) (toN (addI IntKind.i64 (minO p q) (Int.ofNat 1)))) (zd (idO 0 (minO p q) 3)))) (Tr.ok ((AV.tup [AV.int IntKind.i64 (Int.ofNat 2), AV.int IntKind.i64 (Int.ofNat 0)], none), H))
                                            (Tr.ite (eqI (zd (idO 0 (minO p q) 3)) (zd (idO 0 (maxO p q) 3))) (Tr.ok ((AV.tup [AV.int IntKind.i64 (Int.ofNat 0), AV.int IntKind.i64 (Int.ofNat 0)], none), H))
                                              (Tr.req (bndI (minO p q) ld)
                                                (Tr.req (leN (addO (mulO 0 3) (mulO (toN (minO p q)) 3)) (mulO ld 3))
                                                  (Tr.reqP (mulO (toN (minO p q)) 3 = mulO (toN (minO p q)) 3 ∧ leN (toN (minO p q)) 1000 = true)
                                                    (Tr.ite (any zd (toN (minO p q)) (zd (idO 0 (minO p q) 3))) (Tr.ok ((AV.tup [AV.int IntKind.i64 (Int.ofNat 0), AV.int IntKind.i64 (Int.ofNat 0)], none), H))
                                                      (Tr.req (bndI (maxO p q) ld)
                                                        (Tr.req (leN (addO (mulO 0 3) (mulO (toN (maxO p q)) 3)) (mulO ld 3))
                                                          (Tr.reqP (mulO (toN (maxO p q)) 3 = mulO (toN (maxO p q)) 3 ∧ leN (toN (maxO p q)) 1000 = true)
                                                            (Tr.ite (any zd (toN (maxO p q)) (zd (idO 0 (maxO p q) 3))) (Tr.ok ((AV.tup [AV.int IntKind.i64 (Int.ofNat 0), AV.int IntKind.i64 (Int.ofNat 0)], none), H))
                                                              (Tr.req (inI (addI IntKind.i64 (zd (idO 0 (minO p q) 3)) (Int.ofNat 2)) 12)
                                                                (Tr.req (inI (addI IntKind.i64 (zd (idO 0 (maxO p q) 3)) (Int.ofNat 2)) 12)
                                                                  (Tr.req (inO (idO (idO 4 (addI IntKind.i64 (zd (idO 0 (minO p q) 3)) (Int.ofNat 2)) 12) (addI IntKind.i64 (zd (idO 0 (maxO p q) 3)) (Int.ofNat 2)) 1) 1 4 144)
                                                                    (Tr.ok ((AV.tup [AV.int IntKind.i64 (kd (subO (idO (idO 4 (addI IntKind.i64 (zd (idO 0 (minO p q) 3)) (Int.ofNat 2)) 12) (addI IntKind.i64 (zd (idO 0 (maxO p q) 3)) (Int.ofNat 2)) 1) 4)), AV.int IntKind.i64 (Int.ofNat 0)], none), H)))))))))))))))))))
                                  (Tr.ite (eqI (zd (idO 0 (minO p q) 3)) (zd (idO 0 (maxO p q) 3))) (Tr.ok ((AV.tup [AV.int IntKind.i64 (Int.ofNat 0), AV.int IntKind.i64 (Int.ofNat 0)], none), H))
                                    (Tr.req (bndI (minO p q) ld)
                                      (Tr.req (leN (addO (mulO 0 3) (mulO (toN (minO p q)) 3)) (mulO ld 3))
                                        (Tr.reqP (mulO (toN (minO p q)) 3 = mulO (toN (minO p q)) 3 ∧ leN (toN (minO p q)) 1000 = true)
                                          (Tr.ite (any zd (toN (minO p q)) (zd (idO 0 (minO p q) 3))) (Tr.ok ((AV.tup [AV.int IntKind.i64 (Int.ofNat 0), AV.int IntKind.i64 (Int.ofNat 0)], none), H))
                                            (Tr.req (bndI (maxO p q) ld)
                                              (Tr.req (leN (addO (mulO 0 3) (mulO (toN (maxO p q)) 3)) (mulO ld 3))
                                                (Tr.reqP (mulO (toN (maxO p q)) 3 = mulO (toN (maxO p q)) 3 ∧ leN (toN (maxO p q)) 1000 = true)
                                                  (Tr.ite (any zd (toN (maxO p q)) (zd (idO 0 (maxO p q) 3))) (Tr.ok ((AV.tup [AV.int IntKind.i64 (Int.ofNat 0), AV.int IntKind.i64 (Int.ofNat 0)], none), H))
                                                    (Tr.req (inI (addI IntKind.i64 (zd (idO 0 (minO p q) 3)) (Int.ofNat 2)) 12)
                                                      (Tr.req (inI (addI IntKind.i64 (zd (idO 0 (maxO p q) 3)) (Int.ofNat 2)) 12)
                                                        (Tr.req (inO (idO (idO 4 (addI IntKind.i64 (zd (idO 0 (minO p q) 3)) (Int.ofNat 2)) 12) (addI IntKind.i64 (zd (idO 0 (maxO p q) 3)) (Int.ofNat 2)) 1) 1 4 144)
                                                          (Tr.ok ((AV.tup [AV.int IntKind.i64 (kd (subO (idO (idO 4 (addI IntKind.i64 (zd (idO 0 (minO p q) 3)) (Int.ofNat 2)) 12) (addI IntKind.i64 (zd (idO 0 (maxO p q) 3)) (Int.ofNat 2)) 1) 4)), AV.int IntKind.i64 (Int.ofNat 0)], none), H))))))))))))))))))))))))))))) := by kernel_rfl
/-- The error of two drops. -/
def bsE (w : Int) (ls ld : Nat) (zs zd : Nat → Int) (p q : Int) : Int :=
  if chkB w ls ld zs zd ≠ 0 then chkB w ls ld zs zd else if 0 ≤ p ∧ p < ld ∧ 0 ≤ q ∧ q < ld ∧ p ≠ q then 0 else 2
/-- The kind of two drops, the first one named first. -/
noncomputable def bsO (w : Int) (ld : Nat) (zs zd : Nat → Int) (a b : Nat) : Int :=
  if zd (a * 3) = zd (b * 3) then (if exN (eqD (shO zd ((a + 1) * 3)) (zd (a * 3))) (b - (a + 1)) = true then 0 else 2)
  else if exN (eqD zd (zd (a * 3))) a = true ∨ exN (eqD zd (zd (b * 3))) b = true then 0
  else kndR w ld zs zd (zd (a * 3)) (zd (b * 3))
noncomputable def bsK (w : Int) (ls ld : Nat) (zs zd : Nat → Int) (p q : Int) : Int := if bsE w ls ld zs zd p q ≠ 0 then 0 else bsO w ld zs zd (min p q).toNat (max p q).toNat
section
variable (n : Nat) (w : Int) (ls ld : Nat) (zs zd : Nat → Int) (H : Heap) (p q : Int)
theorem il23 : (il (ctG (ctG (ctG noCt 19 (g20 (bathA w ls zs ld zd) (chkB w ls ld zs zd))) 77 (g77 (bathA w ls zs ld zd) (ls ≤ 10 ∧ ld ≤ 40 ∧ ∀ j, j < ld → 0 ≤ zd (j * 3) ∧ zd (j * 3) < ls) (tabV w ls ld zs zd (szs zd ld) (kdO w ls zs (szs zd ld) (ls + 2))))) 67 (g67 fun z m s => exN (eqD z s) m)) (n+11) 4).Ok (cd (n + 15)) := by
  refine il_ok _ (n + 11) 4 (fun k => ctG_ok (ctG_ok (ct19 n w ls ld zs zd k _ (noCt_ok _)) (fun args p v h hp H => ?_)) (fun args p v h hp H => ?_))
  · unfold g77 at h
    split at h
    · simp only [Option.some.injEq, Prod.mk.injEq] at h
      obtain ⟨rfl, rfl⟩ := h
      obtain ⟨rfl, h1, h2, h3⟩ := hp
      rw [show n + 11 + k = n + 3 + k + 8 by omega]
      exact c77 _ w ls ld zs zd H h1 h2 h3
    · cases h
  · unfold g67 at h
    split at h
    · simp only [Option.some.injEq, Prod.mk.injEq] at h
      obtain ⟨rfl, rfl⟩ := h
      obtain ⟨rfl, hp⟩ := hp
      rw [leN_eq, decide_eq_true_eq] at hp
      rw [show n + 11 + k = n + 7 + k + 4 by omega]
      exact c67 _ H _ _ _ _ hp
    · cases h
theorem c23 : cd (n + 16) (.fn 23) [bathA w ls zs ld zd, .int .i64 p, .int .i64 q] H = some (.tup [.int .i64 (bsK w ls ld zs zd p q), .int .i64 (bsE w ls ld zs zd p q)], H) := by
  refine fn_all (n := n + 15) Try.func23 rfl rfl rfl (u23 n w ls ld zs zd (szs zd ld) (kdO w ls zs (szs zd ld) (ls + 2)) H p q (chkB w ls ld zs zd) (ls ≤ 10 ∧ ld ≤ 40 ∧ ∀ j, j < ld → 0 ≤ zd (j * 3) ∧ zd (j * 3) < ls) fun z m s => exN (eqD z s) m) (il23 n w ls ld zs zd) (noBT_ok _ _) (noRT_ok _ _) ?_
  by_cases e : chkB w ls ld zs zd = 0
  · have hc := chk_drops e
    have ee : bsE w ls ld zs zd p q = if 0 ≤ p ∧ p < ld ∧ 0 ≤ q ∧ q < ld ∧ p ≠ q then 0 else 2 := by unfold bsE; rw [if_neg (fun h => h e)]
    by_cases hr : 0 ≤ p ∧ p < ld ∧ 0 ≤ q ∧ q < ld ∧ p ≠ q
    · have e2 : bsE w ls ld zs zd p q = 0 := by rw [ee, if_pos hr]
      have d1 := hc.2.2 (min p q).toNat (by omega)
      have d2 := hc.2.2 (max p q).toNat (by omega)
      have ek : bsK w ls ld zs zd p q = bsO w ld zs zd (min p q).toNat (max p q).toNat := by unfold bsK; rw [e2]; rfl
      rw [e2, ek]
      unfold bsO
      repeat' first | (refine Tr.all_ite (fun hc => ?_) (fun hc => ?_) <;> (try simp (disch := omega) only [ltI_t, ltI_f, leI_t, leI_f, eqI_t, eqI_f, notB_t, notB_f, andB_t, andB_f, inI_t, bndI_t, ltN_t, ltN_f, leN_t, leN_f, eqN_t, eqN_f, inO_t, roomO_t, mkO_t, minO_min, maxO_max, idO_eq, addO_eq, subO_eq, mulO_eq, toN_eq, addI_eq, subI_eq, mulI_eq, ofNat_cast, negSucc_zero, negSucc_one, negSucc_two, wr_64, tn_succ, Int.toNat_natCast, Int.natCast_zero, Int.natCast_one, Int.cast_ofNat_Int, Nat.zero_add, not_true_eq_false, not_false_eq_true, Bool.true_eq_false, Bool.false_eq_true, eq_self, true_and, and_true] at hc) <;> (try (exfalso; omega))) | (refine Tr.all_req ?_ ?_; · ((try simp (disch := omega) only [ltI_t, ltI_f, leI_t, leI_f, eqI_t, eqI_f, notB_t, notB_f, andB_t, andB_f, inI_t, bndI_t, ltN_t, ltN_f, leN_t, leN_f, eqN_t, eqN_f, inO_t, roomO_t, mkO_t, minO_min, maxO_max, idO_eq, addO_eq, subO_eq, mulO_eq, toN_eq, addI_eq, subI_eq, mulI_eq, ofNat_cast, negSucc_zero, negSucc_one, negSucc_two, wr_64, tn_succ, Int.toNat_natCast, Int.natCast_zero, Int.natCast_one, Int.cast_ofNat_Int, Nat.zero_add, not_true_eq_false, not_false_eq_true, Bool.true_eq_false, Bool.false_eq_true, eq_self, true_and, and_true]); try omega)) | (refine Tr.all_reqP ?_ ?_; · first | exact trivial | rfl | exact ⟨rfl, rfl⟩ | exact ⟨rfl, rfl, rfl⟩ | (simp (disch := omega) only [ltI_t, ltI_f, leI_t, leI_f, eqI_t, eqI_f, notB_t, notB_f, andB_t, andB_f, inI_t, bndI_t, ltN_t, ltN_f, leN_t, leN_f, eqN_t, eqN_f, inO_t, roomO_t, mkO_t, minO_min, maxO_max, idO_eq, addO_eq, subO_eq, mulO_eq, toN_eq, addI_eq, subI_eq, mulI_eq, ofNat_cast, negSucc_zero, negSucc_one, negSucc_two, wr_64, tn_succ, Int.toNat_natCast, Int.natCast_zero, Int.natCast_one, Int.cast_ofNat_Int, Nat.zero_add, not_true_eq_false, not_false_eq_true, Bool.true_eq_false, Bool.false_eq_true, eq_self, true_and, and_true]; done) | ((try simp (disch := omega) only [ltI_t, ltI_f, leI_t, leI_f, eqI_t, eqI_f, notB_t, notB_f, andB_t, andB_f, inI_t, bndI_t, ltN_t, ltN_f, leN_t, leN_f, eqN_t, eqN_f, inO_t, roomO_t, mkO_t, minO_min, maxO_max, idO_eq, addO_eq, subO_eq, mulO_eq, toN_eq, addI_eq, subI_eq, mulI_eq, ofNat_cast, negSucc_zero, negSucc_one, negSucc_two, wr_64, tn_succ, Int.toNat_natCast, Int.natCast_zero, Int.natCast_one, Int.cast_ofNat_Int, Nat.zero_add, not_true_eq_false, not_false_eq_true, Bool.true_eq_false, Bool.false_eq_true, eq_self, true_and, and_true]); omega))
      all_goals (refine Tr.all_ok ⟨?_, rfl⟩)
      all_goals try ((repeat' split) <;> first | rfl | (exfalso; omega) | (exfalso; simp_all; done))
      rename_i n1 n3
      rw [if_neg n1, if_neg (by rw [n3, hc]; simp), ← kd_knd e (p := zd ((min p q).toNat * 3)) (q := zd ((max p q).toNat * 3)) (by simp [isPl]; omega) (by simp [isPl]; omega) n1]
      unfold kix
      have ei : 4 + (zd ((min p q).toNat * 3) + 2).toNat * 12 + (zd ((max p q).toNat * 3) + 2).toNat * 1 - 4 = (zd ((min p q).toNat * 3) + 2).toNat * 12 + (zd ((max p q).toNat * 3) + 2).toNat := by omega
      simp (disch := omega) only [ltI_t, ltI_f, leI_t, leI_f, eqI_t, eqI_f, notB_t, notB_f, andB_t, andB_f, inI_t, bndI_t, ltN_t, ltN_f, leN_t, leN_f, eqN_t, eqN_f, inO_t, roomO_t, mkO_t, minO_min, maxO_max, idO_eq, addO_eq, subO_eq, mulO_eq, toN_eq, addI_eq, subI_eq, mulI_eq, ofNat_cast, negSucc_zero, negSucc_one, negSucc_two, wr_64, tn_succ, Int.toNat_natCast, Int.natCast_zero, Int.natCast_one, Int.cast_ofNat_Int, Nat.zero_add, not_true_eq_false, not_false_eq_true, Bool.true_eq_false, Bool.false_eq_true, eq_self, true_and, and_true]
      rw [ei]
    · have e2 : bsE w ls ld zs zd p q = 2 := by rw [ee, if_neg hr]
      have ek : bsK w ls ld zs zd p q = 0 := by unfold bsK; rw [e2]; rfl
      rw [e2, ek]
      repeat' first | (refine Tr.all_ite (fun hc => ?_) (fun hc => ?_) <;> (try simp (disch := omega) only [ltI_t, ltI_f, leI_t, leI_f, eqI_t, eqI_f, notB_t, notB_f, andB_t, andB_f, inI_t, bndI_t, ltN_t, ltN_f, leN_t, leN_f, eqN_t, eqN_f, inO_t, roomO_t, mkO_t, minO_min, maxO_max, idO_eq, addO_eq, subO_eq, mulO_eq, toN_eq, addI_eq, subI_eq, mulI_eq, ofNat_cast, negSucc_zero, negSucc_one, negSucc_two, wr_64, tn_succ, Int.toNat_natCast, Int.natCast_zero, Int.natCast_one, Int.cast_ofNat_Int, Nat.zero_add, not_true_eq_false, not_false_eq_true, Bool.true_eq_false, Bool.false_eq_true, eq_self, true_and, and_true] at hc) <;> (try (exfalso; omega))) | (refine Tr.all_req ?_ ?_; · ((try simp (disch := omega) only [ltI_t, ltI_f, leI_t, leI_f, eqI_t, eqI_f, notB_t, notB_f, andB_t, andB_f, inI_t, bndI_t, ltN_t, ltN_f, leN_t, leN_f, eqN_t, eqN_f, inO_t, roomO_t, mkO_t, minO_min, maxO_max, idO_eq, addO_eq, subO_eq, mulO_eq, toN_eq, addI_eq, subI_eq, mulI_eq, ofNat_cast, negSucc_zero, negSucc_one, negSucc_two, wr_64, tn_succ, Int.toNat_natCast, Int.natCast_zero, Int.natCast_one, Int.cast_ofNat_Int, Nat.zero_add, not_true_eq_false, not_false_eq_true, Bool.true_eq_false, Bool.false_eq_true, eq_self, true_and, and_true]); try omega)) | (refine Tr.all_reqP ?_ ?_; · first | exact trivial | rfl | exact ⟨rfl, rfl⟩ | exact ⟨rfl, rfl, rfl⟩ | (simp (disch := omega) only [ltI_t, ltI_f, leI_t, leI_f, eqI_t, eqI_f, notB_t, notB_f, andB_t, andB_f, inI_t, bndI_t, ltN_t, ltN_f, leN_t, leN_f, eqN_t, eqN_f, inO_t, roomO_t, mkO_t, minO_min, maxO_max, idO_eq, addO_eq, subO_eq, mulO_eq, toN_eq, addI_eq, subI_eq, mulI_eq, ofNat_cast, negSucc_zero, negSucc_one, negSucc_two, wr_64, tn_succ, Int.toNat_natCast, Int.natCast_zero, Int.natCast_one, Int.cast_ofNat_Int, Nat.zero_add, not_true_eq_false, not_false_eq_true, Bool.true_eq_false, Bool.false_eq_true, eq_self, true_and, and_true]; done) | ((try simp (disch := omega) only [ltI_t, ltI_f, leI_t, leI_f, eqI_t, eqI_f, notB_t, notB_f, andB_t, andB_f, inI_t, bndI_t, ltN_t, ltN_f, leN_t, leN_f, eqN_t, eqN_f, inO_t, roomO_t, mkO_t, minO_min, maxO_max, idO_eq, addO_eq, subO_eq, mulO_eq, toN_eq, addI_eq, subI_eq, mulI_eq, ofNat_cast, negSucc_zero, negSucc_one, negSucc_two, wr_64, tn_succ, Int.toNat_natCast, Int.natCast_zero, Int.natCast_one, Int.cast_ofNat_Int, Nat.zero_add, not_true_eq_false, not_false_eq_true, Bool.true_eq_false, Bool.false_eq_true, eq_self, true_and, and_true]); omega))
      all_goals exact Tr.all_ok ⟨rfl, rfl⟩
  · have e2 : bsE w ls ld zs zd p q = chkB w ls ld zs zd := by unfold bsE; rw [if_pos e]
    have ek : bsK w ls ld zs zd p q = 0 := by unfold bsK; rw [e2, if_pos e]
    rw [e2, ek]
    repeat' first | (refine Tr.all_ite (fun hc => ?_) (fun hc => ?_) <;> (try simp (disch := omega) only [ltI_t, ltI_f, leI_t, leI_f, eqI_t, eqI_f, notB_t, notB_f, andB_t, andB_f, inI_t, bndI_t, ltN_t, ltN_f, leN_t, leN_f, eqN_t, eqN_f, inO_t, roomO_t, mkO_t, minO_min, maxO_max, idO_eq, addO_eq, subO_eq, mulO_eq, toN_eq, addI_eq, subI_eq, mulI_eq, ofNat_cast, negSucc_zero, negSucc_one, negSucc_two, wr_64, tn_succ, Int.toNat_natCast, Int.natCast_zero, Int.natCast_one, Int.cast_ofNat_Int, Nat.zero_add, not_true_eq_false, not_false_eq_true, Bool.true_eq_false, Bool.false_eq_true, eq_self, true_and, and_true] at hc) <;> (try (exfalso; omega))) | (refine Tr.all_req ?_ ?_; · ((try simp (disch := omega) only [ltI_t, ltI_f, leI_t, leI_f, eqI_t, eqI_f, notB_t, notB_f, andB_t, andB_f, inI_t, bndI_t, ltN_t, ltN_f, leN_t, leN_f, eqN_t, eqN_f, inO_t, roomO_t, mkO_t, minO_min, maxO_max, idO_eq, addO_eq, subO_eq, mulO_eq, toN_eq, addI_eq, subI_eq, mulI_eq, ofNat_cast, negSucc_zero, negSucc_one, negSucc_two, wr_64, tn_succ, Int.toNat_natCast, Int.natCast_zero, Int.natCast_one, Int.cast_ofNat_Int, Nat.zero_add, not_true_eq_false, not_false_eq_true, Bool.true_eq_false, Bool.false_eq_true, eq_self, true_and, and_true]); try omega)) | (refine Tr.all_reqP ?_ ?_; · first | exact trivial | rfl | exact ⟨rfl, rfl⟩ | exact ⟨rfl, rfl, rfl⟩ | (simp (disch := omega) only [ltI_t, ltI_f, leI_t, leI_f, eqI_t, eqI_f, notB_t, notB_f, andB_t, andB_f, inI_t, bndI_t, ltN_t, ltN_f, leN_t, leN_f, eqN_t, eqN_f, inO_t, roomO_t, mkO_t, minO_min, maxO_max, idO_eq, addO_eq, subO_eq, mulO_eq, toN_eq, addI_eq, subI_eq, mulI_eq, ofNat_cast, negSucc_zero, negSucc_one, negSucc_two, wr_64, tn_succ, Int.toNat_natCast, Int.natCast_zero, Int.natCast_one, Int.cast_ofNat_Int, Nat.zero_add, not_true_eq_false, not_false_eq_true, Bool.true_eq_false, Bool.false_eq_true, eq_self, true_and, and_true]; done) | ((try simp (disch := omega) only [ltI_t, ltI_f, leI_t, leI_f, eqI_t, eqI_f, notB_t, notB_f, andB_t, andB_f, inI_t, bndI_t, ltN_t, ltN_f, leN_t, leN_f, eqN_t, eqN_f, inO_t, roomO_t, mkO_t, minO_min, maxO_max, idO_eq, addO_eq, subO_eq, mulO_eq, toN_eq, addI_eq, subI_eq, mulI_eq, ofNat_cast, negSucc_zero, negSucc_one, negSucc_two, wr_64, tn_succ, Int.toNat_natCast, Int.natCast_zero, Int.natCast_one, Int.cast_ofNat_Int, Nat.zero_add, not_true_eq_false, not_false_eq_true, Bool.true_eq_false, Bool.false_eq_true, eq_self, true_and, and_true]); omega))
    all_goals exact Tr.all_ok ⟨rfl, rfl⟩
end
end Go.Eng
