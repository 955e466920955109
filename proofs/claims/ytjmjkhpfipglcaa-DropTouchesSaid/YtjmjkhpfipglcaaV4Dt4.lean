/- Drop: the law DropTouches. -/
import Derived.Test.YtjmjkhpfipglcaaV4DrZ
namespace Go.Eng
open Go.Proofs
set_option linter.unusedVariables false
set_option linter.unusedSimpArgs false
set_option maxRecDepth 100000
def gK (B : AV) (P Q k e : Int) : List AV → Option (Prop × AV)
  | [b, .int .i64 p, .int .i64 q] => some (b = B ∧ p = P ∧ q = Q, .tup [.int .i64 k, .int .i64 e])
  | _ => none
theorem u4 (n : Nat) (w : Int) (ls ld : Nat) (zs zd : Nat → Int) (H : Heap) (p q k1 e1 k2 e2 : Int) : bodyT Try.prog (cd (n+17)) 100000 4 Try.f4 (Kt.kt 4) (il (ctG (ctG (ctG (ctG (ctG noCt 16 g16) 21 (gK (bathA w ls zs ld zd) p q k1 e1)) 22 (gK (bathA w ls zs ld zd) p q k1 e1)) 23 (gK (bathA w ls zs ld zd) p q k2 e2)) 24 (gK (bathA w ls zs ld zd) p q k2 e2)) (n+16) 1) noBT noRT [(bathA w ls zs ld zd, none), (.int .i64 p, none), (.int .i64 q, none)] H =
  Tr.ite (ltI (Int.ofNat 15) (Int.ofNat ls)) (Tr.reqP True (Tr.ok ((AV.bool true, none), H)))
    (Tr.ite (ltI (Int.ofNat 50) (Int.ofNat ld)) (Tr.reqP True (Tr.ok ((AV.bool true, none), H)))
      (Tr.reqP (AV.agg (Row.G [AV.int IntKind.i64 w, AV.slcT none (Row.M [Seg.arr IntKind.i64 zs (mulO ls 2)]) 2 ls false, AV.slcT none (Row.M [Seg.arr IntKind.i64 zd (mulO ld 3)]) 3 ld false]) = AV.agg (Row.G [AV.int IntKind.i64 w, AV.slcT none (Row.M [Seg.arr IntKind.i64 zs (mulO ls 2)]) 2 ls false, AV.slcT none (Row.M [Seg.arr IntKind.i64 zd (mulO ld 3)]) 3 ld false]) ∧ p = p ∧ q = q)
        (Tr.reqP (AV.agg (Row.G [AV.int IntKind.i64 w, AV.slcT none (Row.M [Seg.arr IntKind.i64 zs (mulO ls 2)]) 2 ls false, AV.slcT none (Row.M [Seg.arr IntKind.i64 zd (mulO ld 3)]) 3 ld false]) = AV.agg (Row.G [AV.int IntKind.i64 w, AV.slcT none (Row.M [Seg.arr IntKind.i64 zs (mulO ls 2)]) 2 ls false, AV.slcT none (Row.M [Seg.arr IntKind.i64 zd (mulO ld 3)]) 3 ld false]) ∧ p = p ∧ q = q)
          (Tr.reqP (AV.agg (Row.G [AV.int IntKind.i64 w, AV.slcT none (Row.M [Seg.arr IntKind.i64 zs (mulO ls 2)]) 2 ls false, AV.slcT none (Row.M [Seg.arr IntKind.i64 zd (mulO ld 3)]) 3 ld false]) = AV.agg (Row.G [AV.int IntKind.i64 w, AV.slcT none (Row.M [Seg.arr IntKind.i64 zs (mulO ls 2)]) 2 ls false, AV.slcT none (Row.M [Seg.arr IntKind.i64 zd (mulO ld 3)]) 3 ld false]) ∧ p = p ∧ q = q)
            (Tr.reqP (AV.agg (Row.G [AV.int IntKind.i64 w, AV.slcT none (Row.M [Seg.arr IntKind.i64 zs (mulO ls 2)]) 2 ls false, AV.slcT none (Row.M [Seg.arr IntKind.i64 zd (mulO ld 3)]) 3 ld false]) = AV.agg (Row.G [AV.int IntKind.i64 w, AV.slcT none (Row.M [Seg.arr IntKind.i64 zs (mulO ls 2)]) 2 ls false, AV.slcT none (Row.M [Seg.arr IntKind.i64 zd (mulO ld 3)]) 3 ld false]) ∧ p = p ∧ q = q)
              (Tr.ite (eqI k1 k1) (Tr.ite (eqI e1 e1) (Tr.ite (eqI k2 k2) (Tr.ite (eqI e2 e2) (Tr.reqP True (Tr.ok ((AV.bool true, none), H))) (Tr.ok ((AV.bool false, some 1), H))) (Tr.ok ((AV.bool false, some 1), H))) (Tr.ok ((AV.bool false, some 1), H))) (Tr.ok ((AV.bool false, some 1), H)))))))) := by kernel_rfl
theorem ctK {n f : Nat} {B : AV} {P Q k e : Int} {t : Ctr} (ht : t.Ok (cd n)) (h : ∀ H, cd n (.fn f) [B, .int .i64 P, .int .i64 Q] H = some (.tup [.int .i64 k, .int .i64 e], H)) : (ctG t f (gK B P Q k e)).Ok (cd n) := by
  refine ctG_ok ht (fun args p v hg hp H => ?_)
  unfold gK at hg
  split at hg
  · simp only [Option.some.injEq, Prod.mk.injEq] at hg
    obtain ⟨rfl, rfl⟩ := hg
    obtain ⟨rfl, rfl, rfl⟩ := hp
    exact h H
  · cases hg
theorem ctW {n : Nat} {t : Ctr} (ht : t.Ok (cd (n + 1))) : (ctG t 16 g16).Ok (cd (n + 1)) := by
  refine ctG_ok ht (fun args p v hg hp H => ?_)
  unfold g16 at hg
  split at hg
  · simp only [Option.some.injEq, Prod.mk.injEq] at hg
    obtain ⟨_, rfl⟩ := hg
    exact c16 _ H
  · cases hg
section
variable (n : Nat) (w : Int) (ls ld : Nat) (zs zd : Nat → Int) (H : Heap) (p q : Int)
/-- The law DropTouches. -/
theorem c4 : cd (n + 18) (.fn 4) [bathA w ls zs ld zd, .int .i64 p, .int .i64 q] H = some (.bool true, H) := by
  refine fn_all (n := n + 17) Try.func4 rfl rfl rfl (u4 n w ls ld zs zd H p q (touK w ls ld zs zd p q) (plE w ls ld zs zd p q) (bsK w ls ld zs zd p q) (bsE w ls ld zs zd p q)) (il_ok _ (n + 16) 1 (fun k => ?_)) (noBT_ok _ _) (noRT_ok _ _) ?_
  · refine ctK (ctK (ctK (ctK ?_ (fun H => ?_)) (fun H => ?_)) (fun H => ?_)) (fun H => ?_)
    · rw [show n + 16 + k = n + 15 + k + 1 by omega]; exact ctW (noCt_ok _)
    · rw [show n + 16 + k = n + k + 16 by omega]; exact c21 _ w ls ld zs zd H p q
    · rw [show n + 16 + k = n + 9 + k + 7 by omega]; exact c22 _ w ls ld zs zd H p q
    · rw [show n + 16 + k = n + k + 16 by omega]; exact c23 _ w ls ld zs zd H p q
    · rw [show n + 16 + k = n + 9 + k + 7 by omega]; exact c24 _ w ls ld zs zd H p q
  · repeat' first | (refine Tr.all_ite (fun hc => ?_) (fun hc => ?_) <;> (try simp (disch := omega) only [ltI_t, ltI_f, leI_t, leI_f, eqI_t, eqI_f, notB_t, notB_f, andB_t, andB_f, inI_t, bndI_t, ltN_t, ltN_f, leN_t, leN_f, eqN_t, eqN_f, inO_t, roomO_t, mkO_t, minO_min, maxO_max, idO_eq, addO_eq, subO_eq, mulO_eq, toN_eq, addI_eq, subI_eq, mulI_eq, ofNat_cast, negSucc_zero, negSucc_one, negSucc_two, wr_64, tn_succ, Int.toNat_natCast, Int.natCast_zero, Int.natCast_one, Int.cast_ofNat_Int, Nat.zero_add, not_true_eq_false, not_false_eq_true, Bool.true_eq_false, Bool.false_eq_true, eq_self, true_and, and_true] at hc) <;> (try (exfalso; omega))) | (refine Tr.all_req ?_ ?_; · ((try simp (disch := omega) only [ltI_t, ltI_f, leI_t, leI_f, eqI_t, eqI_f, notB_t, notB_f, andB_t, andB_f, inI_t, bndI_t, ltN_t, ltN_f, leN_t, leN_f, eqN_t, eqN_f, inO_t, roomO_t, mkO_t, minO_min, maxO_max, idO_eq, addO_eq, subO_eq, mulO_eq, toN_eq, addI_eq, subI_eq, mulI_eq, ofNat_cast, negSucc_zero, negSucc_one, negSucc_two, wr_64, tn_succ, Int.toNat_natCast, Int.natCast_zero, Int.natCast_one, Int.cast_ofNat_Int, Nat.zero_add, not_true_eq_false, not_false_eq_true, Bool.true_eq_false, Bool.false_eq_true, eq_self, true_and, and_true]); try omega)) | (refine Tr.all_reqP ?_ ?_; · first | exact trivial | rfl | exact ⟨rfl, rfl⟩ | exact ⟨rfl, rfl, rfl⟩ | (simp (disch := omega) only [ltI_t, ltI_f, leI_t, leI_f, eqI_t, eqI_f, notB_t, notB_f, andB_t, andB_f, inI_t, bndI_t, ltN_t, ltN_f, leN_t, leN_f, eqN_t, eqN_f, inO_t, roomO_t, mkO_t, minO_min, maxO_max, idO_eq, addO_eq, subO_eq, mulO_eq, toN_eq, addI_eq, subI_eq, mulI_eq, ofNat_cast, negSucc_zero, negSucc_one, negSucc_two, wr_64, tn_succ, Int.toNat_natCast, Int.natCast_zero, Int.natCast_one, Int.cast_ofNat_Int, Nat.zero_add, not_true_eq_false, not_false_eq_true, Bool.true_eq_false, Bool.false_eq_true, eq_self, true_and, and_true]; done) | ((try simp (disch := omega) only [ltI_t, ltI_f, leI_t, leI_f, eqI_t, eqI_f, notB_t, notB_f, andB_t, andB_f, inI_t, bndI_t, ltN_t, ltN_f, leN_t, leN_f, eqN_t, eqN_f, inO_t, roomO_t, mkO_t, minO_min, maxO_max, idO_eq, addO_eq, subO_eq, mulO_eq, toN_eq, addI_eq, subI_eq, mulI_eq, ofNat_cast, negSucc_zero, negSucc_one, negSucc_two, wr_64, tn_succ, Int.toNat_natCast, Int.natCast_zero, Int.natCast_one, Int.cast_ofNat_Int, Nat.zero_add, not_true_eq_false, not_false_eq_true, Bool.true_eq_false, Bool.false_eq_true, eq_self, true_and, and_true]); omega)) | fail
    all_goals exact Tr.all_ok ⟨rfl, rfl⟩
end
end Go.Eng
