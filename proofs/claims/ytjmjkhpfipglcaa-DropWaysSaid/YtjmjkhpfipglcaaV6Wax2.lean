/- Drop: CheckWay, as it is defined. -/
import Derived.Test.YtjmjkhpfipglcaaV6Kax7
import Derived.Test.YtjmjkhpfipglcaaV6Wd
section
namespace Go.Eng
open Go.Proofs
set_option linter.unusedVariables false
set_option linter.unusedSimpArgs false
set_option maxRecDepth 100000
noncomputable def fr33a (x : Nat) (m : Nat) (z : Nat → Int) (sure : Bool) (j : Int) : Frm := [(1, sl1 m z false), (2, .bool sure), (3, .ptr 0 0 0 0), (x, .int .i64 j)]
noncomputable def fr33c (m : Nat) (z : Nat → Int) (sure : Bool) (j k : Int) : Frm := [(1, sl1 m z false), (2, .bool sure), (3, .ptr 0 0 0 0), (8, .int .i64 j), (9, .int .i64 k)]
theorem t33a (n : Nat) (w : Int) (ls ld m : Nat) (zs zd z : Nat → Int) (H : Heap) (j : Int) (sure : Bool) (pl : Int → Bool) : execT (cxD (n+8) 33 76) (il (ctG noCt 87 (g87 (bathA w ls zs ld zd) pl)) (n+8) 0) noBT noRT (part Try.f33 [1,1,1,0,1,0,0]) (hints (fr33a 7 m z sure j)) (lvB w ls ld zs zd :: H) =
 Tr.ite (ltI j (Int.ofNat m)) (Tr.req (inI j m) (Tr.req (ltN (idO 0 j 1) m) (Tr.reqP (bathA w ls zs ld zd = bathA w ls zs ld zd) (Tr.ite (notB (pl (z (idO 0 j 1)))) (Tr.ok (Ex.ret, [(6, AV.int .i64 (Int.ofNat 2), some 1)], lvB w ls ld zs zd :: H)) (Tr.ok (Ex.normal, [(1, AV.slcT none (Row.M [Seg.arr .i64 z m]) 1 m false, none), (2, AV.bool sure, none), (3, AV.ptr 0 0 0 0, none), (7, AV.int .i64 (addI .i64 j (Int.ofNat 1)), none)], lvB w ls ld zs zd :: H)))))) (Tr.ok (Ex.exit 0, [(1, AV.slcT none (Row.M [Seg.arr .i64 z m]) 1 m false, none), (2, AV.bool sure, none), (3, AV.ptr 0 0 0 0, none), (7, AV.int .i64 j, none), (27, AV.bool false, some 1)], lvB w ls ld zs zd :: H)) := by kernel_rfl
theorem t33c (n : Nat) (w : Int) (ls ld m : Nat) (zs zd z : Nat → Int) (H : Heap) (j k : Int) (sure : Bool) : execT (cxD (n+8) 33 76) (il noCt (n+8) 0) noBT noRT (part Try.f33 [1,1,1,1,0,1,0,0,1,0,0,1,0,0]) (hints (fr33c m z sure j k)) (lvB w ls ld zs zd :: H) =
 Tr.ite (ltI k j) (Tr.req (inI j m) (Tr.req (ltN (idO 0 j 1) m) (Tr.req (inI k m) (Tr.req (ltN (idO 0 k 1) m) (Tr.ite (eqI (z (idO 0 j 1)) (z (idO 0 k 1))) (Tr.ok (Ex.ret, [(6, AV.int .i64 (Int.ofNat 15), some 1)], lvB w ls ld zs zd :: H)) (Tr.ok (Ex.normal, [(1, AV.slcT none (Row.M [Seg.arr .i64 z m]) 1 m false, none), (2, AV.bool sure, none), (3, AV.ptr 0 0 0 0, none), (8, AV.int .i64 j, none), (9, AV.int .i64 (addI .i64 k (Int.ofNat 1)), none)], lvB w ls ld zs zd :: H))))))) (Tr.ok (Ex.exit 4, [(1, AV.slcT none (Row.M [Seg.arr .i64 z m]) 1 m false, none), (2, AV.bool sure, none), (3, AV.ptr 0 0 0 0, none), (8, AV.int .i64 j, none), (9, AV.int .i64 k, none), (45, AV.bool false, some 1)], lvB w ls ld zs zd :: H)) := by kernel_rfl
theorem t33b (n : Nat) (w : Int) (ls ld m : Nat) (zs zd z : Nat → Int) (H : Heap) (j : Int) (sure e : Bool) : execT (cxD (n+8) 33 76) (il noCt (n+8) 0) (blkE noBT 4 (fr33c m z sure j 0) (lvB w ls ld zs zd :: H) (.ite e (.ok (.ret, [(6, .int .i64 15, none)], lvB w ls ld zs zd :: H)) (.ok (.normal, hints (fr33c m z sure j j ++ [(45, .bool false)]), lvB w ls ld zs zd :: H)))) noRT (part Try.f33 [1,1,1,1,0,1,0,0]) (hints (fr33a 8 m z sure j)) (lvB w ls ld zs zd :: H) =
 (fun (Z0 : Frm) => Tr.ite (ltI j (Int.ofNat m)) (Tr.reqP (Z0 = Z0 ∧ lvB w ls ld zs zd :: H = lvB w ls ld zs zd :: H) (Tr.ite e (Tr.ok (Ex.ret, [(6, AV.int .i64 (Int.ofNat 15), none)], lvB w ls ld zs zd :: H)) (Tr.ok (Ex.normal, [(1, AV.slcT none (Row.M [Seg.arr .i64 z m]) 1 m false, none), (2, AV.bool sure, none), (3, AV.ptr 0 0 0 0, none), (8, AV.int .i64 (addI .i64 j (Int.ofNat 1)), none)], lvB w ls ld zs zd :: H)))) (Tr.ok (Ex.exit 2, [(1, AV.slcT none (Row.M [Seg.arr .i64 z m]) 1 m false, none), (2, AV.bool sure, none), (3, AV.ptr 0 0 0 0, none), (8, AV.int .i64 j, none), (40, AV.bool false, some 1)], lvB w ls ld zs zd :: H))) [(1, AV.slcT none (Row.M [Seg.arr .i64 z m]) 1 m false), (2, AV.bool sure), (3, AV.ptr 0 0 0 0), (8, AV.int .i64 j), (9, AV.int .i64 (Int.ofNat 0))] := by kernel_rfl
theorem t33be (n : Nat) (w : Int) (ls ld m : Nat) (zs zd z : Nat → Int) (H : Heap) (j : Int) (sure : Bool) : execT (cxD (n+8) 33 76) (il noCt (n+8) 0) (stopB noBT 4) noRT (part Try.f33 [1,1,1,1,0,1,0,0]) (hints (fr33a 8 m z sure j)) (lvB w ls ld zs zd :: H) =
 Tr.ite (ltI j (Int.ofNat m)) Tr.bad (Tr.ok (Ex.exit 2, [(1, AV.slcT none (Row.M [Seg.arr .i64 z m]) 1 m false, none), (2, AV.bool sure, none), (3, AV.ptr 0 0 0 0, none), (8, AV.int .i64 j, none), (40, AV.bool false, some 1)], lvB w ls ld zs zd :: H)) := by kernel_rfl
theorem t33d (n : Nat) (w : Int) (ls ld m : Nat) (zs zd z : Nat → Int) (H : Heap) (j : Int) (sure : Bool) (side : Int → Int → Prop) (hl : Int → Int → Bool) : execT (cxD (n+8) 33 76) (il (ctG noCt 82 (g82 (bathA w ls zs ld zd) sure side hl)) (n+8) 0) noBT noRT (part Try.f33 [1,1,1,1,1,0,1,0,0]) (hints (fr33a 10 m z sure j)) (lvB w ls ld zs zd :: H) =
 Tr.ite (ltI j (Int.ofNat m)) (Tr.req (inI (subI .i64 j (Int.ofNat 1)) m) (Tr.req (ltN (idO 0 (subI .i64 j (Int.ofNat 1)) 1) m) (Tr.req (inI j m) (Tr.req (ltN (idO 0 j 1) m) (Tr.reqP (bathA w ls zs ld zd = bathA w ls zs ld zd ∧ side (z (idO 0 (subI .i64 j (Int.ofNat 1)) 1)) (z (idO 0 j 1)) ∧ sure = sure) (Tr.ite (notB (hl (z (idO 0 (subI .i64 j (Int.ofNat 1)) 1)) (z (idO 0 j 1)))) (Tr.ok (Ex.ret, [(6, AV.int .i64 (Int.ofNat 17), some 1)], lvB w ls ld zs zd :: H)) (Tr.ok (Ex.normal, [(1, AV.slcT none (Row.M [Seg.arr .i64 z m]) 1 m false, none), (2, AV.bool sure, none), (3, AV.ptr 0 0 0 0, none), (10, AV.int .i64 (addI .i64 j (Int.ofNat 1)), none)], lvB w ls ld zs zd :: H)))))))) (Tr.ok (Ex.exit 6, [(1, AV.slcT none (Row.M [Seg.arr .i64 z m]) 1 m false, none), (2, AV.bool sure, none), (3, AV.ptr 0 0 0 0, none), (10, AV.int .i64 j, none), (60, AV.bool false, some 1)], lvB w ls ld zs zd :: H)) := by kernel_rfl
theorem u33x (n : Nat) (w : Int) (ls ld m : Nat) (zs zd z : Nat → Int) (H : Heap) (e : Int) (sure : Bool) : bodyT Try.prog (cd (n+8)) 100000 33 Try.f33 (Kt.kt 33) (il (ctG noCt 20 (g20 (bathA w ls zs ld zd) e)) (n+8) 0) (stopB noBT 0) noRT [(bathA w ls zs ld zd, none), (sl1 m z false, none), (.bool sure, none)] H =
 Tr.reqP (bathA w ls zs ld zd = bathA w ls zs ld zd) (Tr.ite (notB (eqI e (Int.ofNat 0))) (Tr.reqP (bathA w ls zs ld zd = bathA w ls zs ld zd) (Tr.ok ((AV.int .i64 e, none), H))) (Tr.ite (ltI (Int.ofNat m) (Int.ofNat 2)) (Tr.ok ((AV.int .i64 (Int.ofNat 6), some 1), H)) (Tr.ite (ltI (Int.ofNat 12) (Int.ofNat m)) (Tr.ok ((AV.int .i64 (Int.ofNat 6), some 1), H)) Tr.bad))) := by kernel_rfl
theorem u33a (n : Nat) (w : Int) (ls ld m : Nat) (zs zd z : Nat → Int) (H : Heap) (e : Int) (sure : Bool) : bodyT Try.prog (cd (n+8)) 100000 33 Try.f33 (Kt.kt 33) (il (ctG noCt 20 (g20 (bathA w ls zs ld zd) e)) (n+8) 0) (blkE noBT 0 (fr33a 7 m z sure 0) (lvB w ls ld zs zd :: H) (.ok (.ret, [(6, .int .i64 2, none)], lvB w ls ld zs zd :: H))) noRT [(bathA w ls zs ld zd, none), (sl1 m z false, none), (.bool sure, none)] H =
 (fun (Z0 : Frm) => Tr.reqP (bathA w ls zs ld zd = bathA w ls zs ld zd) (Tr.ite (notB (eqI e (Int.ofNat 0))) (Tr.reqP (bathA w ls zs ld zd = bathA w ls zs ld zd) (Tr.ok ((AV.int .i64 e, none), H))) (Tr.ite (ltI (Int.ofNat m) (Int.ofNat 2)) (Tr.ok ((AV.int .i64 (Int.ofNat 6), some 1), H)) (Tr.ite (ltI (Int.ofNat 12) (Int.ofNat m)) (Tr.ok ((AV.int .i64 (Int.ofNat 6), some 1), H)) (Tr.reqP (Z0 = Z0 ∧ lvB w ls ld zs zd :: H = lvB w ls ld zs zd :: H) (Tr.ok ((AV.int .i64 (Int.ofNat 2), none), H))))))) [(1, AV.slcT none (Row.M [Seg.arr .i64 z m]) 1 m false), (2, AV.bool sure), (3, AV.ptr 0 0 0 0), (7, AV.int .i64 (Int.ofNat 0))] := by kernel_rfl
theorem u33b (n : Nat) (w : Int) (ls ld m : Nat) (zs zd z : Nat → Int) (H : Heap) (e : Int) (sure q2 q3 : Bool) : bodyT Try.prog (cd (n+8)) 100000 33 Try.f33 (Kt.kt 33) (il (ctG noCt 20 (g20 (bathA w ls zs ld zd) e)) (n+8) 0) (blkE (blkE (blkE noBT 6 (fr33a 10 m z sure 1) (lvB w ls ld zs zd :: H) (.ite q3 (.ok (.ret, [(6, .int .i64 17, none)], lvB w ls ld zs zd :: H)) (.ok (.normal, hints (fr33a 10 m z sure (Int.ofNat m) ++ [(60, .bool false)]), lvB w ls ld zs zd :: H)))) 2 (fr33a 8 m z sure 0) (lvB w ls ld zs zd :: H) (.ite q2 (.ok (.ret, [(6, .int .i64 15, none)], lvB w ls ld zs zd :: H)) (.ok (.normal, hints (fr33a 8 m z sure (Int.ofNat m) ++ [(40, .bool false)]), lvB w ls ld zs zd :: H)))) 0 (fr33a 7 m z sure 0) (lvB w ls ld zs zd :: H) (.ok (.normal, hints (fr33a 7 m z sure (Int.ofNat m) ++ [(27, .bool false)]), lvB w ls ld zs zd :: H))) noRT [(bathA w ls zs ld zd, none), (sl1 m z false, none), (.bool sure, none)] H =
 (fun (Z0 : Nat × AV) => Tr.reqP (bathA w ls zs ld zd = bathA w ls zs ld zd) (Tr.ite (notB (eqI e (Int.ofNat 0))) (Tr.reqP (bathA w ls zs ld zd = bathA w ls zs ld zd) (Tr.ok ((AV.int .i64 e, none), H))) (Tr.ite (ltI (Int.ofNat m) (Int.ofNat 2)) (Tr.ok ((AV.int .i64 (Int.ofNat 6), some 1), H)) (Tr.ite (ltI (Int.ofNat 12) (Int.ofNat m)) (Tr.ok ((AV.int .i64 (Int.ofNat 6), some 1), H)) (Tr.reqP ([Z0, (2, AV.bool sure), (3, AV.ptr 0 0 0 0), (7, AV.int .i64 (Int.ofNat 0))] = [Z0, (2, AV.bool sure), (3, AV.ptr 0 0 0 0), (7, AV.int .i64 (Int.ofNat 0))] ∧ lvB w ls ld zs zd :: H = lvB w ls ld zs zd :: H) (Tr.reqP ([Z0, (2, AV.bool sure), (3, AV.ptr 0 0 0 0), (8, AV.int .i64 (Int.ofNat 0))] = [Z0, (2, AV.bool sure), (3, AV.ptr 0 0 0 0), (8, AV.int .i64 (Int.ofNat 0))] ∧ lvB w ls ld zs zd :: H = lvB w ls ld zs zd :: H) (Tr.ite q2 (Tr.ok ((AV.int .i64 (Int.ofNat 15), none), H)) (Tr.reqP ([Z0, (2, AV.bool sure), (3, AV.ptr 0 0 0 0), (10, AV.int .i64 (Int.ofNat 1))] = [Z0, (2, AV.bool sure), (3, AV.ptr 0 0 0 0), (10, AV.int .i64 (Int.ofNat 1))] ∧ lvB w ls ld zs zd :: H = lvB w ls ld zs zd :: H) (Tr.ite q3 (Tr.ok ((AV.int .i64 (Int.ofNat 17), none), H)) (Tr.ok ((AV.int .i64 (Int.ofNat 0), some 1), H))))))))))) (1, AV.slcT none (Row.M [Seg.arr .i64 z m]) 1 m false) := by kernel_rfl
def cwN (ls : Nat) (z : Nat → Int) (j : Nat) : Bool := !isPl ls (z j)
def cwQ (z : Nat → Int) (i k : Nat) : Bool := decide (z i = z k)
def cwI (z : Nat → Int) (i : Nat) : Bool := exN (cwQ z i) i
def cwH (hl : Int → Int → Bool) (z : Nat → Int) (j : Nat) : Bool := !hl (z j) (z (j + 1))
def cwE (w : Int) (ls ld : Nat) (zs zd : Nat → Int) (hl : Int → Int → Bool) (m : Nat) (z : Nat → Int) : Int :=
 if chkB w ls ld zs zd ≠ 0 then chkB w ls ld zs zd
 else if m < 2 ∨ 12 < m then 6
 else if exN (cwN ls z) m = true then 2
 else if exN (cwI z) m = true then 15
 else if exN (cwH hl z) (m - 1) = true then 17 else 0
section
variable (n : Nat) (w : Int) (ls ld m : Nat) (zs zd z : Nat → Int) (H : Heap) (sure : Bool)
theorem b33a : ∀ b, (0, b) ∈ blocksOf (bodyOf Try.f33) → b = .loop (part Try.f33 [1,1,1,0,1,0,0]) := by
 have : ((blocksOf (bodyOf Try.f33)).filter fun x => Nat.beq x.1 0) = [(0, .loop (part Try.f33 [1,1,1,0,1,0,0]))] := by kernel_rfl
 intro b hb
 have hm : (0, b) ∈ ((blocksOf (bodyOf Try.f33)).filter fun x => Nat.beq x.1 0) := List.mem_filter.2 ⟨hb, rfl⟩
 rw [this] at hm; simpa using hm
theorem b33b : ∀ b, (2, b) ∈ blocksOf (bodyOf Try.f33) → b = .loop (part Try.f33 [1,1,1,1,0,1,0,0]) := by
 have : ((blocksOf (bodyOf Try.f33)).filter fun x => Nat.beq x.1 2) = [(2, .loop (part Try.f33 [1,1,1,1,0,1,0,0]))] := by kernel_rfl
 intro b hb
 have hm : (2, b) ∈ ((blocksOf (bodyOf Try.f33)).filter fun x => Nat.beq x.1 2) := List.mem_filter.2 ⟨hb, rfl⟩
 rw [this] at hm; simpa using hm
theorem b33d : ∀ b, (6, b) ∈ blocksOf (bodyOf Try.f33) → b = .loop (part Try.f33 [1,1,1,1,1,0,1,0,0]) := by
 have : ((blocksOf (bodyOf Try.f33)).filter fun x => Nat.beq x.1 6) = [(6, .loop (part Try.f33 [1,1,1,1,1,0,1,0,0]))] := by kernel_rfl
 intro b hb
 have hm : (6, b) ∈ ((blocksOf (bodyOf Try.f33)).filter fun x => Nat.beq x.1 6) := List.mem_filter.2 ⟨hb, rfl⟩
 rw [this] at hm; simpa using hm
theorem b33c : ∀ b, (4, b) ∈ blocksOf (part Try.f33 [1,1,1,1,0,1,0,0]) → b = .loop (part Try.f33 [1,1,1,1,0,1,0,0,1,0,0,1,0,0]) := by
 have : ((blocksOf (part Try.f33 [1,1,1,1,0,1,0,0])).filter fun x => Nat.beq x.1 4) = [(4, .loop (part Try.f33 [1,1,1,1,0,1,0,0,1,0,0,1,0,0]))] := by kernel_rfl
 intro b hb
 have hm : (4, b) ∈ ((blocksOf (part Try.f33 [1,1,1,1,0,1,0,0])).filter fun x => Nat.beq x.1 4) := List.mem_filter.2 ⟨hb, rfl⟩
 rw [this] at hm; simpa using hm
theorem il87w : (il (ctG noCt 87 (g87 (bathA w ls zs ld zd) (isPl ls))) (n+8) 0).Ok (cd (n + 8)) := by
 refine il_ok _ (n + 8) 0 (fun k => ctG_ok (noCt_ok _) (fun args p v hg hp H => ?_))
 unfold g87 at hg
 split at hg
 · simp only [Option.some.injEq, Prod.mk.injEq] at hg
   obtain ⟨rfl, rfl⟩ := hg
   subst hp
   rw [show n + 8 + k = n + 5 + k + 3 by omega]
   exact c87 _ w ls ld zs zd H _
 · cases hg
theorem il82w (h : chkB w ls ld zs zd = 0) : (il (ctG noCt 82 (g82 (bathA w ls zs ld zd) sure (fun p q => isPl ls p = true ∧ isPl ls q = true) (hlF w ld zs zd sure))) (n+8) 0).Ok (cd (n + 8)) := by
 refine il_ok _ (n + 8) 0 (fun k => ctG_ok (noCt_ok _) (fun args p v hg hp H => ?_))
 unfold g82 at hg
 split at hg
 · simp only [Option.some.injEq, Prod.mk.injEq] at hg
   obtain ⟨rfl, rfl⟩ := hg
   obtain ⟨rfl, hp, rfl⟩ := hp
   rw [show n + 8 + k = n + 2 + k + 6 by omega]
   exact c82 _ w ls ld zs zd H _ _ _ (knd_ok h hp.1 hp.2)
 · cases hg
theorem l33a (hm : m ≤ 1000) : exec (cxD (n + 8) 33 76) (.block 0 (.loop (part Try.f33 [1,1,1,0,1,0,0]))) (fr33a 7 m z sure 0) (lvB w ls ld zs zd :: H) = some (cond (exN (cwN ls z) m) (.ret, [(6, .int .i64 2)], lvB w ls ld zs zd :: H) (.normal, fr33a 7 m z sure (Int.ofNat m) ++ [(27, .bool false)], lvB w ls ld zs zd :: H)) := by
 refine findX (n := n + 8) (f := 33) (nt := 76) (c := part Try.f33 [1,1,1,0,1,0,0]) 0 (fun j => fr33a 7 m z sure (j : Int)) (fun _ => lvB w ls ld zs zd :: H) m (cwN ls z) (fun _ => ([(6, .int .i64 2)], lvB w ls ld zs zd :: H)) (fr33a 7 m z sure (Int.ofNat m) ++ [(27, .bool false)], lvB w ls ld zs zd :: H) (by omega) (fun j hj => ?_) ?_
 · have ej : addI .i64 (j : Int) (Int.ofNat 1) = ((j + 1 : Nat) : Int) := by rw [addI_eq, show Int.ofNat 1 = 1 from rfl]; exact wr_64 (by omega) (by omega)
   refine ex_all (t33a n w ls ld m zs zd z H (j : Int) sure (isPl ls)) (il87w n w ls ld zs zd) (noBT_ok _ _) (noRT_ok _ _) ?_
   have hs : cwN ls z j = !isPl ls (z j) := rfl
   generalize isPl ls = pl at *
   repeat' first | (refine Tr.all_ite (fun hc => ?_) (fun hc => ?_) <;> (try simp (disch := omega) only [nV, mulO_eq, Int.cast_ofNat_Int, eq_self, Nat.mul_one] at hc) <;> (try (exfalso; omega))) | (refine Tr.all_req ?_ ?_; · ((try simp (disch := omega) only [nV, mulO_eq, Int.cast_ofNat_Int, eq_self, Nat.mul_one]); try omega)) | (refine Tr.all_reqP ?_ ?_; · first | exact trivial | rfl | exact ⟨rfl, rfl⟩ | exact ⟨rfl, rfl, rfl⟩ | (simp (disch := omega) only [nV, mulO_eq, Int.cast_ofNat_Int, eq_self, Nat.mul_one]; done) | ((try simp (disch := omega) only [nV, mulO_eq, Int.cast_ofNat_Int, eq_self, Nat.mul_one]); omega)) | fail
   all_goals refine Tr.all_ok ?_
   all_goals first
    | (rw [if_pos (by rw [hs]; simp_all; done)]; rfl)
    | (rw [if_neg (by rw [hs]; simp_all; done)]; exact ⟨rfl, by rw [ej]; rfl⟩)
    | fail
 · obtain ⟨x, h1, rfl⟩ := ex_all (Q := fun x => x = (.exit 0, fr33a 7 m z sure (Int.ofNat m) ++ [(27, .bool false)], lvB w ls ld zs zd :: H)) (t33a n w ls ld m zs zd z H (Int.ofNat m) sure (isPl ls)) (il87w n w ls ld zs zd) (noBT_ok _ _) (noRT_ok _ _) (by
    repeat' first | (refine Tr.all_ite (fun hc => ?_) (fun hc => ?_) <;> (try simp (disch := omega) only [nV, mulO_eq, Int.cast_ofNat_Int, eq_self] at hc) <;> (try (exfalso; omega))) | (refine Tr.all_req ?_ ?_; · ((try simp (disch := omega) only [nV, mulO_eq, Int.cast_ofNat_Int, eq_self]); try omega)) | (refine Tr.all_reqP ?_ ?_; · first | exact trivial | rfl | exact ⟨rfl, rfl⟩ | exact ⟨rfl, rfl, rfl⟩ | (simp (disch := omega) only [nV, mulO_eq, Int.cast_ofNat_Int, eq_self]; done) | ((try simp (disch := omega) only [nV, mulO_eq, Int.cast_ofNat_Int, eq_self]); omega)) | fail
    exact Tr.all_ok rfl)
   exact h1
theorem l33c (hm : m ≤ 1000) (i : Nat) (hi : i < m) : exec (cxD (n + 8) 33 76) (.block 4 (.loop (part Try.f33 [1,1,1,1,0,1,0,0,1,0,0,1,0,0]))) (fr33c m z sure i 0) (lvB w ls ld zs zd :: H) = some (cond (cwI z i) (.ret, [(6, .int .i64 15)], lvB w ls ld zs zd :: H) (.normal, fr33c m z sure i i ++ [(45, .bool false)], lvB w ls ld zs zd :: H)) := by
 refine findX (n := n + 8) (f := 33) (nt := 76) (c := part Try.f33 [1,1,1,1,0,1,0,0,1,0,0,1,0,0]) 4 (fun k => fr33c m z sure i (k : Int)) (fun _ => lvB w ls ld zs zd :: H) i (cwQ z i) (fun _ => ([(6, .int .i64 15)], lvB w ls ld zs zd :: H)) (fr33c m z sure i i ++ [(45, .bool false)], lvB w ls ld zs zd :: H) (by omega) (fun k hk => ?_) ?_
 · have ej : addI .i64 (k : Int) (Int.ofNat 1) = ((k + 1 : Nat) : Int) := by rw [addI_eq, show Int.ofNat 1 = 1 from rfl]; exact wr_64 (by omega) (by omega)
   refine ex_all (t33c n w ls ld m zs zd z H (i : Int) (k : Int) sure) (il_no (n + 8) 0) (noBT_ok _ _) (noRT_ok _ _) ?_
   have hs : cwQ z i k = decide (z i = z k) := rfl
   repeat' first | (refine Tr.all_ite (fun hc => ?_) (fun hc => ?_) <;> (try simp (disch := omega) only [nV, mulO_eq, Int.cast_ofNat_Int, eq_self, Nat.mul_one] at hc) <;> (try (exfalso; omega))) | (refine Tr.all_req ?_ ?_; · ((try simp (disch := omega) only [nV, mulO_eq, Int.cast_ofNat_Int, eq_self, Nat.mul_one]); try omega)) | (refine Tr.all_reqP ?_ ?_; · first | exact trivial | rfl | exact ⟨rfl, rfl⟩ | exact ⟨rfl, rfl, rfl⟩ | (simp (disch := omega) only [nV, mulO_eq, Int.cast_ofNat_Int, eq_self, Nat.mul_one]; done) | ((try simp (disch := omega) only [nV, mulO_eq, Int.cast_ofNat_Int, eq_self, Nat.mul_one]); omega)) | fail
   all_goals refine Tr.all_ok ?_
   all_goals first
    | (rw [if_pos (by rw [hs]; simp_all; done)]; rfl)
    | (rw [if_neg (by rw [hs]; simp_all; done)]; exact ⟨rfl, by rw [ej]; rfl⟩)
    | fail
 · obtain ⟨x, h1, rfl⟩ := ex_all (Q := fun x => x = (.exit 4, fr33c m z sure i i ++ [(45, .bool false)], lvB w ls ld zs zd :: H)) (t33c n w ls ld m zs zd z H (i : Int) (i : Int) sure) (il_no (n + 8) 0) (noBT_ok _ _) (noRT_ok _ _) (by
    repeat' first | (refine Tr.all_ite (fun hc => ?_) (fun hc => ?_) <;> (try simp (disch := omega) only [nV, mulO_eq, Int.cast_ofNat_Int, eq_self] at hc) <;> (try (exfalso; omega))) | (refine Tr.all_req ?_ ?_; · ((try simp (disch := omega) only [nV, mulO_eq, Int.cast_ofNat_Int, eq_self]); try omega)) | (refine Tr.all_reqP ?_ ?_; · first | exact trivial | rfl | exact ⟨rfl, rfl⟩ | exact ⟨rfl, rfl, rfl⟩ | (simp (disch := omega) only [nV, mulO_eq, Int.cast_ofNat_Int, eq_self]; done) | ((try simp (disch := omega) only [nV, mulO_eq, Int.cast_ofNat_Int, eq_self]); omega)) | fail
    exact Tr.all_ok rfl)
   exact h1
theorem l33b (hm : m ≤ 1000) : exec (cxD (n + 8) 33 76) (.block 2 (.loop (part Try.f33 [1,1,1,1,0,1,0,0]))) (fr33a 8 m z sure 0) (lvB w ls ld zs zd :: H) = some (cond (exN (cwI z) m) (.ret, [(6, .int .i64 15)], lvB w ls ld zs zd :: H) (.normal, fr33a 8 m z sure (Int.ofNat m) ++ [(40, .bool false)], lvB w ls ld zs zd :: H)) := by
 refine findX (n := n + 8) (f := 33) (nt := 76) (c := part Try.f33 [1,1,1,1,0,1,0,0]) 2 (fun j => fr33a 8 m z sure (j : Int)) (fun _ => lvB w ls ld zs zd :: H) m (cwI z) (fun _ => ([(6, .int .i64 15)], lvB w ls ld zs zd :: H)) (fr33a 8 m z sure (Int.ofNat m) ++ [(40, .bool false)], lvB w ls ld zs zd :: H) (by omega) (fun j hj => ?_) ?_
 · have ej : addI .i64 (j : Int) (Int.ofNat 1) = ((j + 1 : Nat) : Int) := by rw [addI_eq, show Int.ofNat 1 = 1 from rfl]; exact wr_64 (by omega) (by omega)
   have lk := l33c n w ls ld m zs zd z H sure hm j hj
   refine ex_all (t33b n w ls ld m zs zd z H (j : Int) sure (cwI z j)) (il_no (n + 8) 0) (blkE_ok (noBT_ok _ _) b33c (fun x hx => ?_)) (noRT_ok _ _) ?_
   · refine Eq.trans lk ?_
     rcases Tr.ite_some hx with ⟨hc, hx⟩ | ⟨hc, hx⟩
     · rw [← Tr.ok_some hx, hc]; rfl
     · rw [← Tr.ok_some hx, hc]; simp only [Res.st, hints_eq]; rfl
   · repeat' first | (refine Tr.all_ite (fun hc => ?_) (fun hc => ?_) <;> (try simp (disch := omega) only [nV, mulO_eq, Int.cast_ofNat_Int, eq_self] at hc) <;> (try (exfalso; omega))) | (refine Tr.all_req ?_ ?_; · ((try simp (disch := omega) only [nV, mulO_eq, Int.cast_ofNat_Int, eq_self]); try omega)) | (refine Tr.all_reqP ?_ ?_; · first | exact trivial | rfl | exact ⟨rfl, rfl⟩ | exact ⟨rfl, rfl, rfl⟩ | (simp (disch := omega) only [nV, mulO_eq, Int.cast_ofNat_Int, eq_self]; done) | ((try simp (disch := omega) only [nV, mulO_eq, Int.cast_ofNat_Int, eq_self]); omega)) | fail
     all_goals refine Tr.all_ok ?_
     · rw [if_pos hc]; rfl
     · rw [if_neg (by rw [hc]; simp)]; exact ⟨rfl, by rw [ej]; rfl⟩
 · obtain ⟨x, h1, rfl⟩ := ex_all (Q := fun x => x = (.exit 2, fr33a 8 m z sure (Int.ofNat m) ++ [(40, .bool false)], lvB w ls ld zs zd :: H)) (t33be n w ls ld m zs zd z H (Int.ofNat m) sure) (il_no (n + 8) 0) (stopB_ok (noBT_ok _ _) 4) (noRT_ok _ _) (by
    repeat' first | (refine Tr.all_ite (fun hc => ?_) (fun hc => ?_) <;> (try simp (disch := omega) only [nV, mulO_eq, Int.cast_ofNat_Int, eq_self] at hc) <;> (try (exfalso; omega))) | (refine Tr.all_req ?_ ?_; · ((try simp (disch := omega) only [nV, mulO_eq, Int.cast_ofNat_Int, eq_self]); try omega)) | (refine Tr.all_reqP ?_ ?_; · first | exact trivial | rfl | exact ⟨rfl, rfl⟩ | exact ⟨rfl, rfl, rfl⟩ | (simp (disch := omega) only [nV, mulO_eq, Int.cast_ofNat_Int, eq_self]; done) | ((try simp (disch := omega) only [nV, mulO_eq, Int.cast_ofNat_Int, eq_self]); omega)) | fail
    exact Tr.all_ok rfl)
   exact h1
theorem l33d (h : chkB w ls ld zs zd = 0) (hm : 2 ≤ m ∧ m ≤ 1000) (hz : ∀ i, i < m → isPl ls (z i) = true) : exec (cxD (n + 8) 33 76) (.block 6 (.loop (part Try.f33 [1,1,1,1,1,0,1,0,0]))) (fr33a 10 m z sure 1) (lvB w ls ld zs zd :: H) = some (cond (exN (cwH (hlF w ld zs zd sure) z) (m - 1)) (.ret, [(6, .int .i64 17)], lvB w ls ld zs zd :: H) (.normal, fr33a 10 m z sure (Int.ofNat m) ++ [(60, .bool false)], lvB w ls ld zs zd :: H)) := by
 have := findX (n := n + 8) (f := 33) (nt := 76) (c := part Try.f33 [1,1,1,1,1,0,1,0,0]) 6 (fun j => fr33a 10 m z sure ((j : Int) + 1)) (fun _ => lvB w ls ld zs zd :: H) (m - 1) (cwH (hlF w ld zs zd sure) z) (fun _ => ([(6, .int .i64 17)], lvB w ls ld zs zd :: H)) (fr33a 10 m z sure (Int.ofNat m) ++ [(60, .bool false)], lvB w ls ld zs zd :: H) (by omega) (fun j hj => ?_) ?_
 · exact this
 · have ej : addI .i64 ((j : Int) + 1) (Int.ofNat 1) = ((j + 1 : Nat) : Int) + 1 := by rw [addI_eq, show Int.ofNat 1 = 1 from rfl]; exact wr_64 (by omega) (by omega)
   have es : subI .i64 ((j : Int) + 1) (Int.ofNat 1) = (j : Int) := by rw [subI_eq, show Int.ofNat 1 = 1 from rfl, wr_64 (by omega) (by omega)]; omega
   have et : ((j : Int) + 1).toNat = j + 1 := by omega
   have h1 := hz j (by omega)
   have h2 := hz (j + 1) (by omega)
   refine ex_all (t33d n w ls ld m zs zd z H ((j : Int) + 1) sure (fun p q => isPl ls p = true ∧ isPl ls q = true) (hlF w ld zs zd sure)) (il82w n w ls ld zs zd sure h) (noBT_ok _ _) (noRT_ok _ _) ?_
   have hs : cwH (hlF w ld zs zd sure) z j = !hlF w ld zs zd sure (z j) (z (j + 1)) := rfl
   rw [es]
   repeat' first | (refine Tr.all_ite (fun hc => ?_) (fun hc => ?_) <;> (try simp (disch := omega) only [nV, mulO_eq, Int.cast_ofNat_Int, eq_self, Nat.mul_one, et, h1, h2, and_true, and_self] at hc) <;> (try (exfalso; omega))) | (refine Tr.all_req ?_ ?_; · ((try simp (disch := omega) only [nV, mulO_eq, Int.cast_ofNat_Int, eq_self, Nat.mul_one, et, h1, h2, and_true, and_self]); try omega)) | (refine Tr.all_reqP ?_ ?_; · first | exact trivial | rfl | exact ⟨rfl, rfl⟩ | exact ⟨rfl, rfl, rfl⟩ | (simp (disch := omega) only [nV, mulO_eq, Int.cast_ofNat_Int, eq_self, Nat.mul_one, et, h1, h2, and_true, and_self]; done) | ((try simp (disch := omega) only [nV, mulO_eq, Int.cast_ofNat_Int, eq_self, Nat.mul_one, et, h1, h2, and_true, and_self]); omega)) | fail
   all_goals refine Tr.all_ok ?_
   all_goals first
    | (rw [if_pos (by rw [hs]; simp_all; done)]; rfl)
    | (rw [if_neg (by rw [hs]; simp_all; done)]; exact ⟨rfl, by rw [ej]; rfl⟩)
    | fail
 · have e : ((m - 1 : Nat) : Int) + 1 = Int.ofNat m := by rw [ofNat_cast]; omega
   rw [e]
   obtain ⟨x, h1, rfl⟩ := ex_all (Q := fun x => x = (.exit 6, fr33a 10 m z sure (Int.ofNat m) ++ [(60, .bool false)], lvB w ls ld zs zd :: H)) (t33d n w ls ld m zs zd z H (Int.ofNat m) sure (fun p q => isPl ls p = true ∧ isPl ls q = true) (hlF w ld zs zd sure)) (il82w n w ls ld zs zd sure h) (noBT_ok _ _) (noRT_ok _ _) (by
    repeat' first | (refine Tr.all_ite (fun hc => ?_) (fun hc => ?_) <;> (try simp (disch := omega) only [nV, mulO_eq, Int.cast_ofNat_Int, eq_self] at hc) <;> (try (exfalso; omega))) | (refine Tr.all_req ?_ ?_; · ((try simp (disch := omega) only [nV, mulO_eq, Int.cast_ofNat_Int, eq_self]); try omega)) | (refine Tr.all_reqP ?_ ?_; · first | exact trivial | rfl | exact ⟨rfl, rfl⟩ | exact ⟨rfl, rfl, rfl⟩ | (simp (disch := omega) only [nV, mulO_eq, Int.cast_ofNat_Int, eq_self]; done) | ((try simp (disch := omega) only [nV, mulO_eq, Int.cast_ofNat_Int, eq_self]); omega)) | fail
    exact Tr.all_ok rfl)
   exact h1
theorem c33 : cd (n + 9) (.fn 33) [bathA w ls zs ld zd, sl1 m z false, .bool sure] H = some (.int .i64 (cwE w ls ld zs zd (hlF w ld zs zd sure) m z), H) := by
 have ct : ∀ k, (ctG noCt 20 (g20 (bathA w ls zs ld zd) (chkB w ls ld zs zd))).Ok (cd (n + 8 + k)) := fun k => by
  have := ct20 (n + 6) w ls ld zs zd k _ (noCt_ok (cd (n + 6 + 2 + k)))
  rwa [show n + 6 + 2 + k = n + 8 + k by omega] at this
 by_cases hx : chkB w ls ld zs zd ≠ 0 ∨ (m < 2 ∨ 12 < m)
 · refine fn_all (n := n + 8) Try.func33 rfl rfl rfl (u33x n w ls ld m zs zd z H (chkB w ls ld zs zd) sure) (il_ok _ (n + 8) 0 ct) (stopB_ok (noBT_ok _ _) 0) (noRT_ok _ _) ?_
   unfold cwE
   repeat' first | (refine Tr.all_ite (fun hc => ?_) (fun hc => ?_) <;> (try simp (disch := omega) only [nV, mulO_eq, Int.cast_ofNat_Int, eq_self] at hc) <;> (try (exfalso; omega))) | (refine Tr.all_req ?_ ?_; · ((try simp (disch := omega) only [nV, mulO_eq, Int.cast_ofNat_Int, eq_self]); try omega)) | (refine Tr.all_reqP ?_ ?_; · first | exact trivial | rfl | exact ⟨rfl, rfl⟩ | exact ⟨rfl, rfl, rfl⟩ | (simp (disch := omega) only [nV, mulO_eq, Int.cast_ofNat_Int, eq_self]; done) | ((try simp (disch := omega) only [nV, mulO_eq, Int.cast_ofNat_Int, eq_self]); omega)) | fail
   all_goals refine Tr.all_ok ⟨?_, rfl⟩
   all_goals (split <;> first | rfl | (exfalso; omega) | (split <;> first | rfl | (exfalso; omega)))
 · have h : chkB w ls ld zs zd = 0 := by omega
   have hm : 2 ≤ m ∧ m ≤ 12 := by omega
   have la := l33a n w ls ld m zs zd z H sure (by omega)
   unfold cwE
   rw [if_neg (fun x => x h), if_neg (by omega)]
   cases hq : exN (cwN ls z) m with
   | true =>
     rw [hq] at la
     refine fn_all (n := n + 8) Try.func33 rfl rfl rfl (u33a n w ls ld m zs zd z H (chkB w ls ld zs zd) sure) (il_ok _ (n + 8) 0 ct) (blkE_ok (noBT_ok _ _) b33a (fun x hx => by rw [← Tr.ok_some hx]; exact la)) (noRT_ok _ _) ?_
     rw [h, if_pos rfl]
     repeat' first | (refine Tr.all_ite (fun hc => ?_) (fun hc => ?_) <;> (try simp (disch := omega) only [nV, mulO_eq, Int.cast_ofNat_Int, eq_self] at hc) <;> (try (exfalso; omega))) | (refine Tr.all_req ?_ ?_; · ((try simp (disch := omega) only [nV, mulO_eq, Int.cast_ofNat_Int, eq_self]); try omega)) | (refine Tr.all_reqP ?_ ?_; · first | exact trivial | rfl | exact ⟨rfl, rfl⟩ | exact ⟨rfl, rfl, rfl⟩ | (simp (disch := omega) only [nV, mulO_eq, Int.cast_ofNat_Int, eq_self]; done) | ((try simp (disch := omega) only [nV, mulO_eq, Int.cast_ofNat_Int, eq_self]); omega)) | fail
     exact Tr.all_ok ⟨rfl, rfl⟩
   | false =>
     rw [hq] at la
     have hz : ∀ i, i < m → isPl ls (z i) = true := fun i hi => by
      cases hp : isPl ls (z i) with
      | true => rfl
      | false =>
        have := (exN_iff (cwN ls z) m).2 ⟨i, hi, by unfold cwN; rw [hp]; rfl⟩
        rw [this] at hq; cases hq
     have lb := l33b n w ls ld m zs zd z H sure (by omega)
     have ld' := l33d n w ls ld m zs zd z H sure h ⟨by omega, by omega⟩ hz
     refine fn_all (n := n + 8) Try.func33 rfl rfl rfl (u33b n w ls ld m zs zd z H (chkB w ls ld zs zd) sure (exN (cwI z) m) (exN (cwH (hlF w ld zs zd sure) z) (m - 1))) (il_ok _ (n + 8) 0 ct) (blkE_ok (blkE_ok (blkE_ok (noBT_ok _ _) b33d (fun x hx => ?_)) b33b (fun x hx => ?_)) b33a (fun x hx => ?_)) (noRT_ok _ _) ?_
     · refine Eq.trans ld' ?_
       rcases Tr.ite_some hx with ⟨hc, hx⟩ | ⟨hc, hx⟩
       · rw [← Tr.ok_some hx, hc]; rfl
       · rw [← Tr.ok_some hx, hc]; simp only [Res.st, hints_eq]; rfl
     · refine Eq.trans lb ?_
       rcases Tr.ite_some hx with ⟨hc, hx⟩ | ⟨hc, hx⟩
       · rw [← Tr.ok_some hx, hc]; rfl
       · rw [← Tr.ok_some hx, hc]; simp only [Res.st, hints_eq]; rfl
     · rw [← Tr.ok_some hx]; simp only [Res.st, hints_eq]; exact la
     · rw [h, if_neg (by simp)]
       repeat' first | (refine Tr.all_ite (fun hc => ?_) (fun hc => ?_) <;> (try simp (disch := omega) only [nV, mulO_eq, Int.cast_ofNat_Int, eq_self] at hc) <;> (try (exfalso; omega))) | (refine Tr.all_req ?_ ?_; · ((try simp (disch := omega) only [nV, mulO_eq, Int.cast_ofNat_Int, eq_self]); try omega)) | (refine Tr.all_reqP ?_ ?_; · first | exact trivial | rfl | exact ⟨rfl, rfl⟩ | exact ⟨rfl, rfl, rfl⟩ | (simp (disch := omega) only [nV, mulO_eq, Int.cast_ofNat_Int, eq_self]; done) | ((try simp (disch := omega) only [nV, mulO_eq, Int.cast_ofNat_Int, eq_self]); omega)) | fail
       all_goals refine Tr.all_ok ⟨?_, rfl⟩
       all_goals first
        | (simp_all; done)
        | (simp_all; rfl)
        | fail
end
end Go.Eng
end
section
namespace Go.Eng
open Go.Proofs
set_option linter.unusedVariables false
set_option linter.unusedSimpArgs false
set_option maxRecDepth 100000
def g80 (T : AV) (P Q : Int) (sure : Bool) (A : AV) : List AV → Option (Prop × AV)
 | [t, .int .i64 p, .int .i64 q, .bool s] => some (t = T ∧ p = P ∧ q = Q ∧ s = sure, A)
 | _ => none
theorem u29x (n : Nat) (w : Int) (ls ld : Nat) (zs zd : Nat → Int) (H : Heap) (p q e : Int) (sure : Bool) : bodyT Try.prog (cd (n+15)) 100000 29 Try.f29 (Kt.kt 29) (il (ctG (ctG noCt 68 (g68 (bathA w ls zs ld zd) p q .nilp e)) 80 (fun _ => none)) (n+15) 0) noBT noRT [(bathA w ls zs ld zd, none), (.int .i64 p, none), (.int .i64 q, none), (.bool sure, none)] H =
 Tr.reqP (bathA w ls zs ld zd = bathA w ls zs ld zd ∧ p = p ∧ q = q) (Tr.ite (notB (eqI e (Int.ofNat 0))) (Tr.ok ((AV.tup [AV.nils, AV.int .i64 e], none), H)) Tr.bad) := by kernel_rfl
theorem u29n (n : Nat) (w : Int) (ls ld : Nat) (zs zd sz kd : Nat → Int) (H : Heap) (p q : Int) (sure : Bool) : bodyT Try.prog (cd (n+15)) 100000 29 Try.f29 (Kt.kt 29) (il (ctG (ctG noCt 68 (g68 (bathA w ls zs ld zd) p q (tabV w ls ld zs zd sz kd) 0)) 80 (g80 (tabV w ls ld zs zd sz kd) p q sure .nils)) (n+15) 0) noBT noRT [(bathA w ls zs ld zd, none), (.int .i64 p, none), (.int .i64 q, none), (.bool sure, none)] H =
 (fun (Z0 : Row) => Tr.reqP (bathA w ls zs ld zd = bathA w ls zs ld zd ∧ p = p ∧ q = q) (Tr.ite (notB (eqI (Int.ofNat 0) (Int.ofNat 0))) (Tr.ok ((AV.tup [AV.nils, AV.int .i64 (Int.ofNat 0)], none), H)) (Tr.reqP (AV.ptrT (some 0) Z0 0 = AV.ptrT (some 0) Z0 0 ∧ p = p ∧ q = q ∧ sure = sure) (Tr.ok ((AV.tup [AV.nils, AV.int .i64 (Int.ofNat 5)], none), H))))) (Row.M [Seg.one (AV.int .i64 w), Seg.one (slA 2 ls zs), Seg.one (slA 3 ld zd), Seg.one (AV.slcT none (Row.M [Seg.arr .i64 sz (mulO ls 2)]) 2 ls true), Seg.arr .i64 kd 144]) := by kernel_rfl
theorem u29y (n : Nat) (w : Int) (ls ld m : Nat) (zs zd sz kd z : Nat → Int) (H : Heap) (p q : Int) (sure : Bool) : bodyT Try.prog (cd (n+15)) 100000 29 Try.f29 (Kt.kt 29) (il (ctG (ctG noCt 68 (g68 (bathA w ls zs ld zd) p q (tabV w ls ld zs zd sz kd) 0)) 80 (g80 (tabV w ls ld zs zd sz kd) p q sure (sl1 m z false))) (n+15) 0) noBT noRT [(bathA w ls zs ld zd, none), (.int .i64 p, none), (.int .i64 q, none), (.bool sure, none)] H =
 (fun (Z0 : Row) => Tr.reqP (bathA w ls zs ld zd = bathA w ls zs ld zd ∧ p = p ∧ q = q) (Tr.ite (notB (eqI (Int.ofNat 0) (Int.ofNat 0))) (Tr.ok ((AV.tup [AV.nils, AV.int .i64 (Int.ofNat 0)], none), H)) (Tr.reqP (AV.ptrT (some 0) Z0 0 = AV.ptrT (some 0) Z0 0 ∧ p = p ∧ q = q ∧ sure = sure) (Tr.ite (eqI (Int.ofNat m) (Int.ofNat 0)) (Tr.ok ((AV.tup [AV.nils, AV.int .i64 (Int.ofNat 5)], none), H)) (Tr.req (mkO (Int.ofNat m) (Int.ofNat m) 8) (Tr.req (leN (minN m (toN (Int.ofNat m))) m) (Tr.req (leN (addO 0 (minN m (toN (Int.ofNat m)))) m) (Tr.req (inO 0 (minN m (toN (Int.ofNat m))) 0 (toN (Int.ofNat m))) (Tr.req (eqN 0 0) (Tr.req (inO 0 (toN (Int.ofNat m)) 0 (toN (Int.ofNat m))) (Tr.ok ((AV.tup [AV.slcT none (Row.M [Seg.arr .i64 (shO (copO (fun x => Int.ofNat 0) 0 z (minN m (toN (Int.ofNat m)))) 0) (toN (Int.ofNat m))]) 1 (toN (Int.ofNat m)) (eqN (toN (Int.ofNat m)) (toN (Int.ofNat m))), AV.int .i64 (Int.ofNat 0)], none), H)))))))))))) (Row.M [Seg.one (AV.int .i64 w), Seg.one (slA 2 ls zs), Seg.one (slA 3 ld zd), Seg.one (AV.slcT none (Row.M [Seg.arr .i64 sz (mulO ls 2)]) 2 ls true), Seg.arr .i64 kd 144]) := by kernel_rfl
section
variable (n : Nat) (w : Int) (ls ld : Nat) (zs zd : Nat → Int) (H : Heap) (p q : Int) (sure : Bool)
theorem ct80 (k : Nat) (t e A : AV) (ht : t = plT w ls ld zs zd p q) (e' : Int) (he : e' = plE w ls ld zs zd p q) (T : AV) (h : ∀ k H, cd (n + 15 + k) (.fn 80) [T, .int .i64 p, .int .i64 q, .bool sure] H = some (A, H)) : (ctG (ctG noCt 68 (g68 (bathA w ls zs ld zd) p q t e')) 80 (g80 T p q sure A)).Ok (cd (n + 15 + k)) := by
 have := ct68s (n + 1) w ls ld zs zd p q k t e' ht he
 rw [show n + 1 + 14 + k = n + 15 + k by omega] at this
 refine ctG_ok this (fun args x v hg hp H => ?_)
 unfold g80 at hg
 split at hg
 · simp only [Option.some.injEq, Prod.mk.injEq] at hg
   obtain ⟨rfl, rfl⟩ := hg
   obtain ⟨rfl, rfl, rfl, rfl⟩ := hp
   exact h _ H
 · cases hg
theorem c29x (he : plE w ls ld zs zd p q ≠ 0) : cd (n + 16) (.fn 29) [bathA w ls zs ld zd, .int .i64 p, .int .i64 q, .bool sure] H = some (.tup [.nils, .int .i64 (plE w ls ld zs zd p q)], H) := by
 refine fn_all (n := n + 15) Try.func29 rfl rfl rfl (u29x n w ls ld zs zd H p q (plE w ls ld zs zd p q) sure) (il_ok _ (n + 15) 0 (fun k => ?_)) (noBT_ok _ _) (noRT_ok _ _) ?_
 · have := ct68s (n + 1) w ls ld zs zd p q k .nilp (plE w ls ld zs zd p q) (by unfold plT; rw [if_pos he]) rfl
   rw [show n + 1 + 14 + k = n + 15 + k by omega] at this
   exact ctG_ok this (fun args x v hg hp H => by cases hg)
 · repeat' first | (refine Tr.all_ite (fun hc => ?_) (fun hc => ?_) <;> (try simp (disch := omega) only [nV, mulO_eq, Int.cast_ofNat_Int, eq_self] at hc) <;> (try (exfalso; omega))) | (refine Tr.all_req ?_ ?_; · ((try simp (disch := omega) only [nV, mulO_eq, Int.cast_ofNat_Int, eq_self]); try omega)) | (refine Tr.all_reqP ?_ ?_; · first | exact trivial | rfl | exact ⟨rfl, rfl⟩ | exact ⟨rfl, rfl, rfl⟩ | (simp (disch := omega) only [nV, mulO_eq, Int.cast_ofNat_Int, eq_self]; done) | ((try simp (disch := omega) only [nV, mulO_eq, Int.cast_ofNat_Int, eq_self]); omega)) | fail
   exact Tr.all_ok ⟨rfl, rfl⟩
theorem c29n (he : plE w ls ld zs zd p q = 0) (h : ∀ k H, cd (n + 15 + k) (.fn 80) [tabV w ls ld zs zd (szs zd ld) (kdT w ls ld zs zd), .int .i64 p, .int .i64 q, .bool sure] H = some (.nils, H)) : cd (n + 16) (.fn 29) [bathA w ls zs ld zd, .int .i64 p, .int .i64 q, .bool sure] H = some (.tup [.nils, .int .i64 5], H) := by
 refine fn_all (n := n + 15) Try.func29 rfl rfl rfl (u29n n w ls ld zs zd (szs zd ld) (kdT w ls ld zs zd) H p q sure) (il_ok _ (n + 15) 0 (fun k => ct80 n w ls ld zs zd p q sure k _ .nilp _ (plT_ok w ls ld zs zd p q he) _ he.symm _ h)) (noBT_ok _ _) (noRT_ok _ _) ?_
 repeat' first | (refine Tr.all_ite (fun hc => ?_) (fun hc => ?_) <;> (try simp (disch := omega) only [nV, mulO_eq, Int.cast_ofNat_Int, eq_self, and_self, and_true, true_and] at hc) <;> (try (exfalso; omega))) | (refine Tr.all_req ?_ ?_; · ((try simp (disch := omega) only [nV, mulO_eq, Int.cast_ofNat_Int, eq_self, and_self, and_true, true_and]); try omega)) | (refine Tr.all_reqP ?_ ?_; · first | exact trivial | rfl | exact ⟨rfl, rfl⟩ | exact ⟨rfl, rfl, rfl⟩ | (simp (disch := omega) only [nV, mulO_eq, Int.cast_ofNat_Int, eq_self, and_self, and_true, true_and]; done) | ((try simp (disch := omega) only [nV, mulO_eq, Int.cast_ofNat_Int, eq_self, and_self, and_true, true_and]); omega)) | fail
 exact Tr.all_ok ⟨rfl, rfl⟩
theorem c29z (he : plE w ls ld zs zd p q = 0) (m : Nat) (hm : 1 ≤ m ∧ m ≤ 1000) (z : Nat → Int) (h : ∀ k H, cd (k + 15) (.fn 80) [tabV w ls ld zs zd (szs zd ld) (kdT w ls ld zs zd), .int .i64 p, .int .i64 q, .bool sure] H = some (sl1 m z false, H)) : ∃ y, (∀ j, j < m → y j = z j) ∧ ∀ n H, cd (n + 16) (.fn 29) [bathA w ls zs ld zd, .int .i64 p, .int .i64 q, .bool sure] H = some (.tup [sl1 m y true, .int .i64 0], H) := by
 have et : toN (Int.ofNat m) = m := by rw [toN_eq]; rfl
 have em : minN m m = m := by rw [minN_eq]; omega
 have en : eqN m m = true := by rw [eqN_eq]; simp
 refine ⟨copO (fun x => Int.ofNat 0) 0 z m, fun j hj => ?_, fun n H => ?_⟩
 · rw [copO_eq]; unfold copZ; simp; omega
 · refine fn_all (n := n + 15) Try.func29 rfl rfl rfl (u29y n w ls ld m zs zd (szs zd ld) (kdT w ls ld zs zd) z H p q sure) (il_ok _ (n + 15) 0 (fun k => ct80 n w ls ld zs zd p q sure k _ .nilp _ (plT_ok w ls ld zs zd p q he) _ he.symm _ (fun k' H => by rw [show n + 15 + k' = n + k' + 15 by omega]; exact h _ H))) (noBT_ok _ _) (noRT_ok _ _) ?_
   rw [et, em, en, shO_zero]
   repeat' first | (refine Tr.all_ite (fun hc => ?_) (fun hc => ?_) <;> (try simp (disch := omega) only [nV, mulO_eq, Int.cast_ofNat_Int, eq_self, and_self, and_true, true_and] at hc) <;> (try (exfalso; omega))) | (refine Tr.all_req ?_ ?_; · ((try simp (disch := omega) only [nV, mulO_eq, Int.cast_ofNat_Int, eq_self, and_self, and_true, true_and]); try omega)) | (refine Tr.all_reqP ?_ ?_; · first | exact trivial | rfl | exact ⟨rfl, rfl⟩ | exact ⟨rfl, rfl, rfl⟩ | (simp (disch := omega) only [nV, mulO_eq, Int.cast_ofNat_Int, eq_self, and_self, and_true, true_and]; done) | ((try simp (disch := omega) only [nV, mulO_eq, Int.cast_ofNat_Int, eq_self, and_self, and_true, true_and]); omega)) | fail
   exact Tr.all_ok ⟨rfl, rfl⟩
end
end Go.Eng
end
