/- Drop: CheckWay of the program. -/
import Derived.Test.YtjmjkhpfipglcaaV6Wax2
import Derived.Test.YtjmjkhpfipglcaaV6Hex3
namespace Go.Eng
open Go.Proofs
set_option linter.unusedVariables false
set_option linter.unusedSimpArgs false
set_option maxRecDepth 100000
noncomputable def lv32 (w : Int) (ls ld : Nat) (zs zd sz kd : Nat → Int) : Lvl := ⟨false, [(0, .row (.G [.int .i64 w, slA 2 ls zs, slA 3 ld zd])), (0, .row (.G [tabR 0 w ls ld zs zd sz kd]))]⟩
noncomputable def fr106 (m : Nat) (z : Nat → Int) (j : Int) : Frm := [(0, sl1 m z false), (1, .fn (.func 84) [] [.ptr 2 1 0 0]), (7, .int .i64 (Int.ofNat m)), (8, .int .i64 j)]
noncomputable def fr32a (m : Nat) (z : Nat → Int) (sure : Bool) (j : Int) : Frm := [(1, sl1 m z false), (2, .bool sure), (7, .ptr 0 1 0 0), (35, sl1 m z false), (36, .int .i64 (Int.ofNat m)), (37, .int .i64 j)]
noncomputable def fr32b (m K : Nat) (z y : Nat → Int) (sure : Bool) (j : Int) : Frm := [(1, sl1 m z false), (2, .bool sure), (7, .ptr 0 1 0 0), (49, sl1 K y false), (50, .int .i64 (Int.ofNat K)), (51, .int .i64 j)]
theorem t106 (n : Nat) (w : Int) (ls ld m : Nat) (zs zd sz kd z : Nat → Int) (H : Heap) (j : Int) : execT (cxD (n+3) 106 19) (il noCt (n+1) 2) noBT noRT (part Try.f106 [1,0,1,0,0]) (hints (fr106 m z j)) (lv0 :: lv0 :: lv32 w ls ld zs zd sz kd :: H) =
 (fun (Z0 : Lvl) => Tr.ite (ltI j (Int.ofNat m)) (Tr.req (inI j m) (Tr.req (ltN (idO 0 j 1) m) (Tr.ite (leI (Int.negSucc 1) (z (idO 0 j 1))) (Tr.ite (notB (ltI (z (idO 0 j 1)) (Int.ofNat ls))) (Tr.ok (Ex.ret, [(4, AV.int .i64 j, none)], lv0 :: lv0 :: Z0 :: H)) (Tr.ok (Ex.normal, [(0, sl1 m z false, none), (1, AV.fn (Fn.func 84) [] [AV.ptr 2 1 0 0], none), (7, AV.int .i64 (Int.ofNat m), none), (8, AV.int .i64 (addI .i64 j (Int.ofNat 1)), none)], lv0 :: lv0 :: Z0 :: H))) (Tr.ok (Ex.ret, [(4, AV.int .i64 j, none)], lv0 :: lv0 :: Z0 :: H))))) (Tr.ok (Ex.exit 0, [(0, sl1 m z false, none), (1, AV.fn (Fn.func 84) [] [AV.ptr 2 1 0 0], none), (7, AV.int .i64 (Int.ofNat m), none), (8, AV.int .i64 j, none), (9, AV.bool false, some 1)], lv0 :: lv0 :: Z0 :: H))) { lock := false, bs := [(0, Blk.row (Row.G [AV.int .i64 w, slA 2 ls zs, slA 3 ld zd])), (0, Blk.row (Row.G [tabR 0 w ls ld zs zd sz kd]))] } := by kernel_rfl
theorem u106 (n : Nat) (w : Int) (ls ld m : Nat) (zs zd sz kd z : Nat → Int) (H : Heap) (q : Bool) (i : Int) : bodyT Try.prog (cd (n+3)) 100000 106 Try.f106 (Kt.kt 106) (il noCt (n+1) 2) (blkE noBT 0 (fr106 m z 0) (lv0 :: lv0 :: lv32 w ls ld zs zd sz kd :: H) (.ite q (.ok (.ret, [(4, .int .i64 i, none)], lv0 :: lv0 :: lv32 w ls ld zs zd sz kd :: H)) (.ok (.normal, hints (fr106 m z (Int.ofNat m) ++ [(9, .bool false)]), lv0 :: lv0 :: lv32 w ls ld zs zd sz kd :: H)))) noRT [(sl1 m z false, none), (.fn (.func 84) [] [.ptr 1 1 0 0], none)] (lv0 :: lv32 w ls ld zs zd sz kd :: H) =
 (fun (Z0 : Lvl) => ((fun (Z1 : Frm) => Tr.reqP (Z1 = Z1 ∧ lv0 :: lv0 :: Z0 :: H = lv0 :: lv0 :: Z0 :: H) (Tr.ite q (Tr.ok ((AV.int .i64 i, none), lv0 :: Z0 :: H)) (Tr.ok ((AV.int .i64 (Int.negSucc 0), some 1), lv0 :: Z0 :: H)))) [(0, sl1 m z false), (1, AV.fn (Fn.func 84) [] [AV.ptr 2 1 0 0]), (7, AV.int .i64 (Int.ofNat m)), (8, AV.int .i64 (Int.ofNat 0))])) { lock := false, bs := [(0, Blk.row (Row.G [AV.int .i64 w, slA 2 ls zs, slA 3 ld zd])), (0, Blk.row (Row.G [tabR 0 w ls ld zs zd sz kd]))] } := by kernel_rfl
theorem u83 (n : Nat) (w : Int) (ls ld m : Nat) (zs zd sz kd z : Nat → Int) (H : Heap) (i : Int) : bodyT Try.prog (cd (n+4)) 100000 83 Try.f83 (Kt.kt 83) (il (ctE noCt 106 [sl1 m z false, .fn (.func 84) [] [.ptr 1 1 0 0]] (lv0 :: lv32 w ls ld zs zd sz kd :: H) (.ok (.int .i64 i, lv0 :: lv32 w ls ld zs zd sz kd :: H))) (n+4) 0) noBT noRT [(sl1 m z false, none), (.fn (.func 84) [] [.ptr 0 1 0 0], none)] (lv32 w ls ld zs zd sz kd :: H) =
 (fun (Z0 : Lvl) => Tr.reqP ([sl1 m z false, AV.fn (Fn.func 84) [] [AV.ptr 1 1 0 0]] = [sl1 m z false, AV.fn (Fn.func 84) [] [AV.ptr 1 1 0 0]] ∧ lv0 :: Z0 :: H = lv0 :: Z0 :: H) (Tr.ok ((AV.bool (leI (Int.ofNat 0) i), none), Z0 :: H))) { lock := false, bs := [(0, Blk.row (Row.G [AV.int .i64 w, slA 2 ls zs, slA 3 ld zd])), (0, Blk.row (Row.G [tabR 0 w ls ld zs zd sz kd]))] } := by kernel_rfl
theorem t32a (n : Nat) (w : Int) (ls ld m : Nat) (zs zd sz kd z : Nat → Int) (H : Heap) (j : Int) (sure : Bool) (f : (Nat → Int) → Nat → Int → Bool) : execT (cxD (n+15) 32 66) (il (ctG noCt 85 (gIn f)) (n+15) 0) noBT noRT (part Try.f32 [1,1,1,0,1,0,0]) (hints (fr32a m z sure j)) (lv32 w ls ld zs zd sz kd :: H) =
 (fun (Z0 : Lvl) => Tr.ite (ltI j (Int.ofNat m)) (Tr.req (inI j m) (Tr.req (ltN (idO 0 j 1) m) (Tr.req (bndI j m) (Tr.req (leN (addO 0 (toN j)) m) (Tr.reqP (toN j = toN j ∧ leN (toN j) 1000 = true) (Tr.ite (f z (toN j) (z (idO 0 j 1))) (Tr.ok (Ex.ret, [(6, AV.int .i64 (Int.ofNat 15), some 1)], Z0 :: H)) (Tr.ok (Ex.normal, [(1, sl1 m z false, none), (2, AV.bool sure, none), (7, AV.ptr 0 1 0 0, none), (35, sl1 m z false, none), (36, AV.int .i64 (Int.ofNat m), none), (37, AV.int .i64 (addI .i64 j (Int.ofNat 1)), none)], Z0 :: H)))))))) (Tr.ok (Ex.exit 1, [(1, sl1 m z false, none), (2, AV.bool sure, none), (7, AV.ptr 0 1 0 0, none), (35, sl1 m z false, none), (36, AV.int .i64 (Int.ofNat m), none), (37, AV.int .i64 j, none), (38, AV.bool false, some 1)], Z0 :: H))) { lock := false, bs := [(0, Blk.row (Row.G [AV.int .i64 w, slA 2 ls zs, slA 3 ld zd])), (0, Blk.row (Row.G [tabR 0 w ls ld zs zd sz kd]))] } := by kernel_rfl
theorem t32b (n : Nat) (w : Int) (ls ld m K : Nat) (zs zd sz kd z y : Nat → Int) (H : Heap) (j : Int) (sure : Bool) : execT (cxD (n+15) 32 66) (il noCt (n+13) 2) noBT noRT (part Try.f32 [1,1,1,1,0,1,0,0]) (hints (fr32b m K z y sure j)) (lv32 w ls ld zs zd sz kd :: H) =
 (fun (Z0 : Lvl) => ((fun (Z1 : HFrm) => Tr.ite (ltI j (Int.ofNat K)) (Tr.req (inI j K) (Tr.req (ltN (idO 0 j 1) K) (Tr.req (inI j m) (Tr.req (ltN (idO 0 j 1) m) (Tr.ite sure (Tr.req (inI (addI .i64 (z (idO 0 j 1)) (Int.ofNat 2)) 12) (Tr.req (inI (addI .i64 (y (idO 0 j 1)) (Int.ofNat 2)) 12) (Tr.req (inO (idO (idO 4 (addI .i64 (z (idO 0 j 1)) (Int.ofNat 2)) 12) (addI .i64 (y (idO 0 j 1)) (Int.ofNat 2)) 1) 1 4 144) (Tr.ite (notB (leI (Int.ofNat 2) (kd (subO (idO (idO 4 (addI .i64 (z (idO 0 j 1)) (Int.ofNat 2)) 12) (addI .i64 (y (idO 0 j 1)) (Int.ofNat 2)) 1) 4)))) (Tr.ok (Ex.ret, [(6, AV.int .i64 (Int.ofNat 17), some 1)], Z0 :: H)) (Tr.ok (Ex.normal, Z1, Z0 :: H)))))) (Tr.req (inI (addI .i64 (z (idO 0 j 1)) (Int.ofNat 2)) 12) (Tr.req (inI (addI .i64 (y (idO 0 j 1)) (Int.ofNat 2)) 12) (Tr.req (inO (idO (idO 4 (addI .i64 (z (idO 0 j 1)) (Int.ofNat 2)) 12) (addI .i64 (y (idO 0 j 1)) (Int.ofNat 2)) 1) 1 4 144) (Tr.ite (notB (leI (Int.ofNat 1) (kd (subO (idO (idO 4 (addI .i64 (z (idO 0 j 1)) (Int.ofNat 2)) 12) (addI .i64 (y (idO 0 j 1)) (Int.ofNat 2)) 1) 4)))) (Tr.ok (Ex.ret, [(6, AV.int .i64 (Int.ofNat 17), some 1)], Z0 :: H)) (Tr.ok (Ex.normal, Z1, Z0 :: H))))))))))) (Tr.ok (Ex.exit 3, [(1, sl1 m z false, none), (2, AV.bool sure, none), (7, AV.ptr 0 1 0 0, none), (49, AV.slcT none (Row.M [Seg.arr .i64 y K]) 1 K false, none), (50, AV.int .i64 (Int.ofNat K), none), (51, AV.int .i64 j, none), (52, AV.bool false, some 1)], Z0 :: H))) [(1, sl1 m z false, none), (2, AV.bool sure, none), (7, AV.ptr 0 1 0 0, none), (49, AV.slcT none (Row.M [Seg.arr .i64 y K]) 1 K false, none), (50, AV.int .i64 (Int.ofNat K), none), (51, AV.int .i64 (addI .i64 j (Int.ofNat 1)), none)])) { lock := false, bs := [(0, Blk.row (Row.G [AV.int .i64 w, slA 2 ls zs, slA 3 ld zd])), (0, Blk.row (Row.G [tabR 0 w ls ld zs zd sz kd]))] } := by kernel_rfl
theorem u32x (n : Nat) (w : Int) (ls ld m : Nat) (zs zd z : Nat → Int) (H : Heap) (e : Int) (sure : Bool) : bodyT Try.prog (cd (n+15)) 100000 32 Try.f32 (Kt.kt 32) (il (ctG (ctG noCt 58 (g58 (bathA w ls zs ld zd) .nilp e)) 83 (fun _ => none)) (n+14) 1) (stopB noBT 1) noRT [(bathA w ls zs ld zd, none), (sl1 m z false, none), (.bool sure, none)] H =
 Tr.reqP (bathA w ls zs ld zd = bathA w ls zs ld zd) (Tr.ite (notB (eqI e (Int.ofNat 0))) (Tr.ok ((AV.int .i64 e, none), H)) (Tr.ite (ltI (Int.ofNat m) (Int.ofNat 2)) (Tr.ok ((AV.int .i64 (Int.ofNat 6), some 1), H)) (Tr.ite (ltI (Int.ofNat 12) (Int.ofNat m)) (Tr.ok ((AV.int .i64 (Int.ofNat 6), some 1), H)) Tr.bad))) := by kernel_rfl
theorem u32s (n : Nat) (w : Int) (ls ld m : Nat) (zs zd sz kd z : Nat → Int) (H : Heap) (sure b : Bool) : bodyT Try.prog (cd (n+15)) 100000 32 Try.f32 (Kt.kt 32) (il (ctE (ctG noCt 58 (g58 (bathA w ls zs ld zd) (tabV w ls ld zs zd sz kd) 0)) 83 [sl1 m z false, .fn (.func 84) [] [.ptr 0 1 0 0]] (lv32 w ls ld zs zd sz kd :: H) (.ok (.bool b, lv32 w ls ld zs zd sz kd :: H))) (n+14) 1) (stopB noBT 1) noRT [(bathA w ls zs ld zd, none), (sl1 m z false, none), (.bool sure, none)] H =
 (fun (Z0 : Lvl) => Tr.reqP (bathA w ls zs ld zd = bathA w ls zs ld zd) (Tr.ite (notB (eqI (Int.ofNat 0) (Int.ofNat 0))) (Tr.ok ((AV.int .i64 (Int.ofNat 0), none), H)) (Tr.ite (ltI (Int.ofNat m) (Int.ofNat 2)) (Tr.ok ((AV.int .i64 (Int.ofNat 6), some 1), H)) (Tr.ite (ltI (Int.ofNat 12) (Int.ofNat m)) (Tr.ok ((AV.int .i64 (Int.ofNat 6), some 1), H)) (Tr.reqP ([sl1 m z false, AV.fn (Fn.func 84) [] [AV.ptr 0 1 0 0]] = [sl1 m z false, AV.fn (Fn.func 84) [] [AV.ptr 0 1 0 0]] ∧ Z0 :: H = Z0 :: H) (Tr.ite b (Tr.ok ((AV.int .i64 (Int.ofNat 2), some 1), H)) Tr.bad)))))) { lock := false, bs := [(0, Blk.row (Row.G [AV.int .i64 w, slA 2 ls zs, slA 3 ld zd])), (0, Blk.row (Row.G [tabR 0 w ls ld zs zd sz kd]))] } := by kernel_rfl
theorem u32l (n : Nat) (w : Int) (ls ld m : Nat) (zs zd sz kd z : Nat → Int) (H : Heap) (sure : Bool) : bodyT Try.prog (cd (n+15)) 100000 32 Try.f32 (Kt.kt 32) (il (ctG (ctG noCt 58 (g58 (bathA w ls zs ld zd) (tabV w ls ld zs zd sz kd) 0)) 83 (fun _ => none)) (n+14) 1) (stopB noBT 1) noRT [(bathA w ls zs ld zd, none), (sl1 m z false, none), (.bool sure, none)] H =
 Tr.reqP (bathA w ls zs ld zd = bathA w ls zs ld zd) (Tr.ite (notB (eqI (Int.ofNat 0) (Int.ofNat 0))) (Tr.ok ((AV.int .i64 (Int.ofNat 0), none), H)) (Tr.ite (ltI (Int.ofNat m) (Int.ofNat 2)) (Tr.ok ((AV.int .i64 (Int.ofNat 6), some 1), H)) (Tr.ite (ltI (Int.ofNat 12) (Int.ofNat m)) (Tr.ok ((AV.int .i64 (Int.ofNat 6), some 1), H)) Tr.bad))) := by kernel_rfl
theorem u32a (n : Nat) (w : Int) (ls ld m : Nat) (zs zd sz kd z : Nat → Int) (H : Heap) (sure b : Bool) : bodyT Try.prog (cd (n+15)) 100000 32 Try.f32 (Kt.kt 32) (il (ctE (ctG noCt 58 (g58 (bathA w ls zs ld zd) (tabV w ls ld zs zd sz kd) 0)) 83 [sl1 m z false, .fn (.func 84) [] [.ptr 0 1 0 0]] (lv32 w ls ld zs zd sz kd :: H) (.ok (.bool b, lv32 w ls ld zs zd sz kd :: H))) (n+14) 1) (blkE noBT 1 (fr32a m z sure 0) (lv32 w ls ld zs zd sz kd :: H) (.ok (.ret, [(6, .int .i64 15, none)], lv32 w ls ld zs zd sz kd :: H))) noRT [(bathA w ls zs ld zd, none), (sl1 m z false, none), (.bool sure, none)] H =
 (fun (Z0 : Lvl) => ((fun (Z1 : Frm) => Tr.reqP (bathA w ls zs ld zd = bathA w ls zs ld zd) (Tr.ite (notB (eqI (Int.ofNat 0) (Int.ofNat 0))) (Tr.ok ((AV.int .i64 (Int.ofNat 0), none), H)) (Tr.ite (ltI (Int.ofNat m) (Int.ofNat 2)) (Tr.ok ((AV.int .i64 (Int.ofNat 6), some 1), H)) (Tr.ite (ltI (Int.ofNat 12) (Int.ofNat m)) (Tr.ok ((AV.int .i64 (Int.ofNat 6), some 1), H)) (Tr.reqP ([sl1 m z false, AV.fn (Fn.func 84) [] [AV.ptr 0 1 0 0]] = [sl1 m z false, AV.fn (Fn.func 84) [] [AV.ptr 0 1 0 0]] ∧ Z0 :: H = Z0 :: H) (Tr.ite b (Tr.ok ((AV.int .i64 (Int.ofNat 2), some 1), H)) (Tr.reqP (Z1 = Z1 ∧ Z0 :: H = Z0 :: H) (Tr.ok ((AV.int .i64 (Int.ofNat 15), none), H))))))))) [(1, sl1 m z false), (2, AV.bool sure), (7, AV.ptr 0 1 0 0), (35, sl1 m z false), (36, AV.int .i64 (Int.ofNat m)), (37, AV.int .i64 (Int.ofNat 0))])) { lock := false, bs := [(0, Blk.row (Row.G [AV.int .i64 w, slA 2 ls zs, slA 3 ld zd])), (0, Blk.row (Row.G [tabR 0 w ls ld zs zd sz kd]))] } := by kernel_rfl
theorem u32b (n : Nat) (w : Int) (ls ld m K : Nat) (zs zd sz kd z y : Nat → Int) (H : Heap) (sure b q3 : Bool) : bodyT Try.prog (cd (n+15)) 100000 32 Try.f32 (Kt.kt 32) (il (ctE (ctG noCt 58 (g58 (bathA w ls zs ld zd) (tabV w ls ld zs zd sz kd) 0)) 83 [sl1 m z false, .fn (.func 84) [] [.ptr 0 1 0 0]] (lv32 w ls ld zs zd sz kd :: H) (.ok (.bool b, lv32 w ls ld zs zd sz kd :: H))) (n+14) 1) (blkE (blkE noBT 3 (fr32b m K z y sure 0) (lv32 w ls ld zs zd sz kd :: H) (.ite q3 (.ok (.ret, [(6, .int .i64 17, none)], lv32 w ls ld zs zd sz kd :: H)) (.ok (.normal, hints (fr32b m K z y sure (Int.ofNat K) ++ [(52, .bool false)]), lv32 w ls ld zs zd sz kd :: H)))) 1 (fr32a m z sure 0) (lv32 w ls ld zs zd sz kd :: H) (.ok (.normal, hints (fr32a m z sure (Int.ofNat m) ++ [(38, .bool false)]), lv32 w ls ld zs zd sz kd :: H))) noRT [(bathA w ls zs ld zd, none), (sl1 m z false, none), (.bool sure, none)] H =
 (fun (Z0 : Lvl) => ((fun (Z1 : Frm) => Tr.reqP (bathA w ls zs ld zd = bathA w ls zs ld zd) (Tr.ite (notB (eqI (Int.ofNat 0) (Int.ofNat 0))) (Tr.ok ((AV.int .i64 (Int.ofNat 0), none), H)) (Tr.ite (ltI (Int.ofNat m) (Int.ofNat 2)) (Tr.ok ((AV.int .i64 (Int.ofNat 6), some 1), H)) (Tr.ite (ltI (Int.ofNat 12) (Int.ofNat m)) (Tr.ok ((AV.int .i64 (Int.ofNat 6), some 1), H)) (Tr.reqP ([sl1 m z false, AV.fn (Fn.func 84) [] [AV.ptr 0 1 0 0]] = [sl1 m z false, AV.fn (Fn.func 84) [] [AV.ptr 0 1 0 0]] ∧ Z0 :: H = Z0 :: H) (Tr.ite b (Tr.ok ((AV.int .i64 (Int.ofNat 2), some 1), H)) (Tr.reqP (Z1 = Z1 ∧ Z0 :: H = Z0 :: H) (Tr.req (bndI (Int.ofNat 1) m) (Tr.req (leN (addO (toN (Int.ofNat 1)) (subO m (toN (Int.ofNat 1)))) m) (Tr.reqP ([(1, sl1 m z false), (2, AV.bool sure), (7, AV.ptr 0 1 0 0), (49, AV.slcT none (Row.M [Seg.arr .i64 (shO z (toN (Int.ofNat 1))) (subO m (toN (Int.ofNat 1)))]) 1 (subO m (toN (Int.ofNat 1))) false), (50, AV.int .i64 (Int.ofNat (subO m (toN (Int.ofNat 1))))), (51, AV.int .i64 (Int.ofNat 0))] = [(1, sl1 m z false), (2, AV.bool sure), (7, AV.ptr 0 1 0 0), (49, AV.slcT none (Row.M [Seg.arr .i64 y K]) 1 K false), (50, AV.int .i64 (Int.ofNat K)), (51, AV.int .i64 (Int.ofNat 0))] ∧ Z0 :: H = Z0 :: H) (Tr.ite q3 (Tr.ok ((AV.int .i64 (Int.ofNat 17), none), H)) (Tr.ok ((AV.int .i64 (Int.ofNat 0), some 1), H))))))))))))) [(1, sl1 m z false), (2, AV.bool sure), (7, AV.ptr 0 1 0 0), (35, sl1 m z false), (36, AV.int .i64 (Int.ofNat m)), (37, AV.int .i64 (Int.ofNat 0))])) { lock := false, bs := [(0, Blk.row (Row.G [AV.int .i64 w, slA 2 ls zs, slA 3 ld zd])), (0, Blk.row (Row.G [tabR 0 w ls ld zs zd sz kd]))] } := by kernel_rfl
section
variable (n : Nat) (w : Int) (ls ld m : Nat) (zs zd sz kd z : Nat → Int) (H : Heap) (sure : Bool)
theorem b106 : ∀ b, (0, b) ∈ blocksOf (bodyOf Try.f106) → b = .loop (part Try.f106 [1,0,1,0,0]) := by
 have : ((blocksOf (bodyOf Try.f106)).filter fun x => Nat.beq x.1 0) = [(0, .loop (part Try.f106 [1,0,1,0,0]))] := by kernel_rfl
 intro b hb
 have hm : (0, b) ∈ ((blocksOf (bodyOf Try.f106)).filter fun x => Nat.beq x.1 0) := List.mem_filter.2 ⟨hb, rfl⟩
 rw [this] at hm; simpa using hm
theorem b32a : ∀ b, (1, b) ∈ blocksOf (bodyOf Try.f32) → b = .loop (part Try.f32 [1,1,1,0,1,0,0]) := by
 have : ((blocksOf (bodyOf Try.f32)).filter fun x => Nat.beq x.1 1) = [(1, .loop (part Try.f32 [1,1,1,0,1,0,0]))] := by kernel_rfl
 intro b hb
 have hm : (1, b) ∈ ((blocksOf (bodyOf Try.f32)).filter fun x => Nat.beq x.1 1) := List.mem_filter.2 ⟨hb, rfl⟩
 rw [this] at hm; simpa using hm
theorem b32b : ∀ b, (3, b) ∈ blocksOf (bodyOf Try.f32) → b = .loop (part Try.f32 [1,1,1,1,0,1,0,0]) := by
 have : ((blocksOf (bodyOf Try.f32)).filter fun x => Nat.beq x.1 3) = [(3, .loop (part Try.f32 [1,1,1,1,0,1,0,0]))] := by kernel_rfl
 intro b hb
 have hm : (3, b) ∈ ((blocksOf (bodyOf Try.f32)).filter fun x => Nat.beq x.1 3) := List.mem_filter.2 ⟨hb, rfl⟩
 rw [this] at hm; simpa using hm
theorem c106w (hm : m ≤ 1000) : cd (n + 4) (.fn 106) [sl1 m z false, .fn (.func 84) [] [.ptr 1 1 0 0]] (lv0 :: lv32 w ls ld zs zd sz kd :: H) = some (.int .i64 (cond (exN (cwN ls z) m) ((fN (cwN ls z) m 0 : Nat) : Int) (-1)), lv0 :: lv32 w ls ld zs zd sz kd :: H) := by
 have l := findX (n := n + 3) (f := 106) (nt := 19) (c := part Try.f106 [1,0,1,0,0]) 0 (fun j => fr106 m z (j : Int)) (fun _ => lv0 :: lv0 :: lv32 w ls ld zs zd sz kd :: H) m (cwN ls z) (fun j => ([(4, .int .i64 (j : Int))], lv0 :: lv0 :: lv32 w ls ld zs zd sz kd :: H)) (fr106 m z (Int.ofNat m) ++ [(9, .bool false)], lv0 :: lv0 :: lv32 w ls ld zs zd sz kd :: H) (by omega) (fun j hj => ?_) ?_
 · refine fn_all (n := n + 3) Try.func106 rfl rfl rfl (u106 n w ls ld m zs zd sz kd z H (exN (cwN ls z) m) ((fN (cwN ls z) m 0 : Nat) : Int)) (il_no (n + 1) 2) (blkE_ok (noBT_ok _ _) b106 (fun x hx => ?_)) (noRT_ok _ _) ?_
   · refine Eq.trans l ?_
     rcases Tr.ite_some hx with ⟨hc, hx⟩ | ⟨hc, hx⟩
     · rw [← Tr.ok_some hx, hc]; rfl
     · rw [← Tr.ok_some hx, hc]; simp only [Res.st, hints_eq]; rfl
   · repeat' first | (refine Tr.all_ite (fun hc => ?_) (fun hc => ?_) <;> (try simp (disch := omega) only [nV, mulO_eq, Int.cast_ofNat_Int, eq_self] at hc) <;> (try (exfalso; omega))) | (refine Tr.all_req ?_ ?_; · ((try simp (disch := omega) only [nV, mulO_eq, Int.cast_ofNat_Int, eq_self]); try omega)) | (refine Tr.all_reqP ?_ ?_; · first | exact trivial | rfl | exact ⟨rfl, rfl⟩ | exact ⟨rfl, rfl, rfl⟩ | (simp (disch := omega) only [nV, mulO_eq, Int.cast_ofNat_Int, eq_self]; done) | ((try simp (disch := omega) only [nV, mulO_eq, Int.cast_ofNat_Int, eq_self]); omega)) | fail
     all_goals refine Tr.all_ok ⟨?_, rfl⟩
     all_goals rw [hc]; rfl
 · have ej : addI .i64 (j : Int) (Int.ofNat 1) = ((j + 1 : Nat) : Int) := by rw [addI_eq, show Int.ofNat 1 = 1 from rfl]; exact wr_64 (by omega) (by omega)
   have e2 : Int.negSucc 1 = -2 := rfl
   refine ex_all (t106 n w ls ld m zs zd sz kd z H (j : Int)) (il_no (n + 1) 2) (noBT_ok _ _) (noRT_ok _ _) ?_
   have hs : cwN ls z j = !(decide (-2 ≤ z j) && decide (z j < ls)) := rfl
   rw [e2]
   repeat' first | (refine Tr.all_ite (fun hc => ?_) (fun hc => ?_) <;> (try simp (disch := omega) only [nV, mulO_eq, Int.cast_ofNat_Int, eq_self, Nat.mul_one] at hc) <;> (try (exfalso; omega))) | (refine Tr.all_req ?_ ?_; · ((try simp (disch := omega) only [nV, mulO_eq, Int.cast_ofNat_Int, eq_self, Nat.mul_one]); try omega)) | (refine Tr.all_reqP ?_ ?_; · first | exact trivial | rfl | exact ⟨rfl, rfl⟩ | exact ⟨rfl, rfl, rfl⟩ | (simp (disch := omega) only [nV, mulO_eq, Int.cast_ofNat_Int, eq_self, Nat.mul_one]; done) | ((try simp (disch := omega) only [nV, mulO_eq, Int.cast_ofNat_Int, eq_self, Nat.mul_one]); omega)) | fail
   all_goals refine Tr.all_ok ?_
   all_goals first
    | (rw [if_pos (by rw [hs]; simp; omega)]; rfl)
    | (rw [if_neg (by rw [hs]; simp; omega)]; exact ⟨rfl, by rw [ej]; rfl⟩)
    | fail
 · obtain ⟨x, h1, rfl⟩ := ex_all (Q := fun x => x = (.exit 0, fr106 m z (Int.ofNat m) ++ [(9, .bool false)], lv0 :: lv0 :: lv32 w ls ld zs zd sz kd :: H)) (t106 n w ls ld m zs zd sz kd z H (Int.ofNat m)) (il_no (n + 1) 2) (noBT_ok _ _) (noRT_ok _ _) (by
    repeat' first | (refine Tr.all_ite (fun hc => ?_) (fun hc => ?_) <;> (try simp (disch := omega) only [nV, mulO_eq, Int.cast_ofNat_Int, eq_self] at hc) <;> (try (exfalso; omega))) | (refine Tr.all_req ?_ ?_; · ((try simp (disch := omega) only [nV, mulO_eq, Int.cast_ofNat_Int, eq_self]); try omega)) | (refine Tr.all_reqP ?_ ?_; · first | exact trivial | rfl | exact ⟨rfl, rfl⟩ | exact ⟨rfl, rfl, rfl⟩ | (simp (disch := omega) only [nV, mulO_eq, Int.cast_ofNat_Int, eq_self]; done) | ((try simp (disch := omega) only [nV, mulO_eq, Int.cast_ofNat_Int, eq_self]); omega)) | fail
    exact Tr.all_ok rfl)
   exact h1
theorem c83w (hm : m ≤ 1000) : cd (n + 5) (.fn 83) [sl1 m z false, .fn (.func 84) [] [.ptr 0 1 0 0]] (lv32 w ls ld zs zd sz kd :: H) = some (.bool (exN (cwN ls z) m), lv32 w ls ld zs zd sz kd :: H) := by
 refine fn_all (n := n + 4) Try.func83 rfl rfl rfl (u83 n w ls ld m zs zd sz kd z H (cond (exN (cwN ls z) m) ((fN (cwN ls z) m 0 : Nat) : Int) (-1))) (il_ok _ (n + 4) 0 (fun k => ctE_ok (noCt_ok _) (fun x hx => by
  rw [← Tr.ok_some hx, show n + 4 + k = n + k + 4 by omega]
  exact c106w _ w ls ld m zs zd sz kd z H hm))) (noBT_ok _ _) (noRT_ok _ _) ?_
 repeat' first | (refine Tr.all_ite (fun hc => ?_) (fun hc => ?_) <;> (try simp (disch := omega) only [nV, mulO_eq, Int.cast_ofNat_Int, eq_self] at hc) <;> (try (exfalso; omega))) | (refine Tr.all_req ?_ ?_; · ((try simp (disch := omega) only [nV, mulO_eq, Int.cast_ofNat_Int, eq_self]); try omega)) | (refine Tr.all_reqP ?_ ?_; · first | exact trivial | rfl | exact ⟨rfl, rfl⟩ | exact ⟨rfl, rfl, rfl⟩ | (simp (disch := omega) only [nV, mulO_eq, Int.cast_ofNat_Int, eq_self]; done) | ((try simp (disch := omega) only [nV, mulO_eq, Int.cast_ofNat_Int, eq_self]); omega)) | fail
 refine Tr.all_ok ⟨?_, rfl⟩
 rw [leI_eq]
 cases exN (cwN ls z) m
 · rfl
 · simp
theorem l32a (hm : m ≤ 1000) : exec (cxD (n + 15) 32 66) (.block 1 (.loop (part Try.f32 [1,1,1,0,1,0,0]))) (fr32a m z sure 0) (lv32 w ls ld zs zd sz kd :: H) = some (cond (exN (cwI z) m) (.ret, [(6, .int .i64 15)], lv32 w ls ld zs zd sz kd :: H) (.normal, fr32a m z sure (Int.ofNat m) ++ [(38, .bool false)], lv32 w ls ld zs zd sz kd :: H)) := by
 have hil : (il (ctG noCt 85 (gIn inN)) (n + 15) 0).Ok (cd (n + 15)) := il85 (n + 13)
 refine findX (n := n + 15) (f := 32) (nt := 66) (c := part Try.f32 [1,1,1,0,1,0,0]) 1 (fun j => fr32a m z sure (j : Int)) (fun _ => lv32 w ls ld zs zd sz kd :: H) m (cwI z) (fun _ => ([(6, .int .i64 15)], lv32 w ls ld zs zd sz kd :: H)) (fr32a m z sure (Int.ofNat m) ++ [(38, .bool false)], lv32 w ls ld zs zd sz kd :: H) (by omega) (fun j hj => ?_) ?_
 · have ej : addI .i64 (j : Int) (Int.ofNat 1) = ((j + 1 : Nat) : Int) := by rw [addI_eq, show Int.ofNat 1 = 1 from rfl]; exact wr_64 (by omega) (by omega)
   have et : toN (j : Int) = j := by rw [toN_eq]; omega
   have ei : idO 0 (j : Int) 1 = j := by rw [idO_eq]; omega
   have hq : inN z j (z j) = cwI z j := by
    unfold inN cwI
    refine exN_congr (fun k hk => ?_)
    unfold cwQ
    rw [decide_eq_decide]; exact eq_comm
   refine ex_all (t32a n w ls ld m zs zd sz kd z H (j : Int) sure inN) hil (noBT_ok _ _) (noRT_ok _ _) ?_
   rw [et, ei, hq]
   repeat' first | (refine Tr.all_ite (fun hc => ?_) (fun hc => ?_) <;> (try simp (disch := omega) only [nV, mulO_eq, Int.cast_ofNat_Int, eq_self, and_true] at hc) <;> (try (exfalso; omega))) | (refine Tr.all_req ?_ ?_; · ((try simp (disch := omega) only [nV, mulO_eq, Int.cast_ofNat_Int, eq_self, and_true]); try omega)) | (refine Tr.all_reqP ?_ ?_; · first | exact trivial | rfl | exact ⟨rfl, rfl⟩ | exact ⟨rfl, rfl, rfl⟩ | (simp (disch := omega) only [nV, mulO_eq, Int.cast_ofNat_Int, eq_self, and_true]; done) | ((try simp (disch := omega) only [nV, mulO_eq, Int.cast_ofNat_Int, eq_self, and_true]); omega)) | fail
   all_goals refine Tr.all_ok ?_
   · rw [if_pos hc]; rfl
   · rw [if_neg (by rw [hc]; simp)]; exact ⟨rfl, by rw [ej]; rfl⟩
 · obtain ⟨x, h1, rfl⟩ := ex_all (Q := fun x => x = (.exit 1, fr32a m z sure (Int.ofNat m) ++ [(38, .bool false)], lv32 w ls ld zs zd sz kd :: H)) (t32a n w ls ld m zs zd sz kd z H (Int.ofNat m) sure inN) hil (noBT_ok _ _) (noRT_ok _ _) (by
    repeat' first | (refine Tr.all_ite (fun hc => ?_) (fun hc => ?_) <;> (try simp (disch := omega) only [nV, mulO_eq, Int.cast_ofNat_Int, eq_self] at hc) <;> (try (exfalso; omega))) | (refine Tr.all_req ?_ ?_; · ((try simp (disch := omega) only [nV, mulO_eq, Int.cast_ofNat_Int, eq_self]); try omega)) | (refine Tr.all_reqP ?_ ?_; · first | exact trivial | rfl | exact ⟨rfl, rfl⟩ | exact ⟨rfl, rfl, rfl⟩ | (simp (disch := omega) only [nV, mulO_eq, Int.cast_ofNat_Int, eq_self]; done) | ((try simp (disch := omega) only [nV, mulO_eq, Int.cast_ofNat_Int, eq_self]); omega)) | fail
    exact Tr.all_ok rfl)
   exact h1
theorem l32b (hls : ls ≤ 10) (K : Nat) (y : Nat → Int) (hK : K ≤ m) (hm : m ≤ 1000) (hz : ∀ i, i < m → -2 ≤ z i ∧ z i < ls) (hy : ∀ i, i < K → -2 ≤ y i ∧ y i < ls) : exec (cxD (n + 15) 32 66) (.block 3 (.loop (part Try.f32 [1,1,1,1,0,1,0,0]))) (fr32b m K z y sure 0) (lv32 w ls ld zs zd sz kd :: H) = some (cond (exN (fun j => !hlK kd sure (z j) (y j)) K) (.ret, [(6, .int .i64 17)], lv32 w ls ld zs zd sz kd :: H) (.normal, fr32b m K z y sure (Int.ofNat K) ++ [(52, .bool false)], lv32 w ls ld zs zd sz kd :: H)) := by
 refine findX (n := n + 15) (f := 32) (nt := 66) (c := part Try.f32 [1,1,1,1,0,1,0,0]) 3 (fun j => fr32b m K z y sure (j : Int)) (fun _ => lv32 w ls ld zs zd sz kd :: H) K (fun j => !hlK kd sure (z j) (y j)) (fun _ => ([(6, .int .i64 17)], lv32 w ls ld zs zd sz kd :: H)) (fr32b m K z y sure (Int.ofNat K) ++ [(52, .bool false)], lv32 w ls ld zs zd sz kd :: H) (by omega) (fun j hj => ?_) ?_
 · have ej : addI .i64 (j : Int) (Int.ofNat 1) = ((j + 1 : Nat) : Int) := by rw [addI_eq, show Int.ofNat 1 = 1 from rfl]; exact wr_64 (by omega) (by omega)
   have e0 : idO 0 (j : Int) 1 = j := by rw [idO_eq]; omega
   obtain ⟨z1, z2⟩ := hz j (by omega)
   obtain ⟨y1, y2⟩ := hy j hj
   have e1 : addI .i64 (z j) (Int.ofNat 2) = z j + 2 := by rw [addI_eq, show Int.ofNat 2 = 2 from rfl]; exact wr_64 (by omega) (by omega)
   have e2 : addI .i64 (y j) (Int.ofNat 2) = y j + 2 := by rw [addI_eq, show Int.ofNat 2 = 2 from rfl]; exact wr_64 (by omega) (by omega)
   have ei : subO (idO (idO 4 (z j + 2) 12) (y j + 2) 1) 4 = (z j + 2).toNat * 12 + (y j + 2).toNat := by rw [subO_eq, idO_eq, idO_eq]; omega
   have hs : (!hlK kd sure (z j) (y j)) = !decide ((if sure then 2 else 1) ≤ kd ((z j + 2).toNat * 12 + (y j + 2).toNat)) := rfl
   refine ex_all (t32b n w ls ld m K zs zd sz kd z y H (j : Int) sure) (il_no (n + 13) 2) (noBT_ok _ _) (noRT_ok _ _) ?_
   rw [e0, e1, e2, ei, hs]
   cases sure <;> simp only [Bool.false_eq_true, if_true, if_false] <;> repeat' first | (refine Tr.all_ite (fun hc => ?_) (fun hc => ?_) <;> (try simp (disch := omega) only [nV, mulO_eq, Int.cast_ofNat_Int, eq_self] at hc) <;> (try (exfalso; omega))) | (refine Tr.all_req ?_ ?_; · ((try simp (disch := omega) only [nV, mulO_eq, Int.cast_ofNat_Int, eq_self]); try omega)) | (refine Tr.all_reqP ?_ ?_; · first | exact trivial | rfl | exact ⟨rfl, rfl⟩ | exact ⟨rfl, rfl, rfl⟩ | (simp (disch := omega) only [nV, mulO_eq, Int.cast_ofNat_Int, eq_self]; done) | ((try simp (disch := omega) only [nV, mulO_eq, Int.cast_ofNat_Int, eq_self]); omega)) | fail
   all_goals refine Tr.all_ok ?_
   all_goals first
    | (rw [if_pos (by simp; omega)]; rfl)
    | (rw [if_neg (by simp; omega)]; exact ⟨rfl, by rw [ej]; rfl⟩)
    | fail
 · obtain ⟨x, h1, rfl⟩ := ex_all (Q := fun x => x = (.exit 3, fr32b m K z y sure (Int.ofNat K) ++ [(52, .bool false)], lv32 w ls ld zs zd sz kd :: H)) (t32b n w ls ld m K zs zd sz kd z y H (Int.ofNat K) sure) (il_no (n + 13) 2) (noBT_ok _ _) (noRT_ok _ _) (by
    repeat' first | (refine Tr.all_ite (fun hc => ?_) (fun hc => ?_) <;> (try simp (disch := omega) only [nV, mulO_eq, Int.cast_ofNat_Int, eq_self] at hc) <;> (try (exfalso; omega))) | (refine Tr.all_req ?_ ?_; · ((try simp (disch := omega) only [nV, mulO_eq, Int.cast_ofNat_Int, eq_self]); try omega)) | (refine Tr.all_reqP ?_ ?_; · first | exact trivial | rfl | exact ⟨rfl, rfl⟩ | exact ⟨rfl, rfl, rfl⟩ | (simp (disch := omega) only [nV, mulO_eq, Int.cast_ofNat_Int, eq_self]; done) | ((try simp (disch := omega) only [nV, mulO_eq, Int.cast_ofNat_Int, eq_self]); omega)) | fail
    exact Tr.all_ok rfl)
   exact h1
theorem ct83 (k : Nat) (b : Bool) (hb : m ≤ 1000 → b = exN (cwN ls z) m) (hm : m ≤ 1000) (h : chkB w ls ld zs zd = 0) : (ctE (ctG noCt 58 (g58 (bathA w ls zs ld zd) (tabV w ls ld zs zd (szs zd ld) (kdT w ls ld zs zd)) 0)) 83 [sl1 m z false, .fn (.func 84) [] [.ptr 0 1 0 0]] (lv32 w ls ld zs zd (szs zd ld) (kdT w ls ld zs zd) :: H) (.ok (.bool b, lv32 w ls ld zs zd (szs zd ld) (kdT w ls ld zs zd) :: H))).Ok (cd (n + 14 + k)) := by
 refine ctE_ok (ctG_ok (noCt_ok _) (fun args p v hg hp H => ?_)) (fun x hx => ?_)
 · unfold g58 at hg
   split at hg
   · simp only [Option.some.injEq, Prod.mk.injEq] at hg
     obtain ⟨rfl, rfl⟩ := hg
     subst hp
     have := c58 (n + k) w ls ld zs zd H
     rw [if_neg (fun x => x h), h, show n + k + 14 = n + 14 + k by omega] at this
     exact this
   · cases hg
 · rw [← Tr.ok_some hx, hb hm, show n + 14 + k = n + 9 + k + 5 by omega]
   exact c83w _ w ls ld m zs zd _ _ z H hm
theorem c32 : cd (n + 16) (.fn 32) [bathA w ls zs ld zd, sl1 m z false, .bool sure] H = some (.int .i64 (cwE w ls ld zs zd (hlK (kdT w ls ld zs zd) sure) m z), H) := by
 by_cases hx : chkB w ls ld zs zd ≠ 0
 · refine fn_all (n := n + 15) Try.func32 rfl rfl rfl (u32x n w ls ld m zs zd z H (chkB w ls ld zs zd) sure) (il_ok _ (n + 14) 1 (fun k => ctG_ok (ctG_ok (noCt_ok _) (fun args p v hg hp H => ?_)) (fun args p v hg hp H => by cases hg))) (stopB_ok (noBT_ok _ _) 1) (noRT_ok _ _) ?_
   · unfold g58 at hg
     split at hg
     · simp only [Option.some.injEq, Prod.mk.injEq] at hg
       obtain ⟨rfl, rfl⟩ := hg
       subst hp
       have := c58 (n + k) w ls ld zs zd H
       rw [if_pos hx, show n + k + 14 = n + 14 + k by omega] at this
       exact this
     · cases hg
   · unfold cwE
     rw [if_pos hx]
     repeat' first | (refine Tr.all_ite (fun hc => ?_) (fun hc => ?_) <;> (try simp (disch := omega) only [nV, mulO_eq, Int.cast_ofNat_Int, eq_self] at hc) <;> (try (exfalso; omega))) | (refine Tr.all_req ?_ ?_; · ((try simp (disch := omega) only [nV, mulO_eq, Int.cast_ofNat_Int, eq_self]); try omega)) | (refine Tr.all_reqP ?_ ?_; · first | exact trivial | rfl | exact ⟨rfl, rfl⟩ | exact ⟨rfl, rfl, rfl⟩ | (simp (disch := omega) only [nV, mulO_eq, Int.cast_ofNat_Int, eq_self]; done) | ((try simp (disch := omega) only [nV, mulO_eq, Int.cast_ofNat_Int, eq_self]); omega)) | fail
     all_goals exact Tr.all_ok ⟨rfl, rfl⟩
 · have h : chkB w ls ld zs zd = 0 := by omega
   have c := chk_ok h
   unfold cwE
   rw [if_neg hx]
   by_cases hml : m ≤ 1000
   · have hct := fun k => ct83 n w ls ld m zs zd z H k (exN (cwN ls z) m) (fun _ => rfl) hml h
     by_cases hm : m < 2 ∨ 12 < m
     · rw [if_pos hm]
       refine fn_all (n := n + 15) Try.func32 rfl rfl rfl (u32s n w ls ld m zs zd (szs zd ld) (kdT w ls ld zs zd) z H sure (exN (cwN ls z) m)) (il_ok _ (n + 14) 1 hct) (stopB_ok (noBT_ok _ _) 1) (noRT_ok _ _) ?_
       repeat' first | (refine Tr.all_ite (fun hc => ?_) (fun hc => ?_) <;> (try simp (disch := omega) only [nV, mulO_eq, Int.cast_ofNat_Int, eq_self] at hc) <;> (try (exfalso; omega))) | (refine Tr.all_req ?_ ?_; · ((try simp (disch := omega) only [nV, mulO_eq, Int.cast_ofNat_Int, eq_self]); try omega)) | (refine Tr.all_reqP ?_ ?_; · first | exact trivial | rfl | exact ⟨rfl, rfl⟩ | exact ⟨rfl, rfl, rfl⟩ | (simp (disch := omega) only [nV, mulO_eq, Int.cast_ofNat_Int, eq_self]; done) | ((try simp (disch := omega) only [nV, mulO_eq, Int.cast_ofNat_Int, eq_self]); omega)) | fail
       all_goals exact Tr.all_ok ⟨rfl, rfl⟩
     · rw [if_neg hm]
       cases hq : exN (cwN ls z) m with
       | true =>
         rw [hq] at hct
         refine fn_all (n := n + 15) Try.func32 rfl rfl rfl (u32s n w ls ld m zs zd (szs zd ld) (kdT w ls ld zs zd) z H sure true) (il_ok _ (n + 14) 1 hct) (stopB_ok (noBT_ok _ _) 1) (noRT_ok _ _) ?_
         rw [if_pos rfl]
         repeat' first | (refine Tr.all_ite (fun hc => ?_) (fun hc => ?_) <;> (try simp (disch := omega) only [nV, mulO_eq, Int.cast_ofNat_Int, eq_self] at hc) <;> (try (exfalso; omega))) | (refine Tr.all_req ?_ ?_; · ((try simp (disch := omega) only [nV, mulO_eq, Int.cast_ofNat_Int, eq_self]); try omega)) | (refine Tr.all_reqP ?_ ?_; · first | exact trivial | rfl | exact ⟨rfl, rfl⟩ | exact ⟨rfl, rfl, rfl⟩ | (simp (disch := omega) only [nV, mulO_eq, Int.cast_ofNat_Int, eq_self]; done) | ((try simp (disch := omega) only [nV, mulO_eq, Int.cast_ofNat_Int, eq_self]); omega)) | fail
         all_goals exact Tr.all_ok ⟨rfl, rfl⟩
       | false =>
         rw [hq] at hct
         have hz : ∀ i, i < m → -2 ≤ z i ∧ z i < ls := fun i hi => by
          cases hp : isPl ls (z i) with
          | true => simpa [isPl] using hp
          | false =>
            have := (exN_iff (cwN ls z) m).2 ⟨i, hi, by unfold cwN; rw [hp]; rfl⟩
            rw [this] at hq; cases hq
         have la := l32a n w ls ld m zs zd (szs zd ld) (kdT w ls ld zs zd) z H sure hml
         rw [if_neg (by simp)]
         cases hi : exN (cwI z) m with
         | true =>
           rw [hi] at la
           refine fn_all (n := n + 15) Try.func32 rfl rfl rfl (u32a n w ls ld m zs zd (szs zd ld) (kdT w ls ld zs zd) z H sure false) (il_ok _ (n + 14) 1 hct) (blkE_ok (noBT_ok _ _) b32a (fun x hx => by rw [← Tr.ok_some hx]; exact la)) (noRT_ok _ _) ?_
           rw [if_pos rfl]
           repeat' first | (refine Tr.all_ite (fun hc => ?_) (fun hc => ?_) <;> (try simp (disch := omega) only [nV, mulO_eq, Int.cast_ofNat_Int, eq_self] at hc) <;> (try (exfalso; omega))) | (refine Tr.all_req ?_ ?_; · ((try simp (disch := omega) only [nV, mulO_eq, Int.cast_ofNat_Int, eq_self]); try omega)) | (refine Tr.all_reqP ?_ ?_; · first | exact trivial | rfl | exact ⟨rfl, rfl⟩ | exact ⟨rfl, rfl, rfl⟩ | (simp (disch := omega) only [nV, mulO_eq, Int.cast_ofNat_Int, eq_self]; done) | ((try simp (disch := omega) only [nV, mulO_eq, Int.cast_ofNat_Int, eq_self]); omega)) | fail
           all_goals exact Tr.all_ok ⟨rfl, rfl⟩
         | false =>
           rw [hi] at la
           have e1 : toN (Int.ofNat 1) = 1 := by rw [toN_eq]; rfl
           have e2 : subO m (toN (Int.ofNat 1)) = m - 1 := by rw [e1, subO_eq]
           have e3 : ∀ j, shO z (toN (Int.ofNat 1)) j = z (j + 1) := fun j => by rw [e1, shO_fn]; show z (1 + j) = _; rw [Nat.add_comm]
           have lb := l32b n w ls ld m zs zd (szs zd ld) (kdT w ls ld zs zd) z H sure (by omega) (m - 1) (shO z (toN (Int.ofNat 1))) (by omega) hml hz (fun i hi => by rw [e3]; exact hz (i + 1) (by omega))
           have eH : exN (fun j => !hlK (kdT w ls ld zs zd) sure (z j) (shO z (toN (Int.ofNat 1)) j)) (m - 1) = exN (cwH (hlK (kdT w ls ld zs zd) sure) z) (m - 1) := exN_congr (fun k hk => by rw [e3]; rfl)
           rw [eH] at lb
           refine fn_all (n := n + 15) Try.func32 rfl rfl rfl (u32b n w ls ld m (m - 1) zs zd (szs zd ld) (kdT w ls ld zs zd) z (shO z (toN (Int.ofNat 1))) H sure false (exN (cwH (hlK (kdT w ls ld zs zd) sure) z) (m - 1))) (il_ok _ (n + 14) 1 hct) (blkE_ok (blkE_ok (noBT_ok _ _) b32b (fun x hx => ?_)) b32a (fun x hx => ?_)) (noRT_ok _ _) ?_
           · refine Eq.trans lb ?_
             rcases Tr.ite_some hx with ⟨hc, hx⟩ | ⟨hc, hx⟩
             · rw [← Tr.ok_some hx, hc]; rfl
             · rw [← Tr.ok_some hx, hc]; simp only [Res.st, hints_eq]; rfl
           · rw [← Tr.ok_some hx]; simp only [Res.st, hints_eq]; exact la
           · rw [if_neg (by simp), e2]
             repeat' first | (refine Tr.all_ite (fun hc => ?_) (fun hc => ?_) <;> (try simp (disch := omega) only [nV, mulO_eq, Int.cast_ofNat_Int, eq_self] at hc) <;> (try (exfalso; omega))) | (refine Tr.all_req ?_ ?_; · ((try simp (disch := omega) only [nV, mulO_eq, Int.cast_ofNat_Int, eq_self]); try omega)) | (refine Tr.all_reqP ?_ ?_; · first | exact trivial | rfl | exact ⟨rfl, rfl⟩ | exact ⟨rfl, rfl, rfl⟩ | (simp (disch := omega) only [nV, mulO_eq, Int.cast_ofNat_Int, eq_self]; done) | ((try simp (disch := omega) only [nV, mulO_eq, Int.cast_ofNat_Int, eq_self]); omega)) | fail
             all_goals refine Tr.all_ok ⟨?_, rfl⟩
             all_goals first
              | (simp_all; done)
              | (simp_all; rfl)
              | fail
   · rw [if_pos (by omega)]
     refine fn_all (n := n + 15) Try.func32 rfl rfl rfl (u32l n w ls ld m zs zd (szs zd ld) (kdT w ls ld zs zd) z H sure) (il_ok _ (n + 14) 1 (fun k => ctG_ok (ctG_ok (noCt_ok _) (fun args p v hg hp H => by
      unfold g58 at hg
      split at hg
      · simp only [Option.some.injEq, Prod.mk.injEq] at hg
        obtain ⟨rfl, rfl⟩ := hg
        subst hp
        have := c58 (n + k) w ls ld zs zd H
        rw [if_neg (fun x => x h), h, show n + k + 14 = n + 14 + k by omega] at this
        exact this
      · cases hg)) (fun args p v hg hp H => by cases hg))) (stopB_ok (noBT_ok _ _) 1) (noRT_ok _ _) ?_
     repeat' first | (refine Tr.all_ite (fun hc => ?_) (fun hc => ?_) <;> (try simp (disch := omega) only [nV, mulO_eq, Int.cast_ofNat_Int, eq_self] at hc) <;> (try (exfalso; omega))) | (refine Tr.all_req ?_ ?_; · ((try simp (disch := omega) only [nV, mulO_eq, Int.cast_ofNat_Int, eq_self]); try omega)) | (refine Tr.all_reqP ?_ ?_; · first | exact trivial | rfl | exact ⟨rfl, rfl⟩ | exact ⟨rfl, rfl, rfl⟩ | (simp (disch := omega) only [nV, mulO_eq, Int.cast_ofNat_Int, eq_self]; done) | ((try simp (disch := omega) only [nV, mulO_eq, Int.cast_ofNat_Int, eq_self]); omega)) | fail
     all_goals exact Tr.all_ok ⟨rfl, rfl⟩
end
end Go.Eng
