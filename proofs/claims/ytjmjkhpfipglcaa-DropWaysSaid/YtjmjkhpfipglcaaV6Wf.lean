/- Drop: Way, as it is defined. -/
import Derived.Test.YtjmjkhpfipglcaaV6Wax2
namespace Go.Eng
open Go.Proofs
set_option linter.unusedVariables false
set_option linter.unusedSimpArgs false
set_option maxRecDepth 100000
noncomputable def lv30 (w : Int) (ls ld : Nat) (zs zd : Nat → Int) (rest : List (Nat × Blk)) : Lvl := ⟨false, (0, .row (.G [.int .i64 w, slA 2 ls zs, slA 3 ld zd])) :: rest⟩
noncomputable def r30a (p : Int) (v m : Nat) (y : Nat → Int) : List (Nat × Blk) := [(0, .row (.I .i64 [p]))]
noncomputable def r30b (p : Int) (v m : Nat) (y : Nat → Int) : List (Nat × Blk) := [(0, .row (.I .i64 [p])), (v, .row (.M [.arr .i64 y m]))]
noncomputable def o30a (v m : Nat) : AV := .slc 0 1 0 0 1 1 (some 1)
noncomputable def o30b (v m : Nat) : AV := .slc 0 2 v 0 1 m none
noncomputable def fr30 (o : AV) (N : Nat) (z : Nat → Int) (q a : Int) (sure : Bool) : Frm := [(2, .int .i64 q), (3, .bool sure), (4, .ptr 0 0 0 0), (10, sl1 N z true), (11, o), (12, .int .i64 a)]
noncomputable def fr30h (N : Nat) (z : Nat → Int) (q a : Int) (sure : Bool) : HFrm := [(2, .int .i64 q, none), (3, .bool sure, none), (4, .ptr 0 0 0 0, none), (10, sl1 N z true, none), (11, .slc 0 1 0 0 1 1 (some 1), some 1), (12, .int .i64 a, none)]
noncomputable def fr30i (o : AV) (N : Nat) (z : Nat → Int) (q a : Int) (sure : Bool) (x y : Int) : Frm := [(2, .int .i64 q), (3, .bool sure), (4, .ptr 0 0 0 0), (10, sl1 N z true), (11, o), (12, .int .i64 a), (13, .int .i64 x), (14, .int .i64 y)]
theorem u30x (n : Nat) (w : Int) (ls ld : Nat) (zs zd : Nat → Int) (H : Heap) (p q e : Int) (sure : Bool) : bodyT Try.prog (cd (n+8)) 100000 30 Try.f30 (Kt.kt 30) (il (ctG (ctG noCt 70 (g70 (bathA w ls zs ld zd) p q e)) 81 (fun _ => none)) (n+8) 0) (stopB noBT 0) noRT [(bathA w ls zs ld zd, none), (.int .i64 p, none), (.int .i64 q, none), (.bool sure, none)] H =
 Tr.reqP (bathA w ls zs ld zd = bathA w ls zs ld zd ∧ p = p ∧ q = q) (Tr.ite (notB (eqI e (Int.ofNat 0))) (Tr.reqP (bathA w ls zs ld zd = bathA w ls zs ld zd ∧ p = p ∧ q = q) (Tr.ok ((AV.tup [AV.nils, AV.int .i64 e], none), H))) Tr.bad) := by kernel_rfl
theorem u30y (n : Nat) (w : Int) (ls ld N v m : Nat) (zs zd z y : Nat → Int) (H : Heap) (p q : Int) (sure : Bool) : bodyT Try.prog (cd (n+8)) 100000 30 Try.f30 (Kt.kt 30) (il (ctG (ctG noCt 70 (g70 (bathA w ls zs ld zd) p q 0)) 81 (g81 (bathA w ls zs ld zd) q sure (sl1 N z true))) (n+8) 0) (blkE noBT 0 (fr30 (o30a 0 0) N z q p sure) (lv30 w ls ld zs zd (r30a p 0 0 y) :: H) (.ok (.normal, hints (fr30 (o30b v m) N z q q sure ++ [(39, .bool false)]), lv30 w ls ld zs zd (r30b p v m y) :: H))) noRT [(bathA w ls zs ld zd, none), (.int .i64 p, none), (.int .i64 q, none), (.bool sure, none)] H =
 (fun (Z0 : Frm) => ((fun (Z1 : Lvl) => Tr.reqP (bathA w ls zs ld zd = bathA w ls zs ld zd ∧ p = p ∧ q = q) (Tr.ite (notB (eqI (Int.ofNat 0) (Int.ofNat 0))) (Tr.reqP (bathA w ls zs ld zd = bathA w ls zs ld zd ∧ p = p ∧ q = q) (Tr.ok ((AV.tup [AV.nils, AV.int .i64 (Int.ofNat 0)], none), H))) (Tr.reqP (bathA w ls zs ld zd = bathA w ls zs ld zd ∧ q = q ∧ sure = sure) (Tr.req (inI (addI .i64 p (Int.ofNat 2)) N) (Tr.req (ltN (idO 0 (addI .i64 p (Int.ofNat 2)) 1) N) (Tr.ite (eqI (z (idO 0 (addI .i64 p (Int.ofNat 2)) 1)) (Int.ofNat 0)) (Tr.ok ((AV.tup [AV.nils, AV.int .i64 (Int.ofNat 5)], none), H)) (Tr.reqP (Z0 = Z0 ∧ Z1 :: H = Z1 :: H) (Tr.req (eqN v v) (Tr.req (inO 0 m 0 m) (Tr.ok ((AV.tup [AV.slcT none (Row.M [Seg.arr .i64 (shO y 0) m]) 1 m false, AV.int .i64 (Int.ofNat 0)], none), H))))))))))) { lock := false, bs := [(0, Blk.row (Row.G [AV.int .i64 w, slA 2 ls zs, slA 3 ld zd])), (0, Blk.row (Row.I .i64 [p]))] })) [(2, AV.int .i64 q), (3, AV.bool sure), (4, AV.ptr 0 0 0 0), (10, AV.slcT none (Row.M [Seg.arr .i64 z N]) 1 N true), (11, AV.slc 0 1 0 0 1 1 (some 1)), (12, AV.int .i64 p)] := by kernel_rfl
theorem u30n (n : Nat) (w : Int) (ls ld N : Nat) (zs zd z : Nat → Int) (H : Heap) (p q : Int) (sure : Bool) : bodyT Try.prog (cd (n+8)) 100000 30 Try.f30 (Kt.kt 30) (il (ctG (ctG noCt 70 (g70 (bathA w ls zs ld zd) p q 0)) 81 (g81 (bathA w ls zs ld zd) q sure (sl1 N z true))) (n+8) 0) (stopB noBT 0) noRT [(bathA w ls zs ld zd, none), (.int .i64 p, none), (.int .i64 q, none), (.bool sure, none)] H =
 Tr.reqP (bathA w ls zs ld zd = bathA w ls zs ld zd ∧ p = p ∧ q = q) (Tr.ite (notB (eqI (Int.ofNat 0) (Int.ofNat 0))) (Tr.reqP (bathA w ls zs ld zd = bathA w ls zs ld zd ∧ p = p ∧ q = q) (Tr.ok ((AV.tup [AV.nils, AV.int .i64 (Int.ofNat 0)], none), H))) (Tr.reqP (bathA w ls zs ld zd = bathA w ls zs ld zd ∧ q = q ∧ sure = sure) (Tr.req (inI (addI .i64 p (Int.ofNat 2)) N) (Tr.req (ltN (idO 0 (addI .i64 p (Int.ofNat 2)) 1) N) (Tr.ite (eqI (z (idO 0 (addI .i64 p (Int.ofNat 2)) 1)) (Int.ofNat 0)) (Tr.ok ((AV.tup [AV.nils, AV.int .i64 (Int.ofNat 5)], none), H)) Tr.bad))))) := by kernel_rfl
theorem t30e (n : Nat) (w : Int) (ls ld N : Nat) (zs zd z y : Nat → Int) (H : Heap) (p q a : Int) (v m : Nat) (sure : Bool) : execT (cxD (n+8) 30 90) (il noCt (n+8) 0) (stopB noBT 2) noRT (part Try.f30 [1,1,1,1,1,0,1,0,0]) (hints (fr30 (o30b v m) N z q a sure)) (lv30 w ls ld zs zd (r30b p v m y) :: H) =
 Tr.ite (notB (eqI a q)) Tr.bad (Tr.ok (Ex.exit 0, [(2, AV.int .i64 q, none), (3, AV.bool sure, none), (4, AV.ptr 0 0 0 0, none), (10, AV.slcT none (Row.M [Seg.arr .i64 z N]) 1 N true, none), (11, AV.slc 0 2 v 0 1 m none, none), (12, AV.int .i64 a, none), (39, AV.bool false, some 1)], { lock := false, bs := [(0, Blk.row (Row.G [AV.int .i64 w, slA 2 ls zs, slA 3 ld zd])), (0, Blk.row (Row.I .i64 [p])), (v, Blk.row (Row.M [Seg.arr .i64 y m]))] } :: H)) := by kernel_rfl
theorem t30ia (n : Nat) (w : Int) (ls ld N : Nat) (zs zd z y : Nat → Int) (H : Heap) (p q a x j : Int) (v m : Nat) (sure : Bool) (side : Int → Int → Prop) (hl : Int → Int → Bool) : execT (cxD (n+8) 30 90) (il (ctG noCt 82 (g82 (bathA w ls zs ld zd) sure side hl)) (n+8) 0) noBT noRT (part Try.f30 [1,1,1,1,1,0,1,0,0,1,0,1,0,1,0,0]) (hints (fr30i (o30a v m) N z q a sure x j)) (lv30 w ls ld zs zd (r30a p v m y) :: H) =
 (fun (Z0 : HFrm) => ((fun (Z1 : Lvl) => Tr.ite (ltI j (Int.ofNat ls)) (Tr.ite (eqI x (Int.negSucc 2)) (Tr.ite (notB (eqI j a)) (Tr.req (inI (addI .i64 j (Int.ofNat 2)) N) (Tr.req (ltN (idO 0 (addI .i64 j (Int.ofNat 2)) 1) N) (Tr.req (inI (addI .i64 a (Int.ofNat 2)) N) (Tr.req (ltN (idO 0 (addI .i64 a (Int.ofNat 2)) 1) N) (Tr.ite (eqI (z (idO 0 (addI .i64 j (Int.ofNat 2)) 1)) (subI .i64 (z (idO 0 (addI .i64 a (Int.ofNat 2)) 1)) (Int.ofNat 1))) (Tr.req (inI (addI .i64 j (Int.ofNat 2)) N) (Tr.req (ltN (idO 0 (addI .i64 j (Int.ofNat 2)) 1) N) (Tr.ite (ltI (Int.ofNat 0) (z (idO 0 (addI .i64 j (Int.ofNat 2)) 1))) (Tr.reqP (bathA w ls zs ld zd = bathA w ls zs ld zd ∧ side a j ∧ sure = sure) (Tr.ite (hl a j) (Tr.ok (Ex.normal, [(2, AV.int .i64 q, none), (3, AV.bool sure, none), (4, AV.ptr 0 0 0 0, none), (10, AV.slcT none (Row.M [Seg.arr .i64 z N]) 1 N true, none), (11, AV.slc 0 1 0 0 1 1 (some 1), none), (12, AV.int .i64 a, none), (13, AV.int .i64 j, none), (14, AV.int .i64 (addI .i64 j (Int.ofNat 1)), none)], Z1 :: H)) (Tr.ok (Ex.normal, Z0, Z1 :: H)))) (Tr.ok (Ex.normal, Z0, Z1 :: H))))) (Tr.ok (Ex.normal, Z0, Z1 :: H))))))) (Tr.ok (Ex.normal, Z0, Z1 :: H))) (Tr.ok (Ex.normal, Z0, Z1 :: H))) (Tr.ok (Ex.exit 2, [(2, AV.int .i64 q, none), (3, AV.bool sure, none), (4, AV.ptr 0 0 0 0, none), (10, AV.slcT none (Row.M [Seg.arr .i64 z N]) 1 N true, none), (11, AV.slc 0 1 0 0 1 1 (some 1), none), (12, AV.int .i64 a, none), (13, AV.int .i64 x, none), (14, AV.int .i64 j, none), (44, AV.bool false, some 1)], Z1 :: H))) { lock := false, bs := [(0, Blk.row (Row.G [AV.int .i64 w, slA 2 ls zs, slA 3 ld zd])), (0, Blk.row (Row.I .i64 [p]))] })) [(2, AV.int .i64 q, none), (3, AV.bool sure, none), (4, AV.ptr 0 0 0 0, none), (10, AV.slcT none (Row.M [Seg.arr .i64 z N]) 1 N true, none), (11, AV.slc 0 1 0 0 1 1 (some 1), none), (12, AV.int .i64 a, none), (13, AV.int .i64 x, none), (14, AV.int .i64 (addI .i64 j (Int.ofNat 1)), none)] := by kernel_rfl
theorem t30oa (n : Nat) (w : Int) (ls ld N : Nat) (zs zd z y : Nat → Int) (H : Heap) (p q a x : Int) (v m : Nat) (sure : Bool) : execT (cxD (n+8) 30 90) (il noCt (n+8) 0) (blkE noBT 2 (fr30i (o30a v m) N z q a sure (-3) (-2)) (lv30 w ls ld zs zd (r30a p v m y) :: H) (.ok (.normal, hints (fr30i (o30a v m) N z q a sure x (Int.ofNat ls) ++ [(44, .bool false)]), lv30 w ls ld zs zd (r30a p v m y) :: H))) noRT (part Try.f30 [1,1,1,1,1,0,1,0,0]) (fr30h N z q a sure) (lv30 w ls ld zs zd (r30a p v m y) :: H) =
 (fun (Z0 : Frm) => ((fun (Z1 : Lvl) => Tr.ite (notB (eqI a q)) (Tr.reqP (Z0 = Z0 ∧ Z1 :: H = Z1 :: H) (Tr.req (roomO 1 1 8) (Tr.req (leN 1 1) (Tr.ite (ltN 1 (addO 1 1)) (Tr.req (leN 1 1) (Tr.ok (Ex.normal, [(2, AV.int .i64 q, none), (3, AV.bool sure, none), (4, AV.ptr 0 0 0 0, none), (10, AV.slcT none (Row.M [Seg.arr .i64 z N]) 1 N true, none), (11, AV.slc 0 3 0 0 1 (addO 1 1) none, none), (12, AV.int .i64 x, none)], { lock := false, bs := [(0, Blk.row (Row.G [AV.int .i64 w, slA 2 ls zs, slA 3 ld zd])), (0, Blk.row (Row.I .i64 [p])), (0, Blk.row (Row.I .i64 [x])), (0, Blk.row (Row.M [Seg.arr .i64 (lstO [p, x]) 2]))] } :: H))) Tr.bad)))) (Tr.ok (Ex.exit 0, [(2, AV.int .i64 q, none), (3, AV.bool sure, none), (4, AV.ptr 0 0 0 0, none), (10, AV.slcT none (Row.M [Seg.arr .i64 z N]) 1 N true, none), (11, AV.slc 0 1 0 0 1 1 (some 1), some 1), (12, AV.int .i64 a, none), (39, AV.bool false, some 1)], Z1 :: H))) { lock := false, bs := [(0, Blk.row (Row.G [AV.int .i64 w, slA 2 ls zs, slA 3 ld zd])), (0, Blk.row (Row.I .i64 [p]))] })) [(2, AV.int .i64 q), (3, AV.bool sure), (4, AV.ptr 0 0 0 0), (10, AV.slcT none (Row.M [Seg.arr .i64 z N]) 1 N true), (11, AV.slc 0 1 0 0 1 1 (some 1)), (12, AV.int .i64 a), (13, AV.int .i64 (Int.negSucc 2)), (14, AV.int .i64 (Int.negSucc 1))] := by kernel_rfl
theorem t30ib (n : Nat) (w : Int) (ls ld N : Nat) (zs zd z y : Nat → Int) (H : Heap) (p q a x j : Int) (v m : Nat) (sure : Bool) (side : Int → Int → Prop) (hl : Int → Int → Bool) : execT (cxD (n+8) 30 90) (il (ctG noCt 82 (g82 (bathA w ls zs ld zd) sure side hl)) (n+8) 0) noBT noRT (part Try.f30 [1,1,1,1,1,0,1,0,0,1,0,1,0,1,0,0]) (hints (fr30i (o30b v m) N z q a sure x j)) (lv30 w ls ld zs zd (r30b p v m y) :: H) =
 (fun (Z0 : HFrm) => ((fun (Z1 : Lvl) => Tr.ite (ltI j (Int.ofNat ls)) (Tr.ite (eqI x (Int.negSucc 2)) (Tr.ite (notB (eqI j a)) (Tr.req (inI (addI .i64 j (Int.ofNat 2)) N) (Tr.req (ltN (idO 0 (addI .i64 j (Int.ofNat 2)) 1) N) (Tr.req (inI (addI .i64 a (Int.ofNat 2)) N) (Tr.req (ltN (idO 0 (addI .i64 a (Int.ofNat 2)) 1) N) (Tr.ite (eqI (z (idO 0 (addI .i64 j (Int.ofNat 2)) 1)) (subI .i64 (z (idO 0 (addI .i64 a (Int.ofNat 2)) 1)) (Int.ofNat 1))) (Tr.req (inI (addI .i64 j (Int.ofNat 2)) N) (Tr.req (ltN (idO 0 (addI .i64 j (Int.ofNat 2)) 1) N) (Tr.ite (ltI (Int.ofNat 0) (z (idO 0 (addI .i64 j (Int.ofNat 2)) 1))) (Tr.reqP (bathA w ls zs ld zd = bathA w ls zs ld zd ∧ side a j ∧ sure = sure) (Tr.ite (hl a j) (Tr.ok (Ex.normal, [(2, AV.int .i64 q, none), (3, AV.bool sure, none), (4, AV.ptr 0 0 0 0, none), (10, AV.slcT none (Row.M [Seg.arr .i64 z N]) 1 N true, none), (11, AV.slc 0 2 v 0 1 m none, none), (12, AV.int .i64 a, none), (13, AV.int .i64 j, none), (14, AV.int .i64 (addI .i64 j (Int.ofNat 1)), none)], Z1 :: H)) (Tr.ok (Ex.normal, Z0, Z1 :: H)))) (Tr.ok (Ex.normal, Z0, Z1 :: H))))) (Tr.ok (Ex.normal, Z0, Z1 :: H))))))) (Tr.ok (Ex.normal, Z0, Z1 :: H))) (Tr.ok (Ex.normal, Z0, Z1 :: H))) (Tr.ok (Ex.exit 2, [(2, AV.int .i64 q, none), (3, AV.bool sure, none), (4, AV.ptr 0 0 0 0, none), (10, AV.slcT none (Row.M [Seg.arr .i64 z N]) 1 N true, none), (11, AV.slc 0 2 v 0 1 m none, none), (12, AV.int .i64 a, none), (13, AV.int .i64 x, none), (14, AV.int .i64 j, none), (44, AV.bool false, some 1)], Z1 :: H))) { lock := false, bs := [(0, Blk.row (Row.G [AV.int .i64 w, slA 2 ls zs, slA 3 ld zd])), (0, Blk.row (Row.I .i64 [p])), (v, Blk.row (Row.M [Seg.arr .i64 y m]))] })) [(2, AV.int .i64 q, none), (3, AV.bool sure, none), (4, AV.ptr 0 0 0 0, none), (10, AV.slcT none (Row.M [Seg.arr .i64 z N]) 1 N true, none), (11, AV.slc 0 2 v 0 1 m none, none), (12, AV.int .i64 a, none), (13, AV.int .i64 x, none), (14, AV.int .i64 (addI .i64 j (Int.ofNat 1)), none)] := by kernel_rfl
theorem t30ob (n : Nat) (w : Int) (ls ld N : Nat) (zs zd z y : Nat → Int) (H : Heap) (p q a x : Int) (v m : Nat) (sure : Bool) : execT (cxD (n+8) 30 90) (il noCt (n+8) 0) (blkE noBT 2 (fr30i (o30b v m) N z q a sure (-3) (-2)) (lv30 w ls ld zs zd (r30b p v m y) :: H) (.ok (.normal, hints (fr30i (o30b v m) N z q a sure x (Int.ofNat ls) ++ [(44, .bool false)]), lv30 w ls ld zs zd (r30b p v m y) :: H))) noRT (part Try.f30 [1,1,1,1,1,0,1,0,0]) (hints (fr30 (o30b v m) N z q a sure)) (lv30 w ls ld zs zd (r30b p v m y) :: H) =
 (fun (Z0 : Lvl) => ((fun (Z1 : Frm) => Tr.ite (notB (eqI a q)) (Tr.reqP (Z1 = Z1 ∧ Z0 :: H = Z0 :: H) (Tr.req (roomO m 1 8) (Tr.req (leN 1 1) (Tr.req (eqN v v) (Tr.req (eqN (addO 0 m) m) (Tr.ok (Ex.normal, [(2, AV.int .i64 q, none), (3, AV.bool sure, none), (4, AV.ptr 0 0 0 0, none), (10, AV.slcT none (Row.M [Seg.arr .i64 z N]) 1 N true, none), (11, AV.slc 0 2 (Nat.succ v) 0 1 (addO m 1) none, none), (12, AV.int .i64 x, none)], { lock := false, bs := [(0, Blk.row (Row.G [AV.int .i64 w, slA 2 ls zs, slA 3 ld zd])), (0, Blk.row (Row.I .i64 [p])), (Nat.succ v, Blk.row (Row.M [Seg.arr .i64 (appO (shO y 0) m (lstO [x])) (addO m 1)])), (0, Blk.row (Row.I .i64 [x]))] } :: H))))))) (Tr.ok (Ex.exit 0, [(2, AV.int .i64 q, none), (3, AV.bool sure, none), (4, AV.ptr 0 0 0 0, none), (10, AV.slcT none (Row.M [Seg.arr .i64 z N]) 1 N true, none), (11, AV.slc 0 2 v 0 1 m none, none), (12, AV.int .i64 a, none), (39, AV.bool false, some 1)], Z0 :: H))) [(2, AV.int .i64 q), (3, AV.bool sure), (4, AV.ptr 0 0 0 0), (10, AV.slcT none (Row.M [Seg.arr .i64 z N]) 1 N true), (11, AV.slc 0 2 v 0 1 m none), (12, AV.int .i64 a), (13, AV.int .i64 (Int.negSucc 2)), (14, AV.int .i64 (Int.negSucc 1))])) { lock := false, bs := [(0, Blk.row (Row.G [AV.int .i64 w, slA 2 ls zs, slA 3 ld zd])), (0, Blk.row (Row.I .i64 [p])), (v, Blk.row (Row.M [Seg.arr .i64 y m]))] } := by kernel_rfl
def rC (z : Nat → Int) (hl : Int → Int → Bool) (a : Int) (j : Nat) : Bool := decide ((j : Int) - 2 ≠ a) && (decide (z j = z (a + 2).toNat - 1) && (decide (0 < z j) && hl a ((j : Int) - 2)))
def rX (z : Nat → Int) (hl : Int → Int → Bool) (a : Int) : Nat → Int
 | 0 => -3
 | j + 1 => if rX z hl a j = -3 ∧ rC z hl a j = true then (j : Int) - 2 else rX z hl a j
def rAt (z : Nat → Int) (hl : Int → Int → Bool) (ls : Nat) (p : Int) : Nat → Int
 | 0 => p
 | k + 1 => rX z hl (rAt z hl ls p k) (ls + 2)
theorem b30 : ∀ b, (0, b) ∈ blocksOf (bodyOf Try.f30) → b = .loop (part Try.f30 [1,1,1,1,1,0,1,0,0]) := by
 have : ((blocksOf (bodyOf Try.f30)).filter fun x => Nat.beq x.1 0) = [(0, .loop (part Try.f30 [1,1,1,1,1,0,1,0,0]))] := by kernel_rfl
 intro b hb
 have hm : (0, b) ∈ ((blocksOf (bodyOf Try.f30)).filter fun x => Nat.beq x.1 0) := List.mem_filter.2 ⟨hb, rfl⟩
 rw [this] at hm; simpa using hm
theorem b30i : ∀ b, (2, b) ∈ blocksOf (part Try.f30 [1,1,1,1,1,0,1,0,0]) → b = .loop (part Try.f30 [1,1,1,1,1,0,1,0,0,1,0,1,0,1,0,0]) := by
 have : ((blocksOf (part Try.f30 [1,1,1,1,1,0,1,0,0])).filter fun x => Nat.beq x.1 2) = [(2, .loop (part Try.f30 [1,1,1,1,1,0,1,0,0,1,0,1,0,1,0,0]))] := by kernel_rfl
 intro b hb
 have hm : (2, b) ∈ ((blocksOf (part Try.f30 [1,1,1,1,1,0,1,0,0])).filter fun x => Nat.beq x.1 2) := List.mem_filter.2 ⟨hb, rfl⟩
 rw [this] at hm; simpa using hm
section
variable (n : Nat) (w : Int) (ls ld : Nat) (zs zd z y : Nat → Int) (H : Heap) (p q a : Int) (v m : Nat) (sure : Bool)
theorem l30ia (h : chkB w ls ld zs zd = 0) (ha : -2 ≤ a ∧ a < ls) (hz : ∀ j, 0 ≤ z j ∧ z j ≤ 1000) : exec (cxD (n + 8) 30 90) (.block 2 (.loop (part Try.f30 [1,1,1,1,1,0,1,0,0,1,0,1,0,1,0,0]))) (fr30i (o30a v m) (ls + 2) z q a sure (-3) (-2)) (lv30 w ls ld zs zd (r30a p v m y) :: H) =
 some (.normal, fr30i (o30a v m) (ls + 2) z q a sure (rX z (hlF w ld zs zd sure) a (ls + 2)) (Int.ofNat ls) ++ [(44, .bool false)], lv30 w ls ld zs zd (r30a p v m y) :: H) := by
 have c := chk_ok h
 have := forX (n := n + 8) (f := 30) (nt := 90) (c := part Try.f30 [1,1,1,1,1,0,1,0,0,1,0,1,0,1,0,0]) 2 (fun j => fr30i (o30a v m) (ls + 2) z q a sure (rX z (hlF w ld zs zd sure) a j) ((j : Int) - 2)) (fun _ => lv30 w ls ld zs zd (r30a p v m y) :: H) (ls + 2) (fr30i (o30a v m) (ls + 2) z q a sure (rX z (hlF w ld zs zd sure) a (ls + 2)) (Int.ofNat ls) ++ [(44, .bool false)], lv30 w ls ld zs zd (r30a p v m y) :: H) (by omega) (fun j hj => ?_) ?_
 · exact this
 · have ej : addI .i64 ((j : Int) - 2) (Int.ofNat 1) = ((j + 1 : Nat) : Int) - 2 := by rw [addI_eq, show Int.ofNat 1 = 1 from rfl, wr_64 (by omega) (by omega)]; omega
   have e2 : addI .i64 ((j : Int) - 2) (Int.ofNat 2) = (j : Int) := by rw [addI_eq, show Int.ofNat 2 = 2 from rfl, wr_64 (by omega) (by omega)]; omega
   have e3 : addI .i64 a (Int.ofNat 2) = a + 2 := by rw [addI_eq, show Int.ofNat 2 = 2 from rfl, wr_64 (by omega) (by omega)]
   have e4 : idO 0 (a + 2) 1 = (a + 2).toNat := by rw [idO_eq]; omega
   have e5 : idO 0 (j : Int) 1 = j := by rw [idO_eq]; omega
   have hza := hz (a + 2).toNat
   have e6 : subI .i64 (z (a + 2).toNat) (Int.ofNat 1) = z (a + 2).toNat - 1 := by rw [subI_eq, show Int.ofNat 1 = 1 from rfl, wr_64 (by omega) (by omega)]
   have e7 : Int.negSucc 2 = -3 := rfl
   have q3 : isPl ls a = true := by simp [isPl]; omega
   have q4 : isPl ls ((j : Int) - 2) = true := by simp [isPl]; omega
   have hs : rC z (hlF w ld zs zd sure) a j = (decide ((j : Int) - 2 ≠ a) && (decide (z j = z (a + 2).toNat - 1) && (decide (0 < z j) && hlF w ld zs zd sure a ((j : Int) - 2)))) := rfl
   have hx : rX z (hlF w ld zs zd sure) a (j + 1) = if rX z (hlF w ld zs zd sure) a j = -3 ∧ rC z (hlF w ld zs zd sure) a j = true then (j : Int) - 2 else rX z (hlF w ld zs zd sure) a j := rfl
   rw [hx]
   clear hx
   generalize rX z (hlF w ld zs zd sure) a j = x at *
   refine ex_all (t30ia n w ls ld (ls + 2) zs zd z y H p q a x ((j : Int) - 2) v m sure (fun p q => isPl ls p = true ∧ isPl ls q = true) (hlF w ld zs zd sure)) (il82w n w ls ld zs zd sure h) (noBT_ok _ _) (noRT_ok _ _) ?_
   rw [ej, e2, e3, e4, e5, e6, e7]
   repeat' first | (refine Tr.all_ite (fun hc => ?_) (fun hc => ?_) <;> (try simp (disch := omega) only [nV, mulO_eq, Int.cast_ofNat_Int, eq_self, q3, q4, and_true, and_self] at hc) <;> (try (exfalso; omega))) | (refine Tr.all_req ?_ ?_; · ((try simp (disch := omega) only [nV, mulO_eq, Int.cast_ofNat_Int, eq_self, q3, q4, and_true, and_self]); try omega)) | (refine Tr.all_reqP ?_ ?_; · first | exact trivial | rfl | exact ⟨rfl, rfl⟩ | exact ⟨rfl, rfl, rfl⟩ | (simp (disch := omega) only [nV, mulO_eq, Int.cast_ofNat_Int, eq_self, q3, q4, and_true, and_self]; done) | ((try simp (disch := omega) only [nV, mulO_eq, Int.cast_ofNat_Int, eq_self, q3, q4, and_true, and_self]); omega)) | fail
   all_goals refine Tr.all_ok ⟨rfl, ?_⟩
   all_goals first
    | (rw [if_pos ⟨by assumption, by rw [hs]; simp only [Bool.and_eq_true, decide_eq_true_eq]; exact ⟨by omega, by omega, by omega, by assumption⟩⟩]; rfl)
    | (rw [if_neg (fun hx => by
        obtain ⟨x1, x2⟩ := hx
        rw [hs] at x2
        simp only [Bool.and_eq_true, decide_eq_true_eq] at x2
        obtain ⟨x2, x3, x4, x5⟩ := x2
        first | omega | simp_all)]; rfl)
    | fail
 · have em : ((ls + 2 : Nat) : Int) - 2 = Int.ofNat ls := by rw [ofNat_cast]; omega
   rw [em]
   generalize rX z (hlF w ld zs zd sure) a (ls + 2) = x at *
   obtain ⟨u, h1, rfl⟩ := ex_all (Q := fun u => u = (.exit 2, fr30i (o30a v m) (ls + 2) z q a sure x (Int.ofNat ls) ++ [(44, .bool false)], lv30 w ls ld zs zd (r30a p v m y) :: H)) (t30ia n w ls ld (ls + 2) zs zd z y H p q a x (Int.ofNat ls) v m sure (fun p q => isPl ls p = true ∧ isPl ls q = true) (hlF w ld zs zd sure)) (il82w n w ls ld zs zd sure h) (noBT_ok _ _) (noRT_ok _ _) (by
    repeat' first | (refine Tr.all_ite (fun hc => ?_) (fun hc => ?_) <;> (try simp (disch := omega) only [nV, mulO_eq, Int.cast_ofNat_Int, eq_self] at hc) <;> (try (exfalso; omega))) | (refine Tr.all_req ?_ ?_; · ((try simp (disch := omega) only [nV, mulO_eq, Int.cast_ofNat_Int, eq_self]); try omega)) | (refine Tr.all_reqP ?_ ?_; · first | exact trivial | rfl | exact ⟨rfl, rfl⟩ | exact ⟨rfl, rfl, rfl⟩ | (simp (disch := omega) only [nV, mulO_eq, Int.cast_ofNat_Int, eq_self]; done) | ((try simp (disch := omega) only [nV, mulO_eq, Int.cast_ofNat_Int, eq_self]); omega)) | fail
    exact Tr.all_ok rfl)
   exact h1
theorem l30ib (h : chkB w ls ld zs zd = 0) (ha : -2 ≤ a ∧ a < ls) (hz : ∀ j, 0 ≤ z j ∧ z j ≤ 1000) : exec (cxD (n + 8) 30 90) (.block 2 (.loop (part Try.f30 [1,1,1,1,1,0,1,0,0,1,0,1,0,1,0,0]))) (fr30i (o30b v m) (ls + 2) z q a sure (-3) (-2)) (lv30 w ls ld zs zd (r30b p v m y) :: H) =
 some (.normal, fr30i (o30b v m) (ls + 2) z q a sure (rX z (hlF w ld zs zd sure) a (ls + 2)) (Int.ofNat ls) ++ [(44, .bool false)], lv30 w ls ld zs zd (r30b p v m y) :: H) := by
 have c := chk_ok h
 have := forX (n := n + 8) (f := 30) (nt := 90) (c := part Try.f30 [1,1,1,1,1,0,1,0,0,1,0,1,0,1,0,0]) 2 (fun j => fr30i (o30b v m) (ls + 2) z q a sure (rX z (hlF w ld zs zd sure) a j) ((j : Int) - 2)) (fun _ => lv30 w ls ld zs zd (r30b p v m y) :: H) (ls + 2) (fr30i (o30b v m) (ls + 2) z q a sure (rX z (hlF w ld zs zd sure) a (ls + 2)) (Int.ofNat ls) ++ [(44, .bool false)], lv30 w ls ld zs zd (r30b p v m y) :: H) (by omega) (fun j hj => ?_) ?_
 · exact this
 · have ej : addI .i64 ((j : Int) - 2) (Int.ofNat 1) = ((j + 1 : Nat) : Int) - 2 := by rw [addI_eq, show Int.ofNat 1 = 1 from rfl, wr_64 (by omega) (by omega)]; omega
   have e2 : addI .i64 ((j : Int) - 2) (Int.ofNat 2) = (j : Int) := by rw [addI_eq, show Int.ofNat 2 = 2 from rfl, wr_64 (by omega) (by omega)]; omega
   have e3 : addI .i64 a (Int.ofNat 2) = a + 2 := by rw [addI_eq, show Int.ofNat 2 = 2 from rfl, wr_64 (by omega) (by omega)]
   have e4 : idO 0 (a + 2) 1 = (a + 2).toNat := by rw [idO_eq]; omega
   have e5 : idO 0 (j : Int) 1 = j := by rw [idO_eq]; omega
   have hza := hz (a + 2).toNat
   have e6 : subI .i64 (z (a + 2).toNat) (Int.ofNat 1) = z (a + 2).toNat - 1 := by rw [subI_eq, show Int.ofNat 1 = 1 from rfl, wr_64 (by omega) (by omega)]
   have e7 : Int.negSucc 2 = -3 := rfl
   have q3 : isPl ls a = true := by simp [isPl]; omega
   have q4 : isPl ls ((j : Int) - 2) = true := by simp [isPl]; omega
   have hs : rC z (hlF w ld zs zd sure) a j = (decide ((j : Int) - 2 ≠ a) && (decide (z j = z (a + 2).toNat - 1) && (decide (0 < z j) && hlF w ld zs zd sure a ((j : Int) - 2)))) := rfl
   have hx : rX z (hlF w ld zs zd sure) a (j + 1) = if rX z (hlF w ld zs zd sure) a j = -3 ∧ rC z (hlF w ld zs zd sure) a j = true then (j : Int) - 2 else rX z (hlF w ld zs zd sure) a j := rfl
   rw [hx]
   clear hx
   generalize rX z (hlF w ld zs zd sure) a j = x at *
   refine ex_all (t30ib n w ls ld (ls + 2) zs zd z y H p q a x ((j : Int) - 2) v m sure (fun p q => isPl ls p = true ∧ isPl ls q = true) (hlF w ld zs zd sure)) (il82w n w ls ld zs zd sure h) (noBT_ok _ _) (noRT_ok _ _) ?_
   rw [ej, e2, e3, e4, e5, e6, e7]
   repeat' first | (refine Tr.all_ite (fun hc => ?_) (fun hc => ?_) <;> (try simp (disch := omega) only [nV, mulO_eq, Int.cast_ofNat_Int, eq_self, q3, q4, and_true, and_self] at hc) <;> (try (exfalso; omega))) | (refine Tr.all_req ?_ ?_; · ((try simp (disch := omega) only [nV, mulO_eq, Int.cast_ofNat_Int, eq_self, q3, q4, and_true, and_self]); try omega)) | (refine Tr.all_reqP ?_ ?_; · first | exact trivial | rfl | exact ⟨rfl, rfl⟩ | exact ⟨rfl, rfl, rfl⟩ | (simp (disch := omega) only [nV, mulO_eq, Int.cast_ofNat_Int, eq_self, q3, q4, and_true, and_self]; done) | ((try simp (disch := omega) only [nV, mulO_eq, Int.cast_ofNat_Int, eq_self, q3, q4, and_true, and_self]); omega)) | fail
   all_goals refine Tr.all_ok ⟨rfl, ?_⟩
   all_goals first
    | (rw [if_pos ⟨by assumption, by rw [hs]; simp only [Bool.and_eq_true, decide_eq_true_eq]; exact ⟨by omega, by omega, by omega, by assumption⟩⟩]; rfl)
    | (rw [if_neg (fun hx => by
        obtain ⟨x1, x2⟩ := hx
        rw [hs] at x2
        simp only [Bool.and_eq_true, decide_eq_true_eq] at x2
        obtain ⟨x2, x3, x4, x5⟩ := x2
        first | omega | simp_all)]; rfl)
    | fail
 · have em : ((ls + 2 : Nat) : Int) - 2 = Int.ofNat ls := by rw [ofNat_cast]; omega
   rw [em]
   generalize rX z (hlF w ld zs zd sure) a (ls + 2) = x at *
   obtain ⟨u, h1, rfl⟩ := ex_all (Q := fun u => u = (.exit 2, fr30i (o30b v m) (ls + 2) z q a sure x (Int.ofNat ls) ++ [(44, .bool false)], lv30 w ls ld zs zd (r30b p v m y) :: H)) (t30ib n w ls ld (ls + 2) zs zd z y H p q a x (Int.ofNat ls) v m sure (fun p q => isPl ls p = true ∧ isPl ls q = true) (hlF w ld zs zd sure)) (il82w n w ls ld zs zd sure h) (noBT_ok _ _) (noRT_ok _ _) (by
    repeat' first | (refine Tr.all_ite (fun hc => ?_) (fun hc => ?_) <;> (try simp (disch := omega) only [nV, mulO_eq, Int.cast_ofNat_Int, eq_self] at hc) <;> (try (exfalso; omega))) | (refine Tr.all_req ?_ ?_; · ((try simp (disch := omega) only [nV, mulO_eq, Int.cast_ofNat_Int, eq_self]); try omega)) | (refine Tr.all_reqP ?_ ?_; · first | exact trivial | rfl | exact ⟨rfl, rfl⟩ | exact ⟨rfl, rfl, rfl⟩ | (simp (disch := omega) only [nV, mulO_eq, Int.cast_ofNat_Int, eq_self]; done) | ((try simp (disch := omega) only [nV, mulO_eq, Int.cast_ofNat_Int, eq_self]); omega)) | fail
    exact Tr.all_ok rfl)
   exact h1
noncomputable def fr30S (N : Nat) (z : Nat → Int) (q : Int) (sure : Bool) (A : Nat → Int) : Nat → Frm
 | 0 => fr30 (o30a 0 0) N z q (A 0) sure
 | k + 1 => fr30 (o30b k (k + 2)) N z q (A (k + 1)) sure
noncomputable def lv30S (w : Int) (ls ld : Nat) (zs zd : Nat → Int) (p : Int) (A : Nat → Int) (y : Nat → Int) : Nat → Lvl
 | 0 => lv30 w ls ld zs zd (r30a p 0 0 y)
 | k + 1 => lv30 w ls ld zs zd (r30b p k (k + 2) (lstO (wLs A (k + 1))))
theorem l30 (h : chkB w ls ld zs zd = 0) (hz : ∀ j, 0 ≤ z j ∧ z j ≤ 1000) (M : Nat) (hM : M + 1 ≤ 900) (hA : ∀ k, k < M + 1 → -2 ≤ rAt z (hlF w ld zs zd sure) ls p k ∧ rAt z (hlF w ld zs zd sure) ls p k < ls ∧ rAt z (hlF w ld zs zd sure) ls p k ≠ q) (hE : rAt z (hlF w ld zs zd sure) ls p (M + 1) = q) :
 exec (cxD (n + 8) 30 90) (.block 0 (.loop (part Try.f30 [1,1,1,1,1,0,1,0,0]))) (fr30 (o30a 0 0) (ls + 2) z q p sure) (lv30 w ls ld zs zd (r30a p 0 0 y) :: H) =
 some (.normal, fr30 (o30b M (M + 2)) (ls + 2) z q q sure ++ [(39, .bool false)], lv30 w ls ld zs zd (r30b p M (M + 2) (lstO (wLs (rAt z (hlF w ld zs zd sure) ls p) (M + 1)))) :: H) := by
 have := forX (n := n + 8) (f := 30) (nt := 90) (c := part Try.f30 [1,1,1,1,1,0,1,0,0]) 0 (fr30S (ls + 2) z q sure (rAt z (hlF w ld zs zd sure) ls p)) (fun k => lv30S w ls ld zs zd p (rAt z (hlF w ld zs zd sure) ls p) y k :: H) (M + 1) (fr30 (o30b M (M + 2)) (ls + 2) z q q sure ++ [(39, .bool false)], lv30 w ls ld zs zd (r30b p M (M + 2) (lstO (wLs (rAt z (hlF w ld zs zd sure) ls p) (M + 1)))) :: H) (by omega) (fun k hk => ?_) ?_
 · exact this
 · obtain ⟨a1, a2, a3⟩ := hA k hk
   have eA : rAt z (hlF w ld zs zd sure) ls p (k + 1) = rX z (hlF w ld zs zd sure) (rAt z (hlF w ld zs zd sure) ls p k) (ls + 2) := rfl
   have eL : wLs (rAt z (hlF w ld zs zd sure) ls p) (k + 1) = wLs (rAt z (hlF w ld zs zd sure) ls p) k ++ [rAt z (hlF w ld zs zd sure) ls p (k + 1)] := rfl
   have hlen := wLs_len (rAt z (hlF w ld zs zd sure) ls p) k
   cases k with
   | zero =>
     have lk := l30ia n w ls ld zs zd z y H p q (rAt z (hlF w ld zs zd sure) ls p 0) 0 0 sure h ⟨a1, a2⟩ hz
     rw [← eA] at lk
     have e2 : wLs (rAt z (hlF w ld zs zd sure) ls p) (0 + 1) = [p, rAt z (hlF w ld zs zd sure) ls p (0 + 1)] := rfl
     have lk : exec (cxD (n + 8) 30 90) (.block 2 (.loop (part Try.f30 [1,1,1,1,1,0,1,0,0,1,0,1,0,1,0,0]))) (fr30i (o30a 0 0) (ls + 2) z q p sure (-3) (-2)) (lv30 w ls ld zs zd (r30a p 0 0 y) :: H) = some (.normal, fr30i (o30a 0 0) (ls + 2) z q p sure (rAt z (hlF w ld zs zd sure) ls p (0 + 1)) (Int.ofNat ls) ++ [(44, .bool false)], lv30 w ls ld zs zd (r30a p 0 0 y) :: H) := lk
     have a3 : p ≠ q := a3
     show ∃ x, exec (cxD (n + 8) 30 90) (part Try.f30 [1,1,1,1,1,0,1,0,0]) (strip (fr30h (ls + 2) z q p sure)) (lv30 w ls ld zs zd (r30a p 0 0 y) :: H) = some x ∧ (x.1 = .normal ∧ tidy 2 x.2.1 x.2.2 = (fr30 (o30b 0 2) (ls + 2) z q (rAt z (hlF w ld zs zd sure) ls p (0 + 1)) sure, lv30 w ls ld zs zd (r30b p 0 2 (lstO (wLs (rAt z (hlF w ld zs zd sure) ls p) (0 + 1)))) :: H))
     rw [e2]
     generalize rAt z (hlF w ld zs zd sure) ls p (0 + 1) = x at *
     refine ex_allR (t30oa n w ls ld (ls + 2) zs zd z y H p q p x 0 0 sure) (il_no (n + 8) 0) (blkE_ok (noBT_ok _ _) b30i (fun u hu => by rw [← Tr.ok_some hu]; simp only [Res.st, hints_eq]; exact lk)) (noRT_ok _ _) ?_
     repeat' first | (refine Tr.all_ite (fun hc => ?_) (fun hc => ?_) <;> (try simp (disch := omega) only [nV, mulO_eq, Int.cast_ofNat_Int, eq_self] at hc) <;> (try (exfalso; omega))) | (refine Tr.all_req ?_ ?_; · ((try simp (disch := omega) only [nV, mulO_eq, Int.cast_ofNat_Int, eq_self]); try omega)) | (refine Tr.all_reqP ?_ ?_; · first | exact trivial | rfl | exact ⟨rfl, rfl⟩ | exact ⟨rfl, rfl, rfl⟩ | (simp (disch := omega) only [nV, mulO_eq, Int.cast_ofNat_Int, eq_self]; done) | ((try simp (disch := omega) only [nV, mulO_eq, Int.cast_ofNat_Int, eq_self]); omega)) | fail
     refine Tr.all_ok ⟨rfl, ?_⟩
     simp only [addO_eq]
     rfl
   | succ k =>
     have lk := l30ib n w ls ld zs zd z (lstO (wLs (rAt z (hlF w ld zs zd sure) ls p) (k + 1))) H p q (rAt z (hlF w ld zs zd sure) ls p (k + 1)) k (k + 2) sure h ⟨a1, a2⟩ hz
     rw [← eA] at lk
     have la := lst_app (wLs (rAt z (hlF w ld zs zd sure) ls p) (k + 1)) (rAt z (hlF w ld zs zd sure) ls p (k + 1 + 1))
     rw [hlen] at la
     show ∃ x, exec (cxD (n + 8) 30 90) (part Try.f30 [1,1,1,1,1,0,1,0,0]) (fr30 (o30b k (k + 2)) (ls + 2) z q (rAt z (hlF w ld zs zd sure) ls p (k + 1)) sure) (lv30 w ls ld zs zd (r30b p k (k + 2) (lstO (wLs (rAt z (hlF w ld zs zd sure) ls p) (k + 1)))) :: H) = some x ∧ (x.1 = .normal ∧ tidy 2 x.2.1 x.2.2 = (fr30 (o30b (k + 1) (k + 1 + 2)) (ls + 2) z q (rAt z (hlF w ld zs zd sure) ls p (k + 1 + 1)) sure, lv30 w ls ld zs zd (r30b p (k + 1) (k + 1 + 2) (lstO (wLs (rAt z (hlF w ld zs zd sure) ls p) (k + 1 + 1)))) :: H))
     rw [eL, ← la]
     generalize rAt z (hlF w ld zs zd sure) ls p (k + 1 + 1) = x at *
     generalize rAt z (hlF w ld zs zd sure) ls p (k + 1) = a at *
     generalize lstO (wLs (rAt z (hlF w ld zs zd sure) ls p) (k + 1)) = y2 at *
     refine ex_all (t30ob n w ls ld (ls + 2) zs zd z y2 H p q a x k (k + 2) sure) (il_no (n + 8) 0) (blkE_ok (noBT_ok _ _) b30i (fun u hu => by rw [← Tr.ok_some hu]; simp only [Res.st, hints_eq]; exact lk)) (noRT_ok _ _) ?_
     repeat' first | (refine Tr.all_ite (fun hc => ?_) (fun hc => ?_) <;> (try simp (disch := omega) only [nV, mulO_eq, Int.cast_ofNat_Int, eq_self] at hc) <;> (try (exfalso; omega))) | (refine Tr.all_req ?_ ?_; · ((try simp (disch := omega) only [nV, mulO_eq, Int.cast_ofNat_Int, eq_self]); try omega)) | (refine Tr.all_reqP ?_ ?_; · first | exact trivial | rfl | exact ⟨rfl, rfl⟩ | exact ⟨rfl, rfl, rfl⟩ | (simp (disch := omega) only [nV, mulO_eq, Int.cast_ofNat_Int, eq_self]; done) | ((try simp (disch := omega) only [nV, mulO_eq, Int.cast_ofNat_Int, eq_self]); omega)) | fail
     refine Tr.all_ok ⟨rfl, ?_⟩
     simp only [addO_eq, shO_zero]
     rfl
 · show exec (cxD (n + 8) 30 90) (part Try.f30 [1,1,1,1,1,0,1,0,0]) (fr30 (o30b M (M + 2)) (ls + 2) z q (rAt z (hlF w ld zs zd sure) ls p (M + 1)) sure) (lv30 w ls ld zs zd (r30b p M (M + 2) (lstO (wLs (rAt z (hlF w ld zs zd sure) ls p) (M + 1)))) :: H) = _
   rw [hE]
   generalize lstO (wLs (rAt z (hlF w ld zs zd sure) ls p) (M + 1)) = y2 at *
   obtain ⟨x, h3, rfl⟩ := ex_all (Q := fun x => x = (.exit 0, fr30 (o30b M (M + 2)) (ls + 2) z q q sure ++ [(39, .bool false)], lv30 w ls ld zs zd (r30b p M (M + 2) y2) :: H)) (t30e n w ls ld (ls + 2) zs zd z y2 H p q q M (M + 2) sure) (il_no (n + 8) 0) (stopB_ok (noBT_ok _ _) 2) (noRT_ok _ _) (by
    repeat' first | (refine Tr.all_ite (fun hc => ?_) (fun hc => ?_) <;> (try simp (disch := omega) only [nV, mulO_eq, Int.cast_ofNat_Int, eq_self] at hc) <;> (try (exfalso; omega))) | (refine Tr.all_req ?_ ?_; · ((try simp (disch := omega) only [nV, mulO_eq, Int.cast_ofNat_Int, eq_self]); try omega)) | (refine Tr.all_reqP ?_ ?_; · first | exact trivial | rfl | exact ⟨rfl, rfl⟩ | exact ⟨rfl, rfl, rfl⟩ | (simp (disch := omega) only [nV, mulO_eq, Int.cast_ofNat_Int, eq_self]; done) | ((try simp (disch := omega) only [nV, mulO_eq, Int.cast_ofNat_Int, eq_self]); omega)) | fail
    all_goals exact Tr.all_ok rfl)
   exact h3
theorem ct30 (k : Nat) (e : Int) (he : e = plE w ls ld zs zd p q) {t : Ctr} (ht : t.Ok (cd (n + 8 + k))) : (ctG t 70 (g70 (bathA w ls zs ld zd) p q e)).Ok (cd (n + 8 + k)) := by
 subst he
 refine ctG_ok ht (fun args p v hg hp H => ?_)
 unfold g70 at hg
 split at hg
 · simp only [Option.some.injEq, Prod.mk.injEq] at hg
   obtain ⟨rfl, rfl⟩ := hg
   obtain ⟨rfl, rfl, rfl⟩ := hp
   rw [show n + 8 + k = n + 3 + k + 5 by omega]
   exact c70 _ w ls ld zs zd H _ _
 · cases hg
theorem ct81 (k : Nat) (h : chkB w ls ld zs zd = 0) (hq : -2 ≤ q ∧ q < ls) {t : Ctr} (ht : t.Ok (cd (n + 8 + k))) : (ctG t 81 (g81 (bathA w ls zs ld zd) q sure (sl1 (ls + 2) (stZ w ls ld zs zd sure q) true))).Ok (cd (n + 8 + k)) := by
 refine ctG_ok ht (fun args p v hg hp H => ?_)
 unfold g81 at hg
 split at hg
 · simp only [Option.some.injEq, Prod.mk.injEq] at hg
   obtain ⟨rfl, rfl⟩ := hg
   obtain ⟨rfl, rfl, rfl⟩ := hp
   rw [show n + 8 + k = n + 1 + k + 7 by omega]
   exact c81 _ w ls ld zs zd H _ h _ hq
 · cases hg
theorem c30x (he : plE w ls ld zs zd p q ≠ 0) : cd (n + 9) (.fn 30) [bathA w ls zs ld zd, .int .i64 p, .int .i64 q, .bool sure] H = some (.tup [.nils, .int .i64 (plE w ls ld zs zd p q)], H) := by
 refine fn_all (n := n + 8) Try.func30 rfl rfl rfl (u30x n w ls ld zs zd H p q (plE w ls ld zs zd p q) sure) (il_ok _ (n + 8) 0 (fun k => ctG_ok (ct30 n w ls ld zs zd p q k _ rfl (noCt_ok _)) (fun args p v hg hp H => by cases hg))) (stopB_ok (noBT_ok _ _) 0) (noRT_ok _ _) ?_
 repeat' first | (refine Tr.all_ite (fun hc => ?_) (fun hc => ?_) <;> (try simp (disch := omega) only [nV, mulO_eq, Int.cast_ofNat_Int, eq_self] at hc) <;> (try (exfalso; omega))) | (refine Tr.all_req ?_ ?_; · ((try simp (disch := omega) only [nV, mulO_eq, Int.cast_ofNat_Int, eq_self]); try omega)) | (refine Tr.all_reqP ?_ ?_; · first | exact trivial | rfl | exact ⟨rfl, rfl⟩ | exact ⟨rfl, rfl, rfl⟩ | (simp (disch := omega) only [nV, mulO_eq, Int.cast_ofNat_Int, eq_self]; done) | ((try simp (disch := omega) only [nV, mulO_eq, Int.cast_ofNat_Int, eq_self]); omega)) | fail
 all_goals exact Tr.all_ok ⟨rfl, rfl⟩
theorem c30n (he : plE w ls ld zs zd p q = 0) (h0 : stZ w ls ld zs zd sure q (p + 2).toNat = 0) : cd (n + 9) (.fn 30) [bathA w ls zs ld zd, .int .i64 p, .int .i64 q, .bool sure] H = some (.tup [.nils, .int .i64 5], H) := by
 obtain ⟨h, h1, h2, h3⟩ := plE_zero he
 simp only [isPl, Bool.and_eq_true, decide_eq_true_eq] at h1 h2
 have c := chk_ok h
 have e3 : addI .i64 p (Int.ofNat 2) = p + 2 := by rw [addI_eq, show Int.ofNat 2 = 2 from rfl, wr_64 (by omega) (by omega)]
 have e4 : idO 0 (p + 2) 1 = (p + 2).toNat := by rw [idO_eq]; omega
 refine fn_all (n := n + 8) Try.func30 rfl rfl rfl (u30n n w ls ld (ls + 2) zs zd (stZ w ls ld zs zd sure q) H p q sure) (il_ok _ (n + 8) 0 (fun k => ct81 n w ls ld zs zd q sure k h h2 (ct30 n w ls ld zs zd p q k _ he.symm (noCt_ok _)))) (stopB_ok (noBT_ok _ _) 0) (noRT_ok _ _) ?_
 rw [e3, e4]
 repeat' first | (refine Tr.all_ite (fun hc => ?_) (fun hc => ?_) <;> (try simp (disch := omega) only [nV, mulO_eq, Int.cast_ofNat_Int, eq_self, h0, and_self, and_true] at hc) <;> (try (exfalso; omega))) | (refine Tr.all_req ?_ ?_; · ((try simp (disch := omega) only [nV, mulO_eq, Int.cast_ofNat_Int, eq_self, h0, and_self, and_true]); try omega)) | (refine Tr.all_reqP ?_ ?_; · first | exact trivial | rfl | exact ⟨rfl, rfl⟩ | exact ⟨rfl, rfl, rfl⟩ | (simp (disch := omega) only [nV, mulO_eq, Int.cast_ofNat_Int, eq_self, h0, and_self, and_true]; done) | ((try simp (disch := omega) only [nV, mulO_eq, Int.cast_ofNat_Int, eq_self, h0, and_self, and_true]); omega)) | fail
 all_goals exact Tr.all_ok ⟨rfl, rfl⟩
theorem c30y (he : plE w ls ld zs zd p q = 0) (hz : ∀ j, 0 ≤ stZ w ls ld zs zd sure q j ∧ stZ w ls ld zs zd sure q j ≤ 1000) (h0 : stZ w ls ld zs zd sure q (p + 2).toNat ≠ 0) (M : Nat) (hM : M + 1 ≤ 900) (hA : ∀ k, k < M + 1 → -2 ≤ rAt (stZ w ls ld zs zd sure q) (hlF w ld zs zd sure) ls p k ∧ rAt (stZ w ls ld zs zd sure q) (hlF w ld zs zd sure) ls p k < ls ∧ rAt (stZ w ls ld zs zd sure q) (hlF w ld zs zd sure) ls p k ≠ q) (hE : rAt (stZ w ls ld zs zd sure q) (hlF w ld zs zd sure) ls p (M + 1) = q) :
 cd (n + 9) (.fn 30) [bathA w ls zs ld zd, .int .i64 p, .int .i64 q, .bool sure] H = some (.tup [sl1 (M + 2) (lstO (wLs (rAt (stZ w ls ld zs zd sure q) (hlF w ld zs zd sure) ls p) (M + 1))) false, .int .i64 0], H) := by
 obtain ⟨h, h1, h2, h3⟩ := plE_zero he
 simp only [isPl, Bool.and_eq_true, decide_eq_true_eq] at h1 h2
 have c := chk_ok h
 have e3 : addI .i64 p (Int.ofNat 2) = p + 2 := by rw [addI_eq, show Int.ofNat 2 = 2 from rfl, wr_64 (by omega) (by omega)]
 have e4 : idO 0 (p + 2) 1 = (p + 2).toNat := by rw [idO_eq]; omega
 have l := l30 n w ls ld zs zd (stZ w ls ld zs zd sure q) (fun _ => 0) H p q sure h hz M hM hA hE
 refine fn_all (n := n + 8) Try.func30 rfl rfl rfl (u30y n w ls ld (ls + 2) M (M + 2) zs zd (stZ w ls ld zs zd sure q) (lstO (wLs (rAt (stZ w ls ld zs zd sure q) (hlF w ld zs zd sure) ls p) (M + 1))) H p q sure) (il_ok _ (n + 8) 0 (fun k => ct81 n w ls ld zs zd q sure k h h2 (ct30 n w ls ld zs zd p q k _ he.symm (noCt_ok _)))) (blkE_ok (noBT_ok _ _) b30 (fun x hx => ?_)) (noRT_ok _ _) ?_
 · refine Eq.trans l ?_
   rw [← Tr.ok_some hx]; simp only [Res.st, hints_eq]
 · rw [e3, e4]
   repeat' first | (refine Tr.all_ite (fun hc => ?_) (fun hc => ?_) <;> (try simp (disch := omega) only [nV, mulO_eq, Int.cast_ofNat_Int, eq_self, h0, and_self, and_true] at hc) <;> (try (exfalso; omega))) | (refine Tr.all_req ?_ ?_; · ((try simp (disch := omega) only [nV, mulO_eq, Int.cast_ofNat_Int, eq_self, h0, and_self, and_true]); try omega)) | (refine Tr.all_reqP ?_ ?_; · first | exact trivial | rfl | exact ⟨rfl, rfl⟩ | exact ⟨rfl, rfl, rfl⟩ | (simp (disch := omega) only [nV, mulO_eq, Int.cast_ofNat_Int, eq_self, h0, and_self, and_true]; done) | ((try simp (disch := omega) only [nV, mulO_eq, Int.cast_ofNat_Int, eq_self, h0, and_self, and_true]); omega)) | fail
   all_goals first
    | (refine Tr.all_ok ⟨?_, rfl⟩; rw [shO_zero]; rfl)
    | (refine Tr.all_ok ⟨rfl, rfl⟩)
    | fail
end
end Go.Eng
