/- Drop: groups, as they are defined; lists that are equal. -/
import Derived.Test.YtjmjkhpfipglcaaV9Kb
namespace Go.Eng
open Go.Proofs
set_option linter.unusedVariables false
set_option linter.unusedSimpArgs false
set_option maxRecDepth 100000
noncomputable def slF (m : Nat) (f1 : Nat → Nat → Int) (f2 : Nat → Nat) : AV := .slcT none (.F (fun j => sl1 (f2 j) (f1 j) false) m) 1 m false
noncomputable def lv37 (w : Int) (ls ld : Nat) (zs zd : Nat → Int) (v m : Nat) (f1 : Nat → Nat → Int) (f2 : Nat → Nat) : Lvl := ⟨false, [(0, .row (.G [.int .i64 w, slA 2 ls zs, slA 3 ld zd])), (v, .row (.F (fun j => sl1 (f2 j) (f1 j) false) m))]⟩
noncomputable def fr37 (sure : Bool) (l : AV) (p : Int) : Frm := [(1, .bool sure), (2, .ptr 0 0 0 0), (6, l), (7, .int .i64 p)]
noncomputable def fr31 (m k : Nat) (z y : Nat → Int) (a b : Bool) (j : Int) : Frm := [(0, sl1 m z a), (1, sl1 k y b), (5, .int .i64 j)]
noncomputable def fr38 (a b : AV) (j : Int) : Frm := [(0, a), (1, b), (5, .int .i64 j)]
noncomputable def g31 (same : Nat → (Nat → Int) → Nat → (Nat → Int) → Prop) : List AV → Option (Prop × AV)
 | [.slcT none (.M [.arr .i64 z N]) 1 m a, .slcT none (.M [.arr .i64 y K]) 1 k b] => some (N = m ∧ K = k ∧ same m z k y, .bool true)
 | _ => none
theorem t37a (n : Nat) (w : Int) (ls ld k : Nat) (zs zd y : Nat → Int) (H : Heap) (p : Int) (sure : Bool) (side : Prop) (ev : Bool → AV) (sm : AV → Int → Int) : execT (cxD (n+8) 37 45) (il (ctG (ctG (ctG noCt 61 (g61 (bathA w ls zs ld zd) side ev)) 45 (g45 (bathA w ls zs ld zd) side ev sm)) 89 (g81 (bathA w ls zs ld zd) p sure (sl1 k y false))) (n+8) 0) noBT noRT (part Try.f37 [1,1,1,0,1,0,0]) (hints (fr37 sure .nils p)) (lvB w ls ld zs zd :: H) =
 (fun (Z0 : Lvl) => ((fun (Z1 : HFrm) => ((fun (Z2 : HFrm) => Tr.ite (ltI p (Int.ofNat ls)) (Tr.ite (leI (Int.ofNat 0) p) (Tr.reqP (bathA w ls zs ld zd = bathA w ls zs ld zd ∧ side) (Tr.reqP (bathA w ls zs ld zd = bathA w ls zs ld zd ∧ side ∧ (ev false = ev false ∨ ev false = ev true)) (Tr.ite (eqI (sm (ev false) p) (Int.ofNat 0)) (Tr.ok (Ex.normal, Z1, lvB w ls ld zs zd :: H)) (Tr.reqP (bathA w ls zs ld zd = bathA w ls zs ld zd ∧ p = p ∧ sure = sure) (Tr.req (inI (Int.ofNat 0) k) (Tr.req (ltN 0 k) (Tr.ite (eqI (y 0) p) (Tr.req (roomO 0 1 24) (Tr.req (leN 1 1) (Tr.ok (Ex.normal, Z2, Z0 :: H)))) (Tr.ok (Ex.normal, Z1, lvB w ls ld zs zd :: H))))))))) (Tr.reqP (bathA w ls zs ld zd = bathA w ls zs ld zd ∧ p = p ∧ sure = sure) (Tr.req (inI (Int.ofNat 0) k) (Tr.req (ltN 0 k) (Tr.ite (eqI (y 0) p) (Tr.req (roomO 0 1 24) (Tr.req (leN 1 1) (Tr.ok (Ex.normal, Z2, Z0 :: H)))) (Tr.ok (Ex.normal, Z1, lvB w ls ld zs zd :: H))))))) (Tr.ok (Ex.exit 0, [(1, AV.bool sure, none), (2, AV.ptr 0 0 0 0, none), (6, AV.nils, none), (7, AV.int .i64 p, none), (18, AV.bool false, some 1)], lvB w ls ld zs zd :: H))) [(1, AV.bool sure, none), (2, AV.ptr 0 0 0 0, none), (6, AV.slc 0 2 0 0 1 1 none, none), (7, AV.int .i64 (addI .i64 p (Int.ofNat 1)), none)])) [(1, AV.bool sure, none), (2, AV.ptr 0 0 0 0, none), (6, AV.nils, none), (7, AV.int .i64 (addI .i64 p (Int.ofNat 1)), none)])) { lock := false, bs := [(0, Blk.row (Row.G [AV.int .i64 w, slA 2 ls zs, slA 3 ld zd])), (0, Blk.row (Row.G [AV.slcT none (Row.M [Seg.arr .i64 y k]) 1 k false])), (0, Blk.row (Row.F (fun x => AV.slcT none (Row.M [Seg.arr .i64 y k]) 1 k false) 1))] } := by kernel_rfl
theorem t37b (n : Nat) (w : Int) (ls ld k : Nat) (zs zd y : Nat → Int) (H : Heap) (p : Int) (sure : Bool) (side : Prop) (ev : Bool → AV) (sm : AV → Int → Int) (v m : Nat) (f1 : Nat → Nat → Int) (f2 : Nat → Nat) : execT (cxD (n+8) 37 45) (il (ctG (ctG (ctG noCt 61 (g61 (bathA w ls zs ld zd) side ev)) 45 (g45 (bathA w ls zs ld zd) side ev sm)) 89 (g81 (bathA w ls zs ld zd) p sure (sl1 k y false))) (n+8) 0) noBT noRT (part Try.f37 [1,1,1,0,1,0,0]) (hints (fr37 sure (.slc 0 1 v 0 1 m none) p)) (lv37 w ls ld zs zd v m f1 f2 :: H) =
 (fun (Z0 : Lvl) => ((fun (Z1 : Lvl) => ((fun (Z2 : HFrm) => ((fun (Z3 : HFrm) => Tr.ite (ltI p (Int.ofNat ls)) (Tr.ite (leI (Int.ofNat 0) p) (Tr.reqP (bathA w ls zs ld zd = bathA w ls zs ld zd ∧ side) (Tr.reqP (bathA w ls zs ld zd = bathA w ls zs ld zd ∧ side ∧ (ev false = ev false ∨ ev false = ev true)) (Tr.ite (eqI (sm (ev false) p) (Int.ofNat 0)) (Tr.ok (Ex.normal, Z2, Z0 :: H)) (Tr.reqP (bathA w ls zs ld zd = bathA w ls zs ld zd ∧ p = p ∧ sure = sure) (Tr.req (inI (Int.ofNat 0) k) (Tr.req (ltN 0 k) (Tr.ite (eqI (y 0) p) (Tr.req (roomO m 1 24) (Tr.req (leN 1 1) (Tr.req (eqN v v) (Tr.req (eqN (addO 0 m) m) (Tr.reqP (allS (fun j => AV.slcT none (Row.M [Seg.arr .i64 (f1 (addO 0 j)) (f2 (addO 0 j))]) 1 (f2 (addO 0 j)) false) IntKind.i64 1 false) (Tr.ok (Ex.normal, Z3, Z1 :: H))))))) (Tr.ok (Ex.normal, Z2, Z0 :: H))))))))) (Tr.reqP (bathA w ls zs ld zd = bathA w ls zs ld zd ∧ p = p ∧ sure = sure) (Tr.req (inI (Int.ofNat 0) k) (Tr.req (ltN 0 k) (Tr.ite (eqI (y 0) p) (Tr.req (roomO m 1 24) (Tr.req (leN 1 1) (Tr.req (eqN v v) (Tr.req (eqN (addO 0 m) m) (Tr.reqP (allS (fun j => AV.slcT none (Row.M [Seg.arr .i64 (f1 (addO 0 j)) (f2 (addO 0 j))]) 1 (f2 (addO 0 j)) false) IntKind.i64 1 false) (Tr.ok (Ex.normal, Z3, Z1 :: H))))))) (Tr.ok (Ex.normal, Z2, Z0 :: H))))))) (Tr.ok (Ex.exit 0, [(1, AV.bool sure, none), (2, AV.ptr 0 0 0 0, none), (6, AV.slc 0 1 v 0 1 m none, none), (7, AV.int .i64 p, none), (18, AV.bool false, some 1)], Z0 :: H))) [(1, AV.bool sure, none), (2, AV.ptr 0 0 0 0, none), (6, AV.slc 0 1 (Nat.succ v) 0 1 (addO m 1) none, none), (7, AV.int .i64 (addI .i64 p (Int.ofNat 1)), none)])) [(1, AV.bool sure, none), (2, AV.ptr 0 0 0 0, none), (6, AV.slc 0 1 v 0 1 m none, none), (7, AV.int .i64 (addI .i64 p (Int.ofNat 1)), none)])) { lock := false, bs := [(0, Blk.row (Row.G [AV.int .i64 w, slA 2 ls zs, slA 3 ld zd])), (Nat.succ v, Blk.row (Row.F (fun j => AV.slcT none (Row.M [Seg.arr .i64 (selZ (ltN j m) (f1 (addO 0 j)) y) (selN (ltN j m) (f2 (addO 0 j)) k)]) 1 (selN (ltN j m) (f2 (addO 0 j)) k) false) (addO m 1))), (0, Blk.row (Row.G [AV.slcT none (Row.M [Seg.arr .i64 y k]) 1 k false]))] })) { lock := false, bs := [(0, Blk.row (Row.G [AV.int .i64 w, slA 2 ls zs, slA 3 ld zd])), (v, Blk.row (Row.F (fun j => AV.slcT none (Row.M [Seg.arr .i64 (f1 j) (f2 j)]) 1 (f2 j) false) m))] } := by kernel_rfl
theorem t37ae (n : Nat) (w : Int) (ls ld : Nat) (zs zd : Nat → Int) (H : Heap) (p : Int) (sure : Bool) : execT (cxD (n+8) 37 45) (il (ctG (ctG (ctG noCt 61 (fun _ => none)) 45 (fun _ => none)) 89 (fun _ => none)) (n+8) 0) noBT noRT (part Try.f37 [1,1,1,0,1,0,0]) (hints (fr37 sure .nils p)) (lvB w ls ld zs zd :: H) =
 Tr.ite (ltI p (Int.ofNat ls)) (Tr.ite (leI (Int.ofNat 0) p) Tr.bad Tr.bad) (Tr.ok (Ex.exit 0, [(1, AV.bool sure, none), (2, AV.ptr 0 0 0 0, none), (6, AV.nils, none), (7, AV.int .i64 p, none), (18, AV.bool false, some 1)], lvB w ls ld zs zd :: H)) := by kernel_rfl
theorem t37be (n : Nat) (w : Int) (ls ld : Nat) (zs zd : Nat → Int) (H : Heap) (p : Int) (sure : Bool) (v m : Nat) (f1 : Nat → Nat → Int) (f2 : Nat → Nat) : execT (cxD (n+8) 37 45) (il (ctG (ctG (ctG noCt 61 (fun _ => none)) 45 (fun _ => none)) 89 (fun _ => none)) (n+8) 0) noBT noRT (part Try.f37 [1,1,1,0,1,0,0]) (hints (fr37 sure (.slc 0 1 v 0 1 m none) p)) (lv37 w ls ld zs zd v m f1 f2 :: H) =
 Tr.ite (ltI p (Int.ofNat ls)) (Tr.ite (leI (Int.ofNat 0) p) Tr.bad Tr.bad) (Tr.ok (Ex.exit 0, [(1, AV.bool sure, none), (2, AV.ptr 0 0 0 0, none), (6, AV.slc 0 1 v 0 1 m none, none), (7, AV.int .i64 p, none), (18, AV.bool false, some 1)], { lock := false, bs := [(0, Blk.row (Row.G [AV.int .i64 w, slA 2 ls zs, slA 3 ld zd])), (v, Blk.row (Row.F (fun j => AV.slcT none (Row.M [Seg.arr .i64 (f1 j) (f2 j)]) 1 (f2 j) false) m))] } :: H)) := by kernel_rfl
theorem u37 (n : Nat) (w : Int) (ls ld : Nat) (zs zd : Nat → Int) (H : Heap) (e : Int) (sure : Bool) (v m : Nat) (f1 : Nat → Nat → Int) (f2 : Nat → Nat) : bodyT Try.prog (cd (n+8)) 100000 37 Try.f37 (Kt.kt 37) (il (ctG noCt 20 (g20 (bathA w ls zs ld zd) e)) (n+8) 0) (blkE noBT 0 (fr37 sure .nils (-2)) (lvB w ls ld zs zd :: H) (.ok (.normal, hints (fr37 sure (.slc 0 1 v 0 1 m none) (Int.ofNat ls) ++ [(18, .bool false)]), lv37 w ls ld zs zd v m f1 f2 :: H))) noRT [(bathA w ls zs ld zd, none), (.bool sure, none)] H =
 (fun (Z0 : Frm) => Tr.reqP (bathA w ls zs ld zd = bathA w ls zs ld zd) (Tr.ite (notB (eqI e (Int.ofNat 0))) (Tr.reqP (bathA w ls zs ld zd = bathA w ls zs ld zd) (Tr.ok ((AV.tup [AV.nils, AV.int .i64 e], none), H))) (Tr.reqP (Z0 = Z0 ∧ lvB w ls ld zs zd :: H = lvB w ls ld zs zd :: H) (Tr.req (eqN v v) (Tr.req (inO 0 m 0 m) (Tr.ok ((AV.tup [AV.slcT none (Row.F (fun j => AV.slcT none (Row.M [Seg.arr .i64 (f1 (addO 0 j)) (f2 (addO 0 j))]) 1 (f2 (addO 0 j)) false) m) 1 m false, AV.int .i64 (Int.ofNat 0)], none), H))))))) [(1, AV.bool sure), (2, AV.ptr 0 0 0 0), (6, AV.nils), (7, AV.int .i64 (Int.negSucc 1))] := by kernel_rfl
theorem u37x (n : Nat) (w : Int) (ls ld : Nat) (zs zd : Nat → Int) (H : Heap) (e : Int) (sure : Bool) : bodyT Try.prog (cd (n+8)) 100000 37 Try.f37 (Kt.kt 37) (il (ctG noCt 20 (g20 (bathA w ls zs ld zd) e)) (n+8) 0) (stopB noBT 0) noRT [(bathA w ls zs ld zd, none), (.bool sure, none)] H =
 Tr.reqP (bathA w ls zs ld zd = bathA w ls zs ld zd) (Tr.ite (notB (eqI e (Int.ofNat 0))) (Tr.reqP (bathA w ls zs ld zd = bathA w ls zs ld zd) (Tr.ok ((AV.tup [AV.nils, AV.int .i64 e], none), H))) Tr.bad) := by kernel_rfl
theorem t31 (n : Nat) (H : Heap) (m k : Nat) (z y : Nat → Int) (a b : Bool) (j : Int) : execT (cxD n 31 26) (il noCt n 0) noBT noRT (part Try.f31 [1,1,0,1,0,0]) (hints (fr31 m k z y a b j)) (lv0 :: H) =
 Tr.ite (ltI j (Int.ofNat m)) (Tr.req (inI j m) (Tr.req (ltN (idO 0 j 1) m) (Tr.req (inI j k) (Tr.req (ltN (idO 0 j 1) k) (Tr.ite (notB (eqI (z (idO 0 j 1)) (y (idO 0 j 1)))) (Tr.ok (Ex.ret, [(4, AV.bool false, some 1)], lv0 :: H)) (Tr.ok (Ex.normal, [(0, AV.slcT none (Row.M [Seg.arr .i64 z m]) 1 m a, none), (1, AV.slcT none (Row.M [Seg.arr .i64 y k]) 1 k b, none), (5, AV.int .i64 (addI .i64 j (Int.ofNat 1)), none)], lv0 :: H))))))) (Tr.ok (Ex.exit 0, [(0, AV.slcT none (Row.M [Seg.arr .i64 z m]) 1 m a, none), (1, AV.slcT none (Row.M [Seg.arr .i64 y k]) 1 k b, none), (5, AV.int .i64 j, none), (14, AV.bool false, some 1)], lv0 :: H)) := by kernel_rfl
theorem u31 (n : Nat) (H : Heap) (m k : Nat) (z y : Nat → Int) (a b : Bool) : bodyT Try.prog (cd n) 100000 31 Try.f31 (Kt.kt 31) (il noCt n 0) (blkE noBT 0 (fr31 m k z y a b 0) (lv0 :: H) (.ok (.normal, hints (fr31 m k z y a b (Int.ofNat m) ++ [(14, .bool false)]), lv0 :: H))) noRT [(sl1 m z a, none), (sl1 k y b, none)] H =
 (fun (Z0 : Frm) => Tr.ite (notB (eqI (Int.ofNat m) (Int.ofNat k))) (Tr.ok ((AV.bool false, some 1), H)) (Tr.reqP (Z0 = Z0 ∧ lv0 :: H = lv0 :: H) (Tr.ok ((AV.bool true, some 1), H)))) [(0, AV.slcT none (Row.M [Seg.arr .i64 z m]) 1 m a), (1, AV.slcT none (Row.M [Seg.arr .i64 y k]) 1 k b), (5, AV.int .i64 (Int.ofNat 0))] := by kernel_rfl
theorem u31n (n : Nat) (H : Heap) : bodyT Try.prog (cd n) 100000 31 Try.f31 (Kt.kt 31) (il noCt n 0) noBT noRT [(.nils, none), (.nils, none)] H =
 Tr.ok ((AV.bool true, some 1), H) := by kernel_rfl
theorem t38 (n : Nat) (H : Heap) (m : Nat) (f1 : Nat → Nat → Int) (f2 : Nat → Nat) (j : Int) (same : Nat → (Nat → Int) → Nat → (Nat → Int) → Prop) : execT (cxD (n+1) 38 27) (il (ctG noCt 31 (g31 same)) (n+1) 0) noBT noRT (part Try.f38 [1,1,0,1,0,0]) (hints (fr38 (slF m f1 f2) (slF m f1 f2) j)) (lv0 :: H) =
 (fun (Z0 : Row) => Tr.ite (ltI j (Int.ofNat m)) (Tr.req (inI j m) (Tr.req (ltN (idO 0 j 1) m) (Tr.req (inI j m) (Tr.req (ltN (idO 0 j 1) m) (Tr.reqP (f2 (idO 0 j 1) = f2 (idO 0 j 1) ∧ f2 (idO 0 j 1) = f2 (idO 0 j 1) ∧ same (f2 (idO 0 j 1)) (f1 (idO 0 j 1)) (f2 (idO 0 j 1)) (f1 (idO 0 j 1))) (Tr.ite (notB true) (Tr.ok (Ex.ret, [(4, AV.bool false, some 1)], lv0 :: H)) (Tr.ok (Ex.normal, [(0, AV.slcT none Z0 1 m false, none), (1, AV.slcT none Z0 1 m false, none), (5, AV.int .i64 (addI .i64 j (Int.ofNat 1)), none)], lv0 :: H)))))))) (Tr.ok (Ex.exit 0, [(0, AV.slcT none Z0 1 m false, none), (1, AV.slcT none Z0 1 m false, none), (5, AV.int .i64 j, none), (14, AV.bool false, some 1)], lv0 :: H))) (Row.F (fun j => AV.slcT none (Row.M [Seg.arr .i64 (f1 j) (f2 j)]) 1 (f2 j) false) m) := by kernel_rfl
theorem u38 (n : Nat) (H : Heap) (m : Nat) (f1 : Nat → Nat → Int) (f2 : Nat → Nat) : bodyT Try.prog (cd (n+1)) 100000 38 Try.f38 (Kt.kt 38) (il noCt (n+1) 0) (blkE noBT 0 (fr38 (slF m f1 f2) (slF m f1 f2) 0) (lv0 :: H) (.ok (.normal, hints (fr38 (slF m f1 f2) (slF m f1 f2) (Int.ofNat m) ++ [(14, .bool false)]), lv0 :: H))) noRT [(slF m f1 f2, none), (slF m f1 f2, none)] H =
 (fun (Z0 : Frm) => Tr.ite (notB (eqI (Int.ofNat m) (Int.ofNat m))) (Tr.ok ((AV.bool false, some 1), H)) (Tr.reqP (Z0 = Z0 ∧ lv0 :: H = lv0 :: H) (Tr.ok ((AV.bool true, some 1), H)))) [(0, AV.slcT none (Row.F (fun j => AV.slcT none (Row.M [Seg.arr .i64 (f1 j) (f2 j)]) 1 (f2 j) false) m) 1 m false), (1, AV.slcT none (Row.F (fun j => AV.slcT none (Row.M [Seg.arr .i64 (f1 j) (f2 j)]) 1 (f2 j) false) m) 1 m false), (5, AV.int .i64 (Int.ofNat 0))] := by kernel_rfl
theorem u38n (n : Nat) (H : Heap) : bodyT Try.prog (cd n) 100000 38 Try.f38 (Kt.kt 38) (il noCt n 0) noBT noRT [(.nils, none), (.nils, none)] H =
 Tr.ok ((AV.bool true, some 1), H) := by kernel_rfl
theorem allS_ok (f1 : Nat → Nat → Int) (f2 f3 : Nat → Nat) (k : IntKind) (sz : Nat) (full : Bool) : allS (fun j => .slcT none (.M [.arr k (f1 j) (f2 j)]) sz (f3 j) full) k sz full = True := by
 rw [allS_eq]
 exact eq_true (fun j => ⟨_, _, _, rfl⟩)
def elL (Ls : List (List Int)) (j : Nat) : List Int := Ls.getD j (Ls.getLastD [])
noncomputable def el1 (Ls : List (List Int)) (j : Nat) : Nat → Int := lstO (elL Ls j)
def el2 (Ls : List (List Int)) (j : Nat) : Nat := (elL Ls j).length
theorem elL_app (Ls : List (List Int)) (l : List Int) (j : Nat) : elL (Ls ++ [l]) j = if j < Ls.length then elL Ls j else l := by
 unfold elL
 by_cases h : j < Ls.length
 · rw [if_pos h]
   simp [List.getElem?_append, h]
 · rw [if_neg h]
   by_cases h2 : j = Ls.length
   · subst h2; simp
   · have : (Ls ++ [l])[j]? = none := List.getElem?_eq_none (by simp; omega)
     simp [List.getD_eq_getElem?_getD, this]
theorem el1_app (Ls : List (List Int)) (l : List Int) (m : Nat) (hm : m = Ls.length) : (fun j => selZ (ltN j m) (el1 Ls (addO 0 j)) (lstO l)) = el1 (Ls ++ [l]) := by
 subst hm
 funext j
 unfold el1
 rw [elL_app, selZ_eq, ltN_eq, addO_eq, Nat.zero_add]
 by_cases h : j < Ls.length
 · rw [decide_eq_true h, if_pos h]; rfl
 · rw [decide_eq_false h, if_neg h]; rfl
theorem el2_app (Ls : List (List Int)) (l : List Int) (m : Nat) (hm : m = Ls.length) : (fun j => selN (ltN j m) (el2 Ls (addO 0 j)) l.length) = el2 (Ls ++ [l]) := by
 subst hm
 funext j
 unfold el2
 rw [elL_app, selN_eq, ltN_eq, addO_eq, Nat.zero_add]
 by_cases h : j < Ls.length
 · rw [decide_eq_true h, if_pos h]; rfl
 · rw [decide_eq_false h, if_neg h]; rfl
theorem el_one (l : List Int) : el1 [l] = (fun _ => lstO l) ∧ el2 [l] = fun _ => l.length := by
 have : ∀ j, elL [l] j = l := fun j => by
  unfold elL
  cases j <;> simp
 exact ⟨funext fun j => by unfold el1; rw [this], funext fun j => by unfold el2; rw [this]⟩
noncomputable def grB (w : Int) (ls ld : Nat) (zs zd : Nat → Int) (sure : Bool) (j : Nat) : Bool := !(decide (2 ≤ j) && decide (szE false zd ld ((j : Int) - 2) = 0)) && decide (lstO (jnL w ls ld zs zd sure ((j : Int) - 2)) 0 = (j : Int) - 2)
noncomputable def grL (w : Int) (ls ld : Nat) (zs zd : Nat → Int) (sure : Bool) : Nat → List (List Int)
 | 0 => []
 | j + 1 => if grB w ls ld zs zd sure j = true then grL w ls ld zs zd sure j ++ [jnL w ls ld zs zd sure ((j : Int) - 2)] else grL w ls ld zs zd sure j
noncomputable def sliG : List (List Int) → AV
 | [] => .nils
 | x :: r => .slc 0 1 r.length 0 1 (r.length + 1) none
noncomputable def lvG (w : Int) (ls ld : Nat) (zs zd : Nat → Int) : List (List Int) → Lvl
 | [] => lvB w ls ld zs zd
 | x :: r => lv37 w ls ld zs zd r.length (r.length + 1) (el1 (x :: r)) (el2 (x :: r))
theorem grL_len (w : Int) (ls ld : Nat) (zs zd : Nat → Int) (sure : Bool) : ∀ j, (grL w ls ld zs zd sure j).length ≤ j
 | 0 => Nat.le_refl _
 | j + 1 => by
   have := grL_len w ls ld zs zd sure j
   unfold grL
   split
   · simp; omega
   · omega
section
variable (n : Nat) (w : Int) (ls ld : Nat) (zs zd : Nat → Int) (H : Heap) (sure : Bool)
theorem il37 (h : chkB w ls ld zs zd = 0) (p : Int) (hp : -2 ≤ p ∧ p < ls) : (il (ctG (ctG (ctG noCt 61 (g61 (bathA w ls zs ld zd) (ld < 2 ^ 16) (fun h => endV h zd ld))) 45 (g45 (bathA w ls zs ld zd) (ld < 2 ^ 16) (fun h => endV h zd ld) (smV zd ld))) 89 (g81 (bathA w ls zs ld zd) p sure (sl1 (jnL w ls ld zs zd sure p).length (lstO (jnL w ls ld zs zd sure p)) false))) (n+8) 0).Ok (cd (n + 8)) := by
 refine il_ok _ (n + 8) 0 (fun k => ctG_ok (ctG_ok (ctG_ok (noCt_ok _) (fun args p v h hp H => ?_)) (fun args p v h hp H => ?_)) (fun args p v hg hq H => ?_))
 · unfold g61 at h
   split at h
   · simp only [Option.some.injEq, Prod.mk.injEq] at h
     obtain ⟨rfl, rfl⟩ := h
     obtain ⟨rfl, h2⟩ := hp
     rw [show n + 8 + k = n + 7 + k + 1 by omega]
     exact c61 _ w ls ld zs zd H _ h2
   · cases h
 · unfold g45 at h
   split at h
   · simp only [Option.some.injEq, Prod.mk.injEq] at h
     obtain ⟨rfl, rfl⟩ := h
     obtain ⟨rfl, h2, hp⟩ := hp
     rw [show n + 8 + k = n + 7 + k + 1 by omega]
     rcases hp with rfl | rfl <;> rw [smV_end] <;> exact c45e _ w ls ld zs zd H _ _ h2
   · cases h
 · unfold g81 at hg
   split at hg
   · simp only [Option.some.injEq, Prod.mk.injEq] at hg
     obtain ⟨rfl, rfl⟩ := hg
     obtain ⟨rfl, rfl, rfl⟩ := hq
     rw [show n + 8 + k = n + k + 8 by omega]
     exact c89 _ w ls ld zs zd H _ h _ hp
   · cases hg
theorem l37 (h : chkB w ls ld zs zd = 0) : exec (cxD (n + 8) 37 45) (.block 0 (.loop (part Try.f37 [1,1,1,0,1,0,0]))) (fr37 sure .nils (-2)) (lvB w ls ld zs zd :: H) = some (.normal, fr37 sure (sliG (grL w ls ld zs zd sure (ls + 2))) (Int.ofNat ls) ++ [(18, .bool false)], lvG w ls ld zs zd (grL w ls ld zs zd sure (ls + 2)) :: H) := by
 have c := chk_ok h
 have := forX (n := n + 8) (f := 37) (nt := 45) (c := part Try.f37 [1,1,1,0,1,0,0]) 0 (fun j => fr37 sure (sliG (grL w ls ld zs zd sure j)) ((j : Int) - 2)) (fun j => lvG w ls ld zs zd (grL w ls ld zs zd sure j) :: H) (ls + 2) (fr37 sure (sliG (grL w ls ld zs zd sure (ls + 2))) (Int.ofNat ls) ++ [(18, .bool false)], lvG w ls ld zs zd (grL w ls ld zs zd sure (ls + 2)) :: H) (by omega) (fun j hj => ?_) ?_
 · exact this
 · have ej : addI .i64 ((j : Int) - 2) (Int.ofNat 1) = ((j + 1 : Nat) : Int) - 2 := by
    rw [addI_eq, show Int.ofNat 1 = 1 from rfl, wr_64 (by omega) (by omega)]; omega
   have hll := grL_len w ls ld zs zd sure j
   have hi := il37 n w ls ld zs zd sure h ((j : Int) - 2) ⟨by omega, by omega⟩
   have hlen := plL_len (fun i => decide (0 < stZ w ls ld zs zd sure ((j : Int) - 2) i)) (ls + 2)
   have hJ : plL (fun i => decide (0 < stZ w ls ld zs zd sure ((j : Int) - 2) i)) (ls + 2) = jnL w ls ld zs zd sure ((j : Int) - 2) := rfl
   have hm := jn_self w ls ld zs zd sure ((j : Int) - 2) ⟨by omega, by omega⟩
   rw [hJ] at hlen
   have hpos : 0 < (jnL w ls ld zs zd sure ((j : Int) - 2)).length := List.length_pos_of_mem hm
   have h0 : hNext (lvG w ls ld zs zd (grL w ls ld zs zd sure 0) :: H) = 1 := rfl
   have es : smV zd ld (endV false zd ld) ((j : Int) - 2) = szE false zd ld ((j : Int) - 2) := smV_end ld zd _ false
   have h16 : ld < 2 ^ 16 := by omega
   have hg : grB w ls ld zs zd sure j = (!(decide (2 ≤ j) && decide (szE false zd ld ((j : Int) - 2) = 0)) && decide (lstO (jnL w ls ld zs zd sure ((j : Int) - 2)) 0 = (j : Int) - 2)) := rfl
   have ho := el_one (jnL w ls ld zs zd sure ((j : Int) - 2))
   have ha1 := el1_app (grL w ls ld zs zd sure j) (jnL w ls ld zs zd sure ((j : Int) - 2)) _ rfl
   have ha2 := el2_app (grL w ls ld zs zd sure j) (jnL w ls ld zs zd sure ((j : Int) - 2)) _ rfl
   rw [show grL w ls ld zs zd sure (j + 1) = if grB w ls ld zs zd sure j = true then grL w ls ld zs zd sure j ++ [jnL w ls ld zs zd sure ((j : Int) - 2)] else grL w ls ld zs zd sure j from rfl, h0]
   clear hm hJ
   generalize jnL w ls ld zs zd sure ((j : Int) - 2) = l at *
   generalize grL w ls ld zs zd sure j = L at *
   cases L with
   | nil =>
     refine ex_all (t37a n w ls ld l.length zs zd (lstO l) H ((j : Int) - 2) sure (ld < 2 ^ 16) (fun h => endV h zd ld) (smV zd ld)) hi (noBT_ok _ _) (noRT_ok _ _) ?_
     rw [ej, es]
     repeat' first | (refine Tr.all_ite (fun hc => ?_) (fun hc => ?_) <;> (try simp (disch := omega) only [nV, mulO_eq, Int.cast_ofNat_Int, eq_self, h16, true_or, or_true, and_true, and_self] at hc) <;> (try (exfalso; omega))) | (refine Tr.all_req ?_ ?_; · ((try simp (disch := omega) only [nV, mulO_eq, Int.cast_ofNat_Int, eq_self, h16, true_or, or_true, and_true, and_self]); try omega)) | (refine Tr.all_reqP ?_ ?_; · first | exact trivial | rfl | exact ⟨rfl, rfl⟩ | exact ⟨rfl, rfl, rfl⟩ | (simp (disch := omega) only [nV, mulO_eq, Int.cast_ofNat_Int, eq_self, h16, true_or, or_true, and_true, and_self]; done) | ((try simp (disch := omega) only [nV, mulO_eq, Int.cast_ofNat_Int, eq_self, h16, true_or, or_true, and_true, and_self]); omega)) | fail
     all_goals refine Tr.all_ok ⟨rfl, ?_⟩
     all_goals first
      | (rw [if_neg (by rw [hg]; simp only [Bool.and_eq_true, Bool.not_eq_true', Bool.and_eq_false_iff, decide_eq_true_eq, decide_eq_false_iff_not]; omega)]; rfl)
      | (rw [if_pos (by rw [hg]; simp only [Bool.and_eq_true, Bool.not_eq_true', Bool.and_eq_false_iff, decide_eq_true_eq, decide_eq_false_iff_not]; omega)]
         show _ = (fr37 sure (.slc 0 1 0 0 1 1 none) _, lv37 w ls ld zs zd 0 1 (el1 [l]) (el2 [l]) :: H)
         rw [ho.1, ho.2]
         rfl)
      | fail
   | cons x r =>
     have hll' : r.length + 1 ≤ j := by simpa using hll
     have hz : ∀ j, selZ (ltN j (r.length + 1)) (el1 (x :: r) (addO 0 j)) (lstO l) = el1 (x :: r ++ [l]) j := fun j => congrFun ha1 j
     have hn : ∀ j, selN (ltN j (r.length + 1)) (el2 (x :: r) (addO 0 j)) l.length = el2 (x :: r ++ [l]) j := fun j => congrFun ha2 j
     refine ex_all (t37b n w ls ld l.length zs zd (lstO l) H ((j : Int) - 2) sure (ld < 2 ^ 16) (fun h => endV h zd ld) (smV zd ld) r.length (r.length + 1) (el1 (x :: r)) (el2 (x :: r))) hi (noBT_ok _ _) (noRT_ok _ _) ?_
     rw [ej, es]
     repeat' first | (refine Tr.all_ite (fun hc => ?_) (fun hc => ?_) <;> (try simp (disch := omega) only [nV, mulO_eq, Int.cast_ofNat_Int, eq_self, h16, true_or, or_true, and_true, and_self, allS_ok] at hc) <;> (try (exfalso; omega))) | (refine Tr.all_req ?_ ?_; · ((try simp (disch := omega) only [nV, mulO_eq, Int.cast_ofNat_Int, eq_self, h16, true_or, or_true, and_true, and_self, allS_ok]); try omega)) | (refine Tr.all_reqP ?_ ?_; · first | exact trivial | rfl | exact ⟨rfl, rfl⟩ | exact ⟨rfl, rfl, rfl⟩ | (simp (disch := omega) only [nV, mulO_eq, Int.cast_ofNat_Int, eq_self, h16, true_or, or_true, and_true, and_self, allS_ok]; done) | ((try simp (disch := omega) only [nV, mulO_eq, Int.cast_ofNat_Int, eq_self, h16, true_or, or_true, and_true, and_self, allS_ok]); omega)) | fail
     all_goals refine Tr.all_ok ⟨rfl, ?_⟩
     all_goals first
      | (rw [if_neg (by rw [hg]; simp only [Bool.and_eq_true, Bool.not_eq_true', Bool.and_eq_false_iff, decide_eq_true_eq, decide_eq_false_iff_not]; omega)]; rfl)
      | (rw [if_pos (by rw [hg]; simp only [Bool.and_eq_true, Bool.not_eq_true', Bool.and_eq_false_iff, decide_eq_true_eq, decide_eq_false_iff_not]; omega)]
         simp only [hz, hn]
         simp only [addO_eq]
         have e4 : (r ++ [l]).length = r.length + 1 := by simp
         show _ = (fr37 sure (.slc 0 1 (r ++ [l]).length 0 1 ((r ++ [l]).length + 1) none) _, lv37 w ls ld zs zd (r ++ [l]).length ((r ++ [l]).length + 1) (el1 (x :: r ++ [l])) (el2 (x :: r ++ [l])) :: H)
         rw [e4]
         rfl)
      | fail
 · have em : ((ls + 2 : Nat) : Int) - 2 = Int.ofNat ls := by rw [ofNat_cast]; omega
   rw [em]
   have hN : ∀ (args : List AV), True := fun _ => trivial
   generalize grL w ls ld zs zd sure (ls + 2) = L
   have hi := il37 n w ls ld zs zd sure h (-2) ⟨by omega, by omega⟩
   cases L with
   | nil =>
     obtain ⟨x, h1, rfl⟩ := ex_all (Q := fun x => x = (.exit 0, fr37 sure (sliG []) (Int.ofNat ls) ++ [(18, .bool false)], lvG w ls ld zs zd [] :: H)) (t37ae n w ls ld zs zd H (Int.ofNat ls) sure) (il_ok _ (n + 8) 0 (fun k => ctG_ok (ctG_ok (ctG_ok (noCt_ok _) (fun args p v hg hp H => by cases hg)) (fun args p v hg hp H => by cases hg)) (fun args p v hg hp H => by cases hg))) (noBT_ok _ _) (noRT_ok _ _) (by
      repeat' first | (refine Tr.all_ite (fun hc => ?_) (fun hc => ?_) <;> (try simp (disch := omega) only [nV, mulO_eq, Int.cast_ofNat_Int, eq_self] at hc) <;> (try (exfalso; omega))) | (refine Tr.all_req ?_ ?_; · ((try simp (disch := omega) only [nV, mulO_eq, Int.cast_ofNat_Int, eq_self]); try omega)) | (refine Tr.all_reqP ?_ ?_; · first | exact trivial | rfl | exact ⟨rfl, rfl⟩ | exact ⟨rfl, rfl, rfl⟩ | (simp (disch := omega) only [nV, mulO_eq, Int.cast_ofNat_Int, eq_self]; done) | ((try simp (disch := omega) only [nV, mulO_eq, Int.cast_ofNat_Int, eq_self]); omega)) | fail
      exact Tr.all_ok rfl)
     exact h1
   | cons y r =>
     obtain ⟨x, h1, rfl⟩ := ex_all (Q := fun x => x = (.exit 0, fr37 sure (sliG (y :: r)) (Int.ofNat ls) ++ [(18, .bool false)], lvG w ls ld zs zd (y :: r) :: H)) (t37be n w ls ld zs zd H (Int.ofNat ls) sure r.length (r.length + 1) (el1 (y :: r)) (el2 (y :: r))) (il_ok _ (n + 8) 0 (fun k => ctG_ok (ctG_ok (ctG_ok (noCt_ok _) (fun args p v hg hp H => by cases hg)) (fun args p v hg hp H => by cases hg)) (fun args p v hg hp H => by cases hg))) (noBT_ok _ _) (noRT_ok _ _) (by
      repeat' first | (refine Tr.all_ite (fun hc => ?_) (fun hc => ?_) <;> (try simp (disch := omega) only [nV, mulO_eq, Int.cast_ofNat_Int, eq_self] at hc) <;> (try (exfalso; omega))) | (refine Tr.all_req ?_ ?_; · ((try simp (disch := omega) only [nV, mulO_eq, Int.cast_ofNat_Int, eq_self]); try omega)) | (refine Tr.all_reqP ?_ ?_; · first | exact trivial | rfl | exact ⟨rfl, rfl⟩ | exact ⟨rfl, rfl, rfl⟩ | (simp (disch := omega) only [nV, mulO_eq, Int.cast_ofNat_Int, eq_self]; done) | ((try simp (disch := omega) only [nV, mulO_eq, Int.cast_ofNat_Int, eq_self]); omega)) | fail
      exact Tr.all_ok rfl)
     exact h1
noncomputable def groA (w : Int) (ls ld : Nat) (zs zd : Nat → Int) (sure : Bool) : AV :=
 if chkB w ls ld zs zd ≠ 0 then .tup [.nils, .int .i64 (chkB w ls ld zs zd)]
 else .tup [slF (grL w ls ld zs zd sure (ls + 2)).length (el1 (grL w ls ld zs zd sure (ls + 2))) (el2 (grL w ls ld zs zd sure (ls + 2))), .int .i64 0]
theorem jn_head (h0 : 0 < ls + 2) : lstO (jnL w ls ld zs zd sure (-2)) 0 = -2 := by
 have h2 : decide (0 < stZ w ls ld zs zd sure (-2) 0) = true := by
  have : st0 (-2) 0 = 1 := rfl
  unfold stZ; rw [stJ_keep (by rw [this]; decide), this]; rfl
 unfold jnL plL
 rw [lstO_fn, List.range_succ_eq_map, List.filter_cons, h2]
 rfl
theorem gr_ne (m : Nat) : grL w ls ld zs zd sure (m + 1) ≠ [] := by
 induction m with
 | zero =>
   have e : grB w ls ld zs zd sure 0 = true := by
    have := jn_head w ls ld zs zd sure (by omega)
    unfold grB
    simp [this]
   show (if grB w ls ld zs zd sure 0 = true then _ else _) ≠ []
   rw [if_pos e]; simp
 | succ m ih =>
   show (if grB w ls ld zs zd sure (m + 1) = true then _ else _) ≠ []
   split
   · simp
   · exact ih
theorem b37 : ∀ b, (0, b) ∈ blocksOf (bodyOf Try.f37) → b = .loop (part Try.f37 [1,1,1,0,1,0,0]) := by
 have : ((blocksOf (bodyOf Try.f37)).filter fun x => Nat.beq x.1 0) = [(0, .loop (part Try.f37 [1,1,1,0,1,0,0]))] := by kernel_rfl
 intro b hb
 have hm : (0, b) ∈ ((blocksOf (bodyOf Try.f37)).filter fun x => Nat.beq x.1 0) := List.mem_filter.2 ⟨hb, rfl⟩
 rw [this] at hm; simpa using hm
theorem c37 : cd (n + 9) (.fn 37) [bathA w ls zs ld zd, .bool sure] H = some (groA w ls ld zs zd sure, H) := by
 have ct : ∀ k, (ctG noCt 20 (g20 (bathA w ls zs ld zd) (chkB w ls ld zs zd))).Ok (cd (n + 8 + k)) := fun k => by
  have := ct20 (n + 6) w ls ld zs zd k _ (noCt_ok (cd (n + 6 + 2 + k)))
  rwa [show n + 6 + 2 + k = n + 8 + k by omega] at this
 by_cases h : chkB w ls ld zs zd = 0
 · have lk := l37 n w ls ld zs zd H sure h
   have c := chk_ok h
   have hl := grL_len w ls ld zs zd sure (ls + 2)
   have hne := gr_ne w ls ld zs zd sure (ls + 1)
   unfold groA
   rw [if_neg (fun x => x h)]
   rw [show ls + 1 + 1 = ls + 2 from rfl] at hne
   generalize grL w ls ld zs zd sure (ls + 2) = L at *
   cases L with
   | nil => exact absurd rfl hne
   | cons x r =>
     refine fn_all (n := n + 8) Try.func37 rfl rfl rfl (u37 n w ls ld zs zd H (chkB w ls ld zs zd) sure r.length (r.length + 1) (el1 (x :: r)) (el2 (x :: r))) (il_ok _ (n + 8) 0 ct) (blkE_ok (noBT_ok _ _) b37 (fun x hx => by rw [← Tr.ok_some hx]; simp only [Res.st, hints_eq]; exact lk)) (noRT_ok _ _) ?_
     rw [h]
     repeat' first | (refine Tr.all_ite (fun hc => ?_) (fun hc => ?_) <;> (try simp (disch := omega) only [nV, mulO_eq, Int.cast_ofNat_Int, eq_self] at hc) <;> (try (exfalso; omega))) | (refine Tr.all_req ?_ ?_; · ((try simp (disch := omega) only [nV, mulO_eq, Int.cast_ofNat_Int, eq_self]); try omega)) | (refine Tr.all_reqP ?_ ?_; · first | exact trivial | rfl | exact ⟨rfl, rfl⟩ | exact ⟨rfl, rfl, rfl⟩ | (simp (disch := omega) only [nV, mulO_eq, Int.cast_ofNat_Int, eq_self]; done) | ((try simp (disch := omega) only [nV, mulO_eq, Int.cast_ofNat_Int, eq_self]); omega)) | fail
     refine Tr.all_ok ⟨?_, rfl⟩
     simp only [addO_eq, Nat.zero_add]
     rfl
 · refine fn_all (n := n + 8) Try.func37 rfl rfl rfl (u37x n w ls ld zs zd H (chkB w ls ld zs zd) sure) (il_ok _ (n + 8) 0 ct) (stopB_ok (noBT_ok _ _) 0) (noRT_ok _ _) ?_
   unfold groA
   rw [if_pos h]
   repeat' first | (refine Tr.all_ite (fun hc => ?_) (fun hc => ?_) <;> (try simp (disch := omega) only [nV, mulO_eq, Int.cast_ofNat_Int, eq_self] at hc) <;> (try (exfalso; omega))) | (refine Tr.all_req ?_ ?_; · ((try simp (disch := omega) only [nV, mulO_eq, Int.cast_ofNat_Int, eq_self]); try omega)) | (refine Tr.all_reqP ?_ ?_; · first | exact trivial | rfl | exact ⟨rfl, rfl⟩ | exact ⟨rfl, rfl, rfl⟩ | (simp (disch := omega) only [nV, mulO_eq, Int.cast_ofNat_Int, eq_self]; done) | ((try simp (disch := omega) only [nV, mulO_eq, Int.cast_ofNat_Int, eq_self]); omega)) | fail
   exact Tr.all_ok ⟨rfl, rfl⟩
end
section
variable (n : Nat) (H : Heap)
theorem b31 : ∀ b, (0, b) ∈ blocksOf (bodyOf Try.f31) → b = .loop (part Try.f31 [1,1,0,1,0,0]) := by
 have : ((blocksOf (bodyOf Try.f31)).filter fun x => Nat.beq x.1 0) = [(0, .loop (part Try.f31 [1,1,0,1,0,0]))] := by kernel_rfl
 intro b hb
 have hm : (0, b) ∈ ((blocksOf (bodyOf Try.f31)).filter fun x => Nat.beq x.1 0) := List.mem_filter.2 ⟨hb, rfl⟩
 rw [this] at hm; simpa using hm
theorem c31 (m : Nat) (z y : Nat → Int) (a b : Bool) (hm : m ≤ 1000) (hz : ∀ j, j < m → z j = y j) : cd (n + 1) (.fn 31) [sl1 m z a, sl1 m y b] H = some (.bool true, H) := by
 have l := forX (n := n) (f := 31) (nt := 26) (c := part Try.f31 [1,1,0,1,0,0]) 0 (fun j => fr31 m m z y a b (j : Int)) (fun _ => lv0 :: H) m (fr31 m m z y a b (Int.ofNat m) ++ [(14, .bool false)], lv0 :: H) (by omega) (fun j hj => ?_) ?_
 · refine fn_all (n := n) Try.func31 rfl rfl rfl (u31 n H m m z y a b) (il_no0 n) (blkE_ok (noBT_ok _ _) b31 (fun x hx => by rw [← Tr.ok_some hx]; simp only [Res.st, hints_eq]; exact l)) (noRT_ok _ _) ?_
   repeat' first | (refine Tr.all_ite (fun hc => ?_) (fun hc => ?_) <;> (try simp (disch := omega) only [nV, mulO_eq, Int.cast_ofNat_Int, eq_self] at hc) <;> (try (exfalso; omega))) | (refine Tr.all_req ?_ ?_; · ((try simp (disch := omega) only [nV, mulO_eq, Int.cast_ofNat_Int, eq_self]); try omega)) | (refine Tr.all_reqP ?_ ?_; · first | exact trivial | rfl | exact ⟨rfl, rfl⟩ | exact ⟨rfl, rfl, rfl⟩ | (simp (disch := omega) only [nV, mulO_eq, Int.cast_ofNat_Int, eq_self]; done) | ((try simp (disch := omega) only [nV, mulO_eq, Int.cast_ofNat_Int, eq_self]); omega)) | fail
   exact Tr.all_ok ⟨rfl, rfl⟩
 · have ej : addI .i64 (j : Int) (Int.ofNat 1) = ((j + 1 : Nat) : Int) := by rw [addI_eq, show Int.ofNat 1 = 1 from rfl]; exact wr_64 (by omega) (by omega)
   have := hz j hj
   refine ex_all (t31 n H m m z y a b (j : Int)) (il_no0 n) (noBT_ok _ _) (noRT_ok _ _) ?_
   repeat' first | (refine Tr.all_ite (fun hc => ?_) (fun hc => ?_) <;> (try simp (disch := omega) only [nV, mulO_eq, Int.cast_ofNat_Int, eq_self, Nat.mul_one] at hc) <;> (try (exfalso; omega))) | (refine Tr.all_req ?_ ?_; · ((try simp (disch := omega) only [nV, mulO_eq, Int.cast_ofNat_Int, eq_self, Nat.mul_one]); try omega)) | (refine Tr.all_reqP ?_ ?_; · first | exact trivial | rfl | exact ⟨rfl, rfl⟩ | exact ⟨rfl, rfl, rfl⟩ | (simp (disch := omega) only [nV, mulO_eq, Int.cast_ofNat_Int, eq_self, Nat.mul_one]; done) | ((try simp (disch := omega) only [nV, mulO_eq, Int.cast_ofNat_Int, eq_self, Nat.mul_one]); omega)) | fail
   refine Tr.all_ok ⟨rfl, ?_⟩
   rw [ej]; rfl
 · obtain ⟨x, h1, rfl⟩ := ex_all (Q := fun x => x = (.exit 0, fr31 m m z y a b (Int.ofNat m) ++ [(14, .bool false)], lv0 :: H)) (t31 n H m m z y a b (Int.ofNat m)) (il_no0 n) (noBT_ok _ _) (noRT_ok _ _) (by
    repeat' first | (refine Tr.all_ite (fun hc => ?_) (fun hc => ?_) <;> (try simp (disch := omega) only [nV, mulO_eq, Int.cast_ofNat_Int, eq_self] at hc) <;> (try (exfalso; omega))) | (refine Tr.all_req ?_ ?_; · ((try simp (disch := omega) only [nV, mulO_eq, Int.cast_ofNat_Int, eq_self]); try omega)) | (refine Tr.all_reqP ?_ ?_; · first | exact trivial | rfl | exact ⟨rfl, rfl⟩ | exact ⟨rfl, rfl, rfl⟩ | (simp (disch := omega) only [nV, mulO_eq, Int.cast_ofNat_Int, eq_self]; done) | ((try simp (disch := omega) only [nV, mulO_eq, Int.cast_ofNat_Int, eq_self]); omega)) | fail
    exact Tr.all_ok rfl)
   exact h1
theorem c31n : cd (n + 1) (.fn 31) [.nils, .nils] H = some (.bool true, H) :=
 fn_all (n := n) Try.func31 rfl rfl rfl (u31n n H) (il_no0 n) (noBT_ok _ _) (noRT_ok _ _) (Tr.all_ok ⟨rfl, rfl⟩)
theorem b38 : ∀ b, (0, b) ∈ blocksOf (bodyOf Try.f38) → b = .loop (part Try.f38 [1,1,0,1,0,0]) := by
 have : ((blocksOf (bodyOf Try.f38)).filter fun x => Nat.beq x.1 0) = [(0, .loop (part Try.f38 [1,1,0,1,0,0]))] := by kernel_rfl
 intro b hb
 have hm : (0, b) ∈ ((blocksOf (bodyOf Try.f38)).filter fun x => Nat.beq x.1 0) := List.mem_filter.2 ⟨hb, rfl⟩
 rw [this] at hm; simpa using hm
theorem c38 (m : Nat) (f1 : Nat → Nat → Int) (f2 : Nat → Nat) (hm : m ≤ 1000) (h2 : ∀ j, f2 j ≤ 1000) : cd (n + 2) (.fn 38) [slF m f1 f2, slF m f1 f2] H = some (.bool true, H) := by
 have l := forX (n := n + 1) (f := 38) (nt := 27) (c := part Try.f38 [1,1,0,1,0,0]) 0 (fun j => fr38 (slF m f1 f2) (slF m f1 f2) (j : Int)) (fun _ => lv0 :: H) m (fr38 (slF m f1 f2) (slF m f1 f2) (Int.ofNat m) ++ [(14, .bool false)], lv0 :: H) (by omega) (fun j hj => ?_) ?_
 · refine fn_all (n := n + 1) Try.func38 rfl rfl rfl (u38 n H m f1 f2) (il_no (n + 1) 0) (blkE_ok (noBT_ok _ _) b38 (fun x hx => by rw [← Tr.ok_some hx]; simp only [Res.st, hints_eq]; exact l)) (noRT_ok _ _) ?_
   repeat' first | (refine Tr.all_ite (fun hc => ?_) (fun hc => ?_) <;> (try simp (disch := omega) only [nV, mulO_eq, Int.cast_ofNat_Int, eq_self] at hc) <;> (try (exfalso; omega))) | (refine Tr.all_req ?_ ?_; · ((try simp (disch := omega) only [nV, mulO_eq, Int.cast_ofNat_Int, eq_self]); try omega)) | (refine Tr.all_reqP ?_ ?_; · first | exact trivial | rfl | exact ⟨rfl, rfl⟩ | exact ⟨rfl, rfl, rfl⟩ | (simp (disch := omega) only [nV, mulO_eq, Int.cast_ofNat_Int, eq_self]; done) | ((try simp (disch := omega) only [nV, mulO_eq, Int.cast_ofNat_Int, eq_self]); omega)) | fail
   exact Tr.all_ok ⟨rfl, rfl⟩
 · have ej : addI .i64 (j : Int) (Int.ofNat 1) = ((j + 1 : Nat) : Int) := by rw [addI_eq, show Int.ofNat 1 = 1 from rfl]; exact wr_64 (by omega) (by omega)
   refine ex_all (t38 n H m f1 f2 (j : Int) (fun m z k y => m = k ∧ m ≤ 1000 ∧ ∀ j, j < m → z j = y j)) (il_ok _ (n + 1) 0 (fun k => ctG_ok (noCt_ok _) (fun args p v hg hp H => ?_))) (noBT_ok _ _) (noRT_ok _ _) ?_
   · unfold g31 at hg
     split at hg
     · simp only [Option.some.injEq, Prod.mk.injEq] at hg
       obtain ⟨rfl, rfl⟩ := hg
       obtain ⟨rfl, rfl, rfl, h3, h4⟩ := hp
       rw [show n + 1 + k = n + k + 1 by omega]
       exact c31 _ H _ _ _ _ _ h3 h4
     · cases hg
   · have side : ∀ i, (f2 i = f2 i ∧ f2 i ≤ 1000 ∧ ∀ j, j < f2 i → f1 i j = f1 i j) = True := fun i => eq_true ⟨rfl, h2 i, fun _ _ => rfl⟩
     repeat' first | (refine Tr.all_ite (fun hc => ?_) (fun hc => ?_) <;> (try simp (disch := omega) only [nV, mulO_eq, Int.cast_ofNat_Int, eq_self, side, and_true, h2, implies_true] at hc) <;> (try (exfalso; omega))) | (refine Tr.all_req ?_ ?_; · ((try simp (disch := omega) only [nV, mulO_eq, Int.cast_ofNat_Int, eq_self, side, and_true, h2, implies_true]); try omega)) | (refine Tr.all_reqP ?_ ?_; · first | exact trivial | rfl | exact ⟨rfl, rfl⟩ | exact ⟨rfl, rfl, rfl⟩ | (simp (disch := omega) only [nV, mulO_eq, Int.cast_ofNat_Int, eq_self, side, and_true, h2, implies_true]; done) | ((try simp (disch := omega) only [nV, mulO_eq, Int.cast_ofNat_Int, eq_self, side, and_true, h2, implies_true]); omega)) | fail
     refine Tr.all_ok ⟨rfl, ?_⟩
     rw [ej]; rfl
 · obtain ⟨x, h1, rfl⟩ := ex_all (Q := fun x => x = (.exit 0, fr38 (slF m f1 f2) (slF m f1 f2) (Int.ofNat m) ++ [(14, .bool false)], lv0 :: H)) (t38 n H m f1 f2 (Int.ofNat m) (fun _ _ _ _ => False)) (il_ok _ (n + 1) 0 (fun k => ctG_ok (noCt_ok _) (fun args p v hg hp H => by
    unfold g31 at hg
    split at hg
    · simp only [Option.some.injEq, Prod.mk.injEq] at hg
      obtain ⟨rfl, rfl⟩ := hg
      exact hp.2.2.elim
    · cases hg))) (noBT_ok _ _) (noRT_ok _ _) (by
    repeat' first | (refine Tr.all_ite (fun hc => ?_) (fun hc => ?_) <;> (try simp (disch := omega) only [nV, mulO_eq, Int.cast_ofNat_Int, eq_self] at hc) <;> (try (exfalso; omega))) | (refine Tr.all_req ?_ ?_; · ((try simp (disch := omega) only [nV, mulO_eq, Int.cast_ofNat_Int, eq_self]); try omega)) | (refine Tr.all_reqP ?_ ?_; · first | exact trivial | rfl | exact ⟨rfl, rfl⟩ | exact ⟨rfl, rfl, rfl⟩ | (simp (disch := omega) only [nV, mulO_eq, Int.cast_ofNat_Int, eq_self]; done) | ((try simp (disch := omega) only [nV, mulO_eq, Int.cast_ofNat_Int, eq_self]); omega)) | fail
    exact Tr.all_ok rfl)
   exact h1
theorem c38n : cd (n + 1) (.fn 38) [.nils, .nils] H = some (.bool true, H) :=
 fn_all (n := n) Try.func38 rfl rfl rfl (u38n n H) (il_no0 n) (noBT_ok _ _) (noRT_ok _ _) (Tr.all_ok ⟨rfl, rfl⟩)
end
end Go.Eng
