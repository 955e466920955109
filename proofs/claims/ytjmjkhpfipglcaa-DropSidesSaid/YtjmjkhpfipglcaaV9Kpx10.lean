/- Drop: CheckSide of the program. -/
import Derived.Test.YtjmjkhpfipglcaaV9Ko
import Derived.Test.YtjmjkhpfipglcaaV9DrUx2
import Derived.Test.YtjmjkhpfipglcaaV9DrAx4
import Derived.Test.YtjmjkhpfipglcaaV9Kdx4
section
namespace Go.Eng
open Go.Proofs
set_option linter.unusedVariables false
set_option linter.unusedSimpArgs false
set_option maxRecDepth 100000
noncomputable def lv39 (w : Int) (ls ld lm : Nat) (zs zd zm : Nat → Int) (e : Int) (rest : List (Nat × Blk)) : Lvl := ⟨false, (0, .row (.G [.int .i64 w, slA 2 ls zs, slA 3 ld zd])) :: (0, .row (.G [sl1 lm zm false])) :: (0, .row (.I .i64 [e])) :: rest⟩
noncomputable def fr39a (w : Int) (ls ld lm : Nat) (zs zd zm sz kd : Nat → Int) (p q : Int) (sure : Bool) (j : Int) : Frm := [(1, .int .i64 p), (2, .int .i64 q), (4, .bool sure), (8, .ptr 0 1 0 0), (10, .ptr 0 2 0 0), (11, tabR 0 w ls ld zs zd sz kd), (28, sl1 lm zm false), (29, .int .i64 (Int.ofNat lm)), (30, .int .i64 j)]
noncomputable def fr39b (w : Int) (ls ld lm : Nat) (zs zd zm sz kd : Nat → Int) (sure : Bool) (i : Int) : Frm := [(4, .bool sure), (8, .ptr 0 1 0 0), (10, .ptr 0 2 0 0), (11, tabR 0 w ls ld zs zd sz kd), (62, sl1 lm zm false), (63, .int .i64 (Int.ofNat lm)), (64, .int .i64 i)]
noncomputable def fr39n (w : Int) (ls ld lm : Nat) (zs zd zm sz kd : Nat → Int) (sure : Bool) (i cur : Int) : Frm := [(4, .bool sure), (8, .ptr 0 1 0 0), (10, .ptr 0 2 0 0), (11, tabR 0 w ls ld zs zd sz kd), (62, sl1 lm zm false), (63, .int .i64 (Int.ofNat lm)), (64, .int .i64 i), (71, .fn (.func 110) [] (capsN 0 w ls ld zs zd sz kd cur sure))]
noncomputable def fr39Z (w : Int) (ls ld lm : Nat) (zs zd zm sz kd : Nat → Int) (sure : Bool) (i cur q : Int) : Frm := [(4, .bool sure), (8, .ptr 4 1 0 0), (10, .ptr 4 2 0 0), (11, tabR 4 w ls ld zs zd sz kd), (62, sl1 lm zm false), (63, .int .i64 (Int.ofNat lm)), (64, .int .i64 i), (71, .fn (.func 110) [] [.ptrT (some 4) (.G [tabR 0 w ls ld zs zd sz kd]) 0, .ptrT none (.I .i64 [cur]) 0, .ptrT (some 4) (.G [.bool sure]) 0]), (72, .int .i64 q)]
noncomputable def fr39Y (q : Int) : Frm := [(8, .ptr 4 1 0 0), (10, .ptr 4 2 0 0), (17, .int .i64 q)]
noncomputable def cx39 (n : Nat) : Cx := ⟨Try.prog, cd n, 100000, 39, 78, Kt.kt 39, some (4, 3)⟩
noncomputable def sAs : Code := part Try.f39 [1,1,1,1,1,0,1,0,0,1,1,0,0,1,1,0,0]
noncomputable def sBd : Code := part Try.f39 [1,1,1,1,1,0,1,0,0,1,1,0,0,1,1,0,1]
theorem t39a (n : Nat) (w : Int) (ls ld lm : Nat) (zs zd zm sz kd : Nat → Int) (H : Heap) (p q j : Int) (sure : Bool) : execT (cxD (n+14) 39 78) (il noCt (n+13) 1) noBT noRT (part Try.f39 [1,1,1,0,1,0,0]) (hints (fr39a w ls ld lm zs zd zm sz kd p q sure j)) (lv39 w ls ld lm zs zd zm 0 [] :: H) =
 (fun (Z0 : HFrm) => Tr.ite (ltI j (Int.ofNat lm)) (Tr.req (inI j lm) (Tr.req (ltN (idO 0 j 1) lm) (Tr.ite (leI (Int.negSucc 1) (zm (idO 0 j 1))) (Tr.ite (notB (ltI (zm (idO 0 j 1)) (Int.ofNat ls))) (Tr.ok (Ex.ret, [(10, AV.ptr 0 2 0 0, none)], lv39 w ls ld lm zs zd zm 3 [] :: H)) (Tr.ite (ltI (Int.ofNat 0) j) (Tr.req (inI (subI .i64 j (Int.ofNat 1)) lm) (Tr.req (ltN (idO 0 (subI .i64 j (Int.ofNat 1)) 1) lm) (Tr.ite (leI (zm (idO 0 j 1)) (zm (idO 0 (subI .i64 j (Int.ofNat 1)) 1))) (Tr.ok (Ex.ret, [(10, AV.ptr 0 2 0 0, none)], lv39 w ls ld lm zs zd zm 3 [] :: H)) (Tr.ok (Ex.normal, Z0, lv39 w ls ld lm zs zd zm 0 [] :: H))))) (Tr.ok (Ex.normal, Z0, lv39 w ls ld lm zs zd zm 0 [] :: H)))) (Tr.ok (Ex.ret, [(10, AV.ptr 0 2 0 0, none)], lv39 w ls ld lm zs zd zm 3 [] :: H))))) (Tr.ok (Ex.exit 0, [(1, AV.int .i64 p, none), (2, AV.int .i64 q, none), (4, AV.bool sure, none), (8, AV.ptr 0 1 0 0, none), (10, AV.ptr 0 2 0 0, none), (11, tabR 0 w ls ld zs zd sz kd, none), (28, sl1 lm zm false, none), (29, AV.int .i64 (Int.ofNat lm), none), (30, AV.int .i64 j, none), (31, AV.bool false, some 1)], lv39 w ls ld lm zs zd zm 0 [] :: H))) [(1, AV.int .i64 p, none), (2, AV.int .i64 q, none), (4, AV.bool sure, none), (8, AV.ptr 0 1 0 0, none), (10, AV.ptr 0 2 0 0, none), (11, tabR 0 w ls ld zs zd sz kd, none), (28, sl1 lm zm false, none), (29, AV.int .i64 (Int.ofNat lm), none), (30, AV.int .i64 (addI .i64 j (Int.ofNat 1)), none)] := by kernel_rfl
theorem t39B (n : Nat) (w : Int) (ls ld lm : Nat) (zs zd zm : Nat → Int) (H : Heap) (q : Int) (f : (Nat → Int) → Nat → Int → Bool) (L0 : ALoop) (B : Blk) : execT (cx39 (n+2)) (il (ctG noCt 85 (gIn f)) (n+2) 0) noBT noRT sBd (hints (fr39Y q)) (lv0 :: lv0 :: lv0 :: lv110 3 [(0, .loop L0)] :: lv39 w ls ld lm zs zd zm 0 [(0, B)] :: H) =
 Tr.reqP (lm = lm ∧ leN lm 1000 = true) (Tr.ite (notB (f zm lm q)) (Tr.ok (Ex.ret, [], lv0 :: lv0 :: lv0 :: { lock := false, bs := [(0, Blk.row (Row.G [AV.yld 1 3])), (0, Blk.loop L0)] } :: { lock := false, bs := [(0, Blk.row (Row.G [AV.int .i64 w, slA 2 ls zs, slA 3 ld zd])), (0, Blk.row (Row.G [sl1 lm zm false])), (0, Blk.row (Row.I .i64 [Int.ofNat 14])), (0, B)] } :: H)) (Tr.ok (Ex.normal, [(10, AV.ptr 4 2 0 0, none), (76, AV.bool false, some 1)], lv0 :: lv0 :: lv0 :: { lock := false, bs := [(0, Blk.row (Row.G [AV.yld 1 3])), (0, Blk.loop L0)] } :: { lock := false, bs := [(0, Blk.row (Row.G [AV.int .i64 w, slA 2 ls zs, slA 3 ld zd])), (0, Blk.row (Row.G [sl1 lm zm false])), (0, Blk.row (Row.I .i64 [Int.ofNat 0])), (0, B)] } :: H))) := by kernel_rfl
theorem t39b (n : Nat) (w : Int) (ls ld lm : Nat) (zs zd zm sz kd : Nat → Int) (H : Heap) (i cur : Int) (sure e2 : Bool) : execT (cxD (n+14) 39 78) (il noCt (n+13) 1) noBT (rgE noRT (fun _ => true) (fr39n w ls ld lm zs zd zm sz kd sure i cur) (lv39 w ls ld lm zs zd zm 0 [] :: H) (.ite e2 (.ok (.ret, hints (fr39n w ls ld lm zs zd zm sz kd sure i cur), lv39 w ls ld lm zs zd zm 14 [(0, .dead)] :: H)) (.ok (.normal, hints (fr39n w ls ld lm zs zd zm sz kd sure i cur), lv39 w ls ld lm zs zd zm 0 [(0, .dead)] :: H)))) (part Try.f39 [1,1,1,1,1,0,1,0,0]) (hints (fr39b w ls ld lm zs zd zm sz kd sure i)) (lv39 w ls ld lm zs zd zm 0 [] :: H) =
 (fun (Z0 : List AV) => Tr.ite (ltI i (Int.ofNat lm)) (Tr.req (inI i lm) (Tr.req (ltN (idO 0 i 1) lm) (Tr.reqP ([(4, AV.bool sure), (8, AV.ptr 0 1 0 0), (10, AV.ptr 0 2 0 0), (11, tabR 0 w ls ld zs zd sz kd), (62, sl1 lm zm false), (63, AV.int .i64 (Int.ofNat lm)), (64, AV.int .i64 i), (71, AV.fn (Fn.func 110) [] [AV.ptrT (some 0) (Row.G [tabR 0 w ls ld zs zd sz kd]) 0, AV.ptrT none (Row.I .i64 [zm (idO 0 i 1)]) 0, AV.ptrT (some 0) (Row.G [AV.bool sure]) 0])] = [(4, AV.bool sure), (8, AV.ptr 0 1 0 0), (10, AV.ptr 0 2 0 0), (11, tabR 0 w ls ld zs zd sz kd), (62, sl1 lm zm false), (63, AV.int .i64 (Int.ofNat lm)), (64, AV.int .i64 i), (71, AV.fn (Fn.func 110) [] Z0)] ∧ lv39 w ls ld lm zs zd zm 0 [] :: H = lv39 w ls ld lm zs zd zm 0 [] :: H) (Tr.ite e2 (Tr.ok (Ex.ret, [(4, AV.bool sure, none), (8, AV.ptr 0 1 0 0, none), (10, AV.ptr 0 2 0 0, none), (11, tabR 0 w ls ld zs zd sz kd, none), (62, sl1 lm zm false, none), (63, AV.int .i64 (Int.ofNat lm), none), (64, AV.int .i64 i, none), (71, AV.fn (Fn.func 110) [] Z0, none)], { lock := false, bs := [(0, Blk.row (Row.G [AV.int .i64 w, slA 2 ls zs, slA 3 ld zd])), (0, Blk.row (Row.G [sl1 lm zm false])), (0, Blk.row (Row.I .i64 [Int.ofNat 14])), (0, Blk.dead)] } :: H)) (Tr.ok (Ex.normal, [(4, AV.bool sure, none), (8, AV.ptr 0 1 0 0, none), (10, AV.ptr 0 2 0 0, none), (11, tabR 0 w ls ld zs zd sz kd, none), (62, sl1 lm zm false, none), (63, AV.int .i64 (Int.ofNat lm), none), (64, AV.int .i64 (addI .i64 i (Int.ofNat 1)), none)], { lock := false, bs := [(0, Blk.row (Row.G [AV.int .i64 w, slA 2 ls zs, slA 3 ld zd])), (0, Blk.row (Row.G [sl1 lm zm false])), (0, Blk.row (Row.I .i64 [Int.ofNat 0])), (0, Blk.dead)] } :: H)))))) (Tr.ok (Ex.exit 2, [(4, AV.bool sure, none), (8, AV.ptr 0 1 0 0, none), (10, AV.ptr 0 2 0 0, none), (11, tabR 0 w ls ld zs zd sz kd, none), (62, sl1 lm zm false, none), (63, AV.int .i64 (Int.ofNat lm), none), (64, AV.int .i64 i, none), (65, AV.bool false, some 1)], lv39 w ls ld lm zs zd zm 0 [] :: H))) [AV.ptrT (some 0) (Row.G [tabR 0 w ls ld zs zd sz kd]) 0, AV.ptrT none (Row.I .i64 [cur]) 0, AV.ptrT (some 0) (Row.G [AV.bool sure]) 0] := by kernel_rfl
theorem t39be (n : Nat) (w : Int) (ls ld lm : Nat) (zs zd zm sz kd : Nat → Int) (H : Heap) (i : Int) (sure : Bool) : execT (cxD (n+14) 39 78) (il noCt (n+13) 1) noBT (rgE noRT (fun _ => true) [] [] .bad) (part Try.f39 [1,1,1,1,1,0,1,0,0]) (hints (fr39b w ls ld lm zs zd zm sz kd sure i)) (lv39 w ls ld lm zs zd zm 0 [] :: H) =
 Tr.ite (ltI i (Int.ofNat lm)) (Tr.req (inI i lm) (Tr.req (ltN (idO 0 i 1) lm) (Tr.reqP ([(4, AV.bool sure), (8, AV.ptr 0 1 0 0), (10, AV.ptr 0 2 0 0), (11, tabR 0 w ls ld zs zd sz kd), (62, sl1 lm zm false), (63, AV.int .i64 (Int.ofNat lm)), (64, AV.int .i64 i), (71, AV.fn (Fn.func 110) [] [AV.ptrT (some 0) (Row.G [tabR 0 w ls ld zs zd sz kd]) 0, AV.ptrT none (Row.I .i64 [zm (idO 0 i 1)]) 0, AV.ptrT (some 0) (Row.G [AV.bool sure]) 0])] = [] ∧ lv39 w ls ld lm zs zd zm 0 [] :: H = []) Tr.bad))) (Tr.ok (Ex.exit 2, [(4, AV.bool sure, none), (8, AV.ptr 0 1 0 0, none), (10, AV.ptr 0 2 0 0, none), (11, tabR 0 w ls ld zs zd sz kd, none), (62, sl1 lm zm false, none), (63, AV.int .i64 (Int.ofNat lm), none), (64, AV.int .i64 i, none), (65, AV.bool false, some 1)], lv39 w ls ld lm zs zd zm 0 [] :: H)) := by kernel_rfl
theorem u39x (n : Nat) (w : Int) (ls ld lm : Nat) (zs zd zm : Nat → Int) (H : Heap) (p q e : Int) (sure : Bool) : bodyT Try.prog (cd (n+14)) 100000 39 Try.f39 (Kt.kt 39) (il (ctG noCt 68 (g68 (bathA w ls zs ld zd) p q .nilp e)) (n+14) 0) (stopB (stopB noBT 0) 2) noRT [(bathA w ls zs ld zd, none), (.int .i64 p, none), (.int .i64 q, none), (sl1 lm zm false, none), (.bool sure, none)] H =
 Tr.reqP (bathA w ls zs ld zd = bathA w ls zs ld zd ∧ p = p ∧ q = q) (Tr.ite (notB (eqI e (Int.ofNat 0))) (Tr.ok ((AV.int .i64 e, none), H)) Tr.bad) := by kernel_rfl
theorem u39y (n : Nat) (w : Int) (ls ld lm : Nat) (zs zd zm sz kd : Nat → Int) (H : Heap) (p q : Int) (sure : Bool) : bodyT Try.prog (cd (n+14)) 100000 39 Try.f39 (Kt.kt 39) (il (ctG noCt 68 (g68 (bathA w ls zs ld zd) p q (tabV w ls ld zs zd sz kd) 0)) (n+14) 0) (blkE (stopB noBT 2) 0 (fr39a w ls ld lm zs zd zm sz kd p q sure 0) (lv39 w ls ld lm zs zd zm 0 [] :: H) (.ok (.ret, [(10, .ptr 0 2 0 0, none)], lv39 w ls ld lm zs zd zm 3 [] :: H))) noRT [(bathA w ls zs ld zd, none), (.int .i64 p, none), (.int .i64 q, none), (sl1 lm zm false, none), (.bool sure, none)] H =
 (fun (Z0 : Frm) => Tr.reqP (bathA w ls zs ld zd = bathA w ls zs ld zd ∧ p = p ∧ q = q) (Tr.ite (notB (eqI (Int.ofNat 0) (Int.ofNat 0))) (Tr.ok ((AV.int .i64 (Int.ofNat 0), none), H)) (Tr.reqP (Z0 = Z0 ∧ lv39 w ls ld lm zs zd zm 0 [] :: H = lv39 w ls ld lm zs zd zm 0 [] :: H) (Tr.ok ((AV.int .i64 (Int.ofNat 3), none), H))))) [(1, AV.int .i64 p), (2, AV.int .i64 q), (4, AV.bool sure), (8, AV.ptr 0 1 0 0), (10, AV.ptr 0 2 0 0), (11, tabR 0 w ls ld zs zd sz kd), (28, sl1 lm zm false), (29, AV.int .i64 (Int.ofNat lm)), (30, AV.int .i64 (Int.ofNat 0))] := by kernel_rfl
theorem u39z (n : Nat) (w : Int) (ls ld lm : Nat) (zs zd zm sz kd : Nat → Int) (H : Heap) (p q i cur : Int) (sure e2 : Bool) (f : (Nat → Int) → Nat → Int → Bool) : bodyT Try.prog (cd (n+14)) 100000 39 Try.f39 (Kt.kt 39) (il (ctG (ctG noCt 68 (g68 (bathA w ls zs ld zd) p q (tabV w ls ld zs zd sz kd) 0)) 85 (gIn f)) (n+14) 0) (blkE (blkE noBT 2 (fr39b w ls ld lm zs zd zm sz kd sure 0) (lv39 w ls ld lm zs zd zm 0 [] :: H) (.ite e2 (.ok (.ret, hints (fr39n w ls ld lm zs zd zm sz kd sure i cur), lv39 w ls ld lm zs zd zm 14 [(0, .dead)] :: H)) (.ok (.normal, hints (fr39b w ls ld lm zs zd zm sz kd sure (Int.ofNat lm) ++ [(65, .bool false)]), lv39 w ls ld lm zs zd zm 0 [] :: H)))) 0 (fr39a w ls ld lm zs zd zm sz kd p q sure 0) (lv39 w ls ld lm zs zd zm 0 [] :: H) (.ok (.normal, hints (fr39a w ls ld lm zs zd zm sz kd p q sure (Int.ofNat lm) ++ [(31, .bool false)]), lv39 w ls ld lm zs zd zm 0 [] :: H))) noRT [(bathA w ls zs ld zd, none), (.int .i64 p, none), (.int .i64 q, none), (sl1 lm zm false, none), (.bool sure, none)] H =
 (fun (Z0 : Frm) => ((fun (Z1 : Frm) => Tr.reqP (bathA w ls zs ld zd = bathA w ls zs ld zd ∧ p = p ∧ q = q) (Tr.ite (notB (eqI (Int.ofNat 0) (Int.ofNat 0))) (Tr.ok ((AV.int .i64 (Int.ofNat 0), none), H)) (Tr.reqP (Z0 = Z0 ∧ lv39 w ls ld lm zs zd zm 0 [] :: H = lv39 w ls ld lm zs zd zm 0 [] :: H) (Tr.reqP (lm = lm ∧ leN lm 1000 = true) (Tr.ite (notB (f zm lm p)) (Tr.ok ((AV.int .i64 (Int.ofNat 14), none), H)) (Tr.reqP (lm = lm ∧ leN lm 1000 = true) (Tr.ite (f zm lm q) (Tr.ok ((AV.int .i64 (Int.ofNat 14), none), H)) (Tr.reqP (Z1 = Z1 ∧ lv39 w ls ld lm zs zd zm 0 [] :: H = lv39 w ls ld lm zs zd zm 0 [] :: H) (Tr.ite e2 (Tr.ok ((AV.int .i64 (Int.ofNat 14), none), H)) (Tr.ok ((AV.int .i64 (Int.ofNat 0), none), H))))))))))) [(4, AV.bool sure), (8, AV.ptr 0 1 0 0), (10, AV.ptr 0 2 0 0), (11, tabR 0 w ls ld zs zd sz kd), (62, sl1 lm zm false), (63, AV.int .i64 (Int.ofNat lm)), (64, AV.int .i64 (Int.ofNat 0))])) [(1, AV.int .i64 p), (2, AV.int .i64 q), (4, AV.bool sure), (8, AV.ptr 0 1 0 0), (10, AV.ptr 0 2 0 0), (11, tabR 0 w ls ld zs zd sz kd), (28, sl1 lm zm false), (29, AV.int .i64 (Int.ofNat lm)), (30, AV.int .i64 (Int.ofNat 0))] := by kernel_rfl
noncomputable def rec39 (w : Int) (ls ld lm : Nat) (zs zd zm sz kd : Nat → Int) (sure : Bool) (i cur : Int) : ALoop := { state := .ready, pending := none, fn := 39, nt := 78, fr := fr39n w ls ld lm zs zd zm sz kd sure i cur, params := [72], assign := sAs, body := sBd }
noncomputable def rec39d (w : Int) (ls ld lm : Nat) (zs zd zm sz kd : Nat → Int) (sure : Bool) (i cur : Int) : ALoop := { rec39 w ls ld lm zs zd zm sz kd sure i cur with state := .done, pending := some .ret }
theorem b39a : ∀ b, (0, b) ∈ blocksOf (bodyOf Try.f39) → b = .loop (part Try.f39 [1,1,1,0,1,0,0]) := by
 have : ((blocksOf (bodyOf Try.f39)).filter fun x => Nat.beq x.1 0) = [(0, .loop (part Try.f39 [1,1,1,0,1,0,0]))] := by kernel_rfl
 intro b hb
 have hm : (0, b) ∈ ((blocksOf (bodyOf Try.f39)).filter fun x => Nat.beq x.1 0) := List.mem_filter.2 ⟨hb, rfl⟩
 rw [this] at hm; simpa using hm
theorem b39b : ∀ b, (2, b) ∈ blocksOf (bodyOf Try.f39) → b = .loop (part Try.f39 [1,1,1,1,1,0,1,0,0]) := by
 have : ((blocksOf (bodyOf Try.f39)).filter fun x => Nat.beq x.1 2) = [(2, .loop (part Try.f39 [1,1,1,1,1,0,1,0,0]))] := by kernel_rfl
 intro b hb
 have hm : (2, b) ∈ ((blocksOf (bodyOf Try.f39)).filter fun x => Nat.beq x.1 2) := List.mem_filter.2 ⟨hb, rfl⟩
 rw [this] at hm; simpa using hm
theorem r39o : rangesOf (part Try.f39 [1,1,1,1,1,0,1,0,0]) = [(.tmp 71, #[72], sAs, sBd)] := by kernel_rfl
section
variable (n : Nat) (w : Int) (ls ld lm : Nat) (zs zd zm sz kd : Nat → Int) (H : Heap) (p q i cur : Int) (sure : Bool)
theorem l39a (hm : lm ≤ 1000) : exec (cxD (n + 14) 39 78) (.block 0 (.loop (part Try.f39 [1,1,1,0,1,0,0]))) (fr39a w ls ld lm zs zd zm sz kd p q sure 0) (lv39 w ls ld lm zs zd zm 0 [] :: H) = some (cond (exN (sdO ls zm) lm) (.ret, [(10, .ptr 0 2 0 0)], lv39 w ls ld lm zs zd zm 3 [] :: H) (.normal, fr39a w ls ld lm zs zd zm sz kd p q sure (Int.ofNat lm) ++ [(31, .bool false)], lv39 w ls ld lm zs zd zm 0 [] :: H)) := by
 refine findX (n := n + 14) (f := 39) (nt := 78) (c := part Try.f39 [1,1,1,0,1,0,0]) 0 (fun j => fr39a w ls ld lm zs zd zm sz kd p q sure (j : Int)) (fun _ => lv39 w ls ld lm zs zd zm 0 [] :: H) lm (sdO ls zm) (fun _ => ([(10, .ptr 0 2 0 0)], lv39 w ls ld lm zs zd zm 3 [] :: H)) (fr39a w ls ld lm zs zd zm sz kd p q sure (Int.ofNat lm) ++ [(31, .bool false)], lv39 w ls ld lm zs zd zm 0 [] :: H) (by omega) (fun j hj => ?_) ?_
 · have ej : addI .i64 (j : Int) (Int.ofNat 1) = ((j + 1 : Nat) : Int) := by rw [addI_eq, show Int.ofNat 1 = 1 from rfl]; exact wr_64 (by omega) (by omega)
   have es : subI .i64 (j : Int) (Int.ofNat 1) = (j : Int) - 1 := by rw [subI_eq, show Int.ofNat 1 = 1 from rfl]; exact wr_64 (by omega) (by omega)
   have et : ((j : Int) - 1).toNat = j - 1 := by omega
   have e2 : Int.negSucc 1 = -2 := rfl
   refine ex_all (t39a n w ls ld lm zs zd zm sz kd H p q (j : Int) sure) (il_no (n + 13) 1) (noBT_ok _ _) (noRT_ok _ _) ?_
   have hs : sdO ls zm j = (!(decide (-2 ≤ zm j) && decide (zm j < ls)) || (decide (0 < j) && decide (zm j ≤ zm (j - 1)))) := rfl
   rw [es, e2]
   repeat' first | (refine Tr.all_ite (fun hc => ?_) (fun hc => ?_) <;> (try simp (disch := omega) only [nV, mulO_eq, Int.cast_ofNat_Int, eq_self, Nat.mul_one, et] at hc) <;> (try (exfalso; omega))) | (refine Tr.all_req ?_ ?_; · ((try simp (disch := omega) only [nV, mulO_eq, Int.cast_ofNat_Int, eq_self, Nat.mul_one, et]); try omega)) | (refine Tr.all_reqP ?_ ?_; · first | exact trivial | rfl | exact ⟨rfl, rfl⟩ | exact ⟨rfl, rfl, rfl⟩ | (simp (disch := omega) only [nV, mulO_eq, Int.cast_ofNat_Int, eq_self, Nat.mul_one, et]; done) | ((try simp (disch := omega) only [nV, mulO_eq, Int.cast_ofNat_Int, eq_self, Nat.mul_one, et]); omega)) | fail
   all_goals refine Tr.all_ok ?_
   all_goals first
    | (rw [if_pos (by rw [hs]; simp; omega)]; rfl)
    | (rw [if_neg (by rw [hs]; simp; omega)]; exact ⟨rfl, by rw [ej]; rfl⟩)
    | fail
 · obtain ⟨x, h1, rfl⟩ := ex_all (Q := fun x => x = (.exit 0, fr39a w ls ld lm zs zd zm sz kd p q sure (Int.ofNat lm) ++ [(31, .bool false)], lv39 w ls ld lm zs zd zm 0 [] :: H)) (t39a n w ls ld lm zs zd zm sz kd H p q (Int.ofNat lm) sure) (il_no (n + 13) 1) (noBT_ok _ _) (noRT_ok _ _) (by
    repeat' first | (refine Tr.all_ite (fun hc => ?_) (fun hc => ?_) <;> (try simp (disch := omega) only [nV, mulO_eq, Int.cast_ofNat_Int, eq_self] at hc) <;> (try (exfalso; omega))) | (refine Tr.all_req ?_ ?_; · ((try simp (disch := omega) only [nV, mulO_eq, Int.cast_ofNat_Int, eq_self]); try omega)) | (refine Tr.all_reqP ?_ ?_; · first | exact trivial | rfl | exact ⟨rfl, rfl⟩ | exact ⟨rfl, rfl, rfl⟩ | (simp (disch := omega) only [nV, mulO_eq, Int.cast_ofNat_Int, eq_self]; done) | ((try simp (disch := omega) only [nV, mulO_eq, Int.cast_ofNat_Int, eq_self]); omega)) | fail
    exact Tr.all_ok rfl)
   exact h1
theorem as39 (q : Int) (L0 : Lvl) (G : Heap) : exec (cx39 n) sAs (fr39Z w ls ld lm zs zd zm sz kd sure i cur q) (lv0 :: lv0 :: lv0 :: L0 :: G) = some (.normal, fr39Y q, lv0 :: lv0 :: lv0 :: L0 :: G) := by
 have e : execT (cx39 n) (il noCt n 0) noBT noRT sAs (hints (fr39Z w ls ld lm zs zd zm sz kd sure i cur q)) (lv0 :: lv0 :: lv0 :: L0 :: G) = .ok (.normal, hints (fr39Y q), lv0 :: lv0 :: lv0 :: L0 :: G) := by kernel_rfl
 have := execT_ok (cx := cx39 n) (il_no0 n) sAs (noBT_ok _ _) (noRT_ok _ _) (hints (fr39Z w ls ld lm zs zd zm sz kd sure i cur q)) (lv0 :: lv0 :: lv0 :: L0 :: G) _ (by rw [e]; rfl)
 rw [hints_eq] at this
 simp only [Res.st, hints_eq] at this
 exact this
theorem il85 : (il (ctG noCt 85 (gIn inN)) (n + 2) 0).Ok (cd (n + 2)) := by
 refine il_ok _ (n + 2) 0 (fun k => ctG_ok (noCt_ok _) (fun args p v hg hp H => ?_))
 unfold gIn at hg
 split at hg
 · simp only [Option.some.injEq, Prod.mk.injEq] at hg
   obtain ⟨rfl, rfl⟩ := hg
   obtain ⟨rfl, hp⟩ := hp
   rw [leN_eq, decide_eq_true_eq] at hp
   rw [show n + 2 + k = n + k + 2 by omega]
   exact c85 _ H _ _ _ _ hp
 · cases hg
theorem bd39 (hm : lm ≤ 1000) (q : Int) (L0 : ALoop) (B : Blk) : ∃ fr' lv, exec (cx39 (n + 2)) sBd (fr39Y q) (lv0 :: lv0 :: lv0 :: lv110 3 [(0, .loop L0)] :: lv39 w ls ld lm zs zd zm 0 [(0, B)] :: H) = some (cond (inN zm lm q) Ex.normal Ex.ret, fr', lv :: lv0 :: lv0 :: lv110 3 [(0, .loop L0)] :: lv39 w ls ld lm zs zd zm (cond (inN zm lm q) 0 14) [(0, B)] :: H) := by
 have key : (execT (cx39 (n + 2)) (il (ctG noCt 85 (gIn inN)) (n + 2) 0) noBT noRT sBd (hints (fr39Y q)) (lv0 :: lv0 :: lv0 :: lv110 3 [(0, .loop L0)] :: lv39 w ls ld lm zs zd zm 0 [(0, B)] :: H)).all fun x => x.1 = cond (inN zm lm q) Ex.normal Ex.ret ∧ ∃ lv, x.2.2 = lv :: lv0 :: lv0 :: lv110 3 [(0, .loop L0)] :: lv39 w ls ld lm zs zd zm (cond (inN zm lm q) 0 14) [(0, B)] :: H := by
  rw [t39B]
  repeat' first | (refine Tr.all_ite (fun hc => ?_) (fun hc => ?_) <;> (try simp (disch := omega) only [nV, mulO_eq, Int.cast_ofNat_Int, eq_self] at hc) <;> (try (exfalso; omega))) | (refine Tr.all_req ?_ ?_; · ((try simp (disch := omega) only [nV, mulO_eq, Int.cast_ofNat_Int, eq_self]); try omega)) | (refine Tr.all_reqP ?_ ?_; · first | exact trivial | rfl | exact ⟨rfl, rfl⟩ | exact ⟨rfl, rfl, rfl⟩ | (simp (disch := omega) only [nV, mulO_eq, Int.cast_ofNat_Int, eq_self]; done) | ((try simp (disch := omega) only [nV, mulO_eq, Int.cast_ofNat_Int, eq_self]); omega)) | fail
  all_goals refine Tr.all_ok ?_
  all_goals rw [hc]; exact ⟨rfl, _, rfl⟩
 obtain ⟨x, h1, h3, lv, h4⟩ := key
 have := execT_ok (cx := cx39 (n + 2)) (il85 n) sBd (noBT_ok _ _) (noRT_ok _ _) _ _ _ h1
 rw [hints_eq] at this
 refine ⟨strip x.2.1, lv, this.trans ?_⟩
 obtain ⟨e, f, g⟩ := x
 dsimp only at h3 h4
 subst h3; subst h4
 rfl
theorem near39 (hm : lm ≤ 1000) : NearR 3 (n + 1) ls kd cur sure (fun _ => lv39 w ls ld lm zs zd zm 0 [(0, .loop (rec39 w ls ld lm zs zd zm sz kd sure i cur))] :: H) (fun _ => lv39 w ls ld lm zs zd zm 14 [(0, .loop (rec39d w ls ld lm zs zd zm sz kd sure i cur))] :: H) (fun j => inN zm lm ((j : Int) - 2)) where
 hit := fun j hj hh L => by
  obtain ⟨fr', lv, h2⟩ := bd39 n w ls ld lm zs zd zm H hm ((j : Int) - 2) L (.loop { rec39 w ls ld lm zs zd zm sz kd sure i cur with state := .busy })
  have ha := as39 (n + 2) w ls ld lm zs zd zm sz kd i cur sure ((j : Int) - 2) (lv110 3 [(0, .loop L)]) (lv39 w ls ld lm zs zd zm 0 [(0, .loop (rec39 w ls ld lm zs zd zm sz kd sure i cur))] :: H)
  cases hi : inN zm lm ((j : Int) - 2) with
  | true =>
    rw [hi] at h2
    exact round_of (P := Try.prog) (ora := oraD) (KT := Kt.kt) (fu := 100000) (n := n + 2) (d := 3) (i := 3) (args := [.int .i64 ((j : Int) - 2)]) (H := lv0 :: lv0 :: lv110 3 [(0, .loop L)] :: lv39 w ls ld lm zs zd zm 0 [(0, .loop (rec39 w ls ld lm zs zd zm sz kd sure i cur))] :: H) (l := rec39 w ls ld lm zs zd zm sz kd sure i cur) (l1 := rec39 w ls ld lm zs zd zm sz kd sure i cur) (l2 := { rec39 w ls ld lm zs zd zm sz kd sure i cur with state := .busy }) (fr := fr39Z w ls ld lm zs zd zm sz kd sure i cur ((j : Int) - 2)) rfl rfl rfl rfl ha rfl rfl h2 rfl
  | false =>
    rw [hi] at h2
    exact round_of (P := Try.prog) (ora := oraD) (KT := Kt.kt) (fu := 100000) (n := n + 2) (d := 3) (i := 3) (args := [.int .i64 ((j : Int) - 2)]) (H := lv0 :: lv0 :: lv110 3 [(0, .loop L)] :: lv39 w ls ld lm zs zd zm 0 [(0, .loop (rec39 w ls ld lm zs zd zm sz kd sure i cur))] :: H) (l := rec39 w ls ld lm zs zd zm sz kd sure i cur) (l1 := rec39 w ls ld lm zs zd zm sz kd sure i cur) (l2 := { rec39 w ls ld lm zs zd zm sz kd sure i cur with state := .busy }) (fr := fr39Z w ls ld lm zs zd zm sz kd sure i cur ((j : Int) - 2)) rfl rfl rfl rfl ha rfl rfl h2 rfl
 skip := fun j hj hh => rfl
def sdP (kd : Nat → Int) (sure : Bool) (ls : Nat) (z : Nat → Int) (m : Nat) (i : Nat) : Bool := exN (nrH kd sure (z i) (fun j => inN z m ((j : Int) - 2))) (ls + 2)
theorem rg39 (hm : lm ≤ 1000) (hls : ls ≤ 10) (hc : -2 ≤ cur ∧ cur < ls) (b : Bool) (hb : exN (nrH kd sure cur (fun j => inN zm lm ((j : Int) - 2))) (ls + 2) = b) : exec (cxD (n + 14) 39 78) (.rangeFunc (.tmp 71) #[72] sAs sBd) (fr39n w ls ld lm zs zd zm sz kd sure i cur) (lv39 w ls ld lm zs zd zm 0 [] :: H) =
 some (cond b Ex.ret Ex.normal, fr39n w ls ld lm zs zd zm sz kd sure i cur, lv39 w ls ld lm zs zd zm (cond b 14 0) [(0, .dead)] :: H) := by
 have hn := c110 3 (n + 9) 0 w ls ld zs zd sz kd cur sure (near39 (n + 8) w ls ld lm zs zd zm sz kd H i cur sure hm) hc hls
 rw [hb] at hn
 cases b with
 | true =>
   rw [if_pos rfl] at hn
   exact range_of (cx := cxD (n + 14) 39 78) (l := rec39d w ls ld lm zs zd zm sz kd sure i cur) (f := .tmp 71) (ps := #[72]) (fr := fr39n w ls ld lm zs zd zm sz kd sure i cur) (H := lv39 w ls ld lm zs zd zm 0 [] :: H) (g := 110) (a := []) (b := capsN 0 w ls ld zs zd sz kd cur sure) (e := .ret) rfl rfl rfl hn rfl rfl rfl
 | false =>
   rw [if_neg (by simp)] at hn
   exact range_of (cx := cxD (n + 14) 39 78) (l := rec39 w ls ld lm zs zd zm sz kd sure i cur) (f := .tmp 71) (ps := #[72]) (fr := fr39n w ls ld lm zs zd zm sz kd sure i cur) (H := lv39 w ls ld lm zs zd zm 0 [] :: H) (g := 110) (a := []) (b := capsN 0 w ls ld zs zd sz kd cur sure) (e := .normal) rfl rfl rfl hn rfl rfl rfl
theorem l39b (hm : lm ≤ 1000) (hls : ls ≤ 10) (hz : ∀ i, i < lm → -2 ≤ zm i ∧ zm i < ls) : exec (cxD (n + 14) 39 78) (.block 2 (.loop (part Try.f39 [1,1,1,1,1,0,1,0,0]))) (fr39b w ls ld lm zs zd zm sz kd sure 0) (lv39 w ls ld lm zs zd zm 0 [] :: H) = some (cond (exN (sdP kd sure ls zm lm) lm) (.ret, fr39n w ls ld lm zs zd zm sz kd sure ((fN (sdP kd sure ls zm lm) lm 0 : Nat) : Int) (zm (fN (sdP kd sure ls zm lm) lm 0)), lv39 w ls ld lm zs zd zm 14 [(0, .dead)] :: H) (.normal, fr39b w ls ld lm zs zd zm sz kd sure (Int.ofNat lm) ++ [(65, .bool false)], lv39 w ls ld lm zs zd zm 0 [] :: H)) := by
 refine findX (n := n + 14) (f := 39) (nt := 78) (c := part Try.f39 [1,1,1,1,1,0,1,0,0]) 2 (fun j => fr39b w ls ld lm zs zd zm sz kd sure (j : Int)) (fun _ => lv39 w ls ld lm zs zd zm 0 [] :: H) lm (sdP kd sure ls zm lm) (fun j => (fr39n w ls ld lm zs zd zm sz kd sure (j : Int) (zm j), lv39 w ls ld lm zs zd zm 14 [(0, .dead)] :: H)) (fr39b w ls ld lm zs zd zm sz kd sure (Int.ofNat lm) ++ [(65, .bool false)], lv39 w ls ld lm zs zd zm 0 [] :: H) (by omega) (fun j hj => ?_) ?_
 · have ej : addI .i64 (j : Int) (Int.ofNat 1) = ((j + 1 : Nat) : Int) := by rw [addI_eq, show Int.ofNat 1 = 1 from rfl]; exact wr_64 (by omega) (by omega)
   have ei : idO 0 (j : Int) 1 = j := by rw [idO_eq]; omega
   have h0 : hNext (lv39 w ls ld lm zs zd zm 0 [] :: H) = 3 := rfl
   have hr := rg39 n w ls ld lm zs zd zm sz kd H (j : Int) (zm j) sure hm hls (hz j hj) (sdP kd sure ls zm lm j) rfl
   refine ex_all (t39b n w ls ld lm zs zd zm sz kd H (j : Int) (zm j) sure (sdP kd sure ls zm lm j)) (il_no (n + 13) 1) (noBT_ok _ _) (rgE_ok (noRT_ok _ _) (fun f ps a b _ hm x hx => ?_)) ?_
   · rw [r39o] at hm
     simp only [List.mem_cons, Prod.mk.injEq, List.not_mem_nil, or_false] at hm
     obtain ⟨rfl, rfl, rfl, rfl⟩ := hm
     refine hr.trans ?_
     rcases Tr.ite_some hx with ⟨hc, hx⟩ | ⟨hc, hx⟩
     · rw [← Tr.ok_some hx, hc]; simp only [Res.st, hints_eq]; rfl
     · rw [← Tr.ok_some hx, hc]; simp only [Res.st, hints_eq]; rfl
   · rw [ei, ej, h0]
     repeat' first | (refine Tr.all_ite (fun hc => ?_) (fun hc => ?_) <;> (try simp (disch := omega) only [nV, mulO_eq, Int.cast_ofNat_Int, eq_self] at hc) <;> (try (exfalso; omega))) | (refine Tr.all_req ?_ ?_; · ((try simp (disch := omega) only [nV, mulO_eq, Int.cast_ofNat_Int, eq_self]); try omega)) | (refine Tr.all_reqP ?_ ?_; · first | exact trivial | rfl | exact ⟨rfl, rfl⟩ | exact ⟨rfl, rfl, rfl⟩ | (simp (disch := omega) only [nV, mulO_eq, Int.cast_ofNat_Int, eq_self]; done) | ((try simp (disch := omega) only [nV, mulO_eq, Int.cast_ofNat_Int, eq_self]); omega)) | fail
     all_goals refine Tr.all_ok ?_
     · rw [if_pos hc]; rfl
     · rw [if_neg (by rw [hc]; simp)]; exact ⟨rfl, rfl⟩
 · obtain ⟨x, h1, rfl⟩ := ex_all (Q := fun x => x = (.exit 2, fr39b w ls ld lm zs zd zm sz kd sure (Int.ofNat lm) ++ [(65, .bool false)], lv39 w ls ld lm zs zd zm 0 [] :: H)) (t39be n w ls ld lm zs zd zm sz kd H (Int.ofNat lm) sure) (il_no (n + 13) 1) (noBT_ok _ _) (rgE_ok (noRT_ok _ _) (fun f ps a b _ hm x hx => (Tr.bad_some hx).elim)) (by
    repeat' first | (refine Tr.all_ite (fun hc => ?_) (fun hc => ?_) <;> (try simp (disch := omega) only [nV, mulO_eq, Int.cast_ofNat_Int, eq_self] at hc) <;> (try (exfalso; omega))) | (refine Tr.all_req ?_ ?_; · ((try simp (disch := omega) only [nV, mulO_eq, Int.cast_ofNat_Int, eq_self]); try omega)) | (refine Tr.all_reqP ?_ ?_; · first | exact trivial | rfl | exact ⟨rfl, rfl⟩ | exact ⟨rfl, rfl, rfl⟩ | (simp (disch := omega) only [nV, mulO_eq, Int.cast_ofNat_Int, eq_self]; done) | ((try simp (disch := omega) only [nV, mulO_eq, Int.cast_ofNat_Int, eq_self]); omega)) | fail
    exact Tr.all_ok rfl)
   exact h1
def csP (w : Int) (ls ld : Nat) (zs zd kd : Nat → Int) (sure : Bool) (p q : Int) (m : Nat) (z : Nat → Int) : Int :=
 if plE w ls ld zs zd p q ≠ 0 then plE w ls ld zs zd p q
 else if exN (sdO ls z) m = true then 3
 else if inN z m p = false then 14
 else if inN z m q = true then 14
 else if exN (sdP kd sure ls z m) m = true then 14 else 0
theorem plT_ok (h : plE w ls ld zs zd p q = 0) : tabV w ls ld zs zd (szs zd ld) (kdT w ls ld zs zd) = plT w ls ld zs zd p q := by
 unfold plT
 rw [if_neg (fun x => x h)]; rfl
theorem c39 (hm : lm ≤ 1000) : cd (n + 15) (.fn 39) [bathA w ls zs ld zd, .int .i64 p, .int .i64 q, sl1 lm zm false, .bool sure] H = some (.int .i64 (csP w ls ld zs zd (kdT w ls ld zs zd) sure p q lm zm), H) := by
 by_cases he : plE w ls ld zs zd p q = 0
 · obtain ⟨h, h1, h2, h3⟩ := plE_zero he
   have c := chk_ok h
   have lk := l39a n w ls ld lm zs zd zm (szs zd ld) (kdT w ls ld zs zd) H p q sure hm
   have ct68 : ∀ k, (ctG noCt 68 (g68 (bathA w ls zs ld zd) p q (tabV w ls ld zs zd (szs zd ld) (kdT w ls ld zs zd)) 0)).Ok (cd (n + 14 + k)) := fun k => ct68s n w ls ld zs zd p q k _ _ (plT_ok w ls ld zs zd p q he) he.symm
   cases hx : exN (sdO ls zm) lm with
   | true =>
     rw [hx] at lk
     refine fn_all (n := n + 14) Try.func39 rfl rfl rfl (u39y n w ls ld lm zs zd zm (szs zd ld) (kdT w ls ld zs zd) H p q sure) (il_ok _ (n + 14) 0 ct68) (blkE_ok (stopB_ok (noBT_ok _ _) 2) b39a (fun x hx => by rw [← Tr.ok_some hx]; exact lk)) (noRT_ok _ _) ?_
     unfold csP
     rw [he, if_neg (by simp), if_pos hx]
     repeat' first | (refine Tr.all_ite (fun hc => ?_) (fun hc => ?_) <;> (try simp (disch := omega) only [nV, mulO_eq, Int.cast_ofNat_Int, eq_self] at hc) <;> (try (exfalso; omega))) | (refine Tr.all_req ?_ ?_; · ((try simp (disch := omega) only [nV, mulO_eq, Int.cast_ofNat_Int, eq_self]); try omega)) | (refine Tr.all_reqP ?_ ?_; · first | exact trivial | rfl | exact ⟨rfl, rfl⟩ | exact ⟨rfl, rfl, rfl⟩ | (simp (disch := omega) only [nV, mulO_eq, Int.cast_ofNat_Int, eq_self]; done) | ((try simp (disch := omega) only [nV, mulO_eq, Int.cast_ofNat_Int, eq_self]); omega)) | fail
     exact Tr.all_ok ⟨rfl, rfl⟩
   | false =>
     rw [hx] at lk
     have hz : ∀ i, i < lm → -2 ≤ zm i ∧ zm i < ls := fun i hi => by
      cases hq : isPl ls (zm i) with
      | true => simpa [isPl] using hq
      | false =>
        have := (exN_iff (sdO ls zm) lm).2 ⟨i, hi, by unfold sdO; rw [hq]; rfl⟩
        rw [this] at hx; cases hx
     have l2 := l39b n w ls ld lm zs zd zm (szs zd ld) (kdT w ls ld zs zd) H sure hm (by omega) hz
     refine fn_all (n := n + 14) Try.func39 rfl rfl rfl (u39z n w ls ld lm zs zd zm (szs zd ld) (kdT w ls ld zs zd) H p q ((fN (sdP (kdT w ls ld zs zd) sure ls zm lm) lm 0 : Nat) : Int) (zm (fN (sdP (kdT w ls ld zs zd) sure ls zm lm) lm 0)) sure (exN (sdP (kdT w ls ld zs zd) sure ls zm lm) lm) inN) (il_ok _ (n + 14) 0 (fun k => ctG_ok (ct68 k) (fun args p v hg hp H => ?_))) (blkE_ok (blkE_ok (noBT_ok _ _) b39b (fun x hx => ?_)) b39a (fun x hx => ?_)) (noRT_ok _ _) ?_
     · unfold gIn at hg
       split at hg
       · simp only [Option.some.injEq, Prod.mk.injEq] at hg
         obtain ⟨rfl, rfl⟩ := hg
         obtain ⟨rfl, hp⟩ := hp
         rw [leN_eq, decide_eq_true_eq] at hp
         rw [show n + 14 + k = n + 12 + k + 2 by omega]
         exact c85 _ H _ _ _ _ hp
       · cases hg
     · refine Eq.trans l2 ?_
       rcases Tr.ite_some hx with ⟨hc, hx⟩ | ⟨hc, hx⟩
       · rw [← Tr.ok_some hx, hc]; simp only [Res.st, hints_eq]; rfl
       · rw [← Tr.ok_some hx, hc]; simp only [Res.st, hints_eq]; rfl
     · rw [← Tr.ok_some hx]; simp only [Res.st, hints_eq]; exact lk
     · unfold csP
       rw [he, if_neg (by simp), if_neg (by rw [hx]; simp)]
       repeat' first | (refine Tr.all_ite (fun hc => ?_) (fun hc => ?_) <;> (try simp (disch := omega) only [nV, mulO_eq, Int.cast_ofNat_Int, eq_self] at hc) <;> (try (exfalso; omega))) | (refine Tr.all_req ?_ ?_; · ((try simp (disch := omega) only [nV, mulO_eq, Int.cast_ofNat_Int, eq_self]); try omega)) | (refine Tr.all_reqP ?_ ?_; · first | exact trivial | rfl | exact ⟨rfl, rfl⟩ | exact ⟨rfl, rfl, rfl⟩ | (simp (disch := omega) only [nV, mulO_eq, Int.cast_ofNat_Int, eq_self]; done) | ((try simp (disch := omega) only [nV, mulO_eq, Int.cast_ofNat_Int, eq_self]); omega)) | fail
       all_goals refine Tr.all_ok ⟨?_, rfl⟩
       all_goals first
        | (simp_all; done)
        | (simp_all; rfl)
        | fail
 · refine fn_all (n := n + 14) Try.func39 rfl rfl rfl (u39x n w ls ld lm zs zd zm H p q (plE w ls ld zs zd p q) sure) (il_ok _ (n + 14) 0 (fun k => ct68s n w ls ld zs zd p q k _ _ (by unfold plT; rw [if_pos he]) rfl)) (stopB_ok (stopB_ok (noBT_ok _ _) 0) 2) (noRT_ok _ _) ?_
   unfold csP
   rw [if_pos he]
   repeat' first | (refine Tr.all_ite (fun hc => ?_) (fun hc => ?_) <;> (try simp (disch := omega) only [nV, mulO_eq, Int.cast_ofNat_Int, eq_self] at hc) <;> (try (exfalso; omega))) | (refine Tr.all_req ?_ ?_; · ((try simp (disch := omega) only [nV, mulO_eq, Int.cast_ofNat_Int, eq_self]); try omega)) | (refine Tr.all_reqP ?_ ?_; · first | exact trivial | rfl | exact ⟨rfl, rfl⟩ | exact ⟨rfl, rfl, rfl⟩ | (simp (disch := omega) only [nV, mulO_eq, Int.cast_ofNat_Int, eq_self]; done) | ((try simp (disch := omega) only [nV, mulO_eq, Int.cast_ofNat_Int, eq_self]); omega)) | fail
   exact Tr.all_ok ⟨rfl, rfl⟩
end
end Go.Eng
end
section
namespace Go.Eng
open Go.Proofs
set_option linter.unusedVariables false
set_option linter.unusedSimpArgs false
set_option maxRecDepth 100000
end Go.Eng
end
section
namespace Go.Eng
open Go.Proofs
set_option linter.unusedVariables false
set_option linter.unusedSimpArgs false
set_option maxRecDepth 100000
section
variable (n : Nat) (w : Int) (ls ld lb : Nat) (zs zd zb : Nat → Int) (H : Heap)
end
end Go.Eng
end
section
namespace Go.Eng
set_option linter.unusedVariables false
set_option linter.unusedSimpArgs false
end Go.Eng
end
section
namespace Go.Eng
open Go.Proofs
set_option linter.unusedVariables false
set_option linter.unusedSimpArgs false
set_option maxRecDepth 100000
section
variable (n : Nat) (w : Int) (ls ld lb : Nat) (zs zd zb : Nat → Int) (H : Heap) (p q : Int)
end
end Go.Eng
end
section
namespace Go.Eng
open Go.Proofs
set_option linter.unusedVariables false
set_option linter.unusedSimpArgs false
set_option maxRecDepth 100000
section
variable (n : Nat) (H : Heap)
end
end Go.Eng
end
section
namespace Go.Eng
open Go.Proofs
set_option linter.unusedVariables false
set_option linter.unusedSimpArgs false
set_option maxRecDepth 100000
section
variable (n : Nat) (w : Int) (ls ld : Nat) (zs zd : Nat → Int) (H : Heap) (p q : Int)
end
end Go.Eng
end
section
namespace Go.Eng
open Go.Proofs
set_option linter.unusedVariables false
set_option linter.unusedSimpArgs false
set_option maxRecDepth 100000
section
variable (n : Nat) (w : Int) (ls ld lt : Nat) (zs zd tr : Nat → Int) (H : Heap) (a b c d D F K : Int)
end
end Go.Eng
end
section
namespace Go.Eng
open Go.Proofs
set_option linter.unusedVariables false
set_option linter.unusedSimpArgs false
set_option maxRecDepth 100000
section
variable (n : Nat) (w : Int) (ls ld lb : Nat) (zs zd zb : Nat → Int) (H : Heap) (a b c d : Int)
end
end Go.Eng
end
section
namespace Go.Eng
open Go.Proofs
set_option linter.unusedVariables false
set_option linter.unusedSimpArgs false
set_option maxRecDepth 100000
theorem bothR_sym {a c x y x' y' : Int} (ha : 0 ≤ a ∧ a ≤ 1000000) (hc : 0 ≤ c ∧ c ≤ 1000000) (hx : 0 ≤ x ∧ x ≤ 1000) (hy : 0 ≤ y ∧ y ≤ 1000) (hx' : 0 ≤ x' ∧ x' ≤ 1000) (hy' : 0 ≤ y' ∧ y' ≤ 1000) : bothR a c x y x' y' = bothR c a x' y' x y := by
 have s1 := sq_le (k := x - x') (M := 1000) (by omega) (by omega)
 have s2 := sq_le (k := y - y') (M := 1000) (by omega) (by omega)
 have e1 : IntKind.i64.wrap (x - x') = x - x' := wr_in (by omega) (by omega)
 have e2 : IntKind.i64.wrap (y - y') = y - y' := wr_in (by omega) (by omega)
 have e3 : IntKind.i64.wrap (x' - x) = -(x - x') := by rw [wr_in (by omega) (by omega)]; omega
 have e4 : IntKind.i64.wrap (y' - y) = -(y - y') := by rw [wr_in (by omega) (by omega)]; omega
 have pr : ∀ u v : Int, 0 ≤ u → u ≤ 1000000 → 0 ≤ v → v ≤ 1000000 → 0 ≤ 4 * u * v ∧ 4 * u * v ≤ 4000000000000 := fun u v h1 h2 h3 h4 => by
  constructor
  · exact Int.mul_nonneg (by omega) h3
  · exact Int.le_trans (Int.mul_le_mul (show 4 * u ≤ 4000000 by omega) h4 h3 (by omega)) (by omega)
 have q1 := pr a c ha.1 ha.2 hc.1 hc.2
 have q2 : 4 * c * a = 4 * a * c := by rw [Int.mul_assoc, Int.mul_comm c a, ← Int.mul_assoc]
 unfold bothR
 simp only [e1, e2, e3, e4, Int.neg_mul_neg]
 generalize (x - x') * (x - x') = X at s1 ⊢
 generalize (y - y') * (y - y') = Y at s2 ⊢
 rw [wr_in (k := X) (by omega) (by omega), wr_in (k := Y) (by omega) (by omega), wr_in (k := X + Y) (by omega) (by omega), wr_in (k := X + Y - a) (by omega) (by omega), wr_in (k := X + Y - c) (by omega) (by omega), wr_in (k := X + Y - a - c) (by omega) (by omega), show X + Y - c - a = X + Y - a - c by omega, wr_in (k := X + Y - a - c) (by omega) (by omega), Int.add_comm c a, wr_in (k := 4 * a) (by omega) (by omega), wr_in (k := 4 * c) (by omega) (by omega), q2]
theorem touch_sym {w : Int} {ls : Nat} {zs : Nat → Int} {so : Int → Int} {p q : Int} (hB : TouchB ls zs so p q) (hp : 0 ≤ p) (hq : 0 ≤ q) : touchT w zs so p q = touchT w zs so q p := by
 obtain ⟨h1, h2, h3, h4⟩ := hB
 have g1 := h3 p.toNat (by omega)
 have g2 := h3 q.toNat (by omega)
 unfold spotB at g1 g2
 unfold touchT
 simp only [show ¬ p < 0 by omega, show ¬ q < 0 by omega, and_self, if_false, show ¬ q = -2 by omega, show ¬ p = -2 by omega, if_pos hq, if_pos hp]
 rw [both_eq (h4 p) (h4 q) (by omega) (by omega) (by omega) (by omega), both_eq (h4 q) (h4 p) (by omega) (by omega) (by omega) (by omega), bothR_sym (h4 p) (h4 q) (by omega) (by omega) (by omega) (by omega)]
 by_cases z1 : so p = 0 <;> by_cases z2 : so q = 0 <;> simp [z1, z2]
end Go.Eng
end
