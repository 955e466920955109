/- Drop: With; Alone; Room. -/
import Derived.Test.YtjmjkhpfipglcaaV10Fce
section
namespace Go.Eng
open Go.Proofs
set_option linter.unusedVariables false
set_option linter.unusedSimpArgs false
set_option maxRecDepth 100000
noncomputable def fr48 (s p : Int) : Frm := [(1, .int .i64 s), (2, .ptr 0 0 0 0), (5, .int .i64 p)]
def g71q (B : AV) (S : Int) (P : Int) (k : Int) : List AV → Option (Prop × AV)
  | [b, .int .i64 s, .int .i64 p] => some (b = B ∧ s = S ∧ p = P, .int .i64 k)
  | _ => none
noncomputable def fr28 (s g b : Int) : Frm := [(1, .int .i64 s), (2, .ptr 0 0 0 0), (6, .int .i64 g), (7, .int .i64 b)]
noncomputable def fr27 (w : Int) (ls ld : Nat) (zs zd sz kd : Nat → Int) (s r st : Int) : Frm := [(1, .int .i64 s), (6, tabV w ls ld zs zd sz kd), (8, .int .i64 r), (9, .int .i64 st)]
def g79 (T : AV) (S M : Int) (b : Bool) : List AV → Option (Prop × AV)
  | [t, .int .i64 s, .int .i64 m] => some (t = T ∧ s = S ∧ m = M, .bool b)
  | _ => none
noncomputable def g47 (B : AV) (S N : Int) (r : AV) : List AV → Option (Prop × AV)
  | [b, .agg (.I .i64 [s, x, y])] => some (b = B ∧ s = S ∧ x = N ∧ y = N, r)
  | _ => none
def g48 (B : AV) (S : Int) (v : Bool) : List AV → Option (Prop × AV)
  | [b, .int .i64 s] => some (b = B ∧ s = S, .bool v)
  | _ => none
theorem u47a (n : Nat) (w : Int) (ls : Nat) (zs zd : Nat → Int) (H : Heap) (a b c : Int) : bodyT Try.prog (cd (n+1)) 100000 47 Try.f47 (Kt.kt 47) (il noCt n 1) noBT noRT [(bathA w ls zs 0 zd, none), (.agg (.I .i64 [a, b, c]), none)] H =
  Tr.ite (eqN 0 0) (Tr.req (roomO 0 1 24) (Tr.req (leN 1 1) (Tr.ite (ltN 0 (addO 0 1)) (Tr.req (leN 0 0) (Tr.req (eqN 0 0) (Tr.req (inO 0 (mulO (addO 0 1) 3) 0 3) (Tr.ok ((AV.agg (Row.G [AV.int .i64 w, slA 2 ls zs, AV.slcT none (Row.M [Seg.arr .i64 (shO (lstO [a, b, c]) 0) (mulO (addO 0 1) 3)]) 3 (addO 0 1) false]), none), H))))) Tr.bad))) (Tr.req (roomO 0 0 24) (Tr.req (leN 0 0) (Tr.req (leN (addO (mulO 0 3) (mulO 0 3)) (mulO 0 3)) (Tr.ite (ltN 0 (addO 0 0)) (Tr.req (leN 0 0) (Tr.req (roomO (addO 0 0) 1 24) (Tr.req (leN 1 1) (Tr.req (eqN 0 0) (Tr.req (eqN (addO 0 (mulO (addO 0 0) 3)) (addO 0 (mulO 0 3))) (Tr.req (eqN 1 1) (Tr.req (inO 0 (mulO (addO (addO 0 0) 1) 3) 0 (addO (mulO (addO 0 0) 3) 3)) (Tr.ok ((AV.agg (Row.G [AV.int .i64 w, slA 2 ls zs, AV.slcT none (Row.M [Seg.arr .i64 (shO (appO (shO (appO (lstO []) 0 zd) 0) (mulO (addO 0 0) 3) (lstO [a, b, c])) 0) (mulO (addO (addO 0 0) 1) 3)]) 3 (addO (addO 0 0) 1) false]), none), H))))))))) Tr.bad)))) := by kernel_rfl
theorem u47 (n : Nat) (w : Int) (ls ld : Nat) (zs zd : Nat → Int) (H : Heap) (a b c : Int) : bodyT Try.prog (cd (n+1)) 100000 47 Try.f47 (Kt.kt 47) (il noCt n 1) noBT noRT [(bathA w ls zs ld zd, none), (.agg (.I .i64 [a, b, c]), none)] H =
  Tr.ite (eqN ld 0) (Tr.req (roomO 0 1 24) (Tr.req (leN 1 1) (Tr.ite (ltN 0 (addO 0 1)) (Tr.req (leN 0 0) (Tr.req (eqN 0 0) (Tr.req (inO 0 (mulO (addO 0 1) 3) 0 3) (Tr.ok ((AV.agg (Row.G [AV.int .i64 w, slA 2 ls zs, AV.slcT none (Row.M [Seg.arr .i64 (shO (lstO [a, b, c]) 0) (mulO (addO 0 1) 3)]) 3 (addO 0 1) false]), none), H))))) Tr.bad))) (Tr.req (roomO 0 ld 24) (Tr.req (leN ld ld) (Tr.req (leN (addO (mulO 0 3) (mulO ld 3)) (mulO ld 3)) (Tr.ite (ltN 0 (addO 0 ld)) (Tr.req (leN 0 0) (Tr.req (roomO (addO 0 ld) 1 24) (Tr.req (leN 1 1) (Tr.req (eqN 0 0) (Tr.req (eqN (addO 0 (mulO (addO 0 ld) 3)) (addO 0 (mulO ld 3))) (Tr.req (eqN 1 1) (Tr.req (inO 0 (mulO (addO (addO 0 ld) 1) 3) 0 (addO (mulO (addO 0 ld) 3) 3)) (Tr.ok ((AV.agg (Row.G [AV.int .i64 w, slA 2 ls zs, AV.slcT none (Row.M [Seg.arr .i64 (shO (appO (shO (appO (lstO []) 0 zd) 0) (mulO (addO 0 ld) 3) (lstO [a, b, c])) 0) (mulO (addO (addO 0 ld) 1) 3)]) 3 (addO (addO 0 ld) 1) false]), none), H))))))))) Tr.bad)))) := by kernel_rfl
theorem t48 (n : Nat) (w : Int) (ls ld : Nat) (zs zd : Nat → Int) (H : Heap) (s p k : Int) : execT (cxD (n+6) 48 23) (il (ctG noCt 71 (g71q (bathA w ls zs ld zd) s p k)) (n+5) 1) noBT noRT (part Try.f48 [1,0,1,0,0]) (hints (fr48 s p)) (lvB w ls ld zs zd :: H) =
  Tr.ite (ltI p (Int.ofNat ls)) (Tr.ite (notB (eqI p s)) (Tr.reqP (bathA w ls zs ld zd = bathA w ls zs ld zd ∧ s = s ∧ p = p) (Tr.ite (notB (eqI k (Int.ofNat 0))) (Tr.ok (Ex.ret, [(4, AV.bool false, some 1)], lvB w ls ld zs zd :: H)) (Tr.ok (Ex.normal, [(1, AV.int .i64 s, none), (2, AV.ptr 0 0 0 0, none), (5, AV.int .i64 (addI .i64 p (Int.ofNat 1)), none)], lvB w ls ld zs zd :: H)))) (Tr.ok (Ex.normal, [(1, AV.int .i64 s, none), (2, AV.ptr 0 0 0 0, none), (5, AV.int .i64 (addI .i64 p (Int.ofNat 1)), none)], lvB w ls ld zs zd :: H))) (Tr.ok (Ex.exit 0, [(1, AV.int .i64 s, none), (2, AV.ptr 0 0 0 0, none), (5, AV.int .i64 p, none), (10, AV.bool false, some 1)], lvB w ls ld zs zd :: H)) := by kernel_rfl
theorem t48e (n : Nat) (w : Int) (ls ld : Nat) (zs zd : Nat → Int) (H : Heap) (s p : Int) : execT (cxD (n+6) 48 23) (il (ctG noCt 71 (fun _ => none)) (n+5) 1) noBT noRT (part Try.f48 [1,0,1,0,0]) (hints (fr48 s p)) (lvB w ls ld zs zd :: H) =
  Tr.ite (ltI p (Int.ofNat ls)) (Tr.ite (notB (eqI p s)) Tr.bad (Tr.ok (Ex.normal, [(1, AV.int .i64 s, none), (2, AV.ptr 0 0 0 0, none), (5, AV.int .i64 (addI .i64 p (Int.ofNat 1)), none)], lvB w ls ld zs zd :: H))) (Tr.ok (Ex.exit 0, [(1, AV.int .i64 s, none), (2, AV.ptr 0 0 0 0, none), (5, AV.int .i64 p, none), (10, AV.bool false, some 1)], lvB w ls ld zs zd :: H)) := by kernel_rfl
theorem u48 (n : Nat) (w : Int) (ls ld : Nat) (zs zd : Nat → Int) (H : Heap) (s : Int) (e : Bool) : bodyT Try.prog (cd (n+6)) 100000 48 Try.f48 (Kt.kt 48) (il noCt (n+5) 1) (blkE noBT 0 (fr48 s (-2)) (lvB w ls ld zs zd :: H) (.ite e (.ok (.ret, [(4, .bool false, none)], lvB w ls ld zs zd :: H)) (.ok (.normal, hints (fr48 s (Int.ofNat ls) ++ [(10, .bool false)]), lvB w ls ld zs zd :: H)))) noRT [(bathA w ls zs ld zd, none), (.int .i64 s, none)] H =
  Tr.reqP ([(1, AV.int .i64 s), (2, AV.ptr 0 0 0 0), (5, AV.int .i64 (Int.negSucc 1))] = [(1, AV.int .i64 s), (2, AV.ptr 0 0 0 0), (5, AV.int .i64 (Int.negSucc 1))] ∧ lvB w ls ld zs zd :: H = lvB w ls ld zs zd :: H) (Tr.ite e (Tr.ok ((AV.bool false, none), H)) (Tr.ok ((AV.bool true, some 1), H))) := by kernel_rfl
theorem t28 (n : Nat) (w : Int) (ls ld : Nat) (zs zd : Nat → Int) (H : Heap) (s g b m : Int) (B : AV) (v : Bool) : execT (cxD (n+8) 28 42) (il (ctG (ctG noCt 47 (g47 (bathA w ls zs ld zd) s m B)) 48 (g48 B s v)) (n+7) 1) noBT noRT (part Try.f28 [1,1,1,1,1,0,0,0]) (hints (fr28 s g b)) (lvB w ls ld zs zd :: H) =
  Tr.ite (ltI (addI .i64 g (Int.ofNat 1)) b) (Tr.req (notB (eqI (Int.ofNat 2) (Int.ofNat 0))) (Tr.reqP (bathA w ls zs ld zd = bathA w ls zs ld zd ∧ s = s ∧ quoI IntKind.i64 (addI .i64 g b) (Int.ofNat 2) = m ∧ quoI IntKind.i64 (addI .i64 g b) (Int.ofNat 2) = m) (Tr.reqP (B = B ∧ s = s) (Tr.ite v (Tr.ok (Ex.normal, [(1, AV.int .i64 s, none), (2, AV.ptr 0 0 0 0, none), (6, AV.int .i64 (quoI IntKind.i64 (addI .i64 g b) (Int.ofNat 2)), none), (7, AV.int .i64 b, none)], lvB w ls ld zs zd :: H)) (Tr.ok (Ex.normal, [(1, AV.int .i64 s, none), (2, AV.ptr 0 0 0 0, none), (6, AV.int .i64 g, none), (7, AV.int .i64 (quoI IntKind.i64 (addI .i64 g b) (Int.ofNat 2)), none)], lvB w ls ld zs zd :: H)))))) (Tr.ok (Ex.exit 0, [(1, AV.int .i64 s, none), (2, AV.ptr 0 0 0 0, none), (6, AV.int .i64 g, none), (7, AV.int .i64 b, none), (25, AV.bool false, some 1)], lvB w ls ld zs zd :: H)) := by kernel_rfl
theorem u28 (n : Nat) (w : Int) (ls ld : Nat) (zs zd : Nat → Int) (H : Heap) (s e g b : Int) (v : Bool) : bodyT Try.prog (cd (n+8)) 100000 28 Try.f28 (Kt.kt 28) (il (ctG (ctG noCt 20 (g20 (bathA w ls zs ld zd) e)) 48 (g48 (bathA w ls zs ld zd) s v)) (n+7) 1) (blkE noBT 0 (fr28 s 0 10001) (lvB w ls ld zs zd :: H) (.ok (.normal, hints (fr28 s g b ++ [(25, .bool false)]), lvB w ls ld zs zd :: H))) noRT [(bathA w ls zs ld zd, none), (.int .i64 s, none)] H =
  Tr.reqP (bathA w ls zs ld zd = bathA w ls zs ld zd) (Tr.ite (notB (eqI e (Int.ofNat 0))) (Tr.reqP (bathA w ls zs ld zd = bathA w ls zs ld zd) (Tr.ok ((AV.tup [AV.int .i64 (Int.ofNat 0), AV.int .i64 e], none), H))) (Tr.ite (leI (Int.ofNat 0) s) (Tr.ite (notB (ltI s (Int.ofNat ls))) (Tr.ok ((AV.tup [AV.int .i64 (Int.ofNat 0), AV.int .i64 (Int.ofNat 2)], none), H)) (Tr.reqP (bathA w ls zs ld zd = bathA w ls zs ld zd ∧ s = s) (Tr.ite (notB v) (Tr.ok ((AV.tup [AV.int .i64 (Int.ofNat 0), AV.int .i64 (Int.ofNat 10)], none), H)) (Tr.reqP ([(1, AV.int .i64 s), (2, AV.ptr 0 0 0 0), (6, AV.int .i64 (Int.ofNat 0)), (7, AV.int .i64 (Int.ofNat 10001))] = [(1, AV.int .i64 s), (2, AV.ptr 0 0 0 0), (6, AV.int .i64 (Int.ofNat 0)), (7, AV.int .i64 (Int.ofNat 10001))] ∧ lvB w ls ld zs zd :: H = lvB w ls ld zs zd :: H) (Tr.ok ((AV.tup [AV.int .i64 g, AV.int .i64 (Int.ofNat 0)], none), H)))))) (Tr.ok ((AV.tup [AV.int .i64 (Int.ofNat 0), AV.int .i64 (Int.ofNat 2)], none), H)))) := by kernel_rfl
theorem t27 (n : Nat) (w : Int) (ls ld : Nat) (zs zd sz kd : Nat → Int) (H : Heap) (s r st m : Int) (v : Bool) : execT (cxD (n+13) 27 51) (il (ctG noCt 79 (g79 (tabV w ls ld zs zd sz kd) s m v)) (n+12) 1) noBT noRT (part Try.f27 [1,1,1,1,0,1,0,0]) (hints (fr27 w ls ld zs zd sz kd s r st)) (lvB w ls ld zs zd :: H) =
  Tr.ite (ltI (Int.ofNat 0) st) (Tr.ite (leI (addI .i64 r st) (Int.ofNat 10000)) (Tr.reqP (AV.ptrT (some 0) (Row.M [Seg.one (AV.int .i64 w), Seg.one (slA 2 ls zs), Seg.one (slA 3 ld zd), Seg.one (AV.slcT none (Row.M [Seg.arr .i64 sz (mulO ls 2)]) 2 ls true), Seg.arr .i64 kd 144]) 0 = AV.ptrT (some 0) (Row.M [Seg.one (AV.int .i64 w), Seg.one (slA 2 ls zs), Seg.one (slA 3 ld zd), Seg.one (AV.slcT none (Row.M [Seg.arr .i64 sz (mulO ls 2)]) 2 ls true), Seg.arr .i64 kd 144]) 0 ∧ s = s ∧ addI .i64 r st = m) (Tr.ite v (Tr.req (notB (eqI (Int.ofNat 2) (Int.ofNat 0))) (Tr.ok (Ex.normal, [(1, AV.int .i64 s, none), (6, AV.ptrT (some 0) (Row.M [Seg.one (AV.int .i64 w), Seg.one (slA 2 ls zs), Seg.one (slA 3 ld zd), Seg.one (AV.slcT none (Row.M [Seg.arr .i64 sz (mulO ls 2)]) 2 ls true), Seg.arr .i64 kd 144]) 0, none), (8, AV.int .i64 (addI .i64 r st), none), (9, AV.int .i64 (quoI IntKind.i64 st (Int.ofNat 2)), none)], lvB w ls ld zs zd :: H))) (Tr.req (notB (eqI (Int.ofNat 2) (Int.ofNat 0))) (Tr.ok (Ex.normal, [(1, AV.int .i64 s, none), (6, AV.ptrT (some 0) (Row.M [Seg.one (AV.int .i64 w), Seg.one (slA 2 ls zs), Seg.one (slA 3 ld zd), Seg.one (AV.slcT none (Row.M [Seg.arr .i64 sz (mulO ls 2)]) 2 ls true), Seg.arr .i64 kd 144]) 0, none), (8, AV.int .i64 r, none), (9, AV.int .i64 (quoI IntKind.i64 st (Int.ofNat 2)), none)], lvB w ls ld zs zd :: H))))) (Tr.req (notB (eqI (Int.ofNat 2) (Int.ofNat 0))) (Tr.ok (Ex.normal, [(1, AV.int .i64 s, none), (6, AV.ptrT (some 0) (Row.M [Seg.one (AV.int .i64 w), Seg.one (slA 2 ls zs), Seg.one (slA 3 ld zd), Seg.one (AV.slcT none (Row.M [Seg.arr .i64 sz (mulO ls 2)]) 2 ls true), Seg.arr .i64 kd 144]) 0, none), (8, AV.int .i64 r, none), (9, AV.int .i64 (quoI IntKind.i64 st (Int.ofNat 2)), none)], lvB w ls ld zs zd :: H)))) (Tr.ok (Ex.exit 1, [(1, AV.int .i64 s, none), (6, AV.ptrT (some 0) (Row.M [Seg.one (AV.int .i64 w), Seg.one (slA 2 ls zs), Seg.one (slA 3 ld zd), Seg.one (AV.slcT none (Row.M [Seg.arr .i64 sz (mulO ls 2)]) 2 ls true), Seg.arr .i64 kd 144]) 0, none), (8, AV.int .i64 r, none), (9, AV.int .i64 st, none), (35, AV.bool false, some 1)], lvB w ls ld zs zd :: H)) := by kernel_rfl
theorem u27 (n : Nat) (w : Int) (ls ld : Nat) (zs zd sz kd : Nat → Int) (H : Heap) (s e r st : Int) (side : Prop) (v : Bool) : bodyT Try.prog (cd (n+13)) 100000 27 Try.f27 (Kt.kt 27) (il (ctG (ctG (ctG noCt 19 (g20 (bathA w ls zs ld zd) e)) 77 (g77 (bathA w ls zs ld zd) side (tabV w ls ld zs zd sz kd))) 79 (g79 (tabV w ls ld zs zd sz kd) s 0 v)) (n+11) 2) (blkE noBT 1 (fr27 w ls ld zs zd sz kd s 0 8192) (lvB w ls ld zs zd :: H) (.ok (.normal, hints (fr27 w ls ld zs zd sz kd s r st ++ [(35, .bool false)]), lvB w ls ld zs zd :: H))) noRT [(bathA w ls zs ld zd, none), (.int .i64 s, none)] H =
  Tr.reqP (bathA w ls zs ld zd = bathA w ls zs ld zd) (Tr.ite (notB (eqI e (Int.ofNat 0))) (Tr.ite (notB (eqI e (Int.ofNat 0))) (Tr.ok ((AV.tup [AV.int .i64 (Int.ofNat 0), AV.int .i64 e], none), H)) (Tr.ite (ltI s (Int.ofNat 0)) (Tr.ok ((AV.tup [AV.int .i64 (Int.ofNat 0), AV.int .i64 (Int.ofNat 2)], none), H)) (Tr.ite (leI (Int.negSucc 1) s) Tr.bad (Tr.ok ((AV.tup [AV.int .i64 (Int.ofNat 0), AV.int .i64 (Int.ofNat 2)], none), H))))) (Tr.reqP (bathA w ls zs ld zd = bathA w ls zs ld zd ∧ side) (Tr.ite (notB (eqI (Int.ofNat 0) (Int.ofNat 0))) (Tr.ok ((AV.tup [AV.int .i64 (Int.ofNat 0), AV.int .i64 (Int.ofNat 0)], none), H)) (Tr.ite (ltI s (Int.ofNat 0)) (Tr.ok ((AV.tup [AV.int .i64 (Int.ofNat 0), AV.int .i64 (Int.ofNat 2)], none), H)) (Tr.ite (leI (Int.negSucc 1) s) (Tr.ite (notB (ltI s (Int.ofNat ls))) (Tr.ok ((AV.tup [AV.int .i64 (Int.ofNat 0), AV.int .i64 (Int.ofNat 2)], none), H)) (Tr.reqP (AV.ptrT (some 0) (Row.M [Seg.one (AV.int .i64 w), Seg.one (slA 2 ls zs), Seg.one (slA 3 ld zd), Seg.one (AV.slcT none (Row.M [Seg.arr .i64 sz (mulO ls 2)]) 2 ls true), Seg.arr .i64 kd 144]) 0 = AV.ptrT (some 0) (Row.M [Seg.one (AV.int .i64 w), Seg.one (slA 2 ls zs), Seg.one (slA 3 ld zd), Seg.one (AV.slcT none (Row.M [Seg.arr .i64 sz (mulO ls 2)]) 2 ls true), Seg.arr .i64 kd 144]) 0 ∧ s = s ∧ Int.ofNat 0 = Int.ofNat 0) (Tr.ite (notB v) (Tr.ok ((AV.tup [AV.int .i64 (Int.ofNat 0), AV.int .i64 (Int.ofNat 10)], none), H)) (Tr.reqP ([(1, AV.int .i64 s), (6, AV.ptrT (some 0) (Row.M [Seg.one (AV.int .i64 w), Seg.one (slA 2 ls zs), Seg.one (slA 3 ld zd), Seg.one (AV.slcT none (Row.M [Seg.arr .i64 sz (mulO ls 2)]) 2 ls true), Seg.arr .i64 kd 144]) 0), (8, AV.int .i64 (Int.ofNat 0)), (9, AV.int .i64 (Int.ofNat 8192))] = [(1, AV.int .i64 s), (6, AV.ptrT (some 0) (Row.M [Seg.one (AV.int .i64 w), Seg.one (slA 2 ls zs), Seg.one (slA 3 ld zd), Seg.one (AV.slcT none (Row.M [Seg.arr .i64 sz (mulO ls 2)]) 2 ls true), Seg.arr .i64 kd 144]) 0), (8, AV.int .i64 (Int.ofNat 0)), (9, AV.int .i64 (Int.ofNat 8192))] ∧ lvB w ls ld zs zd :: H = lvB w ls ld zs zd :: H) (Tr.ok ((AV.tup [AV.int .i64 r, AV.int .i64 (Int.ofNat 0)], none), H)))))) (Tr.ok ((AV.tup [AV.int .i64 (Int.ofNat 0), AV.int .i64 (Int.ofNat 2)], none), H))))))) := by kernel_rfl
/-- The drops with one more. -/
def withZ (zd : Nat → Int) (ld : Nat) (a b c : Int) : Nat → Int := fun i => if i < ld * 3 then zd i else if i = ld * 3 then a else if i = ld * 3 + 1 then b else if i = ld * 3 + 2 then c else 0
theorem withZ_lt {zd : Nat → Int} {ld : Nat} {a b c : Int} {i : Nat} (h : i < ld * 3) : withZ zd ld a b c i = zd i := by unfold withZ; rw [if_pos h]
theorem withZ_0 {zd : Nat → Int} {ld : Nat} {a b c : Int} : withZ zd ld a b c (ld * 3) = a := by unfold withZ; rw [if_neg (by omega), if_pos rfl]
theorem withZ_1 {zd : Nat → Int} {ld : Nat} {a b c : Int} : withZ zd ld a b c (ld * 3 + 1) = b := by unfold withZ; rw [if_neg (by omega), if_neg (by omega), if_pos rfl]
theorem withZ_2 {zd : Nat → Int} {ld : Nat} {a b c : Int} : withZ zd ld a b c (ld * 3 + 2) = c := by unfold withZ; rw [if_neg (by omega), if_neg (by omega), if_neg (by omega), if_pos rfl]
theorem lst3 (a b c : Int) (i : Nat) : lstO [a, b, c] i = if i = 0 then a else if i = 1 then b else if i = 2 then c else 0 := by
  rw [lstO_fn]
  match i with
  | 0 => rfl
  | 1 => rfl
  | 2 => rfl
  | i + 3 => simp
theorem with0 (zd : Nat → Int) (a b c : Int) : shO (lstO [a, b, c]) 0 = withZ zd 0 a b c := by
  rw [shO_zero]; funext i
  rw [lst3]
  unfold withZ
  simp
theorem with1 (zd : Nat → Int) (ld : Nat) (a b c : Int) : shO (appO (shO (appO (lstO []) 0 zd) 0) (ld * 3) (lstO [a, b, c])) 0 = withZ zd ld a b c := by
  rw [shO_zero, shO_zero, appO_fn]; funext i
  simp only [lst3]
  unfold withZ
  by_cases h : i < ld * 3
  · rw [if_pos h, if_pos h]; simp
  · rw [if_neg h, if_neg h]
    have e0 : (i - ld * 3 = 0) = (i = ld * 3) := by rw [eq_iff_iff]; omega
    have e1 : (i - ld * 3 = 1) = (i = ld * 3 + 1) := by rw [eq_iff_iff]; omega
    have e2 : (i - ld * 3 = 2) = (i = ld * 3 + 2) := by rw [eq_iff_iff]; omega
    simp only [e0, e1, e2]
theorem c47 (n : Nat) (w : Int) (ls ld : Nat) (zs zd : Nat → Int) (H : Heap) (a b c : Int) (hl : ld ≤ 1000) : cd (n + 2) (.fn 47) [bathA w ls zs ld zd, .agg (.I .i64 [a, b, c])] H = some (bathA w ls zs (ld + 1) (withZ zd ld a b c), H) := by
  cases ld with
  | zero =>
    refine fn_all (n := n + 1) Try.func47 rfl rfl rfl (u47a n w ls zs zd H a b c) (il_no n 1) (noBT_ok _ _) (noRT_ok _ _) ?_
    repeat' first | (refine Tr.all_ite (fun hc => ?_) (fun hc => ?_) <;> (try simp (disch := omega) only [nV, mulO_eq, Int.cast_ofNat_Int, eq_self] at hc) <;> (try (exfalso; omega))) | (refine Tr.all_req ?_ ?_; · ((try simp (disch := omega) only [nV, mulO_eq, Int.cast_ofNat_Int, eq_self]); try omega)) | (refine Tr.all_reqP ?_ ?_; · first | exact trivial | rfl | exact ⟨rfl, rfl⟩ | exact ⟨rfl, rfl, rfl⟩ | (simp (disch := omega) only [nV, mulO_eq, Int.cast_ofNat_Int, eq_self]; done) | ((try simp (disch := omega) only [nV, mulO_eq, Int.cast_ofNat_Int, eq_self]); omega)) | fail
    refine Tr.all_ok ⟨?_, rfl⟩
    rw [with0 zd]
    simp only [addO_eq]
    rfl
  | succ m =>
    refine fn_all (n := n + 1) Try.func47 rfl rfl rfl (u47 n w ls (m + 1) zs zd H a b c) (il_no n 1) (noBT_ok _ _) (noRT_ok _ _) ?_
    repeat' first | (refine Tr.all_ite (fun hc => ?_) (fun hc => ?_) <;> (try simp (disch := omega) only [nV, mulO_eq, Int.cast_ofNat_Int, eq_self] at hc) <;> (try (exfalso; omega))) | (refine Tr.all_req ?_ ?_; · ((try simp (disch := omega) only [nV, mulO_eq, Int.cast_ofNat_Int, eq_self]); try omega)) | (refine Tr.all_reqP ?_ ?_; · first | exact trivial | rfl | exact ⟨rfl, rfl⟩ | exact ⟨rfl, rfl, rfl⟩ | (simp (disch := omega) only [nV, mulO_eq, Int.cast_ofNat_Int, eq_self]; done) | ((try simp (disch := omega) only [nV, mulO_eq, Int.cast_ofNat_Int, eq_self]); omega)) | fail
    refine Tr.all_ok ⟨?_, rfl⟩
    have e := with1 zd (m + 1) a b c
    rw [← mulO_eq] at e
    simp only [addO_eq, Nat.zero_add]
    rw [e]
    rfl
/-- Does a spot touch no other place? -/
def alnR (w : Int) (ls ld : Nat) (zs zd : Nat → Int) (s : Int) : Bool := !exN (fun j => decide ((j : Int) - 2 ≠ s) && decide (kndR w ld zs zd s ((j : Int) - 2) ≠ 0)) (ls + 2)
theorem b48 : ∀ b, (0, b) ∈ blocksOf (bodyOf Try.f48) → b = .loop (part Try.f48 [1,0,1,0,0]) := by
  have : ((blocksOf (bodyOf Try.f48)).filter fun x => Nat.beq x.1 0) = [(0, .loop (part Try.f48 [1,0,1,0,0]))] := by kernel_rfl
  intro b hb
  have hm : (0, b) ∈ ((blocksOf (bodyOf Try.f48)).filter fun x => Nat.beq x.1 0) := List.mem_filter.2 ⟨hb, rfl⟩
  rw [this] at hm; simpa using hm
section
variable (n : Nat) (w : Int) (ls ld : Nat) (zs zd : Nat → Int) (H : Heap) (s : Int)
theorem c48 (hls : ls ≤ 10) (hK : ∀ p : Int, -2 ≤ p → p < ls → KndB ls ld zs zd s p) : cd (n + 7) (.fn 48) [bathA w ls zs ld zd, .int .i64 s] H = some (.bool (alnR w ls ld zs zd s), H) := by
  have l48 := findX (n := n + 6) (f := 48) (nt := 23) (c := part Try.f48 [1,0,1,0,0]) 0 (fun j => fr48 s ((j : Int) - 2)) (fun _ => lvB w ls ld zs zd :: H) (ls + 2) (fun j => decide ((j : Int) - 2 ≠ s) && decide (kndR w ld zs zd s ((j : Int) - 2) ≠ 0))
    (fun j => ([(4, .bool false)], lvB w ls ld zs zd :: H)) (fr48 s (Int.ofNat ls) ++ [(10, .bool false)], lvB w ls ld zs zd :: H) (by omega) (fun j hj => ?_) ?_
  · refine fn_all (n := n + 6) Try.func48 rfl rfl rfl (u48 n w ls ld zs zd H s (exN (fun j => decide ((j : Int) - 2 ≠ s) && decide (kndR w ld zs zd s ((j : Int) - 2) ≠ 0)) (ls + 2))) (il_no (n + 5) 1) (blkE_ok (noBT_ok _ _) b48 (fun x hx => ?_)) (noRT_ok _ _) ?_
    · refine l48.trans ?_
      rcases Tr.ite_some hx with ⟨hc, hx⟩ | ⟨hc, hx⟩
      · rw [← Tr.ok_some hx, hc]; rfl
      · rw [← Tr.ok_some hx, hc]; simp only [Res.st, hints_eq]; rfl
    · unfold alnR
      repeat' first | (refine Tr.all_ite (fun hc => ?_) (fun hc => ?_) <;> (try simp (disch := omega) only [nV, mulO_eq, Int.cast_ofNat_Int, eq_self] at hc) <;> (try (exfalso; omega))) | (refine Tr.all_req ?_ ?_; · ((try simp (disch := omega) only [nV, mulO_eq, Int.cast_ofNat_Int, eq_self]); try omega)) | (refine Tr.all_reqP ?_ ?_; · first | exact trivial | rfl | exact ⟨rfl, rfl⟩ | exact ⟨rfl, rfl, rfl⟩ | (simp (disch := omega) only [nV, mulO_eq, Int.cast_ofNat_Int, eq_self]; done) | ((try simp (disch := omega) only [nV, mulO_eq, Int.cast_ofNat_Int, eq_self]); omega)) | fail
      · refine Tr.all_ok ⟨?_, rfl⟩; rw [hc]; rfl
      · refine Tr.all_ok ⟨?_, rfl⟩; rw [hc]; rfl
  · have ej : IntKind.i64.wrap ((j : Int) - 2 + 1) = ((j + 1 : Nat) : Int) - 2 := by rw [wr_64 (by omega) (by omega)]; omega
    refine ex_all (t48 n w ls ld zs zd H s ((j : Int) - 2) (kndR w ld zs zd s ((j : Int) - 2))) (il_ok _ (n + 5) 1 (fun k => ctG_ok (noCt_ok _) (fun args p v hg hp H => ?_))) (noBT_ok _ _) (noRT_ok _ _) ?_
    · unfold g71q at hg
      split at hg
      · simp only [Option.some.injEq, Prod.mk.injEq] at hg
        obtain ⟨rfl, rfl⟩ := hg
        obtain ⟨rfl, rfl, rfl⟩ := hp
        rw [show n + 5 + k = n + k + 5 by omega]
        exact c71 _ w ls ld zs zd H _ _ (hK _ (by omega) (by omega))
      · cases hg
    · repeat' first | (refine Tr.all_ite (fun hc => ?_) (fun hc => ?_) <;> (try simp (disch := omega) only [nV, mulO_eq, Int.cast_ofNat_Int, eq_self] at hc) <;> (try (exfalso; omega))) | (refine Tr.all_req ?_ ?_; · ((try simp (disch := omega) only [nV, mulO_eq, Int.cast_ofNat_Int, eq_self]); try omega)) | (refine Tr.all_reqP ?_ ?_; · first | exact trivial | rfl | exact ⟨rfl, rfl⟩ | exact ⟨rfl, rfl, rfl⟩ | (simp (disch := omega) only [nV, mulO_eq, Int.cast_ofNat_Int, eq_self]; done) | ((try simp (disch := omega) only [nV, mulO_eq, Int.cast_ofNat_Int, eq_self]); omega)) | fail
      all_goals refine Tr.all_ok ?_
      · rename_i h1
        rw [if_pos (by simp [h1, hc])]; rfl
      · rename_i h1
        rw [if_neg (by simp [h1, hc])]
        refine ⟨rfl, ?_⟩
        simp only [addI_eq, ofNat_cast, Int.natCast_one]
        rw [ej]; rfl
      · rw [if_neg (by simp [hc])]
        refine ⟨rfl, ?_⟩
        simp only [addI_eq, ofNat_cast, Int.natCast_one]
        rw [ej]; rfl
  · have em : ((ls + 2 : Nat) : Int) - 2 = Int.ofNat ls := by rw [ofNat_cast]; omega
    rw [em]
    have := ex_all (f := 48) (nt := 23) (Q := fun x => x = (.exit 0, fr48 s (Int.ofNat ls) ++ [(10, .bool false)], lvB w ls ld zs zd :: H)) (t48e n w ls ld zs zd H s (Int.ofNat ls)) (il_ok _ (n + 5) 1 (fun k => ctG_ok (noCt_ok _) (fun args p v hg hp H => by cases hg))) (noBT_ok _ _) (noRT_ok _ _) ?_
    · obtain ⟨x, h1, rfl⟩ := this; exact h1
    · repeat' first | (refine Tr.all_ite (fun hc => ?_) (fun hc => ?_) <;> (try simp (disch := omega) only [nV, mulO_eq, Int.cast_ofNat_Int, eq_self] at hc) <;> (try (exfalso; omega))) | (refine Tr.all_req ?_ ?_; · ((try simp (disch := omega) only [nV, mulO_eq, Int.cast_ofNat_Int, eq_self]); try omega)) | (refine Tr.all_reqP ?_ ?_; · first | exact trivial | rfl | exact ⟨rfl, rfl⟩ | exact ⟨rfl, rfl, rfl⟩ | (simp (disch := omega) only [nV, mulO_eq, Int.cast_ofNat_Int, eq_self]; done) | ((try simp (disch := omega) only [nV, mulO_eq, Int.cast_ofNat_Int, eq_self]); omega)) | fail
      exact Tr.all_ok rfl
end
end Go.Eng
end

section
namespace Go.Eng
set_option linter.unusedVariables false
set_option linter.unusedSimpArgs false
theorem bad_iff {ls : Nat} {zd : Nat → Int} {j : Nat} : badD ls zd j = false ↔ 0 ≤ zd (j * 3) ∧ zd (j * 3) < ls ∧ 1 ≤ zd (j * 3 + 1) ∧ zd (j * 3 + 1) ≤ zd (j * 3 + 2) ∧ zd (j * 3 + 2) ≤ 10000 := by
  unfold badD
  simp only [Bool.or_eq_false_iff, decide_eq_false_iff_not]
  omega
theorem sumS_le {ls ld : Nat} {zd : Nat → Int} (hd : ∀ j, j < ld → badD ls zd j = false) (hl : ld ≤ 100) (s : Int) : ∀ j, j ≤ ld → 0 ≤ sumS zd (upto (endS false zd) ld) s j ∧ sumS zd (upto (endS false zd) ld) s j ≤ sumS zd (upto (endS true zd) ld) s j ∧ sumS zd (upto (endS true zd) ld) s j ≤ 10000 * j
  | 0, _ => ⟨Int.le_refl _, Int.le_refl _, Int.le_refl _⟩
  | j + 1, hj => by
    obtain ⟨i1, i2, i3⟩ := sumS_le hd hl s j (by omega)
    have b := bad_iff.1 (hd j (by omega))
    have u0 : upto (endS false zd) ld j = zd (j * 3 + 1) := by rw [upto_lt (by omega)]; rfl
    have u1 : upto (endS true zd) ld j = zd (j * 3 + 2) := by rw [upto_lt (by omega)]; rfl
    simp only [sumS, u0, u1]
    by_cases e : zd (j * 3) = s
    · rw [if_pos e, if_pos e, wr_in (by omega) (by omega), wr_in (by omega) (by omega)]; omega
    · rw [if_neg e, if_neg e]; omega
theorem sz_le {ls ld : Nat} {zd : Nat → Int} (hd : ∀ j, j < ld → badD ls zd j = false) (hl : ld ≤ 100) (s : Int) : 0 ≤ szE false zd ld s ∧ szE false zd ld s ≤ szE true zd ld s ∧ szE true zd ld s ≤ 10000 * ld := sumS_le hd hl s ld (Nat.le_refl _)
/-- A kind other than never: they touch by the greatest sizes. -/
theorem knd_ne {w : Int} {ls ld : Nat} {zs zd : Nat → Int} {p q : Int} (hK : KndB ls ld zs zd p q) (hs : ∀ s, szE false zd ld s ≤ szE true zd ld s) : decide (kndR w ld zs zd p q ≠ 0) = touchT w zs (szE true zd ld) p q := by
  unfold kndR
  cases h1 : touchT w zs (szE false zd ld) p q with
  | true => rw [touch_mono (hK.2 false) (hK.2 true) hs h1]; rfl
  | false => cases touchT w zs (szE true zd ld) p q <;> rfl
section
variable {w : Int} {ls ld : Nat} {zs zd : Nat → Int} {s : Int}
theorem with_bad (h : chkB w ls ld zs zd = 0) (hs : 0 ≤ s ∧ s < ls) {m : Int} (hm : 1 ≤ m ∧ m ≤ 10000) : ∀ j, j < ld + 1 → badD ls (withZ zd ld s m m) j = false := by
  intro j hj
  have hc := (chk_ok h).2.2.2.2.2
  rw [bad_iff]
  by_cases e : j < ld
  · have := bad_iff.1 (hc j e)
    rw [withZ_lt (by omega), withZ_lt (by omega), withZ_lt (by omega)]; exact this
  · obtain rfl : j = ld := by omega
    rw [withZ_0, withZ_1, withZ_2]; omega
theorem with_knd (h : chkB w ls ld zs zd = 0) (hs : 0 ≤ s ∧ s < ls) {m : Int} (hm : 1 ≤ m ∧ m ≤ 10000) (p : Int) (h1 : -2 ≤ p) (h2 : p < ls) : KndB ls (ld + 1) zs (withZ zd ld s m m) s p := by
  obtain ⟨k1, k2, k3, k4, k5, k6⟩ := chk_ok h
  refine ⟨by omega, fun b => ⟨⟨by omega, hs.2⟩, ⟨h1, h2⟩, fun j hj => ?_, fun i => szE_bound (with_bad h hs hm) (by omega) b i⟩⟩
  have := k5 j hj
  simp only [badS, Bool.or_eq_false_iff, decide_eq_false_iff_not] at this
  unfold spotB
  omega
/-- The sizes with one more drop. -/
theorem with_size (h : chkB w ls ld zs zd = 0) (m i : Int) : szE true (withZ zd ld s m m) (ld + 1) i = if i = s then IntKind.i64.wrap (szE true zd ld i + m) else szE true zd ld i := by
  have e : sumS (withZ zd ld s m m) (upto (endS true (withZ zd ld s m m)) (ld + 1)) i ld = szE true zd ld i := by
    unfold szE
    refine sumS_part (fun j hj => withZ_lt (by omega)) (fun j hj => ?_)
    rw [upto_lt (by omega), upto_lt hj]
    show withZ zd ld s m m (j * 3 + 1 + 1) = zd (j * 3 + 1 + 1)
    exact withZ_lt (by omega)
  have u : upto (endS true (withZ zd ld s m m)) (ld + 1) ld = m := by
    rw [upto_lt (by omega)]
    show withZ zd ld s m m (ld * 3 + 1 + 1) = m
    exact withZ_2
  unfold szE at e ⊢
  simp only [sumS, withZ_0, u]
  rw [e]
  by_cases hi : i = s
  · rw [if_pos hi, if_pos hi.symm]
  · rw [if_neg hi, if_neg (fun x => hi x.symm)]
theorem soM_eq (h : chkB w ls ld zs zd = 0) (hs : 0 ≤ s) (m i : Int) (hi : 0 ≤ i) : soM (szs zd ld) s m i = if i = s then IntKind.i64.wrap (szE true zd ld i + m) else szE true zd ld i := by
  have hc := chk_drops h
  have k : ∀ i : Int, 0 ≤ i → szs zd ld (i.toNat * 2 + 1) = szE true zd ld i := fun i hi => by
    have := (szs_sum zd ld i.toNat (fun j hj => (hc.2.2 j hj).1) ld (Nat.le_refl _)).2
    rw [show ((i.toNat : Nat) : Int) = i by omega] at this
    exact this
  unfold soM
  by_cases e : i = s
  · rw [if_pos e, if_pos e, k s hs, e]
  · rw [if_neg e, if_neg e, k i hi]
/-- Alone, as the program tells it and as it is defined. -/
theorem any_with (h : chkB w ls ld zs zd = 0) (hs : 0 ≤ s ∧ s < ls) {m : Int} (hm : 1 ≤ m ∧ m ≤ 10000) : (!anyP w ls zs (szs zd ld) s m) = alnR w ls (ld + 1) zs (withZ zd ld s m m) s := by
  unfold anyP alnR
  congr 1
  refine exN_congr fun j hj => ?_
  unfold alM
  congr 1
  rw [knd_ne (with_knd h hs hm _ (by omega) (by omega)) (fun i => (sz_le (with_bad h hs hm) (by have := (chk_ok h).2.1; omega) i).2.1)]
  refine touch_congr fun i hi => ?_
  rw [soM_eq h hs.1 m i hi, with_size h]
theorem any_zero (h : chkB w ls ld zs zd = 0) (hs : 0 ≤ s ∧ s < ls) : (!anyP w ls zs (szs zd ld) s 0) = alnR w ls ld zs zd s := by
  have hc := chk_ok h
  unfold anyP alnR
  congr 1
  refine exN_congr fun j hj => ?_
  unfold alM
  congr 1
  rw [knd_ne (knd_ok h (by simp [isPl]; omega) (by simp [isPl]; omega)) (fun i => (sz_le hc.2.2.2.2.2 (by omega) i).2.1)]
  refine touch_congr fun i hi => ?_
  rw [soM_eq h hs.1 0 i hi]
  have b := sz_le hc.2.2.2.2.2 (by omega) i
  split
  · rw [Int.add_zero, wr_in (by omega) (by omega)]
  · rfl
/-- What touches nothing with one drop more touches nothing with a lesser one. -/
theorem aln_anti (h : chkB w ls ld zs zd = 0) (hs : 0 ≤ s ∧ s < ls) {m k : Int} (hm : 1 ≤ m) (hmk : m ≤ k) (hk : k ≤ 10000) (ha : alnR w ls (ld + 1) zs (withZ zd ld s k k) s = true) : alnR w ls (ld + 1) zs (withZ zd ld s m m) s = true := by
  have hc := chk_ok h
  unfold alnR at ha ⊢
  rw [Bool.not_eq_true'] at ha ⊢
  cases hb : exN (fun j => decide ((j : Int) - 2 ≠ s) && decide (kndR w (ld + 1) zs (withZ zd ld s m m) s ((j : Int) - 2) ≠ 0)) (ls + 2) with
  | false => rfl
  | true =>
    obtain ⟨j, hj, hp⟩ := (exN_iff _ _).1 hb
    have : exN (fun j => decide ((j : Int) - 2 ≠ s) && decide (kndR w (ld + 1) zs (withZ zd ld s k k) s ((j : Int) - 2) ≠ 0)) (ls + 2) = true := by
      refine (exN_iff _ _).2 ⟨j, hj, ?_⟩
      rw [Bool.and_eq_true] at hp ⊢
      refine ⟨hp.1, ?_⟩
      have K1 := with_knd h hs (m := m) ⟨hm, by omega⟩ ((j : Int) - 2) (by omega) (by omega)
      have K2 := with_knd h hs (m := k) ⟨by omega, hk⟩ ((j : Int) - 2) (by omega) (by omega)
      have h2 := hp.2
      rw [knd_ne K1 (fun i => (sz_le (with_bad h hs ⟨hm, by omega⟩) (by omega) i).2.1)] at h2
      rw [knd_ne K2 (fun i => (sz_le (with_bad h hs ⟨by omega, hk⟩) (by omega) i).2.1)]
      refine touch_mono (K1.2 true) (K2.2 true) (fun i => ?_) h2
      rw [with_size h, with_size h]
      have b := sz_le hc.2.2.2.2.2 (by omega) i
      split
      · rw [wr_in (by omega) (by omega), wr_in (by omega) (by omega)]; omega
      · exact Int.le_refl _
    rw [this] at ha; cases ha
/-- The greatest number up to n of which a test holds, 0 if there is none. -/
def rmN (al : Nat → Bool) : Nat → Nat
  | 0 => 0
  | n + 1 => if al (n + 1) = true then n + 1 else rmN al n
theorem rmN_le (al : Nat → Bool) : ∀ n, rmN al n ≤ n
  | 0 => Nat.le_refl _
  | n + 1 => by
    simp only [rmN]
    split
    · exact Nat.le_refl _
    · exact Nat.le_succ_of_le (rmN_le al n)
theorem rmN_spec (al : Nat → Bool) (anti : ∀ m k, 1 ≤ m → m ≤ k → k ≤ 10000 → al k = true → al m = true) : ∀ n, n ≤ 10000 → ∀ m, 1 ≤ m → m ≤ n → (al m = true ↔ m ≤ rmN al n)
  | 0, _, m, h1, h2 => by omega
  | n + 1, hn, m, h1, h2 => by
    simp only [rmN]
    by_cases h : al (n + 1) = true
    · rw [if_pos h]
      exact ⟨fun _ => h2, fun _ => anti m (n + 1) h1 h2 hn h⟩
    · rw [if_neg h]
      by_cases e : m = n + 1
      · subst e
        have := rmN_le al n
        exact ⟨fun h3 => absurd h3 h, fun h3 => by omega⟩
      · exact rmN_spec al anti n (by omega) m h1 (by omega)
end
/-- How far one more drop can spread. -/
def roomR (w : Int) (ls ld : Nat) (zs zd : Nat → Int) (s : Int) : Nat := rmN (fun n => alnR w ls (ld + 1) zs (withZ zd ld s (n : Int) (n : Int)) s) 10000
theorem room_spec {w : Int} {ls ld : Nat} {zs zd : Nat → Int} {s : Int} (h : chkB w ls ld zs zd = 0) (hs : 0 ≤ s ∧ s < ls) (m : Nat) (h1 : 1 ≤ m) (h2 : m ≤ 10000) : alnR w ls (ld + 1) zs (withZ zd ld s (m : Int) (m : Int)) s = true ↔ m ≤ roomR w ls ld zs zd s :=
  rmN_spec (fun n => alnR w ls (ld + 1) zs (withZ zd ld s (n : Int) (n : Int)) s) (fun m k h1 h2 h3 h4 => aln_anti h hs (by omega) (by omega) (by omega) h4) 10000 (Nat.le_refl _) m h1 h2
theorem room_le {w : Int} {ls ld : Nat} {zs zd : Nat → Int} {s : Int} : roomR w ls ld zs zd s ≤ 10000 := rmN_le _ _
/-- What Room answers. -/
def roomX (w : Int) (ls ld : Nat) (zs zd : Nat → Int) (s : Int) : Int × Int :=
  if chkB w ls ld zs zd ≠ 0 then (0, chkB w ls ld zs zd)
  else if s < 0 ∨ (ls : Int) ≤ s then (0, 2)
  else if alnR w ls ld zs zd s = false then (0, 10)
  else ((roomR w ls ld zs zd s : Nat), 0)
end Go.Eng
end
