/- Drop: way: from place to place. -/
import Derived.Test.YtjmjkhpfipglcaaV6Kxx2
namespace Go.Eng
open Go.Proofs
set_option linter.unusedVariables false
set_option linter.unusedSimpArgs false
set_option maxRecDepth 100000
noncomputable def fr86 (o : AV) (q a : Int) : Frm := [(2, .int .i64 q), (4, .ptr 0 0 0 0), (7, .ptr 0 1 0 0), (9, .ptr 0 3 0 0), (18, .ptr 0 8 0 0), (20, o), (21, .int .i64 a)]
noncomputable def fr86h (q a : Int) : HFrm := [(2, .int .i64 q, none), (4, .ptr 0 0 0 0, none), (7, .ptr 0 1 0 0, none), (9, .ptr 0 3 0 0, none), (18, .ptr 0 8 0 0, none), (20, .slc 0 9 0 0 1 1 (some 1), some 1), (21, .int .i64 a, none)]
noncomputable def a103 (w : Int) (ls ld : Nat) (zs zd sz kd : Nat → Int) (a : Int) (sure : Bool) : List AV := [.fn (.func 110) [] (capsN 1 w ls ld zs zd sz kd a sure), .fn (.func 105) [] [.ptr 0 3 0 0, .ptr 0 8 0 0]]
noncomputable def rsA (p : Int) : List (Nat × Blk) := [(0, .row (.I .i64 [p]))]
noncomputable def rsB (p : Int) (z : Nat → Int) (m : Nat) : List (Nat × Blk) := [(0, .row (.I .i64 [p])), (0, .row (.M [.arr .i64 z m]))]
theorem t86a (n : Nat) (w : Int) (ls ld : Nat) (zs zd sz kd : Nat → Int) (H : Heap) (p q a v : Int) (sure : Bool) (hS : Int → Bool) (gS : Int → Int) (cS : Nat) (hW : Int → Bool) (gW : Int → Int) (cW : Nat) (s left left2 : Int) : execT (cxD (n+14) 80 113) (il (ctE noCt 103 (a103 w ls ld zs zd sz kd a sure) (lvO w ls ld zs zd sz kd sure hS gS cS hW gW cW s left2 (rsA p) :: H) (.ok (.int .i64 v, lvO w ls ld zs zd sz kd sure hS gS cS hW gW cW s left2 (rsA p) :: H))) (n+13) 1) noBT noRT (part Try.f80 [1,0,1,1,1,1,1,1,1,0,1,0,0]) (fr86h q a) (lvO w ls ld zs zd sz kd sure hS gS cS hW gW cW s left (rsA p) :: H) =
 (fun (Z0 : List AV) => ((fun (Z1 : Nat × Blk) => ((fun (Z2 : Nat × Blk) => ((fun (Z3 : Nat × Blk) => ((fun (Z4 : Nat × Blk) => ((fun (Z5 : Nat × Blk) => Tr.ite (eqI a q) (Tr.ok (Ex.exit 6, [(2, AV.int .i64 q, none), (4, AV.ptr 0 0 0 0, none), (7, AV.ptr 0 1 0 0, none), (9, AV.ptr 0 3 0 0, none), (18, AV.ptr 0 8 0 0, none), (20, AV.slc 0 9 0 0 1 1 (some 1), some 1), (21, AV.int .i64 a, none), (94, AV.bool true, some 1)], { lock := false, bs := [Z1, Z3, (0, Blk.fmap hS gS cS), Z4, (0, Blk.fmap hW gW cW), Z5, Z2, (0, Blk.row (Row.I .i64 [s])), (0, Blk.row (Row.I .i64 [left])), (0, Blk.row (Row.I .i64 [p]))] } :: H)) (Tr.reqP (Z0 = Z0 ∧ { lock := false, bs := [Z1, Z3, (0, Blk.fmap hS gS cS), Z4, (0, Blk.fmap hW gW cW), Z5, Z2, (0, Blk.row (Row.I .i64 [s])), (0, Blk.row (Row.I .i64 [subI .i64 left (Int.ofNat 1)])), (0, Blk.row (Row.I .i64 [p]))] } :: H = { lock := false, bs := [Z1, Z3, (0, Blk.fmap hS gS cS), Z4, (0, Blk.fmap hW gW cW), Z5, Z2, (0, Blk.row (Row.I .i64 [s])), (0, Blk.row (Row.I .i64 [left2])), (0, Blk.row (Row.I .i64 [p]))] } :: H) (Tr.req (roomO 1 1 8) (Tr.req (leN 1 1) (Tr.ite (ltN 1 (addO 1 1)) (Tr.req (leN 1 1) (Tr.ok (Ex.normal, [(2, AV.int .i64 q, none), (4, AV.ptr 0 0 0 0, none), (7, AV.ptr 0 1 0 0, none), (9, AV.ptr 0 3 0 0, none), (18, AV.ptr 0 8 0 0, none), (20, AV.slc 0 11 0 0 1 (addO 1 1) none, none), (21, AV.int .i64 v, none)], { lock := false, bs := [Z1, Z3, (0, Blk.fmap hS gS cS), Z4, (0, Blk.fmap hW gW cW), Z5, Z2, (0, Blk.row (Row.I .i64 [s])), (0, Blk.row (Row.I .i64 [left2])), (0, Blk.row (Row.I .i64 [p])), (0, Blk.row (Row.I .i64 [v])), (0, Blk.row (Row.M [Seg.arr .i64 (lstO [p, v]) 2]))] } :: H))) Tr.bad))))) (0, Blk.row (Row.G [AV.map 0 4])))) (0, Blk.row (Row.G [AV.map 0 2])))) (0, Blk.row (Row.G [AV.bool sure])))) (0, Blk.row (Row.I .i64 [Int.ofNat 0])))) (0, Blk.row (Row.G [tabR 1 w ls ld zs zd sz kd])))) [AV.fn (Fn.func 110) [] [AV.ptrT (some 0) (Row.G [tabR 1 w ls ld zs zd sz kd]) 0, AV.ptrT none (Row.I .i64 [a]) 0, AV.ptrT (some 0) (Row.G [AV.bool sure]) 0], AV.fn (Fn.func 105) [] [AV.ptr 0 3 0 0, AV.ptr 0 8 0 0]] := by kernel_rfl
theorem t86b (n : Nat) (w : Int) (ls ld m : Nat) (zs zd sz kd z : Nat → Int) (H : Heap) (p q a v : Int) (sure : Bool) (hS : Int → Bool) (gS : Int → Int) (cS : Nat) (hW : Int → Bool) (gW : Int → Int) (cW : Nat) (s left left2 : Int) : execT (cxD (n+14) 80 113) (il (ctE noCt 103 (a103 w ls ld zs zd sz kd a sure) (lvO w ls ld zs zd sz kd sure hS gS cS hW gW cW s left2 (rsB p z m) :: H) (.ok (.int .i64 v, lvO w ls ld zs zd sz kd sure hS gS cS hW gW cW s left2 (rsB p z m) :: H))) (n+13) 1) noBT noRT (part Try.f80 [1,0,1,1,1,1,1,1,1,0,1,0,0]) (hints (fr86 (.slc 0 10 0 0 1 m none) q a)) (lvO w ls ld zs zd sz kd sure hS gS cS hW gW cW s left (rsB p z m) :: H) =
 (fun (Z0 : List AV) => ((fun (Z1 : Nat × Blk) => ((fun (Z2 : Nat × Blk) => ((fun (Z3 : Nat × Blk) => ((fun (Z4 : Nat × Blk) => ((fun (Z5 : Nat × Blk) => ((fun (Z6 : Nat × Blk) => Tr.ite (eqI a q) (Tr.ok (Ex.exit 6, [(2, AV.int .i64 q, none), (4, AV.ptr 0 0 0 0, none), (7, AV.ptr 0 1 0 0, none), (9, AV.ptr 0 3 0 0, none), (18, AV.ptr 0 8 0 0, none), (20, AV.slc 0 10 0 0 1 m none, none), (21, AV.int .i64 a, none), (94, AV.bool true, some 1)], { lock := false, bs := [Z1, Z3, (0, Blk.fmap hS gS cS), Z4, (0, Blk.fmap hW gW cW), Z5, Z2, (0, Blk.row (Row.I .i64 [s])), (0, Blk.row (Row.I .i64 [left])), (0, Blk.row (Row.I .i64 [p])), Z6] } :: H)) (Tr.reqP (Z0 = Z0 ∧ { lock := false, bs := [Z1, Z3, (0, Blk.fmap hS gS cS), Z4, (0, Blk.fmap hW gW cW), Z5, Z2, (0, Blk.row (Row.I .i64 [s])), (0, Blk.row (Row.I .i64 [subI .i64 left (Int.ofNat 1)])), (0, Blk.row (Row.I .i64 [p])), Z6] } :: H = { lock := false, bs := [Z1, Z3, (0, Blk.fmap hS gS cS), Z4, (0, Blk.fmap hW gW cW), Z5, Z2, (0, Blk.row (Row.I .i64 [s])), (0, Blk.row (Row.I .i64 [left2])), (0, Blk.row (Row.I .i64 [p])), Z6] } :: H) (Tr.req (bndI (Int.ofNat m) m) (Tr.req (bndI (Int.ofNat m) (toN (Int.ofNat m))) (Tr.req (roomO (toN (Int.ofNat m)) 1 8) (Tr.req (leN 1 1) (Tr.ite (ltN (toN (Int.ofNat m)) (addO (toN (Int.ofNat m)) 1)) (Tr.req (leN (toN (Int.ofNat m)) (toN (Int.ofNat m))) (Tr.req (inO 0 (toN (Int.ofNat m)) 0 m) (Tr.ok (Ex.normal, [(2, AV.int .i64 q, none), (4, AV.ptr 0 0 0 0, none), (7, AV.ptr 0 1 0 0, none), (9, AV.ptr 0 3 0 0, none), (18, AV.ptr 0 8 0 0, none), (20, AV.slc 0 12 0 0 1 (addO (toN (Int.ofNat m)) 1) none, none), (21, AV.int .i64 v, none)], { lock := false, bs := [Z1, Z3, (0, Blk.fmap hS gS cS), Z4, (0, Blk.fmap hW gW cW), Z5, Z2, (0, Blk.row (Row.I .i64 [s])), (0, Blk.row (Row.I .i64 [left2])), (0, Blk.row (Row.I .i64 [p])), Z6, (0, Blk.row (Row.I .i64 [v])), (0, Blk.row (Row.M [Seg.arr .i64 (appO (shO z 0) (toN (Int.ofNat m)) (lstO [v])) (addO (toN (Int.ofNat m)) 1)]))] } :: H)))) (Tr.req (ltN (addO 0 (toN (Int.ofNat m))) m) (Tr.ok (Ex.normal, [(2, AV.int .i64 q, none), (4, AV.ptr 0 0 0 0, none), (7, AV.ptr 0 1 0 0, none), (9, AV.ptr 0 3 0 0, none), (18, AV.ptr 0 8 0 0, none), (20, AV.slc 0 10 0 0 1 (addO (toN (Int.ofNat m)) 1) (some (toN (Int.ofNat m))), none), (21, AV.int .i64 v, none)], { lock := false, bs := [Z1, Z3, (0, Blk.fmap hS gS cS), Z4, (0, Blk.fmap hW gW cW), Z5, Z2, (0, Blk.row (Row.I .i64 [s])), (0, Blk.row (Row.I .i64 [left2])), (0, Blk.row (Row.I .i64 [p])), (0, Blk.row (Row.M [Seg.arr .i64 (updO z (addO 0 (toN (Int.ofNat m))) v) m])), (0, Blk.row (Row.I .i64 [v]))] } :: H)))))))))) (0, Blk.row (Row.M [Seg.arr .i64 z m])))) (0, Blk.row (Row.G [AV.map 0 4])))) (0, Blk.row (Row.G [AV.map 0 2])))) (0, Blk.row (Row.G [AV.bool sure])))) (0, Blk.row (Row.I .i64 [Int.ofNat 0])))) (0, Blk.row (Row.G [tabR 1 w ls ld zs zd sz kd])))) [AV.fn (Fn.func 110) [] [AV.ptrT (some 0) (Row.G [tabR 1 w ls ld zs zd sz kd]) 0, AV.ptrT none (Row.I .i64 [a]) 0, AV.ptrT (some 0) (Row.G [AV.bool sure]) 0], AV.fn (Fn.func 105) [] [AV.ptr 0 3 0 0, AV.ptr 0 8 0 0]] := by kernel_rfl
theorem t86e (n : Nat) (w : Int) (ls ld m : Nat) (zs zd sz kd z : Nat → Int) (H : Heap) (p q a : Int) (sure : Bool) (hS : Int → Bool) (gS : Int → Int) (cS : Nat) (hW : Int → Bool) (gW : Int → Int) (cW : Nat) (s left : Int) : execT (cxD (n+14) 80 113) (il (ctG noCt 103 (fun _ => none)) (n+13) 1) noBT noRT (part Try.f80 [1,0,1,1,1,1,1,1,1,0,1,0,0]) (hints (fr86 (.slc 0 10 0 0 1 m none) q a)) (lvO w ls ld zs zd sz kd sure hS gS cS hW gW cW s left (rsB p z m) :: H) =
 Tr.ite (eqI a q) (Tr.ok (Ex.exit 6, [(2, AV.int .i64 q, none), (4, AV.ptr 0 0 0 0, none), (7, AV.ptr 0 1 0 0, none), (9, AV.ptr 0 3 0 0, none), (18, AV.ptr 0 8 0 0, none), (20, AV.slc 0 10 0 0 1 m none, none), (21, AV.int .i64 a, none), (94, AV.bool true, some 1)], { lock := false, bs := [(0, Blk.row (Row.G [tabR 1 w ls ld zs zd sz kd])), (0, Blk.row (Row.G [AV.bool sure])), (0, Blk.fmap hS gS cS), (0, Blk.row (Row.G [AV.map 0 2])), (0, Blk.fmap hW gW cW), (0, Blk.row (Row.G [AV.map 0 4])), (0, Blk.row (Row.I .i64 [Int.ofNat 0])), (0, Blk.row (Row.I .i64 [s])), (0, Blk.row (Row.I .i64 [left])), (0, Blk.row (Row.I .i64 [p])), (0, Blk.row (Row.M [Seg.arr .i64 z m]))] } :: H)) Tr.bad := by kernel_rfl
theorem u80n (n : Nat) (w : Int) (ls ld : Nat) (zs zd sz kd : Nat → Int) (H : Heap) (p q : Int) (sure : Bool) (hS : Int → Bool) (gS : Int → Int) (cS : Nat) (hW : Int → Bool) (gW : Int → Int) (cW : Nat) (s : Int) : bodyT Try.prog (cd (n+14)) 100000 80 Try.f80 (Kt.kt 80) (il noCt (n+13) 1) (blkE (stopB noBT 6) 0 (fr80_6 p q) (lv80_6 w ls ld zs zd sz kd sure (setBO (fun _ => false) q true) (setIO (fun _ => 0) q 0) (cntAO false 0) (setBO (fun _ => false) q true) (setIO (fun _ => 0) q 0) (cntAO false 0) 0 [] :: H) (.ok (.normal, hints (fr80_7 p q ++ [(32, .bool false)]), lv80_7 w ls ld zs zd sz kd sure hS gS cS hW gW cW s [] :: H))) noRT [(tabR 0 w ls ld zs zd sz kd, none), (.int .i64 p, none), (.int .i64 q, none), (.bool sure, none)] H =
 (fun (Z0 : Lvl) => ((fun (Z1 : Frm) => Tr.reqP (Z1 = Z1 ∧ Z0 :: H = Z0 :: H) (Tr.ite (notB (hS p)) (Tr.ok ((AV.nils, none), H)) Tr.bad)) [(1, AV.int .i64 p), (2, AV.int .i64 q), (4, AV.ptr 0 0 0 0), (7, AV.ptr 0 1 0 0), (9, AV.ptr 0 3 0 0), (10, AV.ptr 0 5 0 0), (11, AV.ptr 0 6 0 0)])) { lock := false, bs := [(0, Blk.row (Row.G [tabR 1 w ls ld zs zd sz kd])), (0, Blk.row (Row.G [AV.bool sure])), (0, Blk.fmap (setBO (fun x => false) q true) (setIO (fun x => Int.ofNat 0) q (Int.ofNat 0)) (cntAO false 0)), (0, Blk.row (Row.G [AV.map 0 2])), (0, Blk.fmap (setBO (fun x => false) q true) (setIO (fun x => Int.ofNat 0) q (Int.ofNat 0)) (cntAO false 0)), (0, Blk.row (Row.G [AV.map 0 4])), (0, Blk.row (Row.I .i64 [Int.ofNat 0]))] } := by kernel_rfl
theorem u80 (n : Nat) (w : Int) (ls ld m : Nat) (zs zd sz kd z : Nat → Int) (H : Heap) (p q a left2 : Int) (sure : Bool) (hS : Int → Bool) (gS : Int → Int) (cS : Nat) (hW : Int → Bool) (gW : Int → Int) (cW : Nat) (s : Int) : bodyT Try.prog (cd (n+14)) 100000 80 Try.f80 (Kt.kt 80) (il noCt (n+13) 1) (blkE (blkE noBT 6 (fr86 (.slc 0 9 0 0 1 1 (some 1)) q p) (lvO w ls ld zs zd sz kd sure hS gS cS hW gW cW s (gS p) (rsA p) :: H) (.ok (.normal, hints (fr86 (.slc 0 10 0 0 1 m none) q a ++ [(94, .bool true)]), lvO w ls ld zs zd sz kd sure hS gS cS hW gW cW s left2 (rsB p z m) :: H))) 0 (fr80_6 p q) (lv80_6 w ls ld zs zd sz kd sure (setBO (fun _ => false) q true) (setIO (fun _ => 0) q 0) (cntAO false 0) (setBO (fun _ => false) q true) (setIO (fun _ => 0) q 0) (cntAO false 0) 0 [] :: H) (.ok (.normal, hints (fr80_7 p q ++ [(32, .bool false)]), lv80_7 w ls ld zs zd sz kd sure hS gS cS hW gW cW s [] :: H))) noRT [(tabR 0 w ls ld zs zd sz kd, none), (.int .i64 p, none), (.int .i64 q, none), (.bool sure, none)] H =
 (fun (Z0 : Lvl) => ((fun (Z1 : Lvl) => ((fun (Z2 : Frm) => ((fun (Z3 : Frm) => Tr.reqP (Z3 = Z3 ∧ Z0 :: H = Z0 :: H) (Tr.ite (notB (hS p)) (Tr.ok ((AV.nils, none), H)) (Tr.reqP (Z2 = Z2 ∧ Z1 :: H = Z1 :: H) (Tr.req (eqN 0 0) (Tr.req (inO 0 m 0 m) (Tr.ok ((AV.slcT none (Row.M [Seg.arr .i64 (shO z 0) m]) 1 m false, none), H))))))) [(1, AV.int .i64 p), (2, AV.int .i64 q), (4, AV.ptr 0 0 0 0), (7, AV.ptr 0 1 0 0), (9, AV.ptr 0 3 0 0), (10, AV.ptr 0 5 0 0), (11, AV.ptr 0 6 0 0)])) [(2, AV.int .i64 q), (4, AV.ptr 0 0 0 0), (7, AV.ptr 0 1 0 0), (9, AV.ptr 0 3 0 0), (18, AV.ptr 0 8 0 0), (20, AV.slc 0 9 0 0 1 1 (some 1)), (21, AV.int .i64 p)])) { lock := false, bs := [(0, Blk.row (Row.G [tabR 1 w ls ld zs zd sz kd])), (0, Blk.row (Row.G [AV.bool sure])), (0, Blk.fmap hS gS cS), (0, Blk.row (Row.G [AV.map 0 2])), (0, Blk.fmap hW gW cW), (0, Blk.row (Row.G [AV.map 0 4])), (0, Blk.row (Row.I .i64 [Int.ofNat 0])), (0, Blk.row (Row.I .i64 [s])), (0, Blk.row (Row.I .i64 [gS p])), (0, Blk.row (Row.I .i64 [p]))] })) { lock := false, bs := [(0, Blk.row (Row.G [tabR 1 w ls ld zs zd sz kd])), (0, Blk.row (Row.G [AV.bool sure])), (0, Blk.fmap (setBO (fun x => false) q true) (setIO (fun x => Int.ofNat 0) q (Int.ofNat 0)) (cntAO false 0)), (0, Blk.row (Row.G [AV.map 0 2])), (0, Blk.fmap (setBO (fun x => false) q true) (setIO (fun x => Int.ofNat 0) q (Int.ofNat 0)) (cntAO false 0)), (0, Blk.row (Row.G [AV.map 0 4])), (0, Blk.row (Row.I .i64 [Int.ofNat 0]))] } := by kernel_rfl
theorem ex_allR {n f nt : Nat} {c : Code} {callR : CallTr} {bl : BlkT} {rg : RgT} {fr : HFrm} {H : Heap} {T : Tr Res} (e : execT (cxD n f nt) callR bl rg c fr H = T) (hC : callR.Ok (cd n)) (hB : bl.Ok (cxD n f nt) c) (hR : rg.Ok (cxD n f nt) c) {Q : Ex × Frm × Heap → Prop} (h : T.all fun x => Q x.st) : ∃ x, exec (cxD n f nt) c (strip fr) H = some x ∧ Q x := by
 obtain ⟨x, h1, h2⟩ := h
 exact ⟨_, execT_ok (cx := cxD n f nt) hC c hB hR fr H x (by rw [e]; exact h1), h2⟩
noncomputable def wAt (kd : Nat → Int) (sure : Bool) (ls : Nat) (S : WS) (p : Int) : Nat → Int
 | 0 => p
 | k + 1 => wFs kd sure ls S (S.gS p - ((k + 1 : Nat) : Int)) (wAt kd sure ls S p k)
noncomputable def wLs (A : Nat → Int) : Nat → List Int
 | 0 => [A 0]
 | k + 1 => wLs A k ++ [A (k + 1)]
theorem wLs_len (A : Nat → Int) : ∀ k, (wLs A k).length = k + 1
 | 0 => rfl
 | k + 1 => by unfold wLs; rw [List.length_append, wLs_len A k]; rfl
noncomputable def frSq (q : Int) (A : Nat → Int) : Nat → Frm
 | 0 => fr86 (.slc 0 9 0 0 1 1 (some 1)) q (A 0)
 | k + 1 => fr86 (.slc 0 10 0 0 1 (k + 2) none) q (A (k + 1))
noncomputable def lvSq (w : Int) (ls ld : Nat) (zs zd sz kd : Nat → Int) (sure : Bool) (S : WS) (s p : Int) (A : Nat → Int) : Nat → Lvl
 | 0 => lvOW w ls ld zs zd sz kd sure S s (S.gS p) (rsA p)
 | k + 1 => lvOW w ls ld zs zd sz kd sure S s (S.gS p - ((k + 1 : Nat) : Int)) (rsB p (lstO (wLs A (k + 1))) (k + 2))
theorem b80 : ∀ b, (0, b) ∈ blocksOf (bodyOf Try.f80) → b = .loop (part Try.f80 [1,0,1,1,0,1,0,0]) := by
 have : ((blocksOf (bodyOf Try.f80)).filter fun x => Nat.beq x.1 0) = [(0, .loop (part Try.f80 [1,0,1,1,0,1,0,0]))] := by kernel_rfl
 intro b hb
 have hm : (0, b) ∈ ((blocksOf (bodyOf Try.f80)).filter fun x => Nat.beq x.1 0) := List.mem_filter.2 ⟨hb, rfl⟩
 rw [this] at hm; simpa using hm
theorem b86 : ∀ b, (6, b) ∈ blocksOf (bodyOf Try.f80) → b = .loop (part Try.f80 [1,0,1,1,1,1,1,1,1,0,1,0,0]) := by
 have : ((blocksOf (bodyOf Try.f80)).filter fun x => Nat.beq x.1 6) = [(6, .loop (part Try.f80 [1,0,1,1,1,1,1,1,1,0,1,0,0]))] := by kernel_rfl
 intro b hb
 have hm : (6, b) ∈ ((blocksOf (bodyOf Try.f80)).filter fun x => Nat.beq x.1 6) := List.mem_filter.2 ⟨hb, rfl⟩
 rw [this] at hm; simpa using hm
section
variable (n : Nat) (w : Int) (ls ld : Nat) (zs zd sz kd : Nat → Int) (H : Heap) (p q s : Int) (sure : Bool) (S : WS)
theorem il103 (hls : ls ≤ 10) (a left : Int) (ha : -2 ≤ a ∧ a < ls) (rest : List (Nat × Blk)) : (il (ctE noCt 103 (a103 w ls ld zs zd sz kd a sure) (lvOW w ls ld zs zd sz kd sure S s left rest :: H) (.ok (.int .i64 (wFs kd sure ls S left a), lvOW w ls ld zs zd sz kd sure S s left rest :: H))) (n + 13) 1).Ok (cd (n + 14)) :=
 il_ok _ (n + 13) 1 (fun k => ctE_ok (noCt_ok _) (fun x hx => by
  rw [← Tr.ok_some hx, show n + 13 + k = n + 6 + k + 7 by omega]
  exact c103q _ w ls ld zs zd sz kd H a s left sure S rest hls ha))
theorem l86 (hls : ls ≤ 10) (N : Nat) (hN : N + 1 ≤ 900) (hg : 0 ≤ S.gS p ∧ S.gS p ≤ 1000) (hA : ∀ k, k < N + 1 → -2 ≤ wAt kd sure ls S p k ∧ wAt kd sure ls S p k < ls ∧ wAt kd sure ls S p k ≠ q) (hE : wAt kd sure ls S p (N + 1) = q) :
 exec (cxD (n + 14) 80 113) (.block 6 (.loop (part Try.f80 [1,0,1,1,1,1,1,1,1,0,1,0,0]))) (fr86 (.slc 0 9 0 0 1 1 (some 1)) q p) (lvOW w ls ld zs zd sz kd sure S s (S.gS p) (rsA p) :: H) =
 some (.normal, fr86 (.slc 0 10 0 0 1 (N + 2) none) q q ++ [(94, .bool true)], lvOW w ls ld zs zd sz kd sure S s (S.gS p - ((N + 1 : Nat) : Int)) (rsB p (lstO (wLs (wAt kd sure ls S p) (N + 1))) (N + 2)) :: H) := by
 have := forX (n := n + 14) (f := 80) (nt := 113) (c := part Try.f80 [1,0,1,1,1,1,1,1,1,0,1,0,0]) 6 (frSq q (wAt kd sure ls S p)) (fun k => lvSq w ls ld zs zd sz kd sure S s p (wAt kd sure ls S p) k :: H) (N + 1) (fr86 (.slc 0 10 0 0 1 (N + 2) none) q q ++ [(94, .bool true)], lvOW w ls ld zs zd sz kd sure S s (S.gS p - ((N + 1 : Nat) : Int)) (rsB p (lstO (wLs (wAt kd sure ls S p) (N + 1))) (N + 2)) :: H) (by omega) (fun k hk => ?_) ?_
 · exact this
 · obtain ⟨a1, a2, a3⟩ := hA k hk
   have eA : wAt kd sure ls S p (k + 1) = wFs kd sure ls S (S.gS p - ((k + 1 : Nat) : Int)) (wAt kd sure ls S p k) := rfl
   have eL : wLs (wAt kd sure ls S p) (k + 1) = wLs (wAt kd sure ls S p) k ++ [wAt kd sure ls S p (k + 1)] := rfl
   have hlen := wLs_len (wAt kd sure ls S p) k
   have hil := il103 n w ls ld zs zd sz kd H s sure S hls (wAt kd sure ls S p k) (S.gS p - ((k + 1 : Nat) : Int)) ⟨a1, a2⟩
   rw [← eA] at hil
   cases k with
   | zero =>
     have el : subI .i64 (S.gS p) (Int.ofNat 1) = S.gS p - ((0 + 1 : Nat) : Int) := by rw [subI_eq, show Int.ofNat 1 = 1 from rfl, wr_64 (by omega) (by omega)]; omega
     have e2 : wLs (wAt kd sure ls S p) (0 + 1) = [p, wAt kd sure ls S p (0 + 1)] := rfl
     have a3 : p ≠ q := a3
     show ∃ x, exec (cxD (n + 14) 80 113) (part Try.f80 [1,0,1,1,1,1,1,1,1,0,1,0,0]) (strip (fr86h q p)) (lvOW w ls ld zs zd sz kd sure S s (S.gS p) (rsA p) :: H) = some x ∧ (x.1 = .normal ∧ tidy 10 x.2.1 x.2.2 = (fr86 (.slc 0 10 0 0 1 2 none) q (wAt kd sure ls S p (0 + 1)), lvOW w ls ld zs zd sz kd sure S s (S.gS p - ((0 + 1 : Nat) : Int)) (rsB p (lstO (wLs (wAt kd sure ls S p) (0 + 1))) 2) :: H))
     rw [e2]
     have hil := hil (rsA p)
     generalize S.gS p - ((0 + 1 : Nat) : Int) = left2 at *
     generalize wAt kd sure ls S p (0 + 1) = v at *
     refine ex_allR (t86a n w ls ld zs zd sz kd H p q p v sure S.hS S.gS S.cS S.hW S.gW S.cW s (S.gS p) left2) hil (noBT_ok _ _) (noRT_ok _ _) ?_
     rw [el]
     repeat' first | (refine Tr.all_ite (fun hc => ?_) (fun hc => ?_) <;> (try simp (disch := omega) only [nV, mulO_eq, Int.cast_ofNat_Int, eq_self] at hc) <;> (try (exfalso; omega))) | (refine Tr.all_req ?_ ?_; · ((try simp (disch := omega) only [nV, mulO_eq, Int.cast_ofNat_Int, eq_self]); try omega)) | (refine Tr.all_reqP ?_ ?_; · first | exact trivial | rfl | exact ⟨rfl, rfl⟩ | exact ⟨rfl, rfl, rfl⟩ | (simp (disch := omega) only [nV, mulO_eq, Int.cast_ofNat_Int, eq_self]; done) | ((try simp (disch := omega) only [nV, mulO_eq, Int.cast_ofNat_Int, eq_self]); omega)) | fail
     refine Tr.all_ok ⟨rfl, ?_⟩
     simp only [addO_eq]
     rfl
   | succ k =>
     have el : subI .i64 (S.gS p - ((k + 1 : Nat) : Int)) (Int.ofNat 1) = S.gS p - ((k + 1 + 1 : Nat) : Int) := by rw [subI_eq, show Int.ofNat 1 = 1 from rfl, wr_64 (by omega) (by omega)]; omega
     have la := lst_app (wLs (wAt kd sure ls S p) (k + 1)) (wAt kd sure ls S p (k + 1 + 1))
     rw [hlen] at la
     show ∃ x, exec (cxD (n + 14) 80 113) (part Try.f80 [1,0,1,1,1,1,1,1,1,0,1,0,0]) (fr86 (.slc 0 10 0 0 1 (k + 2) none) q (wAt kd sure ls S p (k + 1))) (lvOW w ls ld zs zd sz kd sure S s (S.gS p - ((k + 1 : Nat) : Int)) (rsB p (lstO (wLs (wAt kd sure ls S p) (k + 1))) (k + 2)) :: H) = some x ∧ (x.1 = .normal ∧ tidy 10 x.2.1 x.2.2 = (fr86 (.slc 0 10 0 0 1 (k + 1 + 2) none) q (wAt kd sure ls S p (k + 1 + 1)), lvOW w ls ld zs zd sz kd sure S s (S.gS p - ((k + 1 + 1 : Nat) : Int)) (rsB p (lstO (wLs (wAt kd sure ls S p) (k + 1 + 1))) (k + 1 + 2)) :: H))
     rw [eL, ← la]
     have hil := hil (rsB p (lstO (wLs (wAt kd sure ls S p) (k + 1))) (k + 2))
     generalize S.gS p - ((k + 1 + 1 : Nat) : Int) = left2 at *
     generalize S.gS p - ((k + 1 : Nat) : Int) = left at *
     generalize wAt kd sure ls S p (k + 1 + 1) = v at *
     generalize wAt kd sure ls S p (k + 1) = a at *
     generalize lstO (wLs (wAt kd sure ls S p) (k + 1)) = z at *
     refine ex_all (t86b n w ls ld (k + 2) zs zd sz kd z H p q a v sure S.hS S.gS S.cS S.hW S.gW S.cW s left left2) hil (noBT_ok _ _) (noRT_ok _ _) ?_
     have et : toN (Int.ofNat (k + 2)) = k + 2 := by rw [toN_eq]; rfl
     rw [el, et]
     repeat' first | (refine Tr.all_ite (fun hc => ?_) (fun hc => ?_) <;> (try simp (disch := omega) only [nV, mulO_eq, Int.cast_ofNat_Int, eq_self] at hc) <;> (try (exfalso; omega))) | (refine Tr.all_req ?_ ?_; · ((try simp (disch := omega) only [nV, mulO_eq, Int.cast_ofNat_Int, eq_self]); try omega)) | (refine Tr.all_reqP ?_ ?_; · first | exact trivial | rfl | exact ⟨rfl, rfl⟩ | exact ⟨rfl, rfl, rfl⟩ | (simp (disch := omega) only [nV, mulO_eq, Int.cast_ofNat_Int, eq_self]; done) | ((try simp (disch := omega) only [nV, mulO_eq, Int.cast_ofNat_Int, eq_self]); omega)) | fail
     refine Tr.all_ok ⟨rfl, ?_⟩
     simp only [addO_eq]
     rfl
 · show exec (cxD (n + 14) 80 113) (part Try.f80 [1,0,1,1,1,1,1,1,1,0,1,0,0]) (fr86 (.slc 0 10 0 0 1 (N + 2) none) q (wAt kd sure ls S p (N + 1))) (lvOW w ls ld zs zd sz kd sure S s (S.gS p - ((N + 1 : Nat) : Int)) (rsB p (lstO (wLs (wAt kd sure ls S p) (N + 1))) (N + 2)) :: H) = _
   rw [hE]
   generalize S.gS p - ((N + 1 : Nat) : Int) = left at *
   generalize lstO (wLs (wAt kd sure ls S p) (N + 1)) = z at *
   obtain ⟨x, h3, rfl⟩ := ex_all (Q := fun x => x = (.exit 6, fr86 (.slc 0 10 0 0 1 (N + 2) none) q q ++ [(94, .bool true)], lvOW w ls ld zs zd sz kd sure S s left (rsB p z (N + 2)) :: H)) (t86e n w ls ld (N + 2) zs zd sz kd z H p q q sure S.hS S.gS S.cS S.hW S.gW S.cW s left) (il_ok _ (n + 13) 1 (fun k => ctG_ok (noCt_ok _) (fun args p v hg hp H => by cases hg))) (noBT_ok _ _) (noRT_ok _ _) (by
    repeat' first | (refine Tr.all_ite (fun hc => ?_) (fun hc => ?_) <;> (try simp (disch := omega) only [nV, mulO_eq, Int.cast_ofNat_Int, eq_self] at hc) <;> (try (exfalso; omega))) | (refine Tr.all_req ?_ ?_; · ((try simp (disch := omega) only [nV, mulO_eq, Int.cast_ofNat_Int, eq_self]); try omega)) | (refine Tr.all_reqP ?_ ?_; · first | exact trivial | rfl | exact ⟨rfl, rfl⟩ | exact ⟨rfl, rfl, rfl⟩ | (simp (disch := omega) only [nV, mulO_eq, Int.cast_ofNat_Int, eq_self]; done) | ((try simp (disch := omega) only [nV, mulO_eq, Int.cast_ofNat_Int, eq_self]); omega)) | fail
    all_goals exact Tr.all_ok rfl)
   exact h3
theorem c80n (hls : ls ≤ 10) (N : Nat) (hN : N + 1 ≤ 900) (h1 : ∀ k, k < N + 1 → 0 < (wsL kd sure ls q k).cW) (h2 : (wsL kd sure ls q (N + 1)).cW = 0) (hp : (wsL kd sure ls q (N + 1)).hS p = false) :
 cd (n + 15) (.fn 80) [tabR 0 w ls ld zs zd sz kd, .int .i64 p, .int .i64 q, .bool sure] H = some (.nils, H) := by
 have l := l80 n w ls ld zs zd sz kd H p q sure hls N hN h1 h2
 generalize wsL kd sure ls q (N + 1) = S at *
 refine fn_all (n := n + 14) Try.func80 rfl rfl rfl (u80n n w ls ld zs zd sz kd H p q sure S.hS S.gS S.cS S.hW S.gW S.cW ((N + 1 : Nat) : Int)) (il_no (n + 13) 1) (blkE_ok (stopB_ok (noBT_ok _ _) 6) b80 (fun x hx => ?_)) (noRT_ok _ _) ?_
 · refine Eq.trans l ?_
   rw [← Tr.ok_some hx]; simp only [Res.st, hints_eq]; rfl
 · repeat' first | (refine Tr.all_ite (fun hc => ?_) (fun hc => ?_) <;> (try simp (disch := omega) only [nV, mulO_eq, Int.cast_ofNat_Int, eq_self] at hc) <;> (try (exfalso; omega))) | (refine Tr.all_req ?_ ?_; · ((try simp (disch := omega) only [nV, mulO_eq, Int.cast_ofNat_Int, eq_self]); try omega)) | (refine Tr.all_reqP ?_ ?_; · first | exact trivial | rfl | exact ⟨rfl, rfl⟩ | exact ⟨rfl, rfl, rfl⟩ | (simp (disch := omega) only [nV, mulO_eq, Int.cast_ofNat_Int, eq_self]; done) | ((try simp (disch := omega) only [nV, mulO_eq, Int.cast_ofNat_Int, eq_self]); omega)) | fail
   all_goals first
    | exact Tr.all_ok ⟨rfl, rfl⟩
    | (exfalso; simp_all; done)
    | fail
theorem c80y (hls : ls ≤ 10) (N : Nat) (hN : N + 1 ≤ 900) (h1 : ∀ k, k < N + 1 → 0 < (wsL kd sure ls q k).cW) (h2 : (wsL kd sure ls q (N + 1)).cW = 0) (hp : (wsL kd sure ls q (N + 1)).hS p = true)
 (M : Nat) (hM : M + 1 ≤ 900) (hg : 0 ≤ (wsL kd sure ls q (N + 1)).gS p ∧ (wsL kd sure ls q (N + 1)).gS p ≤ 1000) (hA : ∀ k, k < M + 1 → -2 ≤ wAt kd sure ls (wsL kd sure ls q (N + 1)) p k ∧ wAt kd sure ls (wsL kd sure ls q (N + 1)) p k < ls ∧ wAt kd sure ls (wsL kd sure ls q (N + 1)) p k ≠ q) (hE : wAt kd sure ls (wsL kd sure ls q (N + 1)) p (M + 1) = q) :
 cd (n + 15) (.fn 80) [tabR 0 w ls ld zs zd sz kd, .int .i64 p, .int .i64 q, .bool sure] H = some (sl1 (M + 2) (lstO (wLs (wAt kd sure ls (wsL kd sure ls q (N + 1)) p) (M + 1))) false, H) := by
 have l := l80 n w ls ld zs zd sz kd H p q sure hls N hN h1 h2
 generalize wsL kd sure ls q (N + 1) = S at *
 have l2 := l86 n w ls ld zs zd sz kd H p q ((N + 1 : Nat) : Int) sure S hls M hM hg hA hE
 refine fn_all (n := n + 14) Try.func80 rfl rfl rfl (u80 n w ls ld (M + 2) zs zd sz kd (lstO (wLs (wAt kd sure ls S p) (M + 1))) H p q q (S.gS p - ((M + 1 : Nat) : Int)) sure S.hS S.gS S.cS S.hW S.gW S.cW ((N + 1 : Nat) : Int)) (il_no (n + 13) 1) (blkE_ok (blkE_ok (noBT_ok _ _) b86 (fun x hx => ?_)) b80 (fun x hx => ?_)) (noRT_ok _ _) ?_
 · refine Eq.trans l2 ?_
   rw [← Tr.ok_some hx]; simp only [Res.st, hints_eq]; rfl
 · refine Eq.trans l ?_
   rw [← Tr.ok_some hx]; simp only [Res.st, hints_eq]; rfl
 · repeat' first | (refine Tr.all_ite (fun hc => ?_) (fun hc => ?_) <;> (try simp (disch := omega) only [nV, mulO_eq, Int.cast_ofNat_Int, eq_self] at hc) <;> (try (exfalso; omega))) | (refine Tr.all_req ?_ ?_; · ((try simp (disch := omega) only [nV, mulO_eq, Int.cast_ofNat_Int, eq_self]); try omega)) | (refine Tr.all_reqP ?_ ?_; · first | exact trivial | rfl | exact ⟨rfl, rfl⟩ | exact ⟨rfl, rfl, rfl⟩ | (simp (disch := omega) only [nV, mulO_eq, Int.cast_ofNat_Int, eq_self]; done) | ((try simp (disch := omega) only [nV, mulO_eq, Int.cast_ofNat_Int, eq_self]); omega)) | fail
   all_goals first
    | (refine Tr.all_ok ⟨?_, rfl⟩; rw [shO_zero]; rfl)
    | (exfalso; simp_all; done)
    | fail
end
end Go.Eng
