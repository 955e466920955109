/- Bath: CheckBaths and Worth, the trees. -/
import Derived.Test.YtigmfpmabgekoaaGreatV4Be1
section
namespace Go.Eng
open Go.Proofs
set_option linter.unusedVariables false
set_option linter.unusedSimpArgs false
set_option maxRecDepth 100000
noncomputable def aY (y:Nat→Int) (j:Int) (c:Nat):Int:=match c with
 | 0=>y (idO 0 j 7)
 | c+1=>y (addO (idO 0 j 7) (c+1))
noncomputable def g71 (k:Nat) (b:Nat→Int) (full:Bool) (y:Nat→Int) (j:Int) (D:Bool):List AV→Option (Prop×AV):=fun x=>some (x=[sl1 k b full,o72 (aY y j)],.bool D)
noncomputable def g70 (B:AV) (e:Int):List AV→Option (Prop×AV):=fun x=>some (x=[B],.int .i64 e)
noncomputable def g73 (l:Nat) (z:Nat→Int) (k:Nat) (b:Nat→Int) (full:Bool) (j:Int) (D:Bool):List AV→Option (Prop×AV):=fun x=>some (x=[slA 5 l z,sl1 k b full,.int .i64 j],.bool D)
noncomputable def fr29 (l k:Nat) (y b:Nat→Int) (full:Bool) (j:Int):Frm:=[(1,sl1 k b full),(5,.ptrT (some 0) (.G [slA 7 l y]) 0),(23,.int .i64 (Int.ofNat l)),(24,.int .i64 j)]
noncomputable def fr27 (l k:Nat) (z y b:Nat→Int) (full:Bool) (s j:Int):Frm:=[(1,sl1 k b full),(6,.ptrT (some 0) (.G [slA 7 l y]) 0),(9,.int .i64 s),(25,slA 5 l z),(26,.int .i64 (Int.ofNat l)),(27,.int .i64 j)]
noncomputable def fr30 (l k:Nat) (z b:Nat→Int) (full:Bool) (j:Int):Frm:=[(0,slA 5 l z),(1,sl1 k b full),(5,.int .i64 j)]
noncomputable def fr39 (l k:Nat) (z b:Nat→Int) (full:Bool) (s j:Int):Frm:=[(0,slA 5 l z),(1,sl1 k b full),(5,.int .i64 s),(6,.int .i64 j)]
noncomputable def g28 (l:Nat) (z:Nat→Int) (k:Nat) (b:Nat→Int) (full:Bool) (V:AV):List AV→Option (Prop×AV):=fun x=>some (x=[slA 5 l z,sl1 k b full],V)
theorem t29 (n l k:Nat) (y b:Nat→Int) (full:Bool) (H:Heap) (j:Int) (D:Bool):execT (cxD n 29 39) (il (ctG noCt 71 (g71 k b full y j D)) n 0) noBT noRT (part Tryz.f29 [1,1,1,1,0,1,0,0]) (hints (fr29 l k y b full j)) (lvE::H) =
 (fun (Z0:List AV)=>Tr.ite (ltI j (Int.ofNat l)) (Tr.req (inI j l) (Tr.req (ltN (idO 0 j 7) (mulO l 7)) (Tr.req (ltN (addO (idO 0 j 7) 1) (mulO l 7)) (Tr.req (ltN (addO (idO 0 j 7) 2) (mulO l 7)) (Tr.req (ltN (addO (idO 0 j 7) 3) (mulO l 7)) (Tr.req (ltN (addO (idO 0 j 7) 4) (mulO l 7)) (Tr.req (ltN (addO (idO 0 j 7) 5) (mulO l 7)) (Tr.req (ltN (addO (idO 0 j 7) 6) (mulO l 7)) (Tr.reqP (Z0=Z0) (Tr.ite (notB D) (Tr.ok (Ex.ret,[(4,AV.int .i64 (Int.ofNat 22),some 1)],lvE::H)) (Tr.ok (Ex.normal,[(1,AV.slcT none (Row.M [Seg.arr .i64 b k]) 1 k full,none),(5,AV.ptrT (some 0) (Row.G [slA 7 l y]) 0,none),(23,AV.int .i64 (Int.ofNat l),none),(24,AV.int .i64 (addI .i64 j (Int.ofNat 1)),none)],lvE::H)))))))))))) (Tr.ok (Ex.exit 0,[(1,AV.slcT none (Row.M [Seg.arr .i64 b k]) 1 k full,none),(5,AV.ptrT (some 0) (Row.G [slA 7 l y]) 0,none),(23,AV.int .i64 (Int.ofNat l),none),(24,AV.int .i64 j,none),(25,AV.bool false,some 1)],lvE::H))) [AV.slcT none (Row.M [Seg.arr .i64 b k]) 1 k full,AV.fn (Fn.func 72) [AV.agg (Row.I .i64 [y (idO 0 j 7),y (addO (idO 0 j 7) 1),y (addO (idO 0 j 7) 2),y (addO (idO 0 j 7) 3),y (addO (idO 0 j 7) 4),y (addO (idO 0 j 7) 5),y (addO (idO 0 j 7) 6)])] []]:=by kernel_rfl
theorem t29x (n l k:Nat) (y b:Nat→Int) (full:Bool) (H:Heap) (j:Int):execT (cxD n 29 39) (il noCt n 0) noBT noRT (part Tryz.f29 [1,1,1,1,0,1,0,0]) (hints (fr29 l k y b full j)) (lvE::H) =
 Tr.ite (ltI j (Int.ofNat l)) (Tr.req (inI j l) (Tr.req (ltN (idO 0 j 7) (mulO l 7)) (Tr.req (ltN (addO (idO 0 j 7) 1) (mulO l 7)) (Tr.req (ltN (addO (idO 0 j 7) 2) (mulO l 7)) (Tr.req (ltN (addO (idO 0 j 7) 3) (mulO l 7)) (Tr.req (ltN (addO (idO 0 j 7) 4) (mulO l 7)) (Tr.req (ltN (addO (idO 0 j 7) 5) (mulO l 7)) (Tr.req (ltN (addO (idO 0 j 7) 6) (mulO l 7)) Tr.bad)))))))) (Tr.ok (Ex.exit 0,[(1,AV.slcT none (Row.M [Seg.arr .i64 b k]) 1 k full,none),(5,AV.ptrT (some 0) (Row.G [slA 7 l y]) 0,none),(23,AV.int .i64 (Int.ofNat l),none),(24,AV.int .i64 j,none),(25,AV.bool false,some 1)],lvE::H)):=by kernel_rfl
theorem u29 (n l k:Nat) (z y b:Nat→Int) (full:Bool) (H:Heap) (e:Bool):bodyT Tryz.prog (cd n) 100000 29 Tryz.f29 (KtB.kt 29) (il (ctG (ctG noCt 52 (gO (slA 5 l z) (.tup [.ptrT (some 0) (.G [slA 7 l y]) 0,.int .i64 0]))) 70 (g70 (sl1 k b full) 0)) n 0) (blkE noBT 0 (fr29 l k y b full 0) (lvE::H) (.ite e (.ok (.ret,hints [(4,.int .i64 22)],lvE::H)) (.ok (.normal,hints (fr29 l k y b full (Int.ofNat l)++[(25,.bool false)]),lvE::H)))) noRT [(slA 5 l z,none),(sl1 k b full,none)] H =
 (fun (Z0:Frm)=>Tr.reqP (slA 5 l z=slA 5 l z) (Tr.ite (notB (eqI (Int.ofNat 0) (Int.ofNat 0))) (Tr.ok ((AV.int .i64 (Int.ofNat 0),none),H)) (Tr.reqP ([AV.slcT none (Row.M [Seg.arr .i64 b k]) 1 k full]=[AV.slcT none (Row.M [Seg.arr .i64 b k]) 1 k full]) (Tr.ite (notB (eqI (Int.ofNat 0) (Int.ofNat 0))) (Tr.ok ((AV.int .i64 (Int.ofNat 0),none),H)) (Tr.reqP (Z0=Z0∧lvE::H=lvE::H) (Tr.ite e (Tr.ok ((AV.int .i64 (Int.ofNat 22),none),H)) (Tr.ok ((AV.int .i64 (Int.ofNat 0),some 1),H)))))))) [(1,AV.slcT none (Row.M [Seg.arr .i64 b k]) 1 k full),(5,AV.ptrT (some 0) (Row.G [slA 7 l y]) 0),(23,AV.int .i64 (Int.ofNat l)),(24,AV.int .i64 (Int.ofNat 0))]:=by kernel_rfl
theorem u29x (n l k:Nat) (z b:Nat→Int) (full:Bool) (H:Heap) (e:Int):bodyT Tryz.prog (cd n) 100000 29 Tryz.f29 (KtB.kt 29) (il (ctG noCt 52 (gO (slA 5 l z) (.tup [.nilp,.int .i64 e]))) n 0) (stopB noBT 0) noRT [(slA 5 l z,none),(sl1 k b full,none)] H =
 Tr.reqP (slA 5 l z=slA 5 l z) (Tr.ite (notB (eqI e (Int.ofNat 0))) (Tr.ok ((AV.int .i64 e,none),H)) Tr.bad):=by kernel_rfl
theorem u29y (n l k:Nat) (z y b:Nat→Int) (full:Bool) (H:Heap) (e:Int):bodyT Tryz.prog (cd n) 100000 29 Tryz.f29 (KtB.kt 29) (il (ctG (ctG noCt 52 (gO (slA 5 l z) (.tup [.ptrT (some 0) (.G [slA 7 l y]) 0,.int .i64 0]))) 70 (g70 (sl1 k b full) e)) n 0) (stopB noBT 0) noRT [(slA 5 l z,none),(sl1 k b full,none)] H =
 Tr.reqP (slA 5 l z=slA 5 l z) (Tr.ite (notB (eqI (Int.ofNat 0) (Int.ofNat 0))) (Tr.ok ((AV.int .i64 (Int.ofNat 0),none),H)) (Tr.reqP ([AV.slcT none (Row.M [Seg.arr .i64 b k]) 1 k full]=[AV.slcT none (Row.M [Seg.arr .i64 b k]) 1 k full]) (Tr.ite (notB (eqI e (Int.ofNat 0))) (Tr.ok ((AV.int .i64 e,none),H)) Tr.bad))):=by kernel_rfl
theorem t27 (n l k:Nat) (z y b:Nat→Int) (full:Bool) (H:Heap) (s j:Int) (D:Bool):execT (cxD n 27 48) (il (ctG noCt 71 (g71 k b full y j D)) n 0) noBT noRT (part Tryz.f27 [1,1,1,1,1,0,1,0,0]) (hints (fr27 l k z y b full s j)) (lvE::H) =
 (fun (Z0:List AV)=>((fun (Z1:Lvl)=>((fun (Z2:Nat×AV×Option Nat)=>Tr.ite (ltI j (Int.ofNat l)) (Tr.req (inI j l) (Tr.req (ltN (idO 0 j 5) (mulO l 5)) (Tr.req (ltN (addO (idO 0 j 5) 1) (mulO l 5)) (Tr.req (ltN (addO (idO 0 j 5) 2) (mulO l 5)) (Tr.req (ltN (addO (idO 0 j 5) 3) (mulO l 5)) (Tr.req (ltN (addO (idO 0 j 5) 4) (mulO l 5)) (Tr.req (inI j l) (Tr.req (ltN (idO 0 j 7) (mulO l 7)) (Tr.req (ltN (addO (idO 0 j 7) 1) (mulO l 7)) (Tr.req (ltN (addO (idO 0 j 7) 2) (mulO l 7)) (Tr.req (ltN (addO (idO 0 j 7) 3) (mulO l 7)) (Tr.req (ltN (addO (idO 0 j 7) 4) (mulO l 7)) (Tr.req (ltN (addO (idO 0 j 7) 5) (mulO l 7)) (Tr.req (ltN (addO (idO 0 j 7) 6) (mulO l 7)) (Tr.reqP (Z0=Z0) (Tr.ite D (Tr.ok (Ex.normal,[Z2,(6,AV.ptrT (some 0) (Row.G [slA 7 l y]) 0,none),(9,AV.int .i64 (addI .i64 s (z (addO (idO 0 j 5) 4))),none),(25,slA 5 l z,none),(26,AV.int .i64 (Int.ofNat l),none),(27,AV.int .i64 (addI .i64 j (Int.ofNat 1)),none)],Z1::H)) (Tr.ok (Ex.normal,[Z2,(6,AV.ptrT (some 0) (Row.G [slA 7 l y]) 0,none),(9,AV.int .i64 s,none),(25,slA 5 l z,none),(26,AV.int .i64 (Int.ofNat l),none),(27,AV.int .i64 (addI .i64 j (Int.ofNat 1)),none)],Z1::H)))))))))))))))))) (Tr.ok (Ex.exit 0,[Z2,(6,AV.ptrT (some 0) (Row.G [slA 7 l y]) 0,none),(9,AV.int .i64 s,none),(25,slA 5 l z,none),(26,AV.int .i64 (Int.ofNat l),none),(27,AV.int .i64 j,none),(28,AV.bool false,some 1)],lvE::H))) (1,AV.slcT none (Row.M [Seg.arr .i64 b k]) 1 k full,none))) { lock:=false,bs:=[(0,Blk.row (Row.I .i64 [z (idO 0 j 5),z (addO (idO 0 j 5) 1),z (addO (idO 0 j 5) 2),z (addO (idO 0 j 5) 3),z (addO (idO 0 j 5) 4)]))] })) [AV.slcT none (Row.M [Seg.arr .i64 b k]) 1 k full,AV.fn (Fn.func 72) [AV.agg (Row.I .i64 [y (idO 0 j 7),y (addO (idO 0 j 7) 1),y (addO (idO 0 j 7) 2),y (addO (idO 0 j 7) 3),y (addO (idO 0 j 7) 4),y (addO (idO 0 j 7) 5),y (addO (idO 0 j 7) 6)])] []]:=by kernel_rfl
theorem t27x (n l k:Nat) (z y b:Nat→Int) (full:Bool) (H:Heap) (s j:Int):execT (cxD n 27 48) (il noCt n 0) noBT noRT (part Tryz.f27 [1,1,1,1,1,0,1,0,0]) (hints (fr27 l k z y b full s j)) (lvE::H) =
 Tr.ite (ltI j (Int.ofNat l)) (Tr.req (inI j l) (Tr.req (ltN (idO 0 j 5) (mulO l 5)) (Tr.req (ltN (addO (idO 0 j 5) 1) (mulO l 5)) (Tr.req (ltN (addO (idO 0 j 5) 2) (mulO l 5)) (Tr.req (ltN (addO (idO 0 j 5) 3) (mulO l 5)) (Tr.req (ltN (addO (idO 0 j 5) 4) (mulO l 5)) (Tr.req (inI j l) (Tr.req (ltN (idO 0 j 7) (mulO l 7)) (Tr.req (ltN (addO (idO 0 j 7) 1) (mulO l 7)) (Tr.req (ltN (addO (idO 0 j 7) 2) (mulO l 7)) (Tr.req (ltN (addO (idO 0 j 7) 3) (mulO l 7)) (Tr.req (ltN (addO (idO 0 j 7) 4) (mulO l 7)) (Tr.req (ltN (addO (idO 0 j 7) 5) (mulO l 7)) (Tr.req (ltN (addO (idO 0 j 7) 6) (mulO l 7)) Tr.bad)))))))))))))) (Tr.ok (Ex.exit 0,[(1,AV.slcT none (Row.M [Seg.arr .i64 b k]) 1 k full,none),(6,AV.ptrT (some 0) (Row.G [slA 7 l y]) 0,none),(9,AV.int .i64 s,none),(25,slA 5 l z,none),(26,AV.int .i64 (Int.ofNat l),none),(27,AV.int .i64 j,none),(28,AV.bool false,some 1)],lvE::H)):=by kernel_rfl
theorem u27 (n l k:Nat) (z y b:Nat→Int) (full:Bool) (H:Heap) (s:Int):bodyT Tryz.prog (cd n) 100000 27 Tryz.f27 (KtB.kt 27) (il (ctG (ctG noCt 52 (gO (slA 5 l z) (.tup [.ptrT (some 0) (.G [slA 7 l y]) 0,.int .i64 0]))) 70 (g70 (sl1 k b full) 0)) n 0) (blkE noBT 0 (fr27 l k z y b full 0 0) (lvE::H) (.ok (.normal,hints (fr27 l k z y b full s (Int.ofNat l)++[(28,.bool false)]),lvE::H))) noRT [(slA 5 l z,none),(sl1 k b full,none)] H =
 (fun (Z0:Frm)=>Tr.reqP (slA 5 l z=slA 5 l z) (Tr.ite (notB (eqI (Int.ofNat 0) (Int.ofNat 0))) (Tr.ok ((AV.tup [AV.int .i64 (Int.ofNat 0),AV.int .i64 (Int.ofNat 0)],none),H)) (Tr.reqP ([AV.slcT none (Row.M [Seg.arr .i64 b k]) 1 k full]=[AV.slcT none (Row.M [Seg.arr .i64 b k]) 1 k full]) (Tr.ite (notB (eqI (Int.ofNat 0) (Int.ofNat 0))) (Tr.ok ((AV.tup [AV.int .i64 (Int.ofNat 0),AV.int .i64 (Int.ofNat 0)],none),H)) (Tr.reqP (Z0=Z0∧lvE::H=lvE::H) (Tr.ok ((AV.tup [AV.int .i64 s,AV.int .i64 (Int.ofNat 0)],none),H))))))) [(1,AV.slcT none (Row.M [Seg.arr .i64 b k]) 1 k full),(6,AV.ptrT (some 0) (Row.G [slA 7 l y]) 0),(9,AV.int .i64 (Int.ofNat 0)),(25,slA 5 l z),(26,AV.int .i64 (Int.ofNat l)),(27,AV.int .i64 (Int.ofNat 0))]:=by kernel_rfl
theorem u27x (n l k:Nat) (z b:Nat→Int) (full:Bool) (H:Heap) (e:Int):bodyT Tryz.prog (cd n) 100000 27 Tryz.f27 (KtB.kt 27) (il (ctG noCt 52 (gO (slA 5 l z) (.tup [.nilp,.int .i64 e]))) n 0) (stopB noBT 0) noRT [(slA 5 l z,none),(sl1 k b full,none)] H =
 Tr.reqP (slA 5 l z=slA 5 l z) (Tr.ite (notB (eqI e (Int.ofNat 0))) (Tr.ok ((AV.tup [AV.int .i64 (Int.ofNat 0),AV.int .i64 e],none),H)) Tr.bad):=by kernel_rfl
theorem u27y (n l k:Nat) (z y b:Nat→Int) (full:Bool) (H:Heap) (e:Int):bodyT Tryz.prog (cd n) 100000 27 Tryz.f27 (KtB.kt 27) (il (ctG (ctG noCt 52 (gO (slA 5 l z) (.tup [.ptrT (some 0) (.G [slA 7 l y]) 0,.int .i64 0]))) 70 (g70 (sl1 k b full) e)) n 0) (stopB noBT 0) noRT [(slA 5 l z,none),(sl1 k b full,none)] H =
 Tr.reqP (slA 5 l z=slA 5 l z) (Tr.ite (notB (eqI (Int.ofNat 0) (Int.ofNat 0))) (Tr.ok ((AV.tup [AV.int .i64 (Int.ofNat 0),AV.int .i64 (Int.ofNat 0)],none),H)) (Tr.reqP ([AV.slcT none (Row.M [Seg.arr .i64 b k]) 1 k full]=[AV.slcT none (Row.M [Seg.arr .i64 b k]) 1 k full]) (Tr.ite (notB (eqI e (Int.ofNat 0))) (Tr.ok ((AV.tup [AV.int .i64 (Int.ofNat 0),AV.int .i64 e],none),H)) Tr.bad))):=by kernel_rfl
theorem t30 (n l k:Nat) (z b:Nat→Int) (full:Bool) (H:Heap) (j:Int) (D:Bool):execT (cxD n 30 27) (il (ctG noCt 73 (g73 l z k b full j D)) n 0) noBT noRT (part Tryz.f30 [1,1,1,0,1,0,0]) (hints (fr30 l k z b full j)) (lvE::H) =
 Tr.ite (ltI j (Int.ofNat l)) (Tr.reqP ([slA 5 l z,AV.slcT none (Row.M [Seg.arr .i64 b k]) 1 k full,AV.int .i64 j]=[slA 5 l z,AV.slcT none (Row.M [Seg.arr .i64 b k]) 1 k full,AV.int .i64 j]) (Tr.ite (notB D) (Tr.ok (Ex.ret,[(4,AV.int .i64 (Int.ofNat 22),some 1)],lvE::H)) (Tr.ok (Ex.normal,[(0,slA 5 l z,none),(1,AV.slcT none (Row.M [Seg.arr .i64 b k]) 1 k full,none),(5,AV.int .i64 (addI .i64 j (Int.ofNat 1)),none)],lvE::H)))) (Tr.ok (Ex.exit 0,[(0,slA 5 l z,none),(1,AV.slcT none (Row.M [Seg.arr .i64 b k]) 1 k full,none),(5,AV.int .i64 j,none),(19,AV.bool false,some 1)],lvE::H)):=by kernel_rfl
theorem t30x (n l k:Nat) (z b:Nat→Int) (full:Bool) (H:Heap) (j:Int):execT (cxD n 30 27) (il noCt n 0) noBT noRT (part Tryz.f30 [1,1,1,0,1,0,0]) (hints (fr30 l k z b full j)) (lvE::H) =
 Tr.ite (ltI j (Int.ofNat l)) Tr.bad (Tr.ok (Ex.exit 0,[(0,slA 5 l z,none),(1,AV.slcT none (Row.M [Seg.arr .i64 b k]) 1 k full,none),(5,AV.int .i64 j,none),(19,AV.bool false,some 1)],lvE::H)):=by kernel_rfl
theorem u30 (n l k:Nat) (z b:Nat→Int) (full:Bool) (H:Heap) (e:Bool):bodyT Tryz.prog (cd n) 100000 30 Tryz.f30 (KtB.kt 30) (il (ctG (ctG noCt 21 (gO (slA 5 l z) (.int .i64 0))) 38 (g70 (sl1 k b full) 0)) n 0) (blkE noBT 0 (fr30 l k z b full 0) (lvE::H) (.ite e (.ok (.ret,hints [(4,.int .i64 22)],lvE::H)) (.ok (.normal,hints (fr30 l k z b full (Int.ofNat l)++[(19,.bool false)]),lvE::H)))) noRT [(slA 5 l z,none),(sl1 k b full,none)] H =
 (fun (Z0:List AV)=>((fun (Z1:Frm)=>Tr.reqP (slA 5 l z=slA 5 l z) (Tr.ite (notB (eqI (Int.ofNat 0) (Int.ofNat 0))) (Tr.reqP (slA 5 l z=slA 5 l z) (Tr.ok ((AV.int .i64 (Int.ofNat 0),none),H))) (Tr.reqP (Z0=Z0) (Tr.ite (notB (eqI (Int.ofNat 0) (Int.ofNat 0))) (Tr.reqP (Z0=Z0) (Tr.ok ((AV.int .i64 (Int.ofNat 0),none),H))) (Tr.reqP (Z1=Z1∧lvE::H=lvE::H) (Tr.ite e (Tr.ok ((AV.int .i64 (Int.ofNat 22),none),H)) (Tr.ok ((AV.int .i64 (Int.ofNat 0),some 1),H)))))))) [(0,slA 5 l z),(1,AV.slcT none (Row.M [Seg.arr .i64 b k]) 1 k full),(5,AV.int .i64 (Int.ofNat 0))])) [AV.slcT none (Row.M [Seg.arr .i64 b k]) 1 k full]:=by kernel_rfl
theorem u30x (n l k:Nat) (z b:Nat→Int) (full:Bool) (H:Heap) (e f:Int):bodyT Tryz.prog (cd n) 100000 30 Tryz.f30 (KtB.kt 30) (il (ctG (ctG noCt 21 (gO (slA 5 l z) (.int .i64 e))) 38 (g70 (sl1 k b full) f)) n 0) (stopB noBT 0) noRT [(slA 5 l z,none),(sl1 k b full,none)] H =
 (fun (Z0:List AV)=>Tr.reqP (slA 5 l z=slA 5 l z) (Tr.ite (notB (eqI e (Int.ofNat 0))) (Tr.reqP (slA 5 l z=slA 5 l z) (Tr.ok ((AV.int .i64 e,none),H))) (Tr.reqP (Z0=Z0) (Tr.ite (notB (eqI f (Int.ofNat 0))) (Tr.reqP (Z0=Z0) (Tr.ok ((AV.int .i64 f,none),H))) Tr.bad)))) [AV.slcT none (Row.M [Seg.arr .i64 b k]) 1 k full]:=by kernel_rfl
theorem t39 (n l k:Nat) (z b:Nat→Int) (full:Bool) (H:Heap) (s j:Int) (D:Bool):execT (cxD n 39 25) (il (ctG noCt 73 (g73 l z k b full j D)) n 0) noBT noRT (part Tryz.f39 [1,1,0,1,0,0]) (hints (fr39 l k z b full s j)) (lvE::H) =
 (fun (Z0:Nat×AV×Option Nat)=>Tr.ite (ltI j (Int.ofNat l)) (Tr.reqP ([slA 5 l z,AV.slcT none (Row.M [Seg.arr .i64 b k]) 1 k full,AV.int .i64 j]=[slA 5 l z,AV.slcT none (Row.M [Seg.arr .i64 b k]) 1 k full,AV.int .i64 j]) (Tr.ite D (Tr.req (inI j l) (Tr.req (ltN (addO (idO 0 j 5) 4) (mulO l 5)) (Tr.ok (Ex.normal,[(0,slA 5 l z,none),Z0,(5,AV.int .i64 (addI .i64 s (z (addO (idO 0 j 5) 4))),none),(6,AV.int .i64 (addI .i64 j (Int.ofNat 1)),none)],lvE::H)))) (Tr.ok (Ex.normal,[(0,slA 5 l z,none),Z0,(5,AV.int .i64 s,none),(6,AV.int .i64 (addI .i64 j (Int.ofNat 1)),none)],lvE::H)))) (Tr.ok (Ex.exit 0,[(0,slA 5 l z,none),Z0,(5,AV.int .i64 s,none),(6,AV.int .i64 j,none),(10,AV.bool false,some 1)],lvE::H))) (1,AV.slcT none (Row.M [Seg.arr .i64 b k]) 1 k full,none):=by kernel_rfl
theorem t39x (n l k:Nat) (z b:Nat→Int) (full:Bool) (H:Heap) (s j:Int):execT (cxD n 39 25) (il noCt n 0) noBT noRT (part Tryz.f39 [1,1,0,1,0,0]) (hints (fr39 l k z b full s j)) (lvE::H) =
 Tr.ite (ltI j (Int.ofNat l)) Tr.bad (Tr.ok (Ex.exit 0,[(0,slA 5 l z,none),(1,AV.slcT none (Row.M [Seg.arr .i64 b k]) 1 k full,none),(5,AV.int .i64 s,none),(6,AV.int .i64 j,none),(10,AV.bool false,some 1)],lvE::H)):=by kernel_rfl
theorem u39 (n l k:Nat) (z b:Nat→Int) (full:Bool) (H:Heap) (s:Int):bodyT Tryz.prog (cd n) 100000 39 Tryz.f39 (KtB.kt 39) (il noCt n 0) (blkE noBT 0 (fr39 l k z b full 0 0) (lvE::H) (.ok (.normal,hints (fr39 l k z b full s (Int.ofNat l)++[(10,.bool false)]),lvE::H))) noRT [(slA 5 l z,none),(sl1 k b full,none)] H =
 (fun (Z0:Frm)=>Tr.reqP (Z0=Z0∧lvE::H=lvE::H) (Tr.ok ((AV.int .i64 s,none),H))) [(0,slA 5 l z),(1,AV.slcT none (Row.M [Seg.arr .i64 b k]) 1 k full),(5,AV.int .i64 (Int.ofNat 0)),(6,AV.int .i64 (Int.ofNat 0))]:=by kernel_rfl
theorem u28 (n l k:Nat) (z b:Nat→Int) (full:Bool) (H:Heap) (e f:Int) (V:Int):bodyT Tryz.prog (cd n) 100000 28 Tryz.f28 (KtB.kt 28) (il (ctG (ctG (ctG noCt 21 (gO (slA 5 l z) (.int .i64 e))) 38 (g70 (sl1 k b full) f)) 39 (g28 l z k b full (.int .i64 V))) n 0) noBT noRT [(slA 5 l z,none),(sl1 k b full,none)] H =
 (fun (Z0:List AV)=>Tr.reqP (slA 5 l z=slA 5 l z) (Tr.ite (notB (eqI e (Int.ofNat 0))) (Tr.reqP (slA 5 l z=slA 5 l z) (Tr.ok ((AV.tup [AV.int .i64 (Int.ofNat 0),AV.int .i64 e],none),H))) (Tr.reqP (Z0=Z0) (Tr.ite (notB (eqI f (Int.ofNat 0))) (Tr.reqP (Z0=Z0) (Tr.ok ((AV.tup [AV.int .i64 (Int.ofNat 0),AV.int .i64 f],none),H))) (Tr.reqP ([slA 5 l z,AV.slcT none (Row.M [Seg.arr .i64 b k]) 1 k full]=[slA 5 l z,AV.slcT none (Row.M [Seg.arr .i64 b k]) 1 k full]) (Tr.ok ((AV.tup [AV.int .i64 V,AV.int .i64 (Int.ofNat 0)],none),H))))))) [AV.slcT none (Row.M [Seg.arr .i64 b k]) 1 k full]:=by kernel_rfl
theorem u28x (n l k:Nat) (z b:Nat→Int) (full:Bool) (H:Heap) (e f:Int):bodyT Tryz.prog (cd n) 100000 28 Tryz.f28 (KtB.kt 28) (il (ctG (ctG noCt 21 (gO (slA 5 l z) (.int .i64 e))) 38 (g70 (sl1 k b full) f)) n 0) noBT noRT [(slA 5 l z,none),(sl1 k b full,none)] H =
 (fun (Z0:List AV)=>Tr.reqP (slA 5 l z=slA 5 l z) (Tr.ite (notB (eqI e (Int.ofNat 0))) (Tr.reqP (slA 5 l z=slA 5 l z) (Tr.ok ((AV.tup [AV.int .i64 (Int.ofNat 0),AV.int .i64 e],none),H))) (Tr.reqP (Z0=Z0) (Tr.ite (notB (eqI f (Int.ofNat 0))) (Tr.reqP (Z0=Z0) (Tr.ok ((AV.tup [AV.int .i64 (Int.ofNat 0),AV.int .i64 f],none),H))) Tr.bad)))) [AV.slcT none (Row.M [Seg.arr .i64 b k]) 1 k full]:=by kernel_rfl
theorem b29:∀ b,(0,b) ∈ blocksOf (bodyOf Tryz.f29)→b=.loop (part Tryz.f29 [1,1,1,1,0,1,0,0]):=by
 have:((blocksOf (bodyOf Tryz.f29)).filter fun x=>Nat.beq x.1 0)=[(0,.loop (part Tryz.f29 [1,1,1,1,0,1,0,0]))]:=by kernel_rfl
 intro b hb
 have hm:(0,b) ∈ ((blocksOf (bodyOf Tryz.f29)).filter fun x=>Nat.beq x.1 0):=List.mem_filter.2 ⟨hb,rfl⟩
 rw[this] at hm;simpa using hm
theorem b27:∀ b,(0,b) ∈ blocksOf (bodyOf Tryz.f27)→b=.loop (part Tryz.f27 [1,1,1,1,1,0,1,0,0]):=by
 have:((blocksOf (bodyOf Tryz.f27)).filter fun x=>Nat.beq x.1 0)=[(0,.loop (part Tryz.f27 [1,1,1,1,1,0,1,0,0]))]:=by kernel_rfl
 intro b hb
 have hm:(0,b) ∈ ((blocksOf (bodyOf Tryz.f27)).filter fun x=>Nat.beq x.1 0):=List.mem_filter.2 ⟨hb,rfl⟩
 rw[this] at hm;simpa using hm
theorem b30:∀ b,(0,b) ∈ blocksOf (bodyOf Tryz.f30)→b=.loop (part Tryz.f30 [1,1,1,0,1,0,0]):=by
 have:((blocksOf (bodyOf Tryz.f30)).filter fun x=>Nat.beq x.1 0)=[(0,.loop (part Tryz.f30 [1,1,1,0,1,0,0]))]:=by kernel_rfl
 intro b hb
 have hm:(0,b) ∈ ((blocksOf (bodyOf Tryz.f30)).filter fun x=>Nat.beq x.1 0):=List.mem_filter.2 ⟨hb,rfl⟩
 rw[this] at hm;simpa using hm
theorem b39:∀ b,(0,b) ∈ blocksOf (bodyOf Tryz.f39)→b=.loop (part Tryz.f39 [1,1,0,1,0,0]):=by
 have:((blocksOf (bodyOf Tryz.f39)).filter fun x=>Nat.beq x.1 0)=[(0,.loop (part Tryz.f39 [1,1,0,1,0,0]))]:=by kernel_rfl
 intro b hb
 have hm:(0,b) ∈ ((blocksOf (bodyOf Tryz.f39)).filter fun x=>Nat.beq x.1 0):=List.mem_filter.2 ⟨hb,rfl⟩
 rw[this] at hm;simpa using hm
end Go.Eng
end
section
namespace Go.Eng
open Go.Proofs
set_option linter.unusedVariables false
set_option linter.unusedSimpArgs false
set_option maxRecDepth 100000
theorem ct71 {c k:Nat} {t:Ctr} {b y:Nat→Int} {full D:Bool} {j:Int} (ht:t.Ok (cd c)) (h:∀ H,cd c (.fn 71) [sl1 k b full,o72 (aY y j)] H=some (.bool D,H)):(ctG t 71 (g71 k b full y j D)).Ok (cd c):=by
 refine ctG_ok ht (fun args p v hg hp H=>?_)
 unfold g71 at hg
 simp only[nP] at hg
 obtain ⟨rfl,rfl⟩:=hg
 rw[hp];exact h H
theorem ct70 {c f:Nat} {t:Ctr} {B:AV} {e:Int} (ht:t.Ok (cd c)) (h:∀ H,cd c (.fn f) [B] H=some (.int .i64 e,H)):(ctG t f (g70 B e)).Ok (cd c):=by
 refine ctG_ok ht (fun args p v hg hp H=>?_)
 unfold g70 at hg
 simp only[nP] at hg
 obtain ⟨rfl,rfl⟩:=hg
 rw[hp];exact h H
theorem ct73 {c l k:Nat} {t:Ctr} {z b:Nat→Int} {full D:Bool} {j:Int} (ht:t.Ok (cd c)) (h:∀ H,cd c (.fn 73) [slA 5 l z,sl1 k b full,.int .i64 j] H=some (.bool D,H)):(ctG t 73 (g73 l z k b full j D)).Ok (cd c):=by
 refine ctG_ok ht (fun args p v hg hp H=>?_)
 unfold g73 at hg
 simp only[nP] at hg
 obtain ⟨rfl,rfl⟩:=hg
 rw[hp];exact h H
theorem ct28 {c f l k:Nat} {t:Ctr} {z b:Nat→Int} {full:Bool} {V:AV} (ht:t.Ok (cd c)) (h:∀ H,cd c (.fn f) [slA 5 l z,sl1 k b full] H=some (V,H)):(ctG t f (g28 l z k b full V)).Ok (cd c):=by
 refine ctG_ok ht (fun args p v hg hp H=>?_)
 unfold g28 at hg
 simp only[nP] at hg
 obtain ⟨rfl,rfl⟩:=hg
 rw[hp];exact h H
noncomputable def cbE (l:Nat) (z:Nat→Int) (k:Nat) (b:Nat→Int):Int:=if chkO l z≠0 then chkO l z else if ibE k b≠0 then ibE k b else if exN (fun j=>!dnN z b k j) l=true then 22 else 0
noncomputable def woS (z:Nat→Int) (k:Nat) (b:Nat→Int):Nat→Int
 | 0=>0
 | j+1=>if dnN z b k j=true then woS z k b j+z (j*5+4) else woS z k b j
noncomputable def woV (l:Nat) (z:Nat→Int) (k:Nat) (b:Nat→Int):AV:=if chkO l z≠0 then .tup [.int .i64 0,.int .i64 (chkO l z)] else if ibE k b≠0 then .tup [.int .i64 0,.int .i64 (ibE k b)] else .tup [.int .i64 (woS z k b l),.int .i64 0]
theorem wo_bnd {l:Nat} {z:Nat→Int} (h:chkO l z=0) (k:Nat) (b:Nat→Int):∀ j,j≤l→0≤woS z k b j∧woS z k b j≤j*100000
 | 0,_=>by simp[woS]
 | j+1,hj=>by
   obtain ⟨hl,hb⟩:=chk_odd h
   have:=hb j (by omega)
   have ih:=wo_bnd h k b j (by omega)
   unfold woS
   split<;>omega
theorem ib_k {k:Nat} {b:Nat→Int} (h:ibE k b=0):k≤14:=by
 unfold ibE at h
 by_cases hk:14<k
 · rw[if_pos hk] at h;cases h
 · omega
section
variable (n l k:Nat) (z b:Nat→Int) (full:Bool) (H:Heap)
theorem dn_aY {l:Nat} (hl:l≤14) (z b:Nat→Int) (k j:Nat) (hj:j<l):exN (fun q=>inB (aY (oY z l) (j:Int)) (b q)) k=dnN z b k j:=by
 have e7:idO 0 (j:Int) 7=j*7:=by rw[idO_eq];omega
 have h5:aY (oY z l) (j:Int) 5=bLo z j:=by show oY z l (addO (idO 0 (j:Int) 7) 5)=_;rw[addO_eq,e7];exact oY_at z (by omega) (by omega)
 have h6:aY (oY z l) (j:Int) 6=bHi z j:=by show oY z l (addO (idO 0 (j:Int) 7) 6)=_;rw[addO_eq,e7];exact oY_at z (by omega) (by omega)
 unfold dnN inB dnB
 rw[h5,h6]
theorem l29 (h:chkO l z=0) (hk:k≤1000):exec (cxD (n+3) 29 39) (.block 0 (.loop (part Tryz.f29 [1,1,1,1,0,1,0,0]))) (fr29 l k (oY z l) b full 0) (lvE::H)=some (cond (exN (fun j=>!dnN z b k j) l) (.ret,[(4,.int .i64 22)],lvE::H) (.normal,fr29 l k (oY z l) b full (Int.ofNat l)++[(25,.bool false)],lvE::H)):=by
 obtain ⟨hl,hb⟩:=chk_odd h
 refine findX 0 (fun j=>fr29 l k (oY z l) b full (j:Int)) (fun _=>lvE::H) l (fun j=>!dnN z b k j) (fun j=>([(4,.int .i64 22)],lvE::H)) (fr29 l k (oY z l) b full (Int.ofNat l)++[(25,.bool false)],lvE::H) (by omega) (fun j hj=>?_) ?_
 · have hc:∀ H,cd (n+3) (.fn 71) [sl1 k b full,o72 (aY (oY z l) (j:Int))] H=some (.bool (dnN z b k j),H):=fun H=>by rw[← dn_aY hl.2 z b k j hj];exact c71 n k b full H _ hk
   refine ex_all (t29 (n+3) l k (oY z l) b full H (j:Int) (dnN z b k j)) (il_ok0 _ _ (ct71 (noCt_ok _) hc)) (noBT_ok _ _) (noRT_ok _ _) ?_
   show Tr.all _ (fun x=>if (!dnN z b k j)=true then _ else _)
   have e7:idO 0 (j:Int) 7=j*7:=by rw[idO_eq];omega
   rw[cs64 (by omega),e7]
   cases dnN z b k j with
   | false =>
     simp only[Bool.not_false,if_true]
     repeat' first | (refine Tr.all_ite (fun hc=>?_) (fun hc=>?_)<;>(try simp (disch:=omega) only[nV,nW] at hc)<;>try omega) | (refine Tr.all_req ?_ ?_;· (try simp (disch:=omega) only[nV,nW]);try omega) | (refine Tr.all_reqP ?_ ?_;· first | exact trivial | rfl | exact ⟨rfl,rfl⟩ | exact ⟨rfl,rfl,rfl⟩ | (simp (disch:=omega) only[nV,nW];done) | ((try simp (disch:=omega) only[nV,nW]);omega)) | fail
     all_goals first
      | exact Tr.all_ok rfl
      | fail
   | true =>
     simp only[Bool.not_true,Bool.false_eq_true,if_false]
     repeat' first | (refine Tr.all_ite (fun hc=>?_) (fun hc=>?_)<;>(try simp (disch:=omega) only[nV,nW] at hc)<;>try omega) | (refine Tr.all_req ?_ ?_;· (try simp (disch:=omega) only[nV,nW]);try omega) | (refine Tr.all_reqP ?_ ?_;· first | exact trivial | rfl | exact ⟨rfl,rfl⟩ | exact ⟨rfl,rfl,rfl⟩ | (simp (disch:=omega) only[nV,nW];done) | ((try simp (disch:=omega) only[nV,nW]);omega)) | fail
     all_goals first
      | exact Tr.all_ok ⟨rfl,rfl⟩
      | fail
 · obtain ⟨x,h1,rfl⟩:=ex_all (Q:=fun x=>x=(.exit 0,fr29 l k (oY z l) b full (Int.ofNat l)++[(25,.bool false)],lvE::H)) (t29x (n+3) l k (oY z l) b full H (Int.ofNat l)) (il_no0 _) (noBT_ok _ _) (noRT_ok _ _) (by
    refine Tr.all_ite (fun hc=>?_) (fun hc=>Tr.all_ok rfl)
    simp (disch:=omega) only[nV,nW] at hc;omega)
   exact h1
theorem opn_ok {l:Nat} {z:Nat→Int} (h:chkO l z=0):opnV l z=.tup [.ptrT (some 0) (.G [slA 7 l (oY z l)]) 0,.int .i64 0]:=by unfold opnV;rw[if_pos h];rfl
theorem opn_er {l:Nat} {z:Nat→Int} (h:¬ chkO l z=0):opnV l z=.tup [.nilp,.int .i64 (chkO l z)]:=by unfold opnV;rw[if_neg h]
theorem c29:cd (n+11) (.fn 29) [slA 5 l z,sl1 k b full] H=some (.int .i64 (cbE l z k b),H):=by
 have hc:∀ k H,cd (n+10+k) (.fn 52) [slA 5 l z] H=some (opnV l z,H):=fun k H=>by rw[show n+10+k=n+k+10 by omega];exact c52 _ l z H
 have h70:∀ q H,cd (n+10+q) (.fn 70) [sl1 k b full] H=some (.int .i64 (ibE k b),H):=fun q H=>by rw[show n+10+q=n+5+q+5 by omega];exact c70 _ k b full H
 unfold cbE
 by_cases h:chkO l z=0
 · rw [opn_ok h] at hc
   rw[if_neg (fun x=>x h)]
   by_cases h2:ibE k b=0
   · rw [if_neg (fun x=>x h2)]
     rw[h2] at h70
     have hx:=l29 (n+7) l k z b full H h (by have:=ib_k h2;omega)
     refine fn_all (n:=n+10) Tryz.func29 rfl rfl rfl (u29 (n+10) l k z (oY z l) b full H (exN (fun j=>!dnN z b k j) l)) (il_ok _ (n+10) 0 (fun k=>ct70 (ctV1 (noCt_ok _) (hc k)) (h70 k))) (blkE_ok (noBT_ok _ _) b29 (fun x h=>blk_ite h hx)) (noRT_ok _ _) ?_
     cases exN (fun j=>!dnN z b k j) l with
     | true =>
       rw[if_pos rfl]
       repeat' first | (refine Tr.all_ite (fun hc=>?_) (fun hc=>?_)<;>(try simp (disch:=omega) only[nV,nW] at hc)<;>try omega) | (refine Tr.all_req ?_ ?_;· (try simp (disch:=omega) only[nV,nW]);try omega) | (refine Tr.all_reqP ?_ ?_;· first | exact trivial | rfl | exact ⟨rfl,rfl⟩ | exact ⟨rfl,rfl,rfl⟩ | (simp (disch:=omega) only[nV,nW];done) | ((try simp (disch:=omega) only[nV,nW]);omega)) | fail
       all_goals first
        | exact Tr.all_ok ⟨rfl,rfl⟩
        | fail
     | false =>
       rw[if_neg (by decide)]
       repeat' first | (refine Tr.all_ite (fun hc=>?_) (fun hc=>?_)<;>(try simp (disch:=omega) only[nV,nW] at hc)<;>try omega) | (refine Tr.all_req ?_ ?_;· (try simp (disch:=omega) only[nV,nW]);try omega) | (refine Tr.all_reqP ?_ ?_;· first | exact trivial | rfl | exact ⟨rfl,rfl⟩ | exact ⟨rfl,rfl,rfl⟩ | (simp (disch:=omega) only[nV,nW];done) | ((try simp (disch:=omega) only[nV,nW]);omega)) | fail
       all_goals first
        | exact Tr.all_ok ⟨rfl,rfl⟩
        | fail
   · rw[if_pos h2]
     refine fn_all (n:=n+10) Tryz.func29 rfl rfl rfl (u29y (n+10) l k z (oY z l) b full H (ibE k b)) (il_ok _ (n+10) 0 (fun k=>ct70 (ctV1 (noCt_ok _) (hc k)) (h70 k))) (stopB_ok (noBT_ok _ _) 0) (noRT_ok _ _) ?_
     repeat' first | (refine Tr.all_ite (fun hc=>?_) (fun hc=>?_)<;>(try simp (disch:=omega) only[nV,nW] at hc)<;>try omega) | (refine Tr.all_req ?_ ?_;· (try simp (disch:=omega) only[nV,nW]);try omega) | (refine Tr.all_reqP ?_ ?_;· first | exact trivial | rfl | exact ⟨rfl,rfl⟩ | exact ⟨rfl,rfl,rfl⟩ | (simp (disch:=omega) only[nV,nW];done) | ((try simp (disch:=omega) only[nV,nW]);omega)) | fail
     all_goals first
      | exact Tr.all_ok ⟨rfl,rfl⟩
      | fail
 · rw[opn_er h] at hc
   rw[if_pos h]
   refine fn_all (n:=n+10) Tryz.func29 rfl rfl rfl (u29x (n+10) l k z b full H (chkO l z)) (il_ok _ (n+10) 0 (fun k=>ctV1 (noCt_ok _) (hc k))) (stopB_ok (noBT_ok _ _) 0) (noRT_ok _ _) ?_
   repeat' first | (refine Tr.all_ite (fun hc=>?_) (fun hc=>?_)<;>(try simp (disch:=omega) only[nV,nW] at hc)<;>try omega) | (refine Tr.all_req ?_ ?_;· (try simp (disch:=omega) only[nV,nW]);try omega) | (refine Tr.all_reqP ?_ ?_;· first | exact trivial | rfl | exact ⟨rfl,rfl⟩ | exact ⟨rfl,rfl,rfl⟩ | (simp (disch:=omega) only[nV,nW];done) | ((try simp (disch:=omega) only[nV,nW]);omega)) | fail
   all_goals first
    | exact Tr.all_ok ⟨rfl,rfl⟩
    | fail
theorem l27 (h:chkO l z=0) (hk:k≤1000):exec (cxD (n+3) 27 48) (.block 0 (.loop (part Tryz.f27 [1,1,1,1,1,0,1,0,0]))) (fr27 l k z (oY z l) b full 0 0) (lvE::H)=some (.normal,fr27 l k z (oY z l) b full (woS z k b l) (Int.ofNat l)++[(28,.bool false)],lvE::H):=by
 obtain ⟨hl,hb⟩:=chk_odd h
 refine forX 0 (fun j=>fr27 l k z (oY z l) b full (woS z k b j) (j:Int)) (fun _=>lvE::H) l (fr27 l k z (oY z l) b full (woS z k b l) (Int.ofNat l)++[(28,.bool false)],lvE::H) (by omega) (fun j hj=>?_) ?_
 · have hc:∀ H,cd (n+3) (.fn 71) [sl1 k b full,o72 (aY (oY z l) (j:Int))] H=some (.bool (dnN z b k j),H):=fun H=>by rw[← dn_aY hl.2 z b k j hj];exact c71 n k b full H _ hk
   have hw:=wo_bnd h k b j (by omega)
   have hz:=hb j hj
   have hs:woS z k b (j+1)=if dnN z b k j=true then woS z k b j+z (j*5+4) else woS z k b j:=rfl
   refine ex_all (t27 (n+3) l k z (oY z l) b full H (woS z k b j) (j:Int) (dnN z b k j)) (il_ok0 _ _ (ct71 (noCt_ok _) hc)) (noBT_ok _ _) (noRT_ok _ _) ?_
   have e7:idO 0 (j:Int) 7=j*7:=by rw[idO_eq];omega
   have e5:idO 0 (j:Int) 5=j*5:=by rw[idO_eq];omega
   have e4:addO (j*5) 4=j*5+4:=by rw[addO_eq]
   have ea:addI .i64 (woS z k b j) (z (j*5+4))=woS z k b j+z (j*5+4):=by rw[addI_eq];exact wr_64 (by omega) (by omega)
   rw[cs64 (by omega),e7,e5,e4,ea,hs]
   cases dnN z b k j with
   | true =>
     rw[if_pos rfl]
     repeat' first | (refine Tr.all_ite (fun hc=>?_) (fun hc=>?_)<;>(try simp (disch:=omega) only[nV,nW] at hc)<;>try omega) | (refine Tr.all_req ?_ ?_;· (try simp (disch:=omega) only[nV,nW]);try omega) | (refine Tr.all_reqP ?_ ?_;· first | exact trivial | rfl | exact ⟨rfl,rfl⟩ | exact ⟨rfl,rfl,rfl⟩ | (simp (disch:=omega) only[nV,nW];done) | ((try simp (disch:=omega) only[nV,nW]);omega)) | fail
     all_goals first
      | exact Tr.all_ok ⟨rfl,by kernel_rfl⟩
      | fail
   | false =>
     rw[if_neg (by decide)]
     repeat' first | (refine Tr.all_ite (fun hc=>?_) (fun hc=>?_)<;>(try simp (disch:=omega) only[nV,nW] at hc)<;>try omega) | (refine Tr.all_req ?_ ?_;· (try simp (disch:=omega) only[nV,nW]);try omega) | (refine Tr.all_reqP ?_ ?_;· first | exact trivial | rfl | exact ⟨rfl,rfl⟩ | exact ⟨rfl,rfl,rfl⟩ | (simp (disch:=omega) only[nV,nW];done) | ((try simp (disch:=omega) only[nV,nW]);omega)) | fail
     all_goals first
      | exact Tr.all_ok ⟨rfl,by kernel_rfl⟩
      | fail
 · obtain ⟨x,h1,rfl⟩:=ex_all (Q:=fun x=>x=(.exit 0,fr27 l k z (oY z l) b full (woS z k b l) (Int.ofNat l)++[(28,.bool false)],lvE::H)) (t27x (n+3) l k z (oY z l) b full H (woS z k b l) (Int.ofNat l)) (il_no0 _) (noBT_ok _ _) (noRT_ok _ _) (by
    refine Tr.all_ite (fun hc=>?_) (fun hc=>Tr.all_ok rfl)
    simp (disch:=omega) only[nV,nW] at hc;omega)
   exact h1
theorem c27:cd (n+11) (.fn 27) [slA 5 l z,sl1 k b full] H=some (woV l z k b,H):=by
 have hc:∀ k H,cd (n+10+k) (.fn 52) [slA 5 l z] H=some (opnV l z,H):=fun k H=>by rw[show n+10+k=n+k+10 by omega];exact c52 _ l z H
 have h70:∀ q H,cd (n+10+q) (.fn 70) [sl1 k b full] H=some (.int .i64 (ibE k b),H):=fun q H=>by rw[show n+10+q=n+5+q+5 by omega];exact c70 _ k b full H
 unfold woV
 by_cases h:chkO l z=0
 · rw [opn_ok h] at hc
   rw[if_neg (fun x=>x h)]
   by_cases h2:ibE k b=0
   · rw[if_neg (fun x=>x h2)]
     rw[h2] at h70
     have hx:=l27 (n+7) l k z b full H h (by have:=ib_k h2;omega)
     refine fn_all (n:=n+10) Tryz.func27 rfl rfl rfl (u27 (n+10) l k z (oY z l) b full H (woS z k b l)) (il_ok _ (n+10) 0 (fun k=>ct70 (ctV1 (noCt_ok _) (hc k)) (h70 k))) (blkE_ok (noBT_ok _ _) b27 (fun x hy=>by rw[← Tr.ok_some hy];simp only[Res.st,hints_eq];exact hx)) (noRT_ok _ _) ?_
     repeat' first | (refine Tr.all_ite (fun hc=>?_) (fun hc=>?_)<;>(try simp (disch:=omega) only[nV,nW] at hc)<;>try omega) | (refine Tr.all_req ?_ ?_;· (try simp (disch:=omega) only[nV,nW]);try omega) | (refine Tr.all_reqP ?_ ?_;· first | exact trivial | rfl | exact ⟨rfl,rfl⟩ | exact ⟨rfl,rfl,rfl⟩ | (simp (disch:=omega) only[nV,nW];done) | ((try simp (disch:=omega) only[nV,nW]);omega)) | fail
     all_goals first
      | exact Tr.all_ok ⟨rfl,rfl⟩
      | fail
   · rw[if_pos h2]
     refine fn_all (n:=n+10) Tryz.func27 rfl rfl rfl (u27y (n+10) l k z (oY z l) b full H (ibE k b)) (il_ok _ (n+10) 0 (fun k=>ct70 (ctV1 (noCt_ok _) (hc k)) (h70 k))) (stopB_ok (noBT_ok _ _) 0) (noRT_ok _ _) ?_
     repeat' first | (refine Tr.all_ite (fun hc=>?_) (fun hc=>?_)<;>(try simp (disch:=omega) only[nV,nW] at hc)<;>try omega) | (refine Tr.all_req ?_ ?_;· (try simp (disch:=omega) only[nV,nW]);try omega) | (refine Tr.all_reqP ?_ ?_;· first | exact trivial | rfl | exact ⟨rfl,rfl⟩ | exact ⟨rfl,rfl,rfl⟩ | (simp (disch:=omega) only[nV,nW];done) | ((try simp (disch:=omega) only[nV,nW]);omega)) | fail
     all_goals first
      | exact Tr.all_ok ⟨rfl,rfl⟩
      | fail
 · rw[opn_er h] at hc
   rw[if_pos h]
   refine fn_all (n:=n+10) Tryz.func27 rfl rfl rfl (u27x (n+10) l k z b full H (chkO l z)) (il_ok _ (n+10) 0 (fun k=>ctV1 (noCt_ok _) (hc k))) (stopB_ok (noBT_ok _ _) 0) (noRT_ok _ _) ?_
   repeat' first | (refine Tr.all_ite (fun hc=>?_) (fun hc=>?_)<;>(try simp (disch:=omega) only[nV,nW] at hc)<;>try omega) | (refine Tr.all_req ?_ ?_;· (try simp (disch:=omega) only[nV,nW]);try omega) | (refine Tr.all_reqP ?_ ?_;· first | exact trivial | rfl | exact ⟨rfl,rfl⟩ | exact ⟨rfl,rfl,rfl⟩ | (simp (disch:=omega) only[nV,nW];done) | ((try simp (disch:=omega) only[nV,nW]);omega)) | fail
   all_goals first
    | exact Tr.all_ok ⟨rfl,rfl⟩
    | fail
end
end Go.Eng
end
