/- Bath: IndexFunc and DeleteFunc over a row of the caller's (printed by mkBb3.py). -/
import Derived.Test.YtigmfpmabgekoaaGreatV7Bb2
namespace Go.Eng
open Go.Proofs
set_option linter.unusedVariables false
set_option linter.unusedSimpArgs false
set_option maxRecDepth 100000
noncomputable def gC (P:Int→Bool) (Q:Int→List AV→Heap→Prop) (args:List AV) (H:Heap):Tr (AV×Heap) :=
 match args with
 | .int .i64 x::C=>.reqP (Q x C H) (.ok (.bool (P x),H))
 | _=>.bad
noncomputable def ctC (f:FuncId) (P:Int→Bool) (Q:Int→List AV→Heap→Prop):Ctr:=addCt noCt f (gC P Q)
noncomputable def lva (b0 b1 b2 b3 b4 b5:Nat×Blk) (m:Nat) (g:Nat→Int):Lvl:=⟨false,[b0,b1,b2,b3,b4,b5,(0,.row (.M [.arr .i64 g m]))]⟩
noncomputable def fr88a (m:Nat) (j:Int):Frm:=[(0,.slc 2 6 0 0 1 m none),(1,.fn (.func 87) [] [.ptr 2 0 0 0,.ptr 2 1 0 0]),(7,.int .i64 (Int.ofNat m)),(8,.int .i64 j)]
noncomputable def fr67a (m:Nat) (i j:Int):Frm:=[(0,.slc 1 6 0 0 1 m none),(1,.fn (.func 87) [] [.ptr 1 0 0 0,.ptr 1 1 0 0]),(5,.int .i64 i),(6,.int .i64 j)]
noncomputable def lvb (b0 b1 b2 b3 b4 b5 b6:Nat×Blk) (m:Nat) (g:Nat→Int):Lvl:=⟨false,[b0,b1,b2,b3,b4,b5,b6,(0,.row (.M [.arr .i64 g m]))]⟩
noncomputable def fr88b (m:Nat) (j:Int):Frm:=[(0,.slc 2 7 0 0 1 m none),(1,.fn (.func 87) [] [.ptr 2 0 0 0,.ptr 2 3 0 0]),(7,.int .i64 (Int.ofNat m)),(8,.int .i64 j)]
noncomputable def fr67b (m:Nat) (i j:Int):Frm:=[(0,.slc 1 7 0 0 1 m none),(1,.fn (.func 87) [] [.ptr 1 0 0 0,.ptr 1 3 0 0]),(5,.int .i64 i),(6,.int .i64 j)]
theorem t88a (n:Nat) (P:Int→Bool) (Q:Int→List AV→Heap→Prop) (b0 b1 b2 b3 b4 b5:Nat×Blk) (m:Nat) (g:Nat→Int) (H:Heap) (j:Int):execT (cxD n 88 19) (il (ctC 87 P Q) n 0) noBT noRT (part Tryz.f88 [1,0,1,0,0]) (hints (fr88a m j)) (lvE::lvE::lva b0 b1 b2 b3 b4 b5 m g::H) =
 (fun (Z0:Lvl)=>Tr.ite (ltI j (Int.ofNat m)) (Tr.req (inI j m) (Tr.req (eqN 0 0) (Tr.req (ltN (idO 0 j 1) m) (Tr.reqP (Q (g (idO 0 j 1)) [AV.ptr 2 0 0 0,AV.ptr 2 1 0 0] (lvE::lvE::Z0::H)) (Tr.ite (P (g (idO 0 j 1))) (Tr.ok (Ex.ret,[(4,AV.int .i64 j,none)],lvE::lvE::Z0::H)) (Tr.ok (Ex.normal,[(0,AV.slc 2 6 0 0 1 m none,none),(1,AV.fn (Fn.func 87) [] [AV.ptr 2 0 0 0,AV.ptr 2 1 0 0],none),(7,AV.int .i64 (Int.ofNat m),none),(8,AV.int .i64 (addI .i64 j (Int.ofNat 1)),none)],lvE::lvE::Z0::H))))))) (Tr.ok (Ex.exit 0,[(0,AV.slc 2 6 0 0 1 m none,none),(1,AV.fn (Fn.func 87) [] [AV.ptr 2 0 0 0,AV.ptr 2 1 0 0],none),(7,AV.int .i64 (Int.ofNat m),none),(8,AV.int .i64 j,none),(9,AV.bool false,some 1)],lvE::lvE::Z0::H))) { lock:=false,bs:=[b0,b1,b2,b3,b4,b5,(0,Blk.row (Row.M [Seg.arr .i64 g m]))] }:=by kernel_rfl
theorem u88a (n:Nat) (b0 b1 b2 b3 b4 b5:Nat×Blk) (m:Nat) (g:Nat→Int) (H:Heap) (x:Bool) (r:Nat):bodyT Tryz.prog (cd n) 100000 88 Tryz.f88 (KtB.kt 88) (il noCt n 0) (blkE noBT 0 (fr88a m 0) (lvE::lvE::lva b0 b1 b2 b3 b4 b5 m g::H) (.ite x (.ok (.ret,[(4,.int .i64 (Int.ofNat r),none)],lvE::lvE::lva b0 b1 b2 b3 b4 b5 m g::H)) (.ok (.normal,hints (fr88a m (Int.ofNat m)++[(9,.bool false)]),lvE::lvE::lva b0 b1 b2 b3 b4 b5 m g::H)))) noRT [(.slc 1 6 0 0 1 m none,none),(.fn (.func 87) [] [.ptr 1 0 0 0,.ptr 1 1 0 0],none)] (lvE::lva b0 b1 b2 b3 b4 b5 m g::H) =
 (fun (Z0:Lvl)=>((fun (Z1:Frm)=>Tr.reqP (Z1=Z1∧lvE::lvE::Z0::H=lvE::lvE::Z0::H) (Tr.ite x (Tr.ok ((AV.int .i64 (Int.ofNat r),none),lvE::Z0::H)) (Tr.ok ((AV.int .i64 (Int.negSucc 0),some 1),lvE::Z0::H)))) [(0,AV.slc 2 6 0 0 1 m none),(1,AV.fn (Fn.func 87) [] [AV.ptr 2 0 0 0,AV.ptr 2 1 0 0]),(7,AV.int .i64 (Int.ofNat m)),(8,AV.int .i64 (Int.ofNat 0))])) { lock:=false,bs:=[b0,b1,b2,b3,b4,b5,(0,Blk.row (Row.M [Seg.arr .i64 g m]))] }:=by kernel_rfl
theorem t67a (n:Nat) (P:Int→Bool) (Q:Int→List AV→Heap→Prop) (b0 b1 b2 b3 b4 b5:Nat×Blk) (m:Nat) (g:Nat→Int) (H:Heap) (i j:Int):execT (cxD n 67 42) (il (ctC 87 P Q) n 0) noBT noRT (part Tryz.f67 [1,1,1,0,1,0,0]) (hints (fr67a m i j)) (lvE::lva b0 b1 b2 b3 b4 b5 m g::H) =
 (fun (Z0:Lvl)=>((fun (Z1:Nat×AV×Option Nat)=>Tr.ite (ltI j (Int.ofNat m)) (Tr.req (inI j m) (Tr.req (eqN 0 0) (Tr.req (ltN (idO 0 j 1) m) (Tr.reqP (Q (g (idO 0 j 1)) [AV.ptr 1 0 0 0,AV.ptr 1 1 0 0] (lvE::Z0::H)) (Tr.ite (notB (P (g (idO 0 j 1)))) (Tr.req (inI i m) (Tr.req (eqN 0 0) (Tr.req (ltN (idO 0 i 1) m) (Tr.ok (Ex.normal,[(0,AV.slc 1 6 0 0 1 m none,none),Z1,(5,AV.int .i64 (addI .i64 i (Int.ofNat 1)),none),(6,AV.int .i64 (addI .i64 j (Int.ofNat 1)),none)],lvE::{ lock:=false,bs:=[b0,b1,b2,b3,b4,b5,(0,Blk.row (Row.M [Seg.arr .i64 (updO g (idO 0 i 1) (g (idO 0 j 1))) m]))] } :: H))))) (Tr.ok (Ex.normal,[(0,AV.slc 1 6 0 0 1 m none,none),Z1,(5,AV.int .i64 i,none),(6,AV.int .i64 (addI .i64 j (Int.ofNat 1)),none)],lvE::Z0::H))))))) (Tr.ok (Ex.exit 0,[(0,AV.slc 1 6 0 0 1 m none,none),Z1,(5,AV.int .i64 i,none),(6,AV.int .i64 j,none),(19,AV.bool false,some 1)],lvE::Z0::H))) (1,AV.fn (Fn.func 87) [] [AV.ptr 1 0 0 0,AV.ptr 1 1 0 0],none))) { lock:=false,bs:=[b0,b1,b2,b3,b4,b5,(0,Blk.row (Row.M [Seg.arr .i64 g m]))] }:=by kernel_rfl
theorem u67a (n:Nat) (b0 b1 b2 b3 b4 b5:Nat×Blk) (m:Nat) (g g2:Nat→Int) (H:Heap) (r i2:Int):bodyT Tryz.prog (cd n) 100000 67 Tryz.f67 (KtB.kt 67) (il (ctE noCt 88 [.slc 1 6 0 0 1 m none,.fn (.func 87) [] [.ptr 1 0 0 0,.ptr 1 1 0 0]] (lvE::lva b0 b1 b2 b3 b4 b5 m g::H) (.ok (.int .i64 r,lvE::lva b0 b1 b2 b3 b4 b5 m g::H))) n 0) (blkE noBT 0 (fr67a m r (addI .i64 r (Int.ofNat 1))) (lvE::lva b0 b1 b2 b3 b4 b5 m g::H) (.ok (.normal,hints (fr67a m i2 (Int.ofNat m)++[(19,.bool false)]),lvE::lva b0 b1 b2 b3 b4 b5 m g2::H))) noRT [(.slc 0 6 0 0 1 m none,none),(.fn (.func 87) [] [.ptr 0 0 0 0,.ptr 0 1 0 0],none)] (lva b0 b1 b2 b3 b4 b5 m g::H) =
 (fun (Z0:Lvl)=>((fun (Z1:Frm)=>Tr.reqP ([AV.slc 1 6 0 0 1 m none,AV.fn (Fn.func 87) [] [AV.ptr 1 0 0 0,AV.ptr 1 1 0 0]]=[AV.slc 1 6 0 0 1 m none,AV.fn (Fn.func 87) [] [AV.ptr 1 0 0 0,AV.ptr 1 1 0 0]]∧lvE::Z0::H=lvE::Z0::H) (Tr.ite (eqI r (Int.negSucc 0)) (Tr.ok ((AV.slc 0 6 0 0 1 m none,none),Z0::H)) (Tr.reqP (Z1=Z1∧lvE::Z0::H=lvE::Z0::H) (Tr.req (bndI i2 m) (Tr.req (ltN 0 (subO m (toN i2))) (Tr.req (eqN 0 0) (Tr.req (inO (addO 0 (toN i2)) (subO m (toN i2)) 0 m) (Tr.req (bndI i2 m) (Tr.ok ((AV.slc 0 6 0 0 1 (toN i2) none,none),{ lock:=false,bs:=[b0,b1,b2,b3,b4,b5,(0,Blk.row (Row.M [Seg.arr .i64 (copO g2 (addO 0 (toN i2)) (fun x=>Int.ofNat 0) (subO m (toN i2))) m]))] } :: H)))))))))) [(0,AV.slc 1 6 0 0 1 m none),(1,AV.fn (Fn.func 87) [] [AV.ptr 1 0 0 0,AV.ptr 1 1 0 0]),(5,AV.int .i64 r),(6,AV.int .i64 (addI .i64 r (Int.ofNat 1)))])) { lock:=false,bs:=[b0,b1,b2,b3,b4,b5,(0,Blk.row (Row.M [Seg.arr .i64 g m]))] }:=by kernel_rfl
theorem u67xa (n:Nat) (b0 b1 b2 b3 b4 b5:Nat×Blk) (m:Nat) (g:Nat→Int) (H:Heap):bodyT Tryz.prog (cd n) 100000 67 Tryz.f67 (KtB.kt 67) (il (ctE noCt 88 [.slc 1 6 0 0 1 m none,.fn (.func 87) [] [.ptr 1 0 0 0,.ptr 1 1 0 0]] (lvE::lva b0 b1 b2 b3 b4 b5 m g::H) (.ok (.int .i64 (-1),lvE::lva b0 b1 b2 b3 b4 b5 m g::H))) n 0) (stopB noBT 0) noRT [(.slc 0 6 0 0 1 m none,none),(.fn (.func 87) [] [.ptr 0 0 0 0,.ptr 0 1 0 0],none)] (lva b0 b1 b2 b3 b4 b5 m g::H) =
 (fun (Z0:Lvl)=>Tr.reqP ([AV.slc 1 6 0 0 1 m none,AV.fn (Fn.func 87) [] [AV.ptr 1 0 0 0,AV.ptr 1 1 0 0]]=[AV.slc 1 6 0 0 1 m none,AV.fn (Fn.func 87) [] [AV.ptr 1 0 0 0,AV.ptr 1 1 0 0]]∧lvE::Z0::H=lvE::Z0::H) (Tr.ite (eqI (Int.negSucc 0) (Int.negSucc 0)) (Tr.ok ((AV.slc 0 6 0 0 1 m none,none),Z0::H)) Tr.bad)) { lock:=false,bs:=[b0,b1,b2,b3,b4,b5,(0,Blk.row (Row.M [Seg.arr .i64 g m]))] }:=by kernel_rfl
theorem t88b (n:Nat) (P:Int→Bool) (Q:Int→List AV→Heap→Prop) (b0 b1 b2 b3 b4 b5 b6:Nat×Blk) (m:Nat) (g:Nat→Int) (H:Heap) (j:Int):execT (cxD n 88 19) (il (ctC 87 P Q) n 0) noBT noRT (part Tryz.f88 [1,0,1,0,0]) (hints (fr88b m j)) (lvE::lvE::lvb b0 b1 b2 b3 b4 b5 b6 m g::H) =
 (fun (Z0:Lvl)=>Tr.ite (ltI j (Int.ofNat m)) (Tr.req (inI j m) (Tr.req (eqN 0 0) (Tr.req (ltN (idO 0 j 1) m) (Tr.reqP (Q (g (idO 0 j 1)) [AV.ptr 2 0 0 0,AV.ptr 2 3 0 0] (lvE::lvE::Z0::H)) (Tr.ite (P (g (idO 0 j 1))) (Tr.ok (Ex.ret,[(4,AV.int .i64 j,none)],lvE::lvE::Z0::H)) (Tr.ok (Ex.normal,[(0,AV.slc 2 7 0 0 1 m none,none),(1,AV.fn (Fn.func 87) [] [AV.ptr 2 0 0 0,AV.ptr 2 3 0 0],none),(7,AV.int .i64 (Int.ofNat m),none),(8,AV.int .i64 (addI .i64 j (Int.ofNat 1)),none)],lvE::lvE::Z0::H))))))) (Tr.ok (Ex.exit 0,[(0,AV.slc 2 7 0 0 1 m none,none),(1,AV.fn (Fn.func 87) [] [AV.ptr 2 0 0 0,AV.ptr 2 3 0 0],none),(7,AV.int .i64 (Int.ofNat m),none),(8,AV.int .i64 j,none),(9,AV.bool false,some 1)],lvE::lvE::Z0::H))) { lock:=false,bs:=[b0,b1,b2,b3,b4,b5,b6,(0,Blk.row (Row.M [Seg.arr .i64 g m]))] }:=by kernel_rfl
theorem u88b (n:Nat) (b0 b1 b2 b3 b4 b5 b6:Nat×Blk) (m:Nat) (g:Nat→Int) (H:Heap) (x:Bool) (r:Nat):bodyT Tryz.prog (cd n) 100000 88 Tryz.f88 (KtB.kt 88) (il noCt n 0) (blkE noBT 0 (fr88b m 0) (lvE::lvE::lvb b0 b1 b2 b3 b4 b5 b6 m g::H) (.ite x (.ok (.ret,[(4,.int .i64 (Int.ofNat r),none)],lvE::lvE::lvb b0 b1 b2 b3 b4 b5 b6 m g::H)) (.ok (.normal,hints (fr88b m (Int.ofNat m)++[(9,.bool false)]),lvE::lvE::lvb b0 b1 b2 b3 b4 b5 b6 m g::H)))) noRT [(.slc 1 7 0 0 1 m none,none),(.fn (.func 87) [] [.ptr 1 0 0 0,.ptr 1 3 0 0],none)] (lvE::lvb b0 b1 b2 b3 b4 b5 b6 m g::H) =
 (fun (Z0:Lvl)=>((fun (Z1:Frm)=>Tr.reqP (Z1=Z1∧lvE::lvE::Z0::H=lvE::lvE::Z0::H) (Tr.ite x (Tr.ok ((AV.int .i64 (Int.ofNat r),none),lvE::Z0::H)) (Tr.ok ((AV.int .i64 (Int.negSucc 0),some 1),lvE::Z0::H)))) [(0,AV.slc 2 7 0 0 1 m none),(1,AV.fn (Fn.func 87) [] [AV.ptr 2 0 0 0,AV.ptr 2 3 0 0]),(7,AV.int .i64 (Int.ofNat m)),(8,AV.int .i64 (Int.ofNat 0))])) { lock:=false,bs:=[b0,b1,b2,b3,b4,b5,b6,(0,Blk.row (Row.M [Seg.arr .i64 g m]))] }:=by kernel_rfl
theorem t67b (n:Nat) (P:Int→Bool) (Q:Int→List AV→Heap→Prop) (b0 b1 b2 b3 b4 b5 b6:Nat×Blk) (m:Nat) (g:Nat→Int) (H:Heap) (i j:Int):execT (cxD n 67 42) (il (ctC 87 P Q) n 0) noBT noRT (part Tryz.f67 [1,1,1,0,1,0,0]) (hints (fr67b m i j)) (lvE::lvb b0 b1 b2 b3 b4 b5 b6 m g::H) =
 (fun (Z0:Lvl)=>((fun (Z1:Nat×AV×Option Nat)=>Tr.ite (ltI j (Int.ofNat m)) (Tr.req (inI j m) (Tr.req (eqN 0 0) (Tr.req (ltN (idO 0 j 1) m) (Tr.reqP (Q (g (idO 0 j 1)) [AV.ptr 1 0 0 0,AV.ptr 1 3 0 0] (lvE::Z0::H)) (Tr.ite (notB (P (g (idO 0 j 1)))) (Tr.req (inI i m) (Tr.req (eqN 0 0) (Tr.req (ltN (idO 0 i 1) m) (Tr.ok (Ex.normal,[(0,AV.slc 1 7 0 0 1 m none,none),Z1,(5,AV.int .i64 (addI .i64 i (Int.ofNat 1)),none),(6,AV.int .i64 (addI .i64 j (Int.ofNat 1)),none)],lvE::{ lock:=false,bs:=[b0,b1,b2,b3,b4,b5,b6,(0,Blk.row (Row.M [Seg.arr .i64 (updO g (idO 0 i 1) (g (idO 0 j 1))) m]))] } :: H))))) (Tr.ok (Ex.normal,[(0,AV.slc 1 7 0 0 1 m none,none),Z1,(5,AV.int .i64 i,none),(6,AV.int .i64 (addI .i64 j (Int.ofNat 1)),none)],lvE::Z0::H))))))) (Tr.ok (Ex.exit 0,[(0,AV.slc 1 7 0 0 1 m none,none),Z1,(5,AV.int .i64 i,none),(6,AV.int .i64 j,none),(19,AV.bool false,some 1)],lvE::Z0::H))) (1,AV.fn (Fn.func 87) [] [AV.ptr 1 0 0 0,AV.ptr 1 3 0 0],none))) { lock:=false,bs:=[b0,b1,b2,b3,b4,b5,b6,(0,Blk.row (Row.M [Seg.arr .i64 g m]))] }:=by kernel_rfl
theorem u67b (n:Nat) (b0 b1 b2 b3 b4 b5 b6:Nat×Blk) (m:Nat) (g g2:Nat→Int) (H:Heap) (r i2:Int):bodyT Tryz.prog (cd n) 100000 67 Tryz.f67 (KtB.kt 67) (il (ctE noCt 88 [.slc 1 7 0 0 1 m none,.fn (.func 87) [] [.ptr 1 0 0 0,.ptr 1 3 0 0]] (lvE::lvb b0 b1 b2 b3 b4 b5 b6 m g::H) (.ok (.int .i64 r,lvE::lvb b0 b1 b2 b3 b4 b5 b6 m g::H))) n 0) (blkE noBT 0 (fr67b m r (addI .i64 r (Int.ofNat 1))) (lvE::lvb b0 b1 b2 b3 b4 b5 b6 m g::H) (.ok (.normal,hints (fr67b m i2 (Int.ofNat m)++[(19,.bool false)]),lvE::lvb b0 b1 b2 b3 b4 b5 b6 m g2::H))) noRT [(.slc 0 7 0 0 1 m none,none),(.fn (.func 87) [] [.ptr 0 0 0 0,.ptr 0 3 0 0],none)] (lvb b0 b1 b2 b3 b4 b5 b6 m g::H) =
 (fun (Z0:Lvl)=>((fun (Z1:Frm)=>Tr.reqP ([AV.slc 1 7 0 0 1 m none,AV.fn (Fn.func 87) [] [AV.ptr 1 0 0 0,AV.ptr 1 3 0 0]]=[AV.slc 1 7 0 0 1 m none,AV.fn (Fn.func 87) [] [AV.ptr 1 0 0 0,AV.ptr 1 3 0 0]]∧lvE::Z0::H=lvE::Z0::H) (Tr.ite (eqI r (Int.negSucc 0)) (Tr.ok ((AV.slc 0 7 0 0 1 m none,none),Z0::H)) (Tr.reqP (Z1=Z1∧lvE::Z0::H=lvE::Z0::H) (Tr.req (bndI i2 m) (Tr.req (ltN 0 (subO m (toN i2))) (Tr.req (eqN 0 0) (Tr.req (inO (addO 0 (toN i2)) (subO m (toN i2)) 0 m) (Tr.req (bndI i2 m) (Tr.ok ((AV.slc 0 7 0 0 1 (toN i2) none,none),{ lock:=false,bs:=[b0,b1,b2,b3,b4,b5,b6,(0,Blk.row (Row.M [Seg.arr .i64 (copO g2 (addO 0 (toN i2)) (fun x=>Int.ofNat 0) (subO m (toN i2))) m]))] } :: H)))))))))) [(0,AV.slc 1 7 0 0 1 m none),(1,AV.fn (Fn.func 87) [] [AV.ptr 1 0 0 0,AV.ptr 1 3 0 0]),(5,AV.int .i64 r),(6,AV.int .i64 (addI .i64 r (Int.ofNat 1)))])) { lock:=false,bs:=[b0,b1,b2,b3,b4,b5,b6,(0,Blk.row (Row.M [Seg.arr .i64 g m]))] }:=by kernel_rfl
theorem u67xb (n:Nat) (b0 b1 b2 b3 b4 b5 b6:Nat×Blk) (m:Nat) (g:Nat→Int) (H:Heap):bodyT Tryz.prog (cd n) 100000 67 Tryz.f67 (KtB.kt 67) (il (ctE noCt 88 [.slc 1 7 0 0 1 m none,.fn (.func 87) [] [.ptr 1 0 0 0,.ptr 1 3 0 0]] (lvE::lvb b0 b1 b2 b3 b4 b5 b6 m g::H) (.ok (.int .i64 (-1),lvE::lvb b0 b1 b2 b3 b4 b5 b6 m g::H))) n 0) (stopB noBT 0) noRT [(.slc 0 7 0 0 1 m none,none),(.fn (.func 87) [] [.ptr 0 0 0 0,.ptr 0 3 0 0],none)] (lvb b0 b1 b2 b3 b4 b5 b6 m g::H) =
 (fun (Z0:Lvl)=>Tr.reqP ([AV.slc 1 7 0 0 1 m none,AV.fn (Fn.func 87) [] [AV.ptr 1 0 0 0,AV.ptr 1 3 0 0]]=[AV.slc 1 7 0 0 1 m none,AV.fn (Fn.func 87) [] [AV.ptr 1 0 0 0,AV.ptr 1 3 0 0]]∧lvE::Z0::H=lvE::Z0::H) (Tr.ite (eqI (Int.negSucc 0) (Int.negSucc 0)) (Tr.ok ((AV.slc 0 7 0 0 1 m none,none),Z0::H)) Tr.bad)) { lock:=false,bs:=[b0,b1,b2,b3,b4,b5,b6,(0,Blk.row (Row.M [Seg.arr .i64 g m]))] }:=by kernel_rfl
theorem ctC_ok {k:Nat} {f:FuncId} {P:Int→Bool} {Q:Int→List AV→Heap→Prop} (h:∀ x C H,Q x C H→cd k (.fn f) (.int .i64 x::C) H=some (.bool (P x),H)):(ctC f P Q).Ok (cd k):=by
 refine addCt_ok (noCt_ok _) (fun args H x hx=>?_)
 unfold gC at hx
 split at hx
 · obtain ⟨h1,h2⟩:=Tr.reqP_some hx
   rw[h _ _ _ h1,← Tr.ok_some h2]
 · exact (Tr.bad_some hx).elim
def kpt (P:Int→Bool) (g:Nat→Int):Nat→List Int
 | 0=>[]
 | j+1=>if P (g j)=true then kpt P g j else kpt P g j++[g j]
theorem kp_len (P:Int→Bool) (g:Nat→Int) (j:Nat):(kpt P g j).length≤j:=by
 induction j with
 | zero=>simp[kpt]
 | succ j ih =>
   unfold kpt
   split
   · omega
   · rw[List.length_append];simp only[List.length_cons,List.length_nil];omega
theorem kp_no (P:Int→Bool) (g:Nat→Int) (j:Nat) (h:∀ i,i<j→P (g i)=false):(kpt P g j).length=j∧∀ x,x<j→(kpt P g j).getD x 0=g x:=by
 induction j with
 | zero=>exact ⟨rfl,fun x h=>by omega⟩
 | succ j ih =>
   obtain ⟨h1,h2⟩:=ih (fun i hi=>h i (by omega))
   have:kpt P g (j+1)=kpt P g j++[g j]:=by
    show (if P (g j)=true then kpt P g j else kpt P g j++[g j])=_
    rw[if_neg (by rw[h j (by omega)];decide)]
   rw[this]
   refine ⟨by rw[List.length_append,h1];rfl,fun x hx=>?_⟩
   by_cases e:x<j
   · rw[← h2 x e,List.getD_eq_getElem?_getD,List.getD_eq_getElem?_getD,List.getElem?_append_left (by omega)]
   · have:x=j:=by omega
     subst this
     rw[List.getD_eq_getElem?_getD,List.getElem?_append_right (by omega),h1];simp
def gk (P:Int→Bool) (g:Nat→Int) (j x:Nat):Int:=if x<(kpt P g j).length then (kpt P g j).getD x 0 else g x
theorem gk_at (P:Int→Bool) (g:Nat→Int) (j:Nat):gk P g j j=g j:=by
 have:=kp_len P g j
 unfold gk;rw[if_neg (by omega)]
theorem gk_on (P:Int→Bool) (g:Nat→Int) (j:Nat) (h:P (g j)=false):updO (gk P g j) (kpt P g j).length (g j)=gk P g (j+1):=by
 have e:kpt P g (j+1)=kpt P g j++[g j]:=by
  show (if P (g j)=true then kpt P g j else kpt P g j++[g j])=_
  rw[if_neg (by rw[h];decide)]
 rw[updO_fn];funext x
 unfold gk
 rw[e,List.length_append]
 simp only[List.length_cons,List.length_nil]
 by_cases h1:x<(kpt P g j).length
 · rw[if_neg (by omega),if_pos h1,if_pos (by omega),List.getD_eq_getElem?_getD,List.getD_eq_getElem?_getD,List.getElem?_append_left h1]
 · by_cases h2:x=(kpt P g j).length
   · subst h2
     rw[if_pos rfl,if_pos (by omega),List.getD_eq_getElem?_getD,List.getElem?_append_right (by omega)];simp
   · rw[if_neg h2,if_neg h1,if_neg (by omega)]
theorem gk_off (P:Int→Bool) (g:Nat→Int) (j:Nat) (h:P (g j)=true):gk P g (j+1)=gk P g j∧kpt P g (j+1)=kpt P g j:=by
 have e:kpt P g (j+1)=kpt P g j:=by
  show (if P (g j)=true then kpt P g j else kpt P g j++[g j])=_
  rw[if_pos h]
 exact ⟨by funext x;unfold gk;rw[e],e⟩
theorem kp_off (P:Int→Bool) (g:Nat→Int) (j:Nat) (h:∀ i,i<j→P (g i)=false) (h1:P (g j)=true):(kpt P g (j+1)).length=j∧gk P g (j+1)=g:=by
 obtain ⟨h2,h3⟩:=kp_no P g j h
 obtain ⟨h4,h5⟩:=gk_off P g j h1
 refine ⟨by rw[h5,h2],?_⟩
 rw[h4];funext x
 unfold gk
 split
 · rename_i h6;exact h3 x (by omega)
 · rfl
theorem kp_mono (P:Int→Bool) (g:Nat→Int) (j k:Nat):(kpt P g (j+k)).length≤(kpt P g j).length+k:=by
 induction k with
 | zero=>exact Nat.le_refl _
 | succ k ih =>
   show (if P (g (j+k))=true then kpt P g (j+k) else kpt P g (j+k)++[g (j+k)]).length≤_
   split
   · omega
   · rw[List.length_append];simp only[List.length_cons,List.length_nil];omega
theorem b88:∀ b,(0,b) ∈ blocksOf (bodyOf Tryz.f88)→b=.loop (part Tryz.f88 [1,0,1,0,0]):=by
 have:((blocksOf (bodyOf Tryz.f88)).filter fun x=>Nat.beq x.1 0)=[(0,.loop (part Tryz.f88 [1,0,1,0,0]))]:=by kernel_rfl
 intro b hb
 have hm:(0,b) ∈ ((blocksOf (bodyOf Tryz.f88)).filter fun x=>Nat.beq x.1 0):=List.mem_filter.2 ⟨hb,rfl⟩
 rw[this] at hm;simpa using hm
theorem b67:∀ b,(0,b) ∈ blocksOf (bodyOf Tryz.f67)→b=.loop (part Tryz.f67 [1,1,1,0,1,0,0]):=by
 have:((blocksOf (bodyOf Tryz.f67)).filter fun x=>Nat.beq x.1 0)=[(0,.loop (part Tryz.f67 [1,1,1,0,1,0,0]))]:=by kernel_rfl
 intro b hb
 have hm:(0,b) ∈ ((blocksOf (bodyOf Tryz.f67)).filter fun x=>Nat.beq x.1 0):=List.mem_filter.2 ⟨hb,rfl⟩
 rw[this] at hm;simpa using hm
def ixF (p:Nat→Bool) (m:Nat):Int:=if exN p m=true then (fN p m 0:Int) else -1
section
variable (n:Nat) (P:Int→Bool) (Q:Int→List AV→Heap→Prop) (b0 b1 b2 b3 b4 b5:Nat×Blk) (m:Nat) (g:Nat→Int) (H:Heap)
theorem l88a (hQ:∀ k x C H,Q x C H→cd (n+k) (.fn 87) (.int .i64 x::C) H=some (.bool (P x),H)) (hm:m≤1000) (h2:∀ j,j<m→Q (g j) [.ptr 2 0 0 0,.ptr 2 1 0 0] (lvE::lvE::lva b0 b1 b2 b3 b4 b5 m g::H)) :
 exec (cxD n 88 19) (.block 0 (.loop (part Tryz.f88 [1,0,1,0,0]))) (fr88a m 0) (lvE::lvE::lva b0 b1 b2 b3 b4 b5 m g::H)=some (cond (exN (fun j=>P (g j)) m) (.ret,[(4,.int .i64 (fN (fun j=>P (g j)) m 0:Nat))],lvE::lvE::lva b0 b1 b2 b3 b4 b5 m g::H) (.normal,fr88a m (Int.ofNat m)++[(9,.bool false)],lvE::lvE::lva b0 b1 b2 b3 b4 b5 m g::H)):=by
 refine findX 0 (fun j=>fr88a m (j:Int)) (fun _=>lvE::lvE::lva b0 b1 b2 b3 b4 b5 m g::H) m (fun j=>P (g j)) (fun j=>([(4,.int .i64 (j:Nat))],lvE::lvE::lva b0 b1 b2 b3 b4 b5 m g::H)) (fr88a m (Int.ofNat m)++[(9,.bool false)],lvE::lvE::lva b0 b1 b2 b3 b4 b5 m g::H) (by omega) (fun j hj=>?_) ?_
 · have ej : addI .i64 (j:Int) (Int.ofNat 1)=((j+1:Nat):Int):=by rw[addI_eq,show Int.ofNat 1=1 from rfl];exact wr_64 (by omega) (by omega)
   have ei:idO 0 (j:Int) 1=j:=by rw[idO_eq];omega
   have q2:=h2 j hj
   refine ex_all (t88a n P Q b0 b1 b2 b3 b4 b5 m g H (j:Int)) (il_ok _ n 0 (fun k=>ctC_ok (hQ k))) (noBT_ok _ _) (noRT_ok _ _) ?_
   rw[ej,ei]
   show Tr.all _ (fun x=>if P (g j)=true then _ else _)
   cases hp:P (g j) with
   | true =>
     simp only[if_true]
     refine Tr.all_ite (fun hc=>?_) (fun hc=>?_)
     · repeat' first | (refine Tr.all_ite (fun hc=>?_) (fun hc=>?_)<;>(try simp (disch:=omega) only[nV,nW] at hc)<;>try omega) | (refine Tr.all_req ?_ ?_;· (try simp (disch:=omega) only[nV,nW]);try omega) | (refine Tr.all_reqP ?_ ?_;· first | exact trivial | rfl | exact ⟨rfl,rfl⟩ | exact ⟨rfl,rfl,rfl⟩ | (simp (disch:=omega) only[nV,nW];done) | ((try simp (disch:=omega) only[nV,nW]);omega)) | fail
       all_goals first
        | exact q2
        | exact Tr.all_reqP q2 (Tr.all_ok rfl)
        | (refine Tr.all_reqP q2 ?_
           repeat' first | (refine Tr.all_ite (fun hc=>?_) (fun hc=>?_)<;>(try simp (disch:=omega) only[nV,nW] at hc)<;>try omega) | (refine Tr.all_req ?_ ?_;· (try simp (disch:=omega) only[nV,nW]);try omega) | (refine Tr.all_reqP ?_ ?_;· first | exact trivial | rfl | exact ⟨rfl,rfl⟩ | exact ⟨rfl,rfl,rfl⟩ | (simp (disch:=omega) only[nV,nW];done) | ((try simp (disch:=omega) only[nV,nW]);omega)) | fail
           all_goals exact Tr.all_ok rfl)
        | fail
     · simp (disch:=omega) only[nV,nW] at hc;omega
   | false =>
     simp only[Bool.false_eq_true,if_false]
     refine Tr.all_ite (fun hc=>?_) (fun hc=>?_)
     · repeat' first | (refine Tr.all_ite (fun hc=>?_) (fun hc=>?_)<;>(try simp (disch:=omega) only[nV,nW] at hc)<;>try omega) | (refine Tr.all_req ?_ ?_;· (try simp (disch:=omega) only[nV,nW]);try omega) | (refine Tr.all_reqP ?_ ?_;· first | exact trivial | rfl | exact ⟨rfl,rfl⟩ | exact ⟨rfl,rfl,rfl⟩ | (simp (disch:=omega) only[nV,nW];done) | ((try simp (disch:=omega) only[nV,nW]);omega)) | fail
       all_goals first
        | exact q2
        | (refine Tr.all_reqP q2 ?_
           repeat' first | (refine Tr.all_ite (fun hc=>?_) (fun hc=>?_)<;>(try simp (disch:=omega) only[nV,nW] at hc)<;>try omega) | (refine Tr.all_req ?_ ?_;· (try simp (disch:=omega) only[nV,nW]);try omega) | (refine Tr.all_reqP ?_ ?_;· first | exact trivial | rfl | exact ⟨rfl,rfl⟩ | exact ⟨rfl,rfl,rfl⟩ | (simp (disch:=omega) only[nV,nW];done) | ((try simp (disch:=omega) only[nV,nW]);omega)) | fail
           all_goals exact Tr.all_ok ⟨rfl,rfl⟩)
        | fail
     · simp (disch:=omega) only[nV,nW] at hc;omega
 · obtain ⟨x,h1,rfl⟩:=ex_all (Q:=fun x=>x=(.exit 0,fr88a m (Int.ofNat m)++[(9,.bool false)],lvE::lvE::lva b0 b1 b2 b3 b4 b5 m g::H)) (t88a n P Q b0 b1 b2 b3 b4 b5 m g H (Int.ofNat m)) (il_ok _ n 0 (fun k=>ctC_ok (hQ k))) (noBT_ok _ _) (noRT_ok _ _) (by
    refine Tr.all_ite (fun hc=>?_) (fun hc=>Tr.all_ok rfl)
    simp (disch:=omega) only[nV,nW] at hc;omega)
   exact h1
theorem c88a (hQ:∀ k x C H,Q x C H→cd (n+k) (.fn 87) (.int .i64 x::C) H=some (.bool (P x),H)) (hm:m≤1000) (h2:∀ j,j<m→Q (g j) [.ptr 2 0 0 0,.ptr 2 1 0 0] (lvE::lvE::lva b0 b1 b2 b3 b4 b5 m g::H)) :
 cd (n+1) (.fn 88) [.slc 1 6 0 0 1 m none,.fn (.func 87) [] [.ptr 1 0 0 0,.ptr 1 1 0 0]] (lvE::lva b0 b1 b2 b3 b4 b5 m g::H)=some (.int .i64 (ixF (fun j=>P (g j)) m),lvE::lva b0 b1 b2 b3 b4 b5 m g::H):=by
 have hl:=l88a n P Q b0 b1 b2 b3 b4 b5 m g H hQ hm h2
 refine fn_all (n:=n) Tryz.func88 rfl rfl rfl (u88a n b0 b1 b2 b3 b4 b5 m g H (exN (fun j=>P (g j)) m) (fN (fun j=>P (g j)) m 0)) (il_no0 n) (blkE_ok (noBT_ok _ _) b88 (fun x hx=>by
  refine Eq.trans hl ?_
  rcases Tr.ite_some hx with ⟨hc,hx⟩ | ⟨hc,hx⟩
  · rw[hc,← Tr.ok_some hx];rfl
  · rw[hc,← Tr.ok_some hx];simp only[cond_false,Res.st,hints_eq])) (noRT_ok _ _) ?_
 refine Tr.all_reqP ⟨rfl,rfl⟩ (Tr.all_ite (fun hc=>Tr.all_ok ⟨?_,rfl⟩) (fun hc=>Tr.all_ok ⟨?_,rfl⟩))
 · unfold ixF;rw[if_pos hc];rfl
 · unfold ixF;rw[if_neg (by rw[hc];decide)];rfl
theorem l67a (r:Nat) (hQ:∀ k x C H,Q x C H→cd (n+k) (.fn 87) (.int .i64 x::C) H=some (.bool (P x),H)) (hm:m≤1000) (h1:∀ j g',j<m→Q (g j) [.ptr 1 0 0 0,.ptr 1 1 0 0] (lvE::lva b0 b1 b2 b3 b4 b5 m g'::H)) (hr:r<m) (h3:∀ i,i<r→P (g i)=false) (h4:P (g r)=true) :
 exec (cxD n 67 42) (.block 0 (.loop (part Tryz.f67 [1,1,1,0,1,0,0]))) (fr67a m (r:Int) (addI .i64 (r:Int) (Int.ofNat 1))) (lvE::lva b0 b1 b2 b3 b4 b5 m g::H)=some (.normal,fr67a m ((kpt P g m).length:Int) (Int.ofNat m)++[(19,.bool false)],lvE::lva b0 b1 b2 b3 b4 b5 m (gk P g m)::H):=by
 obtain ⟨k1,k2⟩:=kp_off P g r h3 h4
 have e0:addI .i64 (r:Int) (Int.ofNat 1)=((r+1+0:Nat):Int):=by rw[addI_eq,show Int.ofNat 1=1 from rfl];exact wr_64 (by omega) (by omega)
 have:=forX (n:=n) (f:=67) (nt:=42) (c:=part Tryz.f67 [1,1,1,0,1,0,0]) 0 (fun j=>fr67a m ((kpt P g (r+1+j)).length:Int) ((r+1+j:Nat):Int)) (fun j=>lvE::lva b0 b1 b2 b3 b4 b5 m (gk P g (r+1+j))::H) (m-(r+1)) (fr67a m ((kpt P g m).length:Int) (Int.ofNat m)++[(19,.bool false)],lvE::lva b0 b1 b2 b3 b4 b5 m (gk P g m)::H) (by omega) (fun j hj=>?_) ?_
 · rw[show r+1+0=r+1 from rfl,k1,k2] at this
   rw[e0];exact this
 · generalize hJ:r+1+j=J
   rw[show r+1+(j+1)=J+1 by omega]
   have hJm:J<m:=by omega
   have ej:addI .i64 (J:Int) (Int.ofNat 1)=((J+1:Nat):Int):=by rw[addI_eq,show Int.ofNat 1=1 from rfl];exact wr_64 (by omega) (by omega)
   have ei:idO 0 (J:Int) 1=J:=by rw[idO_eq];omega
   have hl:=kp_len P g J
   have q1:=h1 J (gk P g J) hJm
   have ga:=gk_at P g J
   have ea:addI .i64 ((kpt P g J).length:Int) (Int.ofNat 1)=(((kpt P g J).length+1:Nat):Int):=by rw[addI_eq,show Int.ofNat 1=1 from rfl];exact wr_64 (by omega) (by omega)
   have ei2:idO 0 ((kpt P g J).length:Int) 1=(kpt P g J).length:=by rw[idO_eq];omega
   refine ex_all (t67a n P Q b0 b1 b2 b3 b4 b5 m (gk P g J) H ((kpt P g J).length:Int) (J:Int)) (il_ok _ n 0 (fun k=>ctC_ok (hQ k))) (noBT_ok _ _) (noRT_ok _ _) ?_
   rw[ej,ei,ga,ea,ei2]
   cases hp:P (g J) with
   | true =>
     obtain ⟨o1,o2⟩:=gk_off P g J hp
     rw[o1,o2]
     refine Tr.all_ite (fun hc=>?_) (fun hc=>?_)
     · repeat' first | (refine Tr.all_ite (fun hc=>?_) (fun hc=>?_)<;>(try simp (disch:=omega) only[nV,nW] at hc)<;>try omega) | (refine Tr.all_req ?_ ?_;· (try simp (disch:=omega) only[nV,nW]);try omega) | (refine Tr.all_reqP ?_ ?_;· first | exact trivial | rfl | exact ⟨rfl,rfl⟩ | exact ⟨rfl,rfl,rfl⟩ | (simp (disch:=omega) only[nV,nW];done) | ((try simp (disch:=omega) only[nV,nW]);omega)) | fail
       all_goals first
        | exact q1
        | (refine Tr.all_reqP q1 ?_
           repeat' first | (refine Tr.all_ite (fun hc=>?_) (fun hc=>?_)<;>(try simp (disch:=omega) only[nV,nW] at hc)<;>try omega) | (refine Tr.all_req ?_ ?_;· (try simp (disch:=omega) only[nV,nW]);try omega) | (refine Tr.all_reqP ?_ ?_;· first | exact trivial | rfl | exact ⟨rfl,rfl⟩ | exact ⟨rfl,rfl,rfl⟩ | (simp (disch:=omega) only[nV,nW];done) | ((try simp (disch:=omega) only[nV,nW]);omega)) | fail
           all_goals exact Tr.all_ok ⟨rfl,rfl⟩)
        | fail
     · simp (disch:=omega) only[nV,nW] at hc;omega
   | false =>
     have o1:=gk_on P g J hp
     have o2:(kpt P g (J+1)).length=(kpt P g J).length+1:=by
      show (if P (g J)=true then kpt P g J else kpt P g J++[g J]).length=_
      rw[hp,if_neg (by decide),List.length_append];rfl
     rw[o1,o2]
     refine Tr.all_ite (fun hc=>?_) (fun hc=>?_)
     · repeat' first | (refine Tr.all_ite (fun hc=>?_) (fun hc=>?_)<;>(try simp (disch:=omega) only[nV,nW] at hc)<;>try omega) | (refine Tr.all_req ?_ ?_;· (try simp (disch:=omega) only[nV,nW]);try omega) | (refine Tr.all_reqP ?_ ?_;· first | exact trivial | rfl | exact ⟨rfl,rfl⟩ | exact ⟨rfl,rfl,rfl⟩ | (simp (disch:=omega) only[nV,nW];done) | ((try simp (disch:=omega) only[nV,nW]);omega)) | fail
       all_goals first
        | exact q1
        | (refine Tr.all_reqP q1 ?_
           repeat' first | (refine Tr.all_ite (fun hc=>?_) (fun hc=>?_)<;>(try simp (disch:=omega) only[nV,nW] at hc)<;>try omega) | (refine Tr.all_req ?_ ?_;· (try simp (disch:=omega) only[nV,nW]);try omega) | (refine Tr.all_reqP ?_ ?_;· first | exact trivial | rfl | exact ⟨rfl,rfl⟩ | exact ⟨rfl,rfl,rfl⟩ | (simp (disch:=omega) only[nV,nW];done) | ((try simp (disch:=omega) only[nV,nW]);omega)) | fail
           all_goals exact Tr.all_ok ⟨rfl,rfl⟩)
        | fail
     · simp (disch:=omega) only[nV,nW] at hc;omega
 · rw[show r+1+(m-(r+1))=m by omega]
   obtain ⟨x,h1,rfl⟩:=ex_all (Q:=fun x=>x=(.exit 0,fr67a m ((kpt P g m).length:Int) (Int.ofNat m)++[(19,.bool false)],lvE::lva b0 b1 b2 b3 b4 b5 m (gk P g m)::H)) (t67a n P Q b0 b1 b2 b3 b4 b5 m (gk P g m) H ((kpt P g m).length:Int) (Int.ofNat m)) (il_ok _ n 0 (fun k=>ctC_ok (hQ k))) (noBT_ok _ _) (noRT_ok _ _) (by
    refine Tr.all_ite (fun hc=>?_) (fun hc=>Tr.all_ok rfl)
    simp (disch:=omega) only[nV,nW] at hc;omega)
   exact h1
theorem c67a (hQ:∀ k x C H,Q x C H→cd (n+k) (.fn 87) (.int .i64 x::C) H=some (.bool (P x),H)) (hm:m≤1000) (h1:∀ j g',j<m→Q (g j) [.ptr 1 0 0 0,.ptr 1 1 0 0] (lvE::lva b0 b1 b2 b3 b4 b5 m g'::H)) (h2:∀ j,j<m→Q (g j) [.ptr 2 0 0 0,.ptr 2 1 0 0] (lvE::lvE::lva b0 b1 b2 b3 b4 b5 m g::H)) :
 ∃ g',cd (n+2) (.fn 67) [.slc 0 6 0 0 1 m none,.fn (.func 87) [] [.ptr 0 0 0 0,.ptr 0 1 0 0]] (lva b0 b1 b2 b3 b4 b5 m g::H)=some (.slc 0 6 0 0 1 (kpt P g m).length none,lva b0 b1 b2 b3 b4 b5 m g'::H)∧∀ x,x<(kpt P g m).length→g' x=(kpt P g m).getD x 0:=by
 have hc:∀ k,cd (n+1+k) (.fn 88) [.slc 1 6 0 0 1 m none,.fn (.func 87) [] [.ptr 1 0 0 0,.ptr 1 1 0 0]] (lvE::lva b0 b1 b2 b3 b4 b5 m g::H)=some (.int .i64 (ixF (fun j=>P (g j)) m),lvE::lva b0 b1 b2 b3 b4 b5 m g::H):=fun k=>by
  have:=c88a (n+k) P Q b0 b1 b2 b3 b4 b5 m g H (fun k2=>by rw[Nat.add_assoc];exact hQ _) hm h2
  rwa [show n+k+1=n+1+k by omega] at this
 cases he:exN (fun j=>P (g j)) m with
 | true =>
   have hi:ixF (fun j=>P (g j)) m=(fN (fun j=>P (g j)) m 0:Nat):=by unfold ixF;rw[if_pos he]
   have hlt:=exN_true he
   obtain ⟨_,_,s3,s4⟩:=fN_spec (fun j=>P (g j)) m 0
   have s4:=s4 (by omega)
   rw[hi] at hc
   generalize fN (fun j=>P (g j)) m 0=r at *
   have hl:=l67a (n+1) P Q b0 b1 b2 b3 b4 b5 m g H r (fun k=>by rw[Nat.add_assoc];exact hQ _) hm (fun j g' hj=>h1 j g' hj) hlt (fun i hi=>s3 i (by omega) hi) s4
   have hk:(kpt P g m).length<m:=by
    obtain ⟨k1,_⟩:=kp_off P g r (fun i hi=>s3 i (by omega) hi) s4
    have:=kp_mono P g (r+1) (m-(r+1))
    rw[show r+1+(m-(r+1))=m by omega] at this
    omega
   refine ⟨copO (gk P g m) (kpt P g m).length (fun x=>Int.ofNat 0) (m-(kpt P g m).length),?_,fun x hx=>?_⟩
   · refine fn_all (n:=n+1) Tryz.func67 rfl rfl rfl (u67a (n+1) b0 b1 b2 b3 b4 b5 m g (gk P g m) H (r:Int) ((kpt P g m).length:Int)) (il_ok _ (n+1) 0 (fun k=>ctE_ok (noCt_ok _) (fun x hx=>by rw[← Tr.ok_some hx];exact hc k))) (blkE_ok (noBT_ok _ _) b67 (fun x hx=>by rw[← Tr.ok_some hx];simp only[Res.st,hints_eq];exact hl)) (noRT_ok _ _) ?_
     have e3:toN ((kpt P g m).length:Int)=(kpt P g m).length:=toN_eq _
     rw[e3,addO_eq,Nat.zero_add,subO_eq]
     repeat' first | (refine Tr.all_ite (fun hc=>?_) (fun hc=>?_)<;>(try simp (disch:=omega) only[nV,nW] at hc)<;>try omega) | (refine Tr.all_req ?_ ?_;· (try simp (disch:=omega) only[nV,nW]);try omega) | (refine Tr.all_reqP ?_ ?_;· first | exact trivial | rfl | exact ⟨rfl,rfl⟩ | exact ⟨rfl,rfl,rfl⟩ | (simp (disch:=omega) only[nV,nW];done) | ((try simp (disch:=omega) only[nV,nW]);omega)) | fail
     all_goals first
      | exact Tr.all_reqP ⟨rfl,rfl⟩ (by
         repeat' first | (refine Tr.all_ite (fun hc=>?_) (fun hc=>?_)<;>(try simp (disch:=omega) only[nV,nW] at hc)<;>try omega) | (refine Tr.all_req ?_ ?_;· (try simp (disch:=omega) only[nV,nW]);try omega) | (refine Tr.all_reqP ?_ ?_;· first | exact trivial | rfl | exact ⟨rfl,rfl⟩ | exact ⟨rfl,rfl,rfl⟩ | (simp (disch:=omega) only[nV,nW];done) | ((try simp (disch:=omega) only[nV,nW]);omega)) | fail
         all_goals first
          | exact Tr.all_ok ⟨rfl,rfl⟩
          | fail)
      | exact Tr.all_ok ⟨rfl,rfl⟩
      | fail
   · rw[copO_eq];unfold copZ
     rw[if_neg (by omega)]
     unfold gk;rw[if_pos hx]
 | false =>
   have hi:ixF (fun j=>P (g j)) m=-1:=by unfold ixF;rw[if_neg (by rw[he];decide)]
   rw[hi] at hc
   have hn:=exN_false he
   obtain ⟨_,_,s3,_⟩:=fN_spec (fun j=>P (g j)) m 0
   obtain ⟨k1,k2⟩:=kp_no P g m (fun i hi=>s3 i (by omega) (by omega))
   refine ⟨g,?_,fun x hx=>(k2 x (by omega)).symm⟩
   rw[k1]
   refine fn_all (n:=n+1) Tryz.func67 rfl rfl rfl (u67xa (n+1) b0 b1 b2 b3 b4 b5 m g H) (il_ok _ (n+1) 0 (fun k=>ctE_ok (noCt_ok _) (fun x hx=>by rw[← Tr.ok_some hx];exact hc k))) (stopB_ok (noBT_ok _ _) 0) (noRT_ok _ _) ?_
   repeat' first | (refine Tr.all_ite (fun hc=>?_) (fun hc=>?_)<;>(try simp (disch:=omega) only[nV,nW] at hc)<;>try omega) | (refine Tr.all_req ?_ ?_;· (try simp (disch:=omega) only[nV,nW]);try omega) | (refine Tr.all_reqP ?_ ?_;· first | exact trivial | rfl | exact ⟨rfl,rfl⟩ | exact ⟨rfl,rfl,rfl⟩ | (simp (disch:=omega) only[nV,nW];done) | ((try simp (disch:=omega) only[nV,nW]);omega)) | fail
   all_goals first
    | exact Tr.all_ok ⟨rfl,rfl⟩
    | fail
end
section
variable (n:Nat) (P:Int→Bool) (Q:Int→List AV→Heap→Prop) (b0 b1 b2 b3 b4 b5 b6:Nat×Blk) (m:Nat) (g:Nat→Int) (H:Heap)
theorem l88b (hQ:∀ k x C H,Q x C H→cd (n+k) (.fn 87) (.int .i64 x::C) H=some (.bool (P x),H)) (hm:m≤1000) (h2:∀ j,j<m→Q (g j) [.ptr 2 0 0 0,.ptr 2 3 0 0] (lvE::lvE::lvb b0 b1 b2 b3 b4 b5 b6 m g::H)) :
 exec (cxD n 88 19) (.block 0 (.loop (part Tryz.f88 [1,0,1,0,0]))) (fr88b m 0) (lvE::lvE::lvb b0 b1 b2 b3 b4 b5 b6 m g::H)=some (cond (exN (fun j=>P (g j)) m) (.ret,[(4,.int .i64 (fN (fun j=>P (g j)) m 0:Nat))],lvE::lvE::lvb b0 b1 b2 b3 b4 b5 b6 m g::H) (.normal,fr88b m (Int.ofNat m)++[(9,.bool false)],lvE::lvE::lvb b0 b1 b2 b3 b4 b5 b6 m g::H)):=by
 refine findX 0 (fun j=>fr88b m (j:Int)) (fun _=>lvE::lvE::lvb b0 b1 b2 b3 b4 b5 b6 m g::H) m (fun j=>P (g j)) (fun j=>([(4,.int .i64 (j:Nat))],lvE::lvE::lvb b0 b1 b2 b3 b4 b5 b6 m g::H)) (fr88b m (Int.ofNat m)++[(9,.bool false)],lvE::lvE::lvb b0 b1 b2 b3 b4 b5 b6 m g::H) (by omega) (fun j hj=>?_) ?_
 · have ej : addI .i64 (j:Int) (Int.ofNat 1)=((j+1:Nat):Int):=by rw[addI_eq,show Int.ofNat 1=1 from rfl];exact wr_64 (by omega) (by omega)
   have ei:idO 0 (j:Int) 1=j:=by rw[idO_eq];omega
   have q2:=h2 j hj
   refine ex_all (t88b n P Q b0 b1 b2 b3 b4 b5 b6 m g H (j:Int)) (il_ok _ n 0 (fun k=>ctC_ok (hQ k))) (noBT_ok _ _) (noRT_ok _ _) ?_
   rw[ej,ei]
   show Tr.all _ (fun x=>if P (g j)=true then _ else _)
   cases hp:P (g j) with
   | true =>
     simp only[if_true]
     refine Tr.all_ite (fun hc=>?_) (fun hc=>?_)
     · repeat' first | (refine Tr.all_ite (fun hc=>?_) (fun hc=>?_)<;>(try simp (disch:=omega) only[nV,nW] at hc)<;>try omega) | (refine Tr.all_req ?_ ?_;· (try simp (disch:=omega) only[nV,nW]);try omega) | (refine Tr.all_reqP ?_ ?_;· first | exact trivial | rfl | exact ⟨rfl,rfl⟩ | exact ⟨rfl,rfl,rfl⟩ | (simp (disch:=omega) only[nV,nW];done) | ((try simp (disch:=omega) only[nV,nW]);omega)) | fail
       all_goals first
        | exact q2
        | exact Tr.all_reqP q2 (Tr.all_ok rfl)
        | (refine Tr.all_reqP q2 ?_
           repeat' first | (refine Tr.all_ite (fun hc=>?_) (fun hc=>?_)<;>(try simp (disch:=omega) only[nV,nW] at hc)<;>try omega) | (refine Tr.all_req ?_ ?_;· (try simp (disch:=omega) only[nV,nW]);try omega) | (refine Tr.all_reqP ?_ ?_;· first | exact trivial | rfl | exact ⟨rfl,rfl⟩ | exact ⟨rfl,rfl,rfl⟩ | (simp (disch:=omega) only[nV,nW];done) | ((try simp (disch:=omega) only[nV,nW]);omega)) | fail
           all_goals exact Tr.all_ok rfl)
        | fail
     · simp (disch:=omega) only[nV,nW] at hc;omega
   | false =>
     simp only[Bool.false_eq_true,if_false]
     refine Tr.all_ite (fun hc=>?_) (fun hc=>?_)
     · repeat' first | (refine Tr.all_ite (fun hc=>?_) (fun hc=>?_)<;>(try simp (disch:=omega) only[nV,nW] at hc)<;>try omega) | (refine Tr.all_req ?_ ?_;· (try simp (disch:=omega) only[nV,nW]);try omega) | (refine Tr.all_reqP ?_ ?_;· first | exact trivial | rfl | exact ⟨rfl,rfl⟩ | exact ⟨rfl,rfl,rfl⟩ | (simp (disch:=omega) only[nV,nW];done) | ((try simp (disch:=omega) only[nV,nW]);omega)) | fail
       all_goals first
        | exact q2
        | (refine Tr.all_reqP q2 ?_
           repeat' first | (refine Tr.all_ite (fun hc=>?_) (fun hc=>?_)<;>(try simp (disch:=omega) only[nV,nW] at hc)<;>try omega) | (refine Tr.all_req ?_ ?_;· (try simp (disch:=omega) only[nV,nW]);try omega) | (refine Tr.all_reqP ?_ ?_;· first | exact trivial | rfl | exact ⟨rfl,rfl⟩ | exact ⟨rfl,rfl,rfl⟩ | (simp (disch:=omega) only[nV,nW];done) | ((try simp (disch:=omega) only[nV,nW]);omega)) | fail
           all_goals exact Tr.all_ok ⟨rfl,rfl⟩)
        | fail
     · simp (disch:=omega) only[nV,nW] at hc;omega
 · obtain ⟨x,h1,rfl⟩:=ex_all (Q:=fun x=>x=(.exit 0,fr88b m (Int.ofNat m)++[(9,.bool false)],lvE::lvE::lvb b0 b1 b2 b3 b4 b5 b6 m g::H)) (t88b n P Q b0 b1 b2 b3 b4 b5 b6 m g H (Int.ofNat m)) (il_ok _ n 0 (fun k=>ctC_ok (hQ k))) (noBT_ok _ _) (noRT_ok _ _) (by
    refine Tr.all_ite (fun hc=>?_) (fun hc=>Tr.all_ok rfl)
    simp (disch:=omega) only[nV,nW] at hc;omega)
   exact h1
theorem c88b (hQ:∀ k x C H,Q x C H→cd (n+k) (.fn 87) (.int .i64 x::C) H=some (.bool (P x),H)) (hm:m≤1000) (h2:∀ j,j<m→Q (g j) [.ptr 2 0 0 0,.ptr 2 3 0 0] (lvE::lvE::lvb b0 b1 b2 b3 b4 b5 b6 m g::H)) :
 cd (n+1) (.fn 88) [.slc 1 7 0 0 1 m none,.fn (.func 87) [] [.ptr 1 0 0 0,.ptr 1 3 0 0]] (lvE::lvb b0 b1 b2 b3 b4 b5 b6 m g::H)=some (.int .i64 (ixF (fun j=>P (g j)) m),lvE::lvb b0 b1 b2 b3 b4 b5 b6 m g::H):=by
 have hl:=l88b n P Q b0 b1 b2 b3 b4 b5 b6 m g H hQ hm h2
 refine fn_all (n:=n) Tryz.func88 rfl rfl rfl (u88b n b0 b1 b2 b3 b4 b5 b6 m g H (exN (fun j=>P (g j)) m) (fN (fun j=>P (g j)) m 0)) (il_no0 n) (blkE_ok (noBT_ok _ _) b88 (fun x hx=>by
  refine Eq.trans hl ?_
  rcases Tr.ite_some hx with ⟨hc,hx⟩ | ⟨hc,hx⟩
  · rw[hc,← Tr.ok_some hx];rfl
  · rw[hc,← Tr.ok_some hx];simp only[cond_false,Res.st,hints_eq])) (noRT_ok _ _) ?_
 refine Tr.all_reqP ⟨rfl,rfl⟩ (Tr.all_ite (fun hc=>Tr.all_ok ⟨?_,rfl⟩) (fun hc=>Tr.all_ok ⟨?_,rfl⟩))
 · unfold ixF;rw[if_pos hc];rfl
 · unfold ixF;rw[if_neg (by rw[hc];decide)];rfl
theorem l67b (r:Nat) (hQ:∀ k x C H,Q x C H→cd (n+k) (.fn 87) (.int .i64 x::C) H=some (.bool (P x),H)) (hm:m≤1000) (h1:∀ j g',j<m→Q (g j) [.ptr 1 0 0 0,.ptr 1 3 0 0] (lvE::lvb b0 b1 b2 b3 b4 b5 b6 m g'::H)) (hr:r<m) (h3:∀ i,i<r→P (g i)=false) (h4:P (g r)=true) :
 exec (cxD n 67 42) (.block 0 (.loop (part Tryz.f67 [1,1,1,0,1,0,0]))) (fr67b m (r:Int) (addI .i64 (r:Int) (Int.ofNat 1))) (lvE::lvb b0 b1 b2 b3 b4 b5 b6 m g::H)=some (.normal,fr67b m ((kpt P g m).length:Int) (Int.ofNat m)++[(19,.bool false)],lvE::lvb b0 b1 b2 b3 b4 b5 b6 m (gk P g m)::H):=by
 obtain ⟨k1,k2⟩:=kp_off P g r h3 h4
 have e0:addI .i64 (r:Int) (Int.ofNat 1)=((r+1+0:Nat):Int):=by rw[addI_eq,show Int.ofNat 1=1 from rfl];exact wr_64 (by omega) (by omega)
 have:=forX (n:=n) (f:=67) (nt:=42) (c:=part Tryz.f67 [1,1,1,0,1,0,0]) 0 (fun j=>fr67b m ((kpt P g (r+1+j)).length:Int) ((r+1+j:Nat):Int)) (fun j=>lvE::lvb b0 b1 b2 b3 b4 b5 b6 m (gk P g (r+1+j))::H) (m-(r+1)) (fr67b m ((kpt P g m).length:Int) (Int.ofNat m)++[(19,.bool false)],lvE::lvb b0 b1 b2 b3 b4 b5 b6 m (gk P g m)::H) (by omega) (fun j hj=>?_) ?_
 · rw[show r+1+0=r+1 from rfl,k1,k2] at this
   rw[e0];exact this
 · generalize hJ:r+1+j=J
   rw[show r+1+(j+1)=J+1 by omega]
   have hJm:J<m:=by omega
   have ej:addI .i64 (J:Int) (Int.ofNat 1)=((J+1:Nat):Int):=by rw[addI_eq,show Int.ofNat 1=1 from rfl];exact wr_64 (by omega) (by omega)
   have ei:idO 0 (J:Int) 1=J:=by rw[idO_eq];omega
   have hl:=kp_len P g J
   have q1:=h1 J (gk P g J) hJm
   have ga:=gk_at P g J
   have ea:addI .i64 ((kpt P g J).length:Int) (Int.ofNat 1)=(((kpt P g J).length+1:Nat):Int):=by rw[addI_eq,show Int.ofNat 1=1 from rfl];exact wr_64 (by omega) (by omega)
   have ei2:idO 0 ((kpt P g J).length:Int) 1=(kpt P g J).length:=by rw[idO_eq];omega
   refine ex_all (t67b n P Q b0 b1 b2 b3 b4 b5 b6 m (gk P g J) H ((kpt P g J).length:Int) (J:Int)) (il_ok _ n 0 (fun k=>ctC_ok (hQ k))) (noBT_ok _ _) (noRT_ok _ _) ?_
   rw[ej,ei,ga,ea,ei2]
   cases hp:P (g J) with
   | true =>
     obtain ⟨o1,o2⟩:=gk_off P g J hp
     rw[o1,o2]
     refine Tr.all_ite (fun hc=>?_) (fun hc=>?_)
     · repeat' first | (refine Tr.all_ite (fun hc=>?_) (fun hc=>?_)<;>(try simp (disch:=omega) only[nV,nW] at hc)<;>try omega) | (refine Tr.all_req ?_ ?_;· (try simp (disch:=omega) only[nV,nW]);try omega) | (refine Tr.all_reqP ?_ ?_;· first | exact trivial | rfl | exact ⟨rfl,rfl⟩ | exact ⟨rfl,rfl,rfl⟩ | (simp (disch:=omega) only[nV,nW];done) | ((try simp (disch:=omega) only[nV,nW]);omega)) | fail
       all_goals first
        | exact q1
        | (refine Tr.all_reqP q1 ?_
           repeat' first | (refine Tr.all_ite (fun hc=>?_) (fun hc=>?_)<;>(try simp (disch:=omega) only[nV,nW] at hc)<;>try omega) | (refine Tr.all_req ?_ ?_;· (try simp (disch:=omega) only[nV,nW]);try omega) | (refine Tr.all_reqP ?_ ?_;· first | exact trivial | rfl | exact ⟨rfl,rfl⟩ | exact ⟨rfl,rfl,rfl⟩ | (simp (disch:=omega) only[nV,nW];done) | ((try simp (disch:=omega) only[nV,nW]);omega)) | fail
           all_goals exact Tr.all_ok ⟨rfl,rfl⟩)
        | fail
     · simp (disch:=omega) only[nV,nW] at hc;omega
   | false =>
     have o1:=gk_on P g J hp
     have o2:(kpt P g (J+1)).length=(kpt P g J).length+1:=by
      show (if P (g J)=true then kpt P g J else kpt P g J++[g J]).length=_
      rw[hp,if_neg (by decide),List.length_append];rfl
     rw[o1,o2]
     refine Tr.all_ite (fun hc=>?_) (fun hc=>?_)
     · repeat' first | (refine Tr.all_ite (fun hc=>?_) (fun hc=>?_)<;>(try simp (disch:=omega) only[nV,nW] at hc)<;>try omega) | (refine Tr.all_req ?_ ?_;· (try simp (disch:=omega) only[nV,nW]);try omega) | (refine Tr.all_reqP ?_ ?_;· first | exact trivial | rfl | exact ⟨rfl,rfl⟩ | exact ⟨rfl,rfl,rfl⟩ | (simp (disch:=omega) only[nV,nW];done) | ((try simp (disch:=omega) only[nV,nW]);omega)) | fail
       all_goals first
        | exact q1
        | (refine Tr.all_reqP q1 ?_
           repeat' first | (refine Tr.all_ite (fun hc=>?_) (fun hc=>?_)<;>(try simp (disch:=omega) only[nV,nW] at hc)<;>try omega) | (refine Tr.all_req ?_ ?_;· (try simp (disch:=omega) only[nV,nW]);try omega) | (refine Tr.all_reqP ?_ ?_;· first | exact trivial | rfl | exact ⟨rfl,rfl⟩ | exact ⟨rfl,rfl,rfl⟩ | (simp (disch:=omega) only[nV,nW];done) | ((try simp (disch:=omega) only[nV,nW]);omega)) | fail
           all_goals exact Tr.all_ok ⟨rfl,rfl⟩)
        | fail
     · simp (disch:=omega) only[nV,nW] at hc;omega
 · rw[show r+1+(m-(r+1))=m by omega]
   obtain ⟨x,h1,rfl⟩:=ex_all (Q:=fun x=>x=(.exit 0,fr67b m ((kpt P g m).length:Int) (Int.ofNat m)++[(19,.bool false)],lvE::lvb b0 b1 b2 b3 b4 b5 b6 m (gk P g m)::H)) (t67b n P Q b0 b1 b2 b3 b4 b5 b6 m (gk P g m) H ((kpt P g m).length:Int) (Int.ofNat m)) (il_ok _ n 0 (fun k=>ctC_ok (hQ k))) (noBT_ok _ _) (noRT_ok _ _) (by
    refine Tr.all_ite (fun hc=>?_) (fun hc=>Tr.all_ok rfl)
    simp (disch:=omega) only[nV,nW] at hc;omega)
   exact h1
theorem c67b (hQ:∀ k x C H,Q x C H→cd (n+k) (.fn 87) (.int .i64 x::C) H=some (.bool (P x),H)) (hm:m≤1000) (h1:∀ j g',j<m→Q (g j) [.ptr 1 0 0 0,.ptr 1 3 0 0] (lvE::lvb b0 b1 b2 b3 b4 b5 b6 m g'::H)) (h2:∀ j,j<m→Q (g j) [.ptr 2 0 0 0,.ptr 2 3 0 0] (lvE::lvE::lvb b0 b1 b2 b3 b4 b5 b6 m g::H)) :
 ∃ g',cd (n+2) (.fn 67) [.slc 0 7 0 0 1 m none,.fn (.func 87) [] [.ptr 0 0 0 0,.ptr 0 3 0 0]] (lvb b0 b1 b2 b3 b4 b5 b6 m g::H)=some (.slc 0 7 0 0 1 (kpt P g m).length none,lvb b0 b1 b2 b3 b4 b5 b6 m g'::H)∧∀ x,x<(kpt P g m).length→g' x=(kpt P g m).getD x 0:=by
 have hc:∀ k,cd (n+1+k) (.fn 88) [.slc 1 7 0 0 1 m none,.fn (.func 87) [] [.ptr 1 0 0 0,.ptr 1 3 0 0]] (lvE::lvb b0 b1 b2 b3 b4 b5 b6 m g::H)=some (.int .i64 (ixF (fun j=>P (g j)) m),lvE::lvb b0 b1 b2 b3 b4 b5 b6 m g::H):=fun k=>by
  have:=c88b (n+k) P Q b0 b1 b2 b3 b4 b5 b6 m g H (fun k2=>by rw[Nat.add_assoc];exact hQ _) hm h2
  rwa [show n+k+1=n+1+k by omega] at this
 cases he:exN (fun j=>P (g j)) m with
 | true =>
   have hi:ixF (fun j=>P (g j)) m=(fN (fun j=>P (g j)) m 0:Nat):=by unfold ixF;rw[if_pos he]
   have hlt:=exN_true he
   obtain ⟨_,_,s3,s4⟩:=fN_spec (fun j=>P (g j)) m 0
   have s4:=s4 (by omega)
   rw[hi] at hc
   generalize fN (fun j=>P (g j)) m 0=r at *
   have hl:=l67b (n+1) P Q b0 b1 b2 b3 b4 b5 b6 m g H r (fun k=>by rw[Nat.add_assoc];exact hQ _) hm (fun j g' hj=>h1 j g' hj) hlt (fun i hi=>s3 i (by omega) hi) s4
   have hk:(kpt P g m).length<m:=by
    obtain ⟨k1,_⟩:=kp_off P g r (fun i hi=>s3 i (by omega) hi) s4
    have:=kp_mono P g (r+1) (m-(r+1))
    rw[show r+1+(m-(r+1))=m by omega] at this
    omega
   refine ⟨copO (gk P g m) (kpt P g m).length (fun x=>Int.ofNat 0) (m-(kpt P g m).length),?_,fun x hx=>?_⟩
   · refine fn_all (n:=n+1) Tryz.func67 rfl rfl rfl (u67b (n+1) b0 b1 b2 b3 b4 b5 b6 m g (gk P g m) H (r:Int) ((kpt P g m).length:Int)) (il_ok _ (n+1) 0 (fun k=>ctE_ok (noCt_ok _) (fun x hx=>by rw[← Tr.ok_some hx];exact hc k))) (blkE_ok (noBT_ok _ _) b67 (fun x hx=>by rw[← Tr.ok_some hx];simp only[Res.st,hints_eq];exact hl)) (noRT_ok _ _) ?_
     have e3:toN ((kpt P g m).length:Int)=(kpt P g m).length:=toN_eq _
     rw[e3,addO_eq,Nat.zero_add,subO_eq]
     repeat' first | (refine Tr.all_ite (fun hc=>?_) (fun hc=>?_)<;>(try simp (disch:=omega) only[nV,nW] at hc)<;>try omega) | (refine Tr.all_req ?_ ?_;· (try simp (disch:=omega) only[nV,nW]);try omega) | (refine Tr.all_reqP ?_ ?_;· first | exact trivial | rfl | exact ⟨rfl,rfl⟩ | exact ⟨rfl,rfl,rfl⟩ | (simp (disch:=omega) only[nV,nW];done) | ((try simp (disch:=omega) only[nV,nW]);omega)) | fail
     all_goals first
      | exact Tr.all_reqP ⟨rfl,rfl⟩ (by
         repeat' first | (refine Tr.all_ite (fun hc=>?_) (fun hc=>?_)<;>(try simp (disch:=omega) only[nV,nW] at hc)<;>try omega) | (refine Tr.all_req ?_ ?_;· (try simp (disch:=omega) only[nV,nW]);try omega) | (refine Tr.all_reqP ?_ ?_;· first | exact trivial | rfl | exact ⟨rfl,rfl⟩ | exact ⟨rfl,rfl,rfl⟩ | (simp (disch:=omega) only[nV,nW];done) | ((try simp (disch:=omega) only[nV,nW]);omega)) | fail
         all_goals first
          | exact Tr.all_ok ⟨rfl,rfl⟩
          | fail)
      | exact Tr.all_ok ⟨rfl,rfl⟩
      | fail
   · rw[copO_eq];unfold copZ
     rw[if_neg (by omega)]
     unfold gk;rw[if_pos hx]
 | false =>
   have hi:ixF (fun j=>P (g j)) m=-1:=by unfold ixF;rw[if_neg (by rw[he];decide)]
   rw[hi] at hc
   have hn:=exN_false he
   obtain ⟨_,_,s3,_⟩:=fN_spec (fun j=>P (g j)) m 0
   obtain ⟨k1,k2⟩:=kp_no P g m (fun i hi=>s3 i (by omega) (by omega))
   refine ⟨g,?_,fun x hx=>(k2 x (by omega)).symm⟩
   rw[k1]
   refine fn_all (n:=n+1) Tryz.func67 rfl rfl rfl (u67xb (n+1) b0 b1 b2 b3 b4 b5 b6 m g H) (il_ok _ (n+1) 0 (fun k=>ctE_ok (noCt_ok _) (fun x hx=>by rw[← Tr.ok_some hx];exact hc k))) (stopB_ok (noBT_ok _ _) 0) (noRT_ok _ _) ?_
   repeat' first | (refine Tr.all_ite (fun hc=>?_) (fun hc=>?_)<;>(try simp (disch:=omega) only[nV,nW] at hc)<;>try omega) | (refine Tr.all_req ?_ ?_;· (try simp (disch:=omega) only[nV,nW]);try omega) | (refine Tr.all_reqP ?_ ?_;· first | exact trivial | rfl | exact ⟨rfl,rfl⟩ | exact ⟨rfl,rfl,rfl⟩ | (simp (disch:=omega) only[nV,nW];done) | ((try simp (disch:=omega) only[nV,nW]);omega)) | fail
   all_goals first
    | exact Tr.all_ok ⟨rfl,rfl⟩
    | fail
end
section
variable (n:Nat) (P:Int→Bool) (Q:Int→List AV→Heap→Prop) (b0:Nat×Blk) (m:Nat) (g:Nat→Int) (H:Heap)
end
section
variable (n:Nat) (P:Int→Bool) (Q:Int→List AV→Heap→Prop) (b0 b1:Nat×Blk) (m:Nat) (g:Nat→Int) (H:Heap)
end
end Go.Eng
