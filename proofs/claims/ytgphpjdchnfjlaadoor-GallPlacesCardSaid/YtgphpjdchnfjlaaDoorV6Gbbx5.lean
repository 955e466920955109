/- Gall: a right block: a round of its inner loop, trees. -/
import Derived.Test.YtgphpjdchnfjlaaDoorV6Gahx19
set_option linter.unusedVariables false
set_option linter.unusedSimpArgs false
set_option maxRecDepth 100000
section
namespace Go.Eng
open Int (ofNat)
open Go.Proofs Go.Eng.Gall
theorem Ol (n:Nat) (O:Int) (U:Nat) (Z:Nat→Int) (V:Nat) (J:Nat→Int) (W B:Nat→Int) (H:ab) (q:Nat→Int) (i k:Int) (f t:Int) (m:Nat) (y:Nat→Int):aS (bQ n 65 128) (il aF n 0) (cV aR 4 (gk (shR O U Z V J W B) false U i k (ofNat 0)) (yx q f t .nils (q (aw 0 i 2)) (q (au (aw 0 k 2) 1))::H) (.ok (.normal,hints (gk (shR O U Z V J W B) false U i k (ofNat U)++[(48,.bool false)]),yx q f t .nils (q (aw 0 i 2)) (q (au (aw 0 k 2) 1))::H))) aQ (part Tryd.f65 [1,0,1,1,1,1,0,1,0,0,1,1,0,0,1,1,0,0]) (hints (ie (shR O U Z V J W B) false U i k)) (eZ q f t .nils::H) =
 (fun (Z0:bG)=>((fun (Z1:aH)=>((fun (Z2:aC)=>Tr.ite (bM k (ofNat U)) (Tr.req (c6 i 10) (Tr.req (cg 0 0) (Tr.req (cK (aw 0 i 2) 20) (Tr.req (c6 k 10) (Tr.req (cg 0 0) (Tr.req (cK (au (aw 0 k 2) 1) 20) (Tr.req (bV (fp 0 0) (fp 0 1)) (Tr.reqP (Z2=Z2∧Z0::H=Z0::H) (Tr.ite false (Tr.ite (bM f (q (aw 0 i 2))) (Tr.ok (Ex.exit 1,[(0,shV O U Z V J W B,none),(2,AV.ptr 0 0 0 0,none),(4,AV.ptr 0 1 0 0,none),(5,AV.ptr 0 2 0 0,none),(6,AV.bool false,none),(7,AV.int .i64 i,none),(9,AV.ptr 0 3 0 0,none),(19,iI U,none),(20,AV.int .i64 i,none),(28,iI U,none),(29,AV.int .i64 k,none),(87,AV.bool true,some 1)],Z0::H)) (Tr.ite (bF false) (Tr.ok (Ex.normal,Z1,Z0::H)) (Tr.ite (bM (q (aw 0 i 2)) f) (Tr.ok (Ex.normal,Z1,Z0::H)) (Tr.ite (bM (q (au (aw 0 k 2) 1)) t) (Tr.ok (Ex.normal,Z1,Z0::H)) (Tr.ok (Ex.normal,Z1,Z0::H)))))) (Tr.ite (bF false) (Tr.ok (Ex.normal,Z1,Z0::H)) (Tr.ite (bM (q (aw 0 i 2)) f) (Tr.ok (Ex.normal,Z1,Z0::H)) (Tr.ite (bM (q (au (aw 0 k 2) 1)) t) (Tr.ok (Ex.normal,Z1,Z0::H)) (Tr.ok (Ex.normal,Z1,Z0::H)))))))))))))) (Tr.ok (Ex.exit 2,[(0,shV O U Z V J W B,none),(2,AV.ptr 0 0 0 0,none),(4,AV.ptr 0 1 0 0,none),(5,AV.ptr 0 2 0 0,none),(6,AV.bool false,none),(7,AV.int .i64 i,none),(19,iI U,none),(20,AV.int .i64 i,none),(28,iI U,none),(29,AV.int .i64 k,none),(30,AV.bool false,some 1)],(bz [(0,an.row (Row.G [iI 0,iI 0,AV.nils])),(0,an.row (rM q 20)),(0,an.row (Row.G [AV.int .i64 f,AV.int .i64 t,AV.nils]))])::H))) [(0,shV O U Z V J W B),(2,AV.ptr 0 0 0 0),(4,AV.ptr 0 1 0 0),(5,AV.ptr 0 2 0 0),(6,AV.bool false),(7,AV.int .i64 i),(9,AV.ptr 0 3 0 0),(19,iI U),(20,AV.int .i64 i),(28,iI U),(29,AV.int .i64 k),(46,iI U),(47,iI 0)])) [(0,shV O U Z V J W B,none),(2,AV.ptr 0 0 0 0,none),(4,AV.ptr 0 1 0 0,none),(5,AV.ptr 0 2 0 0,none),(6,AV.bool false,none),(7,AV.int .i64 i,none),(19,iI U,none),(20,AV.int .i64 i,none),(28,iI U,none),(29,AV.int .i64 (bm .i64 k (ofNat 1)),none)])) (bz [(0,an.row (Row.G [iI 0,iI 0,AV.nils])),(0,an.row (rM q 20)),(0,an.row (Row.G [AV.int .i64 f,AV.int .i64 t,AV.nils])),(0,an.row (Row.G [AV.int .i64 (q (aw 0 i 2)),AV.int .i64 (q (au (aw 0 k 2) 1)),AV.nils]))]):=by kernel_rfl
theorem Om (n:Nat) (O:Int) (U:Nat) (Z:Nat→Int) (V:Nat) (J:Nat→Int) (W B:Nat→Int) (H:ab) (q:Nat→Int) (i k:Int) (f t:Int) (m:Nat) (y:Nat→Int) (g:Nat) (x:Nat→Int):aS (bQ n 65 128) (il aF n 0) (cV aR 4 (gk (shR O U Z V J W B) false U i k (ofNat 0)) (yx q f t .nils (q (aw 0 i 2)) (q (au (aw 0 k 2) 1))::H) (.ok (.normal,hints (gk (shR O U Z V J W B) false U i k (ofNat U)++[(48,.bool false)]),Bj q f t .nils (q (aw 0 i 2)) (q (au (aw 0 k 2) 1)) g x::H))) aQ (part Tryd.f65 [1,0,1,1,1,1,0,1,0,0,1,1,0,0,1,1,0,0]) (hints (ie (shR O U Z V J W B) false U i k)) (eZ q f t .nils::H) =
 (fun (Z0:bG)=>((fun (Z1:aH)=>((fun (Z2:bG)=>((fun (Z3:aH)=>((fun (Z4:aC)=>((fun (Z5:bG)=>Tr.ite (bM k (ofNat U)) (Tr.req (c6 i 10) (Tr.req (cg 0 0) (Tr.req (cK (aw 0 i 2) 20) (Tr.req (c6 k 10) (Tr.req (cg 0 0) (Tr.req (cK (au (aw 0 k 2) 1) 20) (Tr.req (bV (fp 0 0) (fp 0 1)) (Tr.reqP (Z4=Z4∧Z5::H=Z5::H) (Tr.ite false (Tr.ite (bM f (q (aw 0 i 2))) (Tr.ok (Ex.exit 1,[(0,shV O U Z V J W B,none),(2,AV.ptr 0 0 0 0,none),(4,AV.ptr 0 1 0 0,none),(5,AV.ptr 0 2 0 0,none),(6,AV.bool false,none),(7,AV.int .i64 i,none),(9,AV.ptr 0 3 0 0,none),(19,iI U,none),(20,AV.int .i64 i,none),(28,iI U,none),(29,AV.int .i64 k,none),(87,AV.bool true,some 1)],Z0::H)) (Tr.ite (bF false) (Tr.ite (bM (ofNat 0) (ofNat g)) (Tr.ite (bM (bm .i64 (bX .i64 (q (au (aw 0 k 2) 1)) (q (aw 0 i 2))) (ofNat 1)) (ofNat g)) (Tr.req (cg 0 0) (Tr.req (eD 0 g 0 g) (Tr.req (cg 0 0) (Tr.req (eD 0 g 0 g) (Tr.ok (Ex.normal,Z3,Z2::H)))))) (Tr.ok (Ex.normal,Z1,Z0::H))) (Tr.ok (Ex.normal,Z1,Z0::H))) (Tr.ite (bM (q (aw 0 i 2)) f) (Tr.ite (bM (ofNat 0) (ofNat g)) (Tr.ite (bM (bm .i64 (bX .i64 (q (au (aw 0 k 2) 1)) (q (aw 0 i 2))) (ofNat 1)) (ofNat g)) (Tr.req (cg 0 0) (Tr.req (eD 0 g 0 g) (Tr.req (cg 0 0) (Tr.req (eD 0 g 0 g) (Tr.ok (Ex.normal,Z3,Z2::H)))))) (Tr.ok (Ex.normal,Z1,Z0::H))) (Tr.ok (Ex.normal,Z1,Z0::H))) (Tr.ite (bM (q (au (aw 0 k 2) 1)) t) (Tr.ite (bM (ofNat 0) (ofNat g)) (Tr.ite (bM (bm .i64 (bX .i64 (q (au (aw 0 k 2) 1)) (q (aw 0 i 2))) (ofNat 1)) (ofNat g)) (Tr.req (cg 0 0) (Tr.req (eD 0 g 0 g) (Tr.req (cg 0 0) (Tr.req (eD 0 g 0 g) (Tr.ok (Ex.normal,Z3,Z2::H)))))) (Tr.ok (Ex.normal,Z1,Z0::H))) (Tr.ok (Ex.normal,Z1,Z0::H))) (Tr.ok (Ex.normal,Z1,Z0::H)))))) (Tr.ite (bF false) (Tr.ite (bM (ofNat 0) (ofNat g)) (Tr.ite (bM (bm .i64 (bX .i64 (q (au (aw 0 k 2) 1)) (q (aw 0 i 2))) (ofNat 1)) (ofNat g)) (Tr.req (cg 0 0) (Tr.req (eD 0 g 0 g) (Tr.req (cg 0 0) (Tr.req (eD 0 g 0 g) (Tr.ok (Ex.normal,Z3,Z2::H)))))) (Tr.ok (Ex.normal,Z1,Z0::H))) (Tr.ok (Ex.normal,Z1,Z0::H))) (Tr.ite (bM (q (aw 0 i 2)) f) (Tr.ite (bM (ofNat 0) (ofNat g)) (Tr.ite (bM (bm .i64 (bX .i64 (q (au (aw 0 k 2) 1)) (q (aw 0 i 2))) (ofNat 1)) (ofNat g)) (Tr.req (cg 0 0) (Tr.req (eD 0 g 0 g) (Tr.req (cg 0 0) (Tr.req (eD 0 g 0 g) (Tr.ok (Ex.normal,Z3,Z2::H)))))) (Tr.ok (Ex.normal,Z1,Z0::H))) (Tr.ok (Ex.normal,Z1,Z0::H))) (Tr.ite (bM (q (au (aw 0 k 2) 1)) t) (Tr.ite (bM (ofNat 0) (ofNat g)) (Tr.ite (bM (bm .i64 (bX .i64 (q (au (aw 0 k 2) 1)) (q (aw 0 i 2))) (ofNat 1)) (ofNat g)) (Tr.req (cg 0 0) (Tr.req (eD 0 g 0 g) (Tr.req (cg 0 0) (Tr.req (eD 0 g 0 g) (Tr.ok (Ex.normal,Z3,Z2::H)))))) (Tr.ok (Ex.normal,Z1,Z0::H))) (Tr.ok (Ex.normal,Z1,Z0::H))) (Tr.ok (Ex.normal,Z1,Z0::H)))))))))))))) (Tr.ok (Ex.exit 2,[(0,shV O U Z V J W B,none),(2,AV.ptr 0 0 0 0,none),(4,AV.ptr 0 1 0 0,none),(5,AV.ptr 0 2 0 0,none),(6,AV.bool false,none),(7,AV.int .i64 i,none),(19,iI U,none),(20,AV.int .i64 i,none),(28,iI U,none),(29,AV.int .i64 k,none),(30,AV.bool false,some 1)],(bz [(0,an.row (Row.G [iI 0,iI 0,AV.nils])),(0,an.row (rM q 20)),(0,an.row (Row.G [AV.int .i64 f,AV.int .i64 t,AV.nils]))])::H))) (bz [(0,an.row (Row.G [iI 0,iI 0,AV.nils])),(0,an.row (rM q 20)),(0,an.row (Row.G [AV.int .i64 f,AV.int .i64 t,AV.nils])),(0,an.row (Row.G [AV.int .i64 (q (aw 0 i 2)),AV.int .i64 (q (au (aw 0 k 2) 1)),AV.nils]))]))) [(0,shV O U Z V J W B),(2,AV.ptr 0 0 0 0),(4,AV.ptr 0 1 0 0),(5,AV.ptr 0 2 0 0),(6,AV.bool false),(7,AV.int .i64 i),(9,AV.ptr 0 3 0 0),(19,iI U),(20,AV.int .i64 i),(28,iI U),(29,AV.int .i64 k),(46,iI U),(47,iI 0)])) [(0,shV O U Z V J W B,none),(2,AV.ptr 0 0 0 0,none),(4,AV.ptr 0 1 0 0,none),(5,AV.ptr 0 2 0 0,none),(6,AV.bool true,some 1),(7,AV.int .i64 i,none),(19,iI U,none),(20,AV.int .i64 i,none),(28,iI U,none),(29,AV.int .i64 (bm .i64 k (ofNat 1)),none)])) (bz [(0,an.row (Row.G [iI 0,iI 0,AV.nils])),(0,an.row (rM q 20)),(0,an.row (Row.G [AV.int .i64 (q (aw 0 i 2)),AV.int .i64 (q (au (aw 0 k 2) 1)),cw g (rJ x 0) false])),(0,an.row (Row.G [AV.int .i64 (q (aw 0 i 2)),AV.int .i64 (q (au (aw 0 k 2) 1)),cw g (rJ x 0) false])),(0,an.dead)]))) [(0,shV O U Z V J W B,none),(2,AV.ptr 0 0 0 0,none),(4,AV.ptr 0 1 0 0,none),(5,AV.ptr 0 2 0 0,none),(6,AV.bool false,none),(7,AV.int .i64 i,none),(19,iI U,none),(20,AV.int .i64 i,none),(28,iI U,none),(29,AV.int .i64 (bm .i64 k (ofNat 1)),none)])) (bz [(0,an.row (Row.G [iI 0,iI 0,AV.nils])),(0,an.row (rM q 20)),(0,an.row (Row.G [AV.int .i64 f,AV.int .i64 t,AV.nils])),(0,an.row (Row.G [AV.int .i64 (q (aw 0 i 2)),AV.int .i64 (q (au (aw 0 k 2) 1)),AV.slc 0 4 0 0 1 g none])),(0,an.row (rM x g))]):=by kernel_rfl
theorem Ka (n:Nat) (O:Int) (U:Nat) (Z:Nat→Int) (V:Nat) (J:Nat→Int) (W B:Nat→Int) (H:ab) (q:Nat→Int) (i k:Int) (f t:Int) (m:Nat) (y:Nat→Int):aS (bQ n 65 128) (il aF n 0) (cV aR 4 (gk (shR O U Z V J W B) true U i k (ofNat 0)) (yx q f t (cw m y false) (q (aw 0 i 2)) (q (au (aw 0 k 2) 1))::H) (.ok (.normal,hints (gk (shR O U Z V J W B) true U i k (ofNat U)++[(48,.bool false)]),yx q f t (cw m y false) (q (aw 0 i 2)) (q (au (aw 0 k 2) 1))::H))) aQ (part Tryd.f65 [1,0,1,1,1,1,0,1,0,0,1,1,0,0,1,1,0,0]) (hints (ie (shR O U Z V J W B) true U i k)) (eZ q f t (cw m y false)::H) =
 (fun (Z0:bG)=>((fun (Z1:aH)=>((fun (Z2:aC)=>Tr.ite (bM k (ofNat U)) (Tr.req (c6 i 10) (Tr.req (cg 0 0) (Tr.req (cK (aw 0 i 2) 20) (Tr.req (c6 k 10) (Tr.req (cg 0 0) (Tr.req (cK (au (aw 0 k 2) 1) 20) (Tr.req (bV (fp 0 0) (fp 0 1)) (Tr.reqP (Z2=Z2∧Z0::H=Z0::H) (Tr.ite true (Tr.ite (bM f (q (aw 0 i 2))) (Tr.ok (Ex.exit 1,[(0,shV O U Z V J W B,none),(2,AV.ptr 0 0 0 0,none),(4,AV.ptr 0 1 0 0,none),(5,AV.ptr 0 2 0 0,none),(6,AV.bool true,none),(7,AV.int .i64 i,none),(9,AV.ptr 0 3 0 0,none),(19,iI U,none),(20,AV.int .i64 i,none),(28,iI U,none),(29,AV.int .i64 k,none),(87,AV.bool true,some 1)],Z0::H)) (Tr.ite (bF true) (Tr.ok (Ex.normal,Z1,Z0::H)) (Tr.ite (bM (q (aw 0 i 2)) f) (Tr.ok (Ex.normal,Z1,Z0::H)) (Tr.ite (bM (q (au (aw 0 k 2) 1)) t) (Tr.ok (Ex.normal,Z1,Z0::H)) (Tr.ok (Ex.normal,Z1,Z0::H)))))) (Tr.ite (bF true) (Tr.ok (Ex.normal,Z1,Z0::H)) (Tr.ite (bM (q (aw 0 i 2)) f) (Tr.ok (Ex.normal,Z1,Z0::H)) (Tr.ite (bM (q (au (aw 0 k 2) 1)) t) (Tr.ok (Ex.normal,Z1,Z0::H)) (Tr.ok (Ex.normal,Z1,Z0::H)))))))))))))) (Tr.ok (Ex.exit 2,[(0,shV O U Z V J W B,none),(2,AV.ptr 0 0 0 0,none),(4,AV.ptr 0 1 0 0,none),(5,AV.ptr 0 2 0 0,none),(6,AV.bool true,none),(7,AV.int .i64 i,none),(19,iI U,none),(20,AV.int .i64 i,none),(28,iI U,none),(29,AV.int .i64 k,none),(30,AV.bool false,some 1)],(bz [(0,an.row (Row.G [iI 0,iI 0,AV.nils])),(0,an.row (rM q 20)),(0,an.row (Row.G [AV.int .i64 f,AV.int .i64 t,cw m y false]))])::H))) [(0,shV O U Z V J W B),(2,AV.ptr 0 0 0 0),(4,AV.ptr 0 1 0 0),(5,AV.ptr 0 2 0 0),(6,AV.bool true),(7,AV.int .i64 i),(9,AV.ptr 0 3 0 0),(19,iI U),(20,AV.int .i64 i),(28,iI U),(29,AV.int .i64 k),(46,iI U),(47,iI 0)])) [(0,shV O U Z V J W B,none),(2,AV.ptr 0 0 0 0,none),(4,AV.ptr 0 1 0 0,none),(5,AV.ptr 0 2 0 0,none),(6,AV.bool true,none),(7,AV.int .i64 i,none),(19,iI U,none),(20,AV.int .i64 i,none),(28,iI U,none),(29,AV.int .i64 (bm .i64 k (ofNat 1)),none)])) (bz [(0,an.row (Row.G [iI 0,iI 0,AV.nils])),(0,an.row (rM q 20)),(0,an.row (Row.G [AV.int .i64 f,AV.int .i64 t,cw m y false])),(0,an.row (Row.G [AV.int .i64 (q (aw 0 i 2)),AV.int .i64 (q (au (aw 0 k 2) 1)),AV.nils]))]):=by kernel_rfl
theorem Kb (n:Nat) (O:Int) (U:Nat) (Z:Nat→Int) (V:Nat) (J:Nat→Int) (W B:Nat→Int) (H:ab) (q:Nat→Int) (i k:Int) (f t:Int) (m:Nat) (y:Nat→Int) (g:Nat) (x:Nat→Int):aS (bQ n 65 128) (il aF n 0) (cV aR 4 (gk (shR O U Z V J W B) true U i k (ofNat 0)) (yx q f t (cw m y false) (q (aw 0 i 2)) (q (au (aw 0 k 2) 1))::H) (.ok (.normal,hints (gk (shR O U Z V J W B) true U i k (ofNat U)++[(48,.bool false)]),Bj q f t (cw m y false) (q (aw 0 i 2)) (q (au (aw 0 k 2) 1)) g x::H))) aQ (part Tryd.f65 [1,0,1,1,1,1,0,1,0,0,1,1,0,0,1,1,0,0]) (hints (ie (shR O U Z V J W B) true U i k)) (eZ q f t (cw m y false)::H) =
 (fun (Z0:bG)=>((fun (Z1:aH)=>((fun (Z2:bG)=>((fun (Z3:aH)=>((fun (Z4:aC)=>((fun (Z5:bG)=>Tr.ite (bM k (ofNat U)) (Tr.req (c6 i 10) (Tr.req (cg 0 0) (Tr.req (cK (aw 0 i 2) 20) (Tr.req (c6 k 10) (Tr.req (cg 0 0) (Tr.req (cK (au (aw 0 k 2) 1) 20) (Tr.req (bV (fp 0 0) (fp 0 1)) (Tr.reqP (Z4=Z4∧Z5::H=Z5::H) (Tr.ite true (Tr.ite (bM f (q (aw 0 i 2))) (Tr.ok (Ex.exit 1,[(0,shV O U Z V J W B,none),(2,AV.ptr 0 0 0 0,none),(4,AV.ptr 0 1 0 0,none),(5,AV.ptr 0 2 0 0,none),(6,AV.bool true,none),(7,AV.int .i64 i,none),(9,AV.ptr 0 3 0 0,none),(19,iI U,none),(20,AV.int .i64 i,none),(28,iI U,none),(29,AV.int .i64 k,none),(87,AV.bool true,some 1)],Z0::H)) (Tr.ite (bF true) (Tr.ite (bM (ofNat 0) (ofNat g)) (Tr.ite (bM (bm .i64 (bX .i64 (q (au (aw 0 k 2) 1)) (q (aw 0 i 2))) (ofNat 1)) (ofNat g)) (Tr.req (cg 0 0) (Tr.req (eD 0 g 0 g) (Tr.req (cg 0 0) (Tr.req (eD 0 g 0 g) (Tr.ok (Ex.normal,Z3,Z2::H)))))) (Tr.ok (Ex.normal,Z1,Z0::H))) (Tr.ok (Ex.normal,Z1,Z0::H))) (Tr.ite (bM (q (aw 0 i 2)) f) (Tr.ite (bM (ofNat 0) (ofNat g)) (Tr.ite (bM (bm .i64 (bX .i64 (q (au (aw 0 k 2) 1)) (q (aw 0 i 2))) (ofNat 1)) (ofNat g)) (Tr.req (cg 0 0) (Tr.req (eD 0 g 0 g) (Tr.req (cg 0 0) (Tr.req (eD 0 g 0 g) (Tr.ok (Ex.normal,Z3,Z2::H)))))) (Tr.ok (Ex.normal,Z1,Z0::H))) (Tr.ok (Ex.normal,Z1,Z0::H))) (Tr.ite (bM (q (au (aw 0 k 2) 1)) t) (Tr.ite (bM (ofNat 0) (ofNat g)) (Tr.ite (bM (bm .i64 (bX .i64 (q (au (aw 0 k 2) 1)) (q (aw 0 i 2))) (ofNat 1)) (ofNat g)) (Tr.req (cg 0 0) (Tr.req (eD 0 g 0 g) (Tr.req (cg 0 0) (Tr.req (eD 0 g 0 g) (Tr.ok (Ex.normal,Z3,Z2::H)))))) (Tr.ok (Ex.normal,Z1,Z0::H))) (Tr.ok (Ex.normal,Z1,Z0::H))) (Tr.ok (Ex.normal,Z1,Z0::H)))))) (Tr.ite (bF true) (Tr.ite (bM (ofNat 0) (ofNat g)) (Tr.ite (bM (bm .i64 (bX .i64 (q (au (aw 0 k 2) 1)) (q (aw 0 i 2))) (ofNat 1)) (ofNat g)) (Tr.req (cg 0 0) (Tr.req (eD 0 g 0 g) (Tr.req (cg 0 0) (Tr.req (eD 0 g 0 g) (Tr.ok (Ex.normal,Z3,Z2::H)))))) (Tr.ok (Ex.normal,Z1,Z0::H))) (Tr.ok (Ex.normal,Z1,Z0::H))) (Tr.ite (bM (q (aw 0 i 2)) f) (Tr.ite (bM (ofNat 0) (ofNat g)) (Tr.ite (bM (bm .i64 (bX .i64 (q (au (aw 0 k 2) 1)) (q (aw 0 i 2))) (ofNat 1)) (ofNat g)) (Tr.req (cg 0 0) (Tr.req (eD 0 g 0 g) (Tr.req (cg 0 0) (Tr.req (eD 0 g 0 g) (Tr.ok (Ex.normal,Z3,Z2::H)))))) (Tr.ok (Ex.normal,Z1,Z0::H))) (Tr.ok (Ex.normal,Z1,Z0::H))) (Tr.ite (bM (q (au (aw 0 k 2) 1)) t) (Tr.ite (bM (ofNat 0) (ofNat g)) (Tr.ite (bM (bm .i64 (bX .i64 (q (au (aw 0 k 2) 1)) (q (aw 0 i 2))) (ofNat 1)) (ofNat g)) (Tr.req (cg 0 0) (Tr.req (eD 0 g 0 g) (Tr.req (cg 0 0) (Tr.req (eD 0 g 0 g) (Tr.ok (Ex.normal,Z3,Z2::H)))))) (Tr.ok (Ex.normal,Z1,Z0::H))) (Tr.ok (Ex.normal,Z1,Z0::H))) (Tr.ok (Ex.normal,Z1,Z0::H)))))))))))))) (Tr.ok (Ex.exit 2,[(0,shV O U Z V J W B,none),(2,AV.ptr 0 0 0 0,none),(4,AV.ptr 0 1 0 0,none),(5,AV.ptr 0 2 0 0,none),(6,AV.bool true,none),(7,AV.int .i64 i,none),(19,iI U,none),(20,AV.int .i64 i,none),(28,iI U,none),(29,AV.int .i64 k,none),(30,AV.bool false,some 1)],(bz [(0,an.row (Row.G [iI 0,iI 0,AV.nils])),(0,an.row (rM q 20)),(0,an.row (Row.G [AV.int .i64 f,AV.int .i64 t,cw m y false]))])::H))) (bz [(0,an.row (Row.G [iI 0,iI 0,AV.nils])),(0,an.row (rM q 20)),(0,an.row (Row.G [AV.int .i64 f,AV.int .i64 t,cw m y false])),(0,an.row (Row.G [AV.int .i64 (q (aw 0 i 2)),AV.int .i64 (q (au (aw 0 k 2) 1)),AV.nils]))]))) [(0,shV O U Z V J W B),(2,AV.ptr 0 0 0 0),(4,AV.ptr 0 1 0 0),(5,AV.ptr 0 2 0 0),(6,AV.bool true),(7,AV.int .i64 i),(9,AV.ptr 0 3 0 0),(19,iI U),(20,AV.int .i64 i),(28,iI U),(29,AV.int .i64 k),(46,iI U),(47,iI 0)])) [(0,shV O U Z V J W B,none),(2,AV.ptr 0 0 0 0,none),(4,AV.ptr 0 1 0 0,none),(5,AV.ptr 0 2 0 0,none),(6,AV.bool true,some 1),(7,AV.int .i64 i,none),(19,iI U,none),(20,AV.int .i64 i,none),(28,iI U,none),(29,AV.int .i64 (bm .i64 k (ofNat 1)),none)])) (bz [(0,an.row (Row.G [iI 0,iI 0,AV.nils])),(0,an.row (rM q 20)),(0,an.row (Row.G [AV.int .i64 (q (aw 0 i 2)),AV.int .i64 (q (au (aw 0 k 2) 1)),cw g (rJ x 0) false])),(0,an.row (Row.G [AV.int .i64 (q (aw 0 i 2)),AV.int .i64 (q (au (aw 0 k 2) 1)),cw g (rJ x 0) false])),(0,an.dead)]))) [(0,shV O U Z V J W B,none),(2,AV.ptr 0 0 0 0,none),(4,AV.ptr 0 1 0 0,none),(5,AV.ptr 0 2 0 0,none),(6,AV.bool true,none),(7,AV.int .i64 i,none),(19,iI U,none),(20,AV.int .i64 i,none),(28,iI U,none),(29,AV.int .i64 (bm .i64 k (ofNat 1)),none)])) (bz [(0,an.row (Row.G [iI 0,iI 0,AV.nils])),(0,an.row (rM q 20)),(0,an.row (Row.G [AV.int .i64 f,AV.int .i64 t,cw m y false])),(0,an.row (Row.G [AV.int .i64 (q (aw 0 i 2)),AV.int .i64 (q (au (aw 0 k 2) 1)),AV.slc 0 4 0 0 1 g none])),(0,an.row (rM x g))]):=by kernel_rfl
end Go.Eng
end
section
namespace Go.Eng
open Go.Proofs Go.Eng.Gall
theorem u9:∀ b,(4,b) ∈ aP (part Tryd.f65 [1,0,1,1,1,1,0,1,0,0,1,1,0,0,1,1,0,0])→b=.loop (part Tryd.f65 [1,0,1,1,1,1,0,1,0,0,1,1,0,0,1,1,0,0,1,1,0,0,1,1,0,1,0,0]):=eN (by kernel_rfl)
def xy (q:Nat→Int) (F T:Int) (c:Nat):Bool:=decide (F≤q (2*c)) && decide (q (2*c+1)≤T)
def dN (q:Nat→Int) (F T:Int):Nat→List Int
 | 0=>[]
 | c+1=>if xy q F T c=true then dN q F T c++[(c:Int)] else dN q F T c
theorem oY (q:Nat→Int) (F T:Int):∀ j,(dN q F T j).length≤j
 | 0=>Nat.le_refl 0
 | j+1=>by
   have:=oY q F T j;unfold dN;split
   · rw[List.length_append,List.length_singleton];omega
   · omega
noncomputable def Ej (q:Nat→Int) (f t:Int) (A:AV) (F T:Int):List Int→bG
 | []=>yx q f t A F T
 | a::r=>Bj q f t A F T (r.length+1) (aI (a::r))
section
variable (n:Nat) (H:ab) (q:Nat→Int) (R:Row) (u:Bool) (f t:Int) (m:Nat) (y:Nat→Int) (U:Nat) (i k F T:Int)
theorem O1 (hl:U≤10) (c:Nat) (hc:c<U) (L:List Int) (hL:L.length≤1000) :
 ∃ x,exec (bQ n 65 128) (part Tryd.f65 [1,0,1,1,1,1,0,1,0,0,1,1,0,0,1,1,0,0,1,1,0,0,1,1,0,1,0,0]) (gk R u U i k (c:Int)) (Ej q f t .nils F T L::H)=some x∧x.1=.normal∧tidy 4 x.2.1 x.2.2=(gk R u U i k ((c+1:Nat):Int),Ej q f t .nils F T (if xy q F T c=true then L++[(c:Int)] else L)::H):=by
 have e1:bm .i64 (c:Int) (Int.ofNat 1)=((c+1:Nat):Int):=eX wO
 have ei:aw 0 (c:Int) 2=2*c:=by rw[bJ];omega
 cases L with
 | nil =>
   have T0:=Kj n H q R u f t 0 q U i k (c:Int) F T
   rw[e1,ei,aM] at T0
   refine aB T0 (ay _) (aj _ _) (ak _ _) ?_
   refine Tr.af (fun h0=>?_) wJ
   refine Tr.aa wG (Tr.aa wG (Tr.aa wG (Tr.af (fun q1=>Tr.aa wG (Tr.aa wG (Tr.aa wG (Tr.af (fun q2=>?_) (fun q2=>Tr.ag ?_))))) (fun q1=>Tr.ag ?_))))
   all_goals rw[bh] at q1
   · rw[bh] at q2
     rw[if_pos (by unfold xy;rw[q1,q2];rfl)]
     refine Tr.aa wG (Tr.aa wG (Tr.aa wG (Tr.aa wG (Tr.aa wG (Tr.ag ⟨rfl,rfl⟩)))))
   · rw[bh] at q2
     rw[if_neg (by unfold xy;rw[q1,q2];decide)];exact ⟨rfl,rfl⟩
   · rw[if_neg (by unfold xy;rw[q1];simp)];exact ⟨rfl,rfl⟩
 | cons a r =>
   simp only[List.length_cons] at hL
   have e2:=mS (a::r) (c:Int)
   simp only[List.length_cons] at e2
   have e3:au (r.length+1) 1=r.length+1+1:=by rw[aM]
   have e4:bY (Int.ofNat (r.length+1))=r.length+1:=by rw[jV];rfl
   have T0:=Kk n H q R u f t 0 q U i k (c:Int) F T (r.length+1) (aI (a::r))
   rw[e1,e4,e3,e2,ei,aM] at T0
   refine aB T0 (ay _) (aj _ _) (ak _ _) ?_
   refine Tr.af (fun h0=>?_) wJ
   refine Tr.aa wG (Tr.aa wG (Tr.aa wG (Tr.af (fun q1=>Tr.aa wG (Tr.aa wG (Tr.aa wG (Tr.af (fun q2=>?_) (fun q2=>Tr.ag ?_))))) (fun q1=>Tr.ag ?_))))
   all_goals rw[bh] at q1
   · rw[bh] at q2
     rw[if_pos (by unfold xy;rw[q1,q2];rfl)]
     have er:(r++[(c:Int)]).length=r.length+1:=by rw[List.length_append,List.length_singleton]
     have el:Ej q f t .nils F T (a::r++[(c:Int)])=Bj q f t .nils F T (r.length+1+1) (aI (a::r++[(c:Int)])):=by show Bj _ _ _ _ _ _ ((r++[(c:Int)]).length+1) (aI (a::(r++[(c:Int)])))=_;rw[er];rfl
     rw[el]
     generalize aI (a::r++[(c:Int)])=Y at *
     refine Tr.aa wG (Tr.aa wG (Tr.aa wG (Tr.aa wG (Tr.aa wG (Tr.af (fun q4=>?_) wJ)))))
     exact Tr.aa wG (Tr.aa wG (Tr.aa wG (Tr.ag ⟨rfl,rfl⟩)))
   · rw[bh] at q2
     rw[if_neg (by unfold xy;rw[q1,q2];decide)];exact ⟨rfl,rfl⟩
   · rw[if_neg (by unfold xy;rw[q1];simp)];exact ⟨rfl,rfl⟩
theorem Ro (hl:U≤10):exec (bQ n 65 128) (.block 4 (.loop (part Tryd.f65 [1,0,1,1,1,1,0,1,0,0,1,1,0,0,1,1,0,0,1,1,0,0,1,1,0,1,0,0]))) (gk R u U i k (Int.ofNat 0)) (yx q f t .nils F T::H)=some (.normal,gk R u U i k (U:Int)++[(48,.bool false)],Ej q f t .nils F T (dN q F T U)::H):=by
 refine ig (n:=n) (f:=65) (nt:=128) (c:=part Tryd.f65 [1,0,1,1,1,1,0,1,0,0,1,1,0,0,1,1,0,0,1,1,0,0,1,1,0,1,0,0]) 4 (fun c=>gk R u U i k (c:Int)) (fun c=>Ej q f t .nils F T (dN q F T c)::H) U (gk R u U i k (U:Int)++[(48,.bool false)],Ej q f t .nils F T (dN q F T U)::H) wO (fun c hc=>?_) ?_
 · exact O1 n H q R u f t U i k F T hl c hc (dN q F T c) (by have:=oY q F T c;omega)
 · generalize dN q F T U=L;cases L with
   | nil =>
     obtain ⟨x,h1,rfl⟩:=aB (Q:=fun x=>x=(.exit 4,gk R u U i k (U:Int)++[(48,.bool false)],yx q f t .nils F T::H)) (Kj n H q R u f t 0 q U i k (U:Int) F T) (ay _) (aj _ _) (ak _ _) (by
      refine Tr.af wJ (fun h0=>Tr.ag rfl))
     exact h1
   | cons a r =>
     obtain ⟨x,h1,rfl⟩:=aB (Q:=fun x=>x=(.exit 4,gk R u U i k (U:Int)++[(48,.bool false)],Bj q f t .nils F T (r.length+1) (aI (a::r))::H)) (Kk n H q R u f t 0 q U i k (U:Int) F T (r.length+1) (aI (a::r))) (ay _) (aj _ _) (ak _ _) (by
      refine Tr.af wJ (fun h0=>Tr.ag rfl))
     exact h1
theorem O2 (hl:U≤10) (c:Nat) (hc:c<U) (L:List Int) (hL:L.length≤1000) :
 ∃ x,exec (bQ n 65 128) (part Tryd.f65 [1,0,1,1,1,1,0,1,0,0,1,1,0,0,1,1,0,0,1,1,0,0,1,1,0,1,0,0]) (gk R u U i k (c:Int)) (Ej q f t (cw m y false) F T L::H)=some x∧x.1=.normal∧tidy 4 x.2.1 x.2.2=(gk R u U i k ((c+1:Nat):Int),Ej q f t (cw m y false) F T (if xy q F T c=true then L++[(c:Int)] else L)::H):=by
 have e1:bm .i64 (c:Int) (Int.ofNat 1)=((c+1:Nat):Int):=eX wO
 have ei:aw 0 (c:Int) 2=2*c:=by rw[bJ];omega
 cases L with
 | nil =>
   have T0:=Kl n H q R u f t m y U i k (c:Int) F T
   rw[e1,ei,aM] at T0
   refine aB T0 (ay _) (aj _ _) (ak _ _) ?_
   refine Tr.af (fun h0=>?_) wJ
   refine Tr.aa wG (Tr.aa wG (Tr.aa wG (Tr.af (fun q1=>Tr.aa wG (Tr.aa wG (Tr.aa wG (Tr.af (fun q2=>?_) (fun q2=>Tr.ag ?_))))) (fun q1=>Tr.ag ?_))))
   all_goals rw[bh] at q1
   · rw[bh] at q2
     rw[if_pos (by unfold xy;rw[q1,q2];rfl)]
     refine Tr.aa wG (Tr.aa wG (Tr.aa wG (Tr.aa wG (Tr.aa wG (Tr.ag ⟨rfl,rfl⟩)))))
   · rw[bh] at q2
     rw[if_neg (by unfold xy;rw[q1,q2];decide)];exact ⟨rfl,rfl⟩
   · rw[if_neg (by unfold xy;rw[q1];simp)];exact ⟨rfl,rfl⟩
 | cons a r =>
   simp only[List.length_cons] at hL
   have e2:=mS (a::r) (c:Int)
   simp only[List.length_cons] at e2
   have e3:au (r.length+1) 1=r.length+1+1:=by rw[aM]
   have e4:bY (Int.ofNat (r.length+1))=r.length+1:=by rw[jV];rfl
   have T0:=Km n H q R u f t m y U i k (c:Int) F T (r.length+1) (aI (a::r))
   rw[e1,e4,e3,e2,ei,aM] at T0
   refine aB T0 (ay _) (aj _ _) (ak _ _) ?_
   refine Tr.af (fun h0=>?_) wJ
   refine Tr.aa wG (Tr.aa wG (Tr.aa wG (Tr.af (fun q1=>Tr.aa wG (Tr.aa wG (Tr.aa wG (Tr.af (fun q2=>?_) (fun q2=>Tr.ag ?_))))) (fun q1=>Tr.ag ?_))))
   all_goals rw[bh] at q1
   · rw[bh] at q2
     rw[if_pos (by unfold xy;rw[q1,q2];rfl)]
     have er:(r++[(c:Int)]).length=r.length+1:=by rw[List.length_append,List.length_singleton]
     have el:Ej q f t (cw m y false) F T (a::r++[(c:Int)])=Bj q f t (cw m y false) F T (r.length+1+1) (aI (a::r++[(c:Int)])):=by show Bj _ _ _ _ _ _ ((r++[(c:Int)]).length+1) (aI (a::(r++[(c:Int)])))=_;rw[er];rfl
     rw[el]
     generalize aI (a::r++[(c:Int)])=Y at *
     refine Tr.aa wG (Tr.aa wG (Tr.aa wG (Tr.aa wG (Tr.aa wG (Tr.af (fun q4=>?_) wJ)))))
     exact Tr.aa wG (Tr.aa wG (Tr.aa wG (Tr.ag ⟨rfl,rfl⟩)))
   · rw[bh] at q2
     rw[if_neg (by unfold xy;rw[q1,q2];decide)];exact ⟨rfl,rfl⟩
   · rw[if_neg (by unfold xy;rw[q1];simp)];exact ⟨rfl,rfl⟩
theorem Ou (hl:U≤10):exec (bQ n 65 128) (.block 4 (.loop (part Tryd.f65 [1,0,1,1,1,1,0,1,0,0,1,1,0,0,1,1,0,0,1,1,0,0,1,1,0,1,0,0]))) (gk R u U i k (Int.ofNat 0)) (yx q f t (cw m y false) F T::H)=some (.normal,gk R u U i k (U:Int)++[(48,.bool false)],Ej q f t (cw m y false) F T (dN q F T U)::H):=by
 refine ig (n:=n) (f:=65) (nt:=128) (c:=part Tryd.f65 [1,0,1,1,1,1,0,1,0,0,1,1,0,0,1,1,0,0,1,1,0,0,1,1,0,1,0,0]) 4 (fun c=>gk R u U i k (c:Int)) (fun c=>Ej q f t (cw m y false) F T (dN q F T c)::H) U (gk R u U i k (U:Int)++[(48,.bool false)],Ej q f t (cw m y false) F T (dN q F T U)::H) wO (fun c hc=>?_) ?_
 · exact O2 n H q R u f t m y U i k F T hl c hc (dN q F T c) (by have:=oY q F T c;omega)
 · generalize dN q F T U=L;cases L with
   | nil =>
     obtain ⟨x,h1,rfl⟩:=aB (Q:=fun x=>x=(.exit 4,gk R u U i k (U:Int)++[(48,.bool false)],yx q f t (cw m y false) F T::H)) (Kl n H q R u f t m y U i k (U:Int) F T) (ay _) (aj _ _) (ak _ _) (by
      refine Tr.af wJ (fun h0=>Tr.ag rfl))
     exact h1
   | cons a r =>
     obtain ⟨x,h1,rfl⟩:=aB (Q:=fun x=>x=(.exit 4,gk R u U i k (U:Int)++[(48,.bool false)],Bj q f t (cw m y false) F T (r.length+1) (aI (a::r))::H)) (Km n H q R u f t m y U i k (U:Int) F T (r.length+1) (aI (a::r))) (ay _) (aj _ _) (ak _ _) (by
      refine Tr.af wJ (fun h0=>Tr.ag rfl))
     exact h1
end
end Go.Eng
end
section
namespace Go.Eng
open Go.Proofs Go.Eng.Gall
def tw (q:Nat→Int) (U:Nat) (F T:Int):Bool:=decide (0<(dN q F T U).length) && decide (T-F+1<((dN q F T U).length:Int))
def Ng:Option (Int×Int)→Int→Int→Bool
 | none,_,_=>true
 | some (f,t),F,T=>decide (F<f) || decide (T<t)
def EB (q:Nat→Int) (U:Nat) (F:Int) (b:Option (Int×Int)) (T:Int):Option (Int×Int):=if (Ng b F T && tw q U F T)=true then some (F,T) else b
def xw (q:Nat→Int) (U:Nat) (F:Int) (b:Option (Int×Int)):Nat→Option (Int×Int)
 | 0=>b
 | k+1=>EB q U F (xw q U F b k) (q (2*k+1))
def EK:Option (Int×Int)→Int→Bool
 | none,_=>false
 | some (f,_),F=>decide (f<F)
def jg (q:Nat→Int) (U:Nat):Nat→Option (Int×Int)
 | 0=>none
 | i+1=>if EK (jg q U i) (q (2*i))=true then jg q U i else xw q U (q (2*i)) (jg q U i) U
def jL (P:Int→Int→Prop):Option (Int×Int)→Prop
 | none=>∀ F T,¬ P F T
 | some (f,t)=>P f t∧∀ F T,P F T→f<F∨(f=F∧t≤T)
theorem iA {P Q:Int→Int→Prop} (h:∀ F T,P F T↔Q F T) {b:Option (Int×Int)}:jL P b↔jL Q b:=by
 have:P=Q:=funext fun F=>funext fun T=>propext (h F T);rw[this]
theorem Gb {q:Nat→Int} {U:Nat} {F:Int} {b:Option (Int×Int)} (h:EK b F=false):∀ k,EK (xw q U F b k) F=false
 | 0=>h
 | k+1=>by
   unfold xw EB;split
   · exact decide_eq_false (Int.lt_irrefl _)
   · exact Gb h k
theorem Hj {P:Int→Int→Prop} {q:Nat→Int} {U:Nat} {F T:Int} {b:Option (Int×Int)} (hb:jL P b) (hg:EK b F=false):jL (fun x y=>P x y∨(x=F∧y=T∧tw q U F T=true)) (EB q U F b T):=by
 unfold EB;by_cases ho:tw q U F T=true
 · cases b with
   | none =>
     rw[if_pos (by rw[ho];rfl)];refine ⟨.inr ⟨rfl,rfl,ho⟩,?_⟩;rintro x y (h | ⟨rfl,rfl,_⟩)
     · exact absurd h (hb x y)
     · exact .inr ⟨rfl,Int.le_refl _⟩
   | some v =>
     obtain ⟨f,t⟩:=v;obtain ⟨h1,h2⟩:=hb;have hg:¬ f<F:=of_decide_eq_false hg;by_cases hc:F<f∨T<t
     · rw[if_pos (by rw[ho,Bool.and_true];show (decide (F<f) || decide (T<t))=true;simpa using hc)];refine ⟨.inr ⟨rfl,rfl,ho⟩,?_⟩;rintro x y (h | ⟨rfl,rfl,_⟩)
       · have:=h2 x y h;omega
       · exact .inr ⟨rfl,Int.le_refl _⟩
     · rw[if_neg (by rw[ho,Bool.and_true];show ¬ (decide (F<f) || decide (T<t))=true;simpa using hc)];refine ⟨.inl h1,?_⟩;rintro x y (h | ⟨rfl,rfl,_⟩)
       · exact h2 x y h
       · omega
 · rw[if_neg (by simp[ho])];exact (iA (fun x y=>⟨fun h=>.inl h,fun h=>h.elim id fun h=>absurd h.2.2 ho⟩)).1 hb
theorem yg {P:Int→Int→Prop} {q:Nat→Int} {U:Nat} {F:Int} {b:Option (Int×Int)} (hb:jL P b) (hg:EK b F=false):∀ k,jL (fun x y=>P x y∨(x=F∧∃ j,j<k∧y=q (2*j+1)∧tw q U F y=true)) (xw q U F b k)
 | 0=>(iA (fun x y=>⟨fun h=>.inl h,fun h=>h.elim id fun ⟨_,j,h,_⟩=>absurd h (Nat.not_lt_zero j)⟩)).1 hb
 | k + 1=>by
   have:=Hj (q:=q) (U:=U) (F:=F) (T:=q (2*k+1)) (b:=xw q U F b k) (yg (q:=q) (U:=U) hb hg k) (Gb (q:=q) (U:=U) hg k);refine (iA (fun x y=>?_)).1 this;constructor
   · rintro ((h | ⟨h1,j,h2,h3,h4⟩) | ⟨rfl,rfl,h3⟩)
     · exact .inl h
     · exact .inr ⟨h1,j,by omega,h3,h4⟩
     · exact .inr ⟨rfl,k,by omega,rfl,h3⟩
   · rintro (h | ⟨rfl,j,h2,rfl,h4⟩)
     · exact .inl (.inl h)
     · by_cases e:j=k
       · subst e;exact .inr ⟨rfl,rfl,h4⟩
       · exact .inl (.inr ⟨rfl,j,by omega,rfl,h4⟩)
theorem tv (q:Nat→Int) (U:Nat):∀ i,jL (fun x y=>∃ j k,j<i∧k<U∧x=q (2*j)∧y=q (2*k+1)∧tw q U x y=true) (jg q U i)∨∃ f t,jg q U i=some (f,t)∧jL (fun x y=>∃ j k,j<i∧k<U∧x=q (2*j)∧y=q (2*k+1)∧tw q U x y=true) (some (f,t))
 | 0=>.inl fun F T ⟨j,_,h,_⟩=>absurd h (Nat.not_lt_zero j)
 | i + 1=>by
   have ih:jL (fun x y=>∃ j k,j<i∧k<U∧x=q (2*j)∧y=q (2*k+1)∧tw q U x y=true) (jg q U i):=by
    rcases tv q U i with h | ⟨f,t,h1,h2⟩
    · exact h
    · rw[h1];exact h2
   refine .inl ?_;unfold jg;by_cases hg:EK (jg q U i) (q (2*i))=true
   · rw[if_pos hg];generalize jg q U i=b at *;cases b with
     | none=>cases hg
     | some v =>
       obtain ⟨f,t⟩:=v;have hg:f<q (2*i):=of_decide_eq_true hg;obtain ⟨⟨j,k,h1,h2⟩,h3⟩:=ih;refine ⟨⟨j,k,by omega,h2⟩,?_⟩;rintro F T ⟨j',k',a1,a2,rfl,rfl,a3⟩;by_cases e:j'=i
       · subst e;exact .inl hg
       · exact h3 _ _ ⟨j',k',by omega,a2,rfl,rfl,a3⟩
   · rw[if_neg hg];have hg:EK (jg q U i) (q (2*i))=false:=by simpa using hg
     refine (iA (fun x y=>?_)).1 (yg ih hg U);constructor
     · rintro (⟨j,k,h1,h2⟩ | ⟨rfl,k,h1,rfl,h2⟩)
       · exact ⟨j,k,by omega,h2⟩
       · exact ⟨i,k,by omega,h1,rfl,rfl,h2⟩
     · rintro ⟨j,k,h1,h2,rfl,rfl,h3⟩;by_cases e:j=i
       · subst e;exact .inr ⟨rfl,k,h2,rfl,h3⟩
       · exact .inl ⟨j,k,by omega,h2,rfl,rfl,h3⟩
end Go.Eng
end
section
namespace Go.Eng
open Go.Proofs Go.Eng.Gall
theorem rp (q:Nat→Int) (F T x:Int):∀ j,x ∈ dN q F T j↔∃ k,k<j∧xy q F T k=true∧x=(k:Int)
 | 0=>by simp[dN]
 | j + 1=>by
   have ih:=rp q F T x j;unfold dN;split
   · rename_i h;rw[List.mem_append,List.mem_singleton,ih];constructor
     · rintro (⟨k,h1,h2,h3⟩ | h1)
       · exact ⟨k,by omega,h2,h3⟩
       · exact ⟨j,by omega,h,h1⟩
     · rintro ⟨k,h1,h2,h3⟩;by_cases e:k=j
       · subst e;exact .inr h3
       · exact .inl ⟨k,by omega,h2,h3⟩
   · rename_i h;rw[ih];constructor
     · rintro ⟨k,h1,h2,h3⟩;exact ⟨k,by omega,h2,h3⟩
     · rintro ⟨k,h1,h2,h3⟩;by_cases e:k=j
       · subst e;exact absurd h2 h
       · exact ⟨k,by omega,h2,h3⟩
theorem vt (q:Nat→Int) (F T:Int):∀ j,(dN q F T j).Nodup
 | 0=>List.nodup_nil
 | j + 1=>by
   have ih:=vt q F T j;unfold dN;split
   · rw[List.nodup_append];refine ⟨ih,by simp,?_⟩;intro a ha b hb e;rw[List.mem_singleton] at hb;obtain ⟨k,h1,_,h3⟩:=(rp q F T a j).1 ha;omega
   · exact ih
theorem dx {L:List Nat} (hn:L.Nodup) {M:List Int} (h:∀ x ∈ L,(x:Int) ∈ M):L.length≤M.length:=by
 have:=fZ hn (M:=M.map Int.toNat) (fun x hx=>List.mem_map.2 ⟨(x:Int),h x hx,rfl⟩);rwa [List.length_map] at this
theorem nA (f:Nat→Int):∀ (L:List Nat),L≠[]→∃ a ∈ L,∀ b ∈ L,f a≤f b
 | [],h=>absurd rfl h
 | [a],_=>⟨a,by simp,by simp⟩
 | a::b::L,_=>by
   obtain ⟨c,hc,h⟩:=nA f (b::L) (by simp);by_cases e:f a≤f c
   · exact ⟨a,by simp,fun x hx=>by
      rcases List.mem_cons.1 hx with rfl | hx
      · exact Int.le_refl _
      · have:=h x hx;omega⟩
   · exact ⟨c,List.mem_cons_of_mem _ hc,fun x hx=>by
      rcases List.mem_cons.1 hx with rfl | hx
      · omega
      · exact h x hx⟩
theorem Jn {q:Nat→Int} {U:Nat} (h:jg q U U=none):Room U (fun c=>q (2*c)) (fun c=>q (2*c+1)):=by
 have hf:∀ F T,¬ ∃ j k,j<U∧k<U∧F=q (2*j)∧T=q (2*k+1)∧tw q U F T=true:=by
  rcases tv q U U with h1 | ⟨f,t,h1,_⟩
  · rw[h] at h1;exact h1
  · rw[h] at h1;cases h1
 intro s t L hn hne hL;obtain ⟨a,ha,ha2⟩:=nA (fun c=>q (2*c)) L hne;obtain ⟨b,hb,hb2⟩:=nA (fun c=>-q (2*c+1)) L hne;have h1:=hf (q (2*a)) (q (2*b+1));have hov:tw q U (q (2*a)) (q (2*b+1))=false:=by
  cases e:tw q U (q (2*a)) (q (2*b+1)) with
  | false=>rfl
  | true=>exact absurd ⟨a,b,(hL a ha).1,(hL b hb).1,rfl,rfl,e⟩ h1
 have hle:L.length≤(dN q (q (2*a)) (q (2*b+1)) U).length:=dx hn fun x hx=>by
  refine (rp _ _ _ _ _).2 ⟨x,(hL x hx).1,?_,rfl⟩;have e1:=ha2 x hx;have e2:=hb2 x hx;unfold xy;rw[Bool.and_eq_true,decide_eq_true_iff,decide_eq_true_iff];constructor
  · exact e1
  · have e2:-q (2*b+1)≤-q (2*x+1):=e2;omega
 have hpos:0<L.length:=List.length_pos_iff.2 hne;unfold tw at hov;rw[decide_eq_true (show 0<(dN q (q (2*a)) (q (2*b+1)) U).length by omega),Bool.true_and,decide_eq_false_iff_not] at hov;have e3:s≤q (2*a):=(hL a ha).2.1;have e4:q (2*b+1)≤t:=(hL b hb).2.2;omega
theorem mA {n:Nat} {ok:Nat→Nat→Nat→Bool}:∀ {k:Nat} {L:List Nat},L ∈ ro n ok k↔L.length=k∧∀ i (h:i<L.length),L[i]<n∧(mask (L.take i)).testBit L[i]=false∧ok i (mask (L.take i)) L[i]=true
 | 0,L=>by
   show L ∈ [[]]↔_;rw[List.mem_singleton];constructor
   · rintro rfl;exact ⟨rfl,fun i h=>absurd h (Nat.not_lt_zero i)⟩
   · rintro ⟨h,_⟩;exact List.eq_nil_of_length_eq_zero h
 | k + 1,L=>by
   show L ∈ (ro n ok k).flatMap (fun L=>(nx ok n k (mask L)).map fun c=>L++[c])↔_;rw[List.mem_flatMap];constructor
   · rintro ⟨M,hM,hx⟩;obtain ⟨c,hc,rfl⟩:=List.mem_map.1 hx;obtain ⟨h1,h2⟩:=mA.1 hM;obtain ⟨c1,c2,c3⟩:=mq.1 hc;refine ⟨by rw[List.length_append,h1];rfl,fun i hi=>?_⟩;by_cases e:i<M.length
     · rw[List.getElem_append_left e,List.take_append_of_le_length wO];exact h2 i e
     · have:i=M.length:=by rw[List.length_append,List.length_singleton] at hi;omega
       subst this;rw[List.getElem_append_right (Nat.le_refl _),List.take_left' rfl];simp only[Nat.sub_self,List.getElem_cons_zero];rw[h1];exact ⟨c1,c2,c3⟩
   · rintro ⟨h1,h2⟩;have hne:L≠[]:=by intro e;rw[e] at h1;cases h1
     have hd:L.dropLast++[L.getLast hne]=L:=List.dropLast_concat_getLast hne;have hdl:L.dropLast.length=k:=by rw[List.length_dropLast,h1];rfl
     have ht:∀ i,i≤k→L.dropLast.take i=L.take i:=fun i hi=>by
      rw[List.dropLast_eq_take,List.take_take,Nat.min_eq_left wO]
     refine ⟨L.dropLast,mA.2 ⟨hdl,fun i hi=>?_⟩,List.mem_map.2 ⟨L.getLast hne,?_,hd⟩⟩
     · rw[ht i wO,List.getElem_dropLast];exact h2 i wO
     · have:=h2 k wO;rw[mq,List.getLast_eq_getElem];have e:L.take k=L.dropLast:=by rw[List.dropLast_eq_take,h1];rfl
       rw[e] at this;simpa[h1] using this
end Go.Eng
end
section
namespace Go.Eng
open Int (ofNat)
open Go.Proofs Go.Eng.Gall
noncomputable def sU (q:Nat→Int) (U:Nat):Option (Int×Int)→bG
 | none=>eZ q (ofNat 0) (ofNat 0) .nils
 | some (f,t)=>eZ q f t (cw (dN q f t U).length (aI (dN q f t U)) false)
theorem tW {q:Nat→Int} {U:Nat} {F T:Int} {b:Option (Int×Int)} (h:tw q U F T=false):EB q U F b T=b:=by unfold EB;rw[h,Bool.and_false,if_neg (by decide)]
theorem MP {q:Nat→Int} {U:Nat} {F T:Int} {b:Option (Int×Int)} (h:Ng b F T=false):EB q U F b T=b:=by unfold EB;rw[h,Bool.false_and,if_neg (by decide)]
theorem xl {q:Nat→Int} {U:Nat} {F T:Int} {b:Option (Int×Int)} (h:Ng b F T=true) (h2:tw q U F T=true):EB q U F b T=some (F,T):=by unfold EB;rw[h,h2];rfl
section
variable (n:Nat) (O:Int) (U:Nat) (Z:Nat→Int) (V:Nat) (J:Nat→Int) (W B:Nat→Int) (H:ab) (q:Nat→Int)
theorem SC (hl:U≤10) (hq:∀ j,j<2*U→-1000000≤q j∧q j≤1000000) (i k:Nat) (hi:i<U) (hk:k<U) (b:Option (Int×Int)) (hb:EK b (q (2*i))=false) :
 ∃ x,exec (bQ n 65 128) (part Tryd.f65 [1,0,1,1,1,1,0,1,0,0,1,1,0,0,1,1,0,0]) (ie (shR O U Z V J W B) b.isSome U i k) (sU q U b::H)=some x∧x.1=.normal∧tidy 3 x.2.1 x.2.2=(ie (shR O U Z V J W B) (EB q U (q (2*i)) b (q (2*k+1))).isSome U i ((k+1:Nat):Int),sU q U (EB q U (q (2*i)) b (q (2*k+1)))::H):=by
 have e1:bm .i64 (k:Int) (ofNat 1)=((k+1:Nat):Int):=eX wO
 have ei:aw 0 (i:Int) 2=2*i:=by rw[bJ];omega
 have ek:aw 0 (k:Int) 2=2*k:=by rw[bJ];omega
 have q1:=hq (2*i) wO
 have q2:=hq (2*k+1) wO
 have es:bm .i64 (bX .i64 (q (2*k+1)) (q (2*i))) (ofNat 1)=q (2*k+1)-q (2*i)+1:=by
  rw[BB wO wO];exact ET (by show _≤q (2*k+1)-q (2*i)+1;omega) (by show q (2*k+1)-q (2*i)+1≤_;omega)
 generalize hF:q (2*i)=F at *
 generalize hT:q (2*k+1)=T at *
 cases b with
 | none =>
   have hlp:=Ro n H q (shR O U Z V J W B) false (ofNat 0) (ofNat 0) U i k F T hl
   cases hS:dN q F T U with
   | nil =>
     rw[hS] at hlp
     have ho:tw q U F T=false:=by unfold tw;rw[hS];rfl
     have T0:=Ol n O U Z V J W B H q i k (ofNat 0) (ofNat 0) 0 q
     rw[ei,ek,aM,e1,hF,hT] at T0
     rw[tW ho]
     refine aB T0 (ay _) (aZ (aj _ _) u9 (fun x hx=>dL hx (by simp only[eB.st,aL];exact hlp))) (ak _ _) ?_
     refine Tr.af (fun h0=>?_) wJ
     refine Tr.aa wG (Tr.aa wG (Tr.aa wG (Tr.aa wG (Tr.aa wG (Tr.aa wG (Tr.aa wG (Tr.ai ⟨rfl,rfl⟩ (Tr.af (fun h=>by cases h) (fun _=>Tr.af (fun _=>Tr.ag ⟨rfl,rfl⟩) (fun h=>by simp[ar] at h))))))))))
   | cons a r =>
     rw[hS] at hlp
     have hg:r.length+1≤U:=by have:=oY q F T U;rw[hS] at this;simpa using this
     have hov:tw q U F T=decide (T-F+1<((r.length+1:Nat):Int)):=by unfold tw;rw[hS];rfl
     have hup:sU q U (some (F,T))=eZ q F T (cw (r.length+1) (aI (a::r)) false):=by show eZ q F T (cw (dN q F T U).length (aI (dN q F T U)) false)=_;rw[hS];rfl
     have T0:=Om n O U Z V J W B H q i k (ofNat 0) (ofNat 0) 0 q (r.length+1) (aI (a::r))
     rw[ei,ek,aM,e1,hF,hT,es,jm] at T0
     refine aB T0 (ay _) (aZ (aj _ _) u9 (fun x hx=>dL hx (by simp only[eB.st,aL];exact hlp))) (ak _ _) ?_
     refine Tr.af (fun h0=>?_) wJ
     refine Tr.aa wG (Tr.aa wG (Tr.aa wG (Tr.aa wG (Tr.aa wG (Tr.aa wG (Tr.aa wG (Tr.ai ⟨rfl,rfl⟩ (Tr.af (fun h=>by cases h) (fun _=>Tr.af (fun _=>Tr.af (fun _=>Tr.af (fun h1=>?_) (fun h1=>Tr.ag ?_)) wJ) (fun h=>by simp[ar] at h))))))))))
     all_goals rw[bx] at h1
     · rw[xl rfl (hov.trans h1),hup]
       exact Tr.aa wG (Tr.aa wG (Tr.aa wG (Tr.aa wG (Tr.ag ⟨rfl,rfl⟩))))
     · rw[tW (hov.trans h1)];exact ⟨rfl,rfl⟩
 | some v =>
   obtain ⟨f,t⟩:=v
   have hb:decide (f<F)=false:=hb
   have hlp:=Ou n H q (shR O U Z V J W B) true f t (dN q f t U).length (aI (dN q f t U)) U i k F T hl
   have hlv:sU q U (some (f,t))=eZ q f t (cw (dN q f t U).length (aI (dN q f t U)) false):=rfl
   generalize dN q f t U=L0 at hlp hlv
   cases hS:dN q F T U with
   | nil =>
     rw[hS] at hlp
     have ho:tw q U F T=false:=by unfold tw;rw[hS];rfl
     have T0:=Ka n O U Z V J W B H q i k f t L0.length (aI L0)
     rw[ei,ek,aM,e1,hF,hT] at T0
     rw[tW ho,hlv]
     refine aB T0 (ay _) (aZ (aj _ _) u9 (fun x hx=>dL hx (by simp only[eB.st,aL];exact hlp))) (ak _ _) ?_
     refine Tr.af (fun h0=>?_) wJ
     refine Tr.aa wG (Tr.aa wG (Tr.aa wG (Tr.aa wG (Tr.aa wG (Tr.aa wG (Tr.aa wG (Tr.ai ⟨rfl,rfl⟩ (Tr.af (fun _=>Tr.af (fun h=>by rw[bx,hb] at h;cases h) (fun _=>Tr.af (fun h=>by simp[ar] at h) (fun _=>Tr.af (fun _=>Tr.ag ⟨rfl,rfl⟩) (fun _=>Tr.af (fun _=>Tr.ag ⟨rfl,rfl⟩) (fun _=>Tr.ag ⟨rfl,rfl⟩))))) (fun h=>by cases h)))))))))
   | cons a r =>
     rw[hS] at hlp
     have hg:r.length+1≤U:=by have:=oY q F T U;rw[hS] at this;simpa using this
     have hov:tw q U F T=decide (T-F+1<((r.length+1:Nat):Int)):=by unfold tw;rw[hS];rfl
     have hup:sU q U (some (F,T))=eZ q F T (cw (r.length+1) (aI (a::r)) false):=by show eZ q F T (cw (dN q F T U).length (aI (dN q F T U)) false)=_;rw[hS];rfl
     have T0:=Kb n O U Z V J W B H q i k f t L0.length (aI L0) (r.length+1) (aI (a::r))
     rw[ei,ek,aM,e1,hF,hT,es,jm] at T0
     rw[hlv]
     refine aB T0 (ay _) (aZ (aj _ _) u9 (fun x hx=>dL hx (by simp only[eB.st,aL];exact hlp))) (ak _ _) ?_
     refine Tr.af (fun h0=>?_) wJ
     refine Tr.aa wG (Tr.aa wG (Tr.aa wG (Tr.aa wG (Tr.aa wG (Tr.aa wG (Tr.aa wG (Tr.ai ⟨rfl,rfl⟩ (Tr.af (fun _=>Tr.af (fun h=>by rw[bx,hb] at h;cases h) (fun _=>Tr.af (fun h=>by simp[ar] at h) (fun _=>Tr.af (fun h2=>Tr.af (fun _=>Tr.af (fun h1=>?_) (fun h1=>Tr.ag ?_)) wJ) (fun h2=>Tr.af (fun h3=>Tr.af (fun _=>Tr.af (fun h1=>?_) (fun h1=>Tr.ag ?_)) wJ) (fun h3=>Tr.ag ?_))))) (fun h=>by cases h)))))))))
     all_goals rw[bx] at h2
     · rw[bx] at h1
       rw[xl (show Ng (some (f,t)) F T=true by show (decide (F<f) || decide (T<t))=true;rw[h2];rfl) (hov.trans h1),hup]
       exact Tr.aa wG (Tr.aa wG (Tr.aa wG (Tr.aa wG (Tr.ag ⟨rfl,rfl⟩))))
     · rw[bx] at h1
       rw[tW (hov.trans h1),hlv];exact ⟨rfl,rfl⟩
     all_goals rw[bx] at h3
     · rw[bx] at h1
       rw[xl (show Ng (some (f,t)) F T=true by show (decide (F<f) || decide (T<t))=true;rw[h3,Bool.or_true]) (hov.trans h1),hup]
       exact Tr.aa wG (Tr.aa wG (Tr.aa wG (Tr.aa wG (Tr.ag ⟨rfl,rfl⟩))))
     · rw[bx] at h1
       rw[tW (hov.trans h1),hlv];exact ⟨rfl,rfl⟩
     · rw[MP (show Ng (some (f,t)) F T=false by show (decide (F<f) || decide (T<t))=false;rw[h2,h3];rfl),hlv];exact ⟨rfl,rfl⟩
end
end Go.Eng
end
