/- Gall: a right block: a round of its inner loop, trees. -/
import Derived.Test.YtgphpjdchnfjlaaDoorV5Gaux9
set_option linter.unusedVariables false
set_option linter.unusedSimpArgs false
set_option maxRecDepth 100000
section
namespace Go.Eng
open Int (ofNat)
open Go.Proofs Go.Eng.Gall
theorem O3 (n:Nat) (O:Int) (U:Nat) (Z:Nat→Int) (V:Nat) (J:Nat→Int) (W B:Nat→Int) (H:aa) (q:Nat→Int) (i k:Int) (f t:Int) (m:Nat) (y:Nat→Int):aF (bJ n 65 128) (il aC n 0) (cE aK 4 (gp (shR O U Z V J W B) false U i k (ofNat 0)) (zh q f t .nils (q (aq 0 i 2)) (q (au (aq 0 k 2) 1))::H) (.ok (.normal,hints (gp (shR O U Z V J W B) false U i k (ofNat U)++[(48,.bool false)]),zh q f t .nils (q (aq 0 i 2)) (q (au (aq 0 k 2) 1))::H))) aJ (part Tryd.f65 [1,0,1,1,1,1,0,1,0,0,1,1,0,0,1,1,0,0]) (hints (iE (shR O U Z V J W B) false U i k)) (fj q f t .nils::H) =
 (fun (Z0:bC)=>((fun (Z1:aT)=>((fun (Z2:aD)=>Tr.ite (bF k (ofNat U)) (Tr.req (cu i 10) (Tr.req (cH 0 0) (Tr.req (bX (aq 0 i 2) 20) (Tr.req (cu k 10) (Tr.req (cH 0 0) (Tr.req (bX (au (aq 0 k 2) 1) 20) (Tr.req (bT (dW 0 0) (dW 0 1)) (Tr.reqP (Z2=Z2∧Z0::H=Z0::H) (Tr.ite false (Tr.ite (bF f (q (aq 0 i 2))) (Tr.ok (Ex.exit 1,[(0,shV O U Z V J W B,none),(2,AV.ptr 0 0 0 0,none),(4,AV.ptr 0 1 0 0,none),(5,AV.ptr 0 2 0 0,none),(6,AV.bool false,none),(7,AV.int .i64 i,none),(9,AV.ptr 0 3 0 0,none),(19,iI U,none),(20,AV.int .i64 i,none),(28,iI U,none),(29,AV.int .i64 k,none),(87,AV.bool true,some 1)],Z0::H)) (Tr.ite (bf false) (Tr.ok (Ex.normal,Z1,Z0::H)) (Tr.ite (bF (q (aq 0 i 2)) f) (Tr.ok (Ex.normal,Z1,Z0::H)) (Tr.ite (bF (q (au (aq 0 k 2) 1)) t) (Tr.ok (Ex.normal,Z1,Z0::H)) (Tr.ok (Ex.normal,Z1,Z0::H)))))) (Tr.ite (bf false) (Tr.ok (Ex.normal,Z1,Z0::H)) (Tr.ite (bF (q (aq 0 i 2)) f) (Tr.ok (Ex.normal,Z1,Z0::H)) (Tr.ite (bF (q (au (aq 0 k 2) 1)) t) (Tr.ok (Ex.normal,Z1,Z0::H)) (Tr.ok (Ex.normal,Z1,Z0::H)))))))))))))) (Tr.ok (Ex.exit 2,[(0,shV O U Z V J W B,none),(2,AV.ptr 0 0 0 0,none),(4,AV.ptr 0 1 0 0,none),(5,AV.ptr 0 2 0 0,none),(6,AV.bool false,none),(7,AV.int .i64 i,none),(19,iI U,none),(20,AV.int .i64 i,none),(28,iI U,none),(29,AV.int .i64 k,none),(30,AV.bool false,some 1)],(bm [(0,al.row (Row.G [iI 0,iI 0,AV.nils])),(0,al.row (rM q 20)),(0,al.row (Row.G [AV.int .i64 f,AV.int .i64 t,AV.nils]))])::H))) [(0,shV O U Z V J W B),(2,AV.ptr 0 0 0 0),(4,AV.ptr 0 1 0 0),(5,AV.ptr 0 2 0 0),(6,AV.bool false),(7,AV.int .i64 i),(9,AV.ptr 0 3 0 0),(19,iI U),(20,AV.int .i64 i),(28,iI U),(29,AV.int .i64 k),(46,iI U),(47,iI 0)])) [(0,shV O U Z V J W B,none),(2,AV.ptr 0 0 0 0,none),(4,AV.ptr 0 1 0 0,none),(5,AV.ptr 0 2 0 0,none),(6,AV.bool false,none),(7,AV.int .i64 i,none),(19,iI U,none),(20,AV.int .i64 i,none),(28,iI U,none),(29,AV.int .i64 (bj .i64 k (ofNat 1)),none)])) (bm [(0,al.row (Row.G [iI 0,iI 0,AV.nils])),(0,al.row (rM q 20)),(0,al.row (Row.G [AV.int .i64 f,AV.int .i64 t,AV.nils])),(0,al.row (Row.G [AV.int .i64 (q (aq 0 i 2)),AV.int .i64 (q (au (aq 0 k 2) 1)),AV.nils]))]):=by kernel_rfl
theorem O4 (n:Nat) (O:Int) (U:Nat) (Z:Nat→Int) (V:Nat) (J:Nat→Int) (W B:Nat→Int) (H:aa) (q:Nat→Int) (i k:Int) (f t:Int) (m:Nat) (y:Nat→Int) (g:Nat) (x:Nat→Int):aF (bJ n 65 128) (il aC n 0) (cE aK 4 (gp (shR O U Z V J W B) false U i k (ofNat 0)) (zh q f t .nils (q (aq 0 i 2)) (q (au (aq 0 k 2) 1))::H) (.ok (.normal,hints (gp (shR O U Z V J W B) false U i k (ofNat U)++[(48,.bool false)]),BP q f t .nils (q (aq 0 i 2)) (q (au (aq 0 k 2) 1)) g x::H))) aJ (part Tryd.f65 [1,0,1,1,1,1,0,1,0,0,1,1,0,0,1,1,0,0]) (hints (iE (shR O U Z V J W B) false U i k)) (fj q f t .nils::H) =
 (fun (Z0:bC)=>((fun (Z1:aT)=>((fun (Z2:bC)=>((fun (Z3:aT)=>((fun (Z4:aD)=>((fun (Z5:bC)=>Tr.ite (bF k (ofNat U)) (Tr.req (cu i 10) (Tr.req (cH 0 0) (Tr.req (bX (aq 0 i 2) 20) (Tr.req (cu k 10) (Tr.req (cH 0 0) (Tr.req (bX (au (aq 0 k 2) 1) 20) (Tr.req (bT (dW 0 0) (dW 0 1)) (Tr.reqP (Z4=Z4∧Z5::H=Z5::H) (Tr.ite false (Tr.ite (bF f (q (aq 0 i 2))) (Tr.ok (Ex.exit 1,[(0,shV O U Z V J W B,none),(2,AV.ptr 0 0 0 0,none),(4,AV.ptr 0 1 0 0,none),(5,AV.ptr 0 2 0 0,none),(6,AV.bool false,none),(7,AV.int .i64 i,none),(9,AV.ptr 0 3 0 0,none),(19,iI U,none),(20,AV.int .i64 i,none),(28,iI U,none),(29,AV.int .i64 k,none),(87,AV.bool true,some 1)],Z0::H)) (Tr.ite (bf false) (Tr.ite (bF (ofNat 0) (ofNat g)) (Tr.ite (bF (bj .i64 (bL .i64 (q (au (aq 0 k 2) 1)) (q (aq 0 i 2))) (ofNat 1)) (ofNat g)) (Tr.req (cH 0 0) (Tr.req (dP 0 g 0 g) (Tr.req (cH 0 0) (Tr.req (dP 0 g 0 g) (Tr.ok (Ex.normal,Z3,Z2::H)))))) (Tr.ok (Ex.normal,Z1,Z0::H))) (Tr.ok (Ex.normal,Z1,Z0::H))) (Tr.ite (bF (q (aq 0 i 2)) f) (Tr.ite (bF (ofNat 0) (ofNat g)) (Tr.ite (bF (bj .i64 (bL .i64 (q (au (aq 0 k 2) 1)) (q (aq 0 i 2))) (ofNat 1)) (ofNat g)) (Tr.req (cH 0 0) (Tr.req (dP 0 g 0 g) (Tr.req (cH 0 0) (Tr.req (dP 0 g 0 g) (Tr.ok (Ex.normal,Z3,Z2::H)))))) (Tr.ok (Ex.normal,Z1,Z0::H))) (Tr.ok (Ex.normal,Z1,Z0::H))) (Tr.ite (bF (q (au (aq 0 k 2) 1)) t) (Tr.ite (bF (ofNat 0) (ofNat g)) (Tr.ite (bF (bj .i64 (bL .i64 (q (au (aq 0 k 2) 1)) (q (aq 0 i 2))) (ofNat 1)) (ofNat g)) (Tr.req (cH 0 0) (Tr.req (dP 0 g 0 g) (Tr.req (cH 0 0) (Tr.req (dP 0 g 0 g) (Tr.ok (Ex.normal,Z3,Z2::H)))))) (Tr.ok (Ex.normal,Z1,Z0::H))) (Tr.ok (Ex.normal,Z1,Z0::H))) (Tr.ok (Ex.normal,Z1,Z0::H)))))) (Tr.ite (bf false) (Tr.ite (bF (ofNat 0) (ofNat g)) (Tr.ite (bF (bj .i64 (bL .i64 (q (au (aq 0 k 2) 1)) (q (aq 0 i 2))) (ofNat 1)) (ofNat g)) (Tr.req (cH 0 0) (Tr.req (dP 0 g 0 g) (Tr.req (cH 0 0) (Tr.req (dP 0 g 0 g) (Tr.ok (Ex.normal,Z3,Z2::H)))))) (Tr.ok (Ex.normal,Z1,Z0::H))) (Tr.ok (Ex.normal,Z1,Z0::H))) (Tr.ite (bF (q (aq 0 i 2)) f) (Tr.ite (bF (ofNat 0) (ofNat g)) (Tr.ite (bF (bj .i64 (bL .i64 (q (au (aq 0 k 2) 1)) (q (aq 0 i 2))) (ofNat 1)) (ofNat g)) (Tr.req (cH 0 0) (Tr.req (dP 0 g 0 g) (Tr.req (cH 0 0) (Tr.req (dP 0 g 0 g) (Tr.ok (Ex.normal,Z3,Z2::H)))))) (Tr.ok (Ex.normal,Z1,Z0::H))) (Tr.ok (Ex.normal,Z1,Z0::H))) (Tr.ite (bF (q (au (aq 0 k 2) 1)) t) (Tr.ite (bF (ofNat 0) (ofNat g)) (Tr.ite (bF (bj .i64 (bL .i64 (q (au (aq 0 k 2) 1)) (q (aq 0 i 2))) (ofNat 1)) (ofNat g)) (Tr.req (cH 0 0) (Tr.req (dP 0 g 0 g) (Tr.req (cH 0 0) (Tr.req (dP 0 g 0 g) (Tr.ok (Ex.normal,Z3,Z2::H)))))) (Tr.ok (Ex.normal,Z1,Z0::H))) (Tr.ok (Ex.normal,Z1,Z0::H))) (Tr.ok (Ex.normal,Z1,Z0::H)))))))))))))) (Tr.ok (Ex.exit 2,[(0,shV O U Z V J W B,none),(2,AV.ptr 0 0 0 0,none),(4,AV.ptr 0 1 0 0,none),(5,AV.ptr 0 2 0 0,none),(6,AV.bool false,none),(7,AV.int .i64 i,none),(19,iI U,none),(20,AV.int .i64 i,none),(28,iI U,none),(29,AV.int .i64 k,none),(30,AV.bool false,some 1)],(bm [(0,al.row (Row.G [iI 0,iI 0,AV.nils])),(0,al.row (rM q 20)),(0,al.row (Row.G [AV.int .i64 f,AV.int .i64 t,AV.nils]))])::H))) (bm [(0,al.row (Row.G [iI 0,iI 0,AV.nils])),(0,al.row (rM q 20)),(0,al.row (Row.G [AV.int .i64 f,AV.int .i64 t,AV.nils])),(0,al.row (Row.G [AV.int .i64 (q (aq 0 i 2)),AV.int .i64 (q (au (aq 0 k 2) 1)),AV.nils]))]))) [(0,shV O U Z V J W B),(2,AV.ptr 0 0 0 0),(4,AV.ptr 0 1 0 0),(5,AV.ptr 0 2 0 0),(6,AV.bool false),(7,AV.int .i64 i),(9,AV.ptr 0 3 0 0),(19,iI U),(20,AV.int .i64 i),(28,iI U),(29,AV.int .i64 k),(46,iI U),(47,iI 0)])) [(0,shV O U Z V J W B,none),(2,AV.ptr 0 0 0 0,none),(4,AV.ptr 0 1 0 0,none),(5,AV.ptr 0 2 0 0,none),(6,AV.bool true,some 1),(7,AV.int .i64 i,none),(19,iI U,none),(20,AV.int .i64 i,none),(28,iI U,none),(29,AV.int .i64 (bj .i64 k (ofNat 1)),none)])) (bm [(0,al.row (Row.G [iI 0,iI 0,AV.nils])),(0,al.row (rM q 20)),(0,al.row (Row.G [AV.int .i64 (q (aq 0 i 2)),AV.int .i64 (q (au (aq 0 k 2) 1)),aP g (qO x 0) false])),(0,al.row (Row.G [AV.int .i64 (q (aq 0 i 2)),AV.int .i64 (q (au (aq 0 k 2) 1)),aP g (qO x 0) false])),(0,al.dead)]))) [(0,shV O U Z V J W B,none),(2,AV.ptr 0 0 0 0,none),(4,AV.ptr 0 1 0 0,none),(5,AV.ptr 0 2 0 0,none),(6,AV.bool false,none),(7,AV.int .i64 i,none),(19,iI U,none),(20,AV.int .i64 i,none),(28,iI U,none),(29,AV.int .i64 (bj .i64 k (ofNat 1)),none)])) (bm [(0,al.row (Row.G [iI 0,iI 0,AV.nils])),(0,al.row (rM q 20)),(0,al.row (Row.G [AV.int .i64 f,AV.int .i64 t,AV.nils])),(0,al.row (Row.G [AV.int .i64 (q (aq 0 i 2)),AV.int .i64 (q (au (aq 0 k 2) 1)),AV.slc 0 4 0 0 1 g none])),(0,al.row (rM x g))]):=by kernel_rfl
theorem KC (n:Nat) (O:Int) (U:Nat) (Z:Nat→Int) (V:Nat) (J:Nat→Int) (W B:Nat→Int) (H:aa) (q:Nat→Int) (i k:Int) (f t:Int) (m:Nat) (y:Nat→Int):aF (bJ n 65 128) (il aC n 0) (cE aK 4 (gp (shR O U Z V J W B) true U i k (ofNat 0)) (zh q f t (aP m y false) (q (aq 0 i 2)) (q (au (aq 0 k 2) 1))::H) (.ok (.normal,hints (gp (shR O U Z V J W B) true U i k (ofNat U)++[(48,.bool false)]),zh q f t (aP m y false) (q (aq 0 i 2)) (q (au (aq 0 k 2) 1))::H))) aJ (part Tryd.f65 [1,0,1,1,1,1,0,1,0,0,1,1,0,0,1,1,0,0]) (hints (iE (shR O U Z V J W B) true U i k)) (fj q f t (aP m y false)::H) =
 (fun (Z0:bC)=>((fun (Z1:aT)=>((fun (Z2:aD)=>Tr.ite (bF k (ofNat U)) (Tr.req (cu i 10) (Tr.req (cH 0 0) (Tr.req (bX (aq 0 i 2) 20) (Tr.req (cu k 10) (Tr.req (cH 0 0) (Tr.req (bX (au (aq 0 k 2) 1) 20) (Tr.req (bT (dW 0 0) (dW 0 1)) (Tr.reqP (Z2=Z2∧Z0::H=Z0::H) (Tr.ite true (Tr.ite (bF f (q (aq 0 i 2))) (Tr.ok (Ex.exit 1,[(0,shV O U Z V J W B,none),(2,AV.ptr 0 0 0 0,none),(4,AV.ptr 0 1 0 0,none),(5,AV.ptr 0 2 0 0,none),(6,AV.bool true,none),(7,AV.int .i64 i,none),(9,AV.ptr 0 3 0 0,none),(19,iI U,none),(20,AV.int .i64 i,none),(28,iI U,none),(29,AV.int .i64 k,none),(87,AV.bool true,some 1)],Z0::H)) (Tr.ite (bf true) (Tr.ok (Ex.normal,Z1,Z0::H)) (Tr.ite (bF (q (aq 0 i 2)) f) (Tr.ok (Ex.normal,Z1,Z0::H)) (Tr.ite (bF (q (au (aq 0 k 2) 1)) t) (Tr.ok (Ex.normal,Z1,Z0::H)) (Tr.ok (Ex.normal,Z1,Z0::H)))))) (Tr.ite (bf true) (Tr.ok (Ex.normal,Z1,Z0::H)) (Tr.ite (bF (q (aq 0 i 2)) f) (Tr.ok (Ex.normal,Z1,Z0::H)) (Tr.ite (bF (q (au (aq 0 k 2) 1)) t) (Tr.ok (Ex.normal,Z1,Z0::H)) (Tr.ok (Ex.normal,Z1,Z0::H)))))))))))))) (Tr.ok (Ex.exit 2,[(0,shV O U Z V J W B,none),(2,AV.ptr 0 0 0 0,none),(4,AV.ptr 0 1 0 0,none),(5,AV.ptr 0 2 0 0,none),(6,AV.bool true,none),(7,AV.int .i64 i,none),(19,iI U,none),(20,AV.int .i64 i,none),(28,iI U,none),(29,AV.int .i64 k,none),(30,AV.bool false,some 1)],(bm [(0,al.row (Row.G [iI 0,iI 0,AV.nils])),(0,al.row (rM q 20)),(0,al.row (Row.G [AV.int .i64 f,AV.int .i64 t,aP m y false]))])::H))) [(0,shV O U Z V J W B),(2,AV.ptr 0 0 0 0),(4,AV.ptr 0 1 0 0),(5,AV.ptr 0 2 0 0),(6,AV.bool true),(7,AV.int .i64 i),(9,AV.ptr 0 3 0 0),(19,iI U),(20,AV.int .i64 i),(28,iI U),(29,AV.int .i64 k),(46,iI U),(47,iI 0)])) [(0,shV O U Z V J W B,none),(2,AV.ptr 0 0 0 0,none),(4,AV.ptr 0 1 0 0,none),(5,AV.ptr 0 2 0 0,none),(6,AV.bool true,none),(7,AV.int .i64 i,none),(19,iI U,none),(20,AV.int .i64 i,none),(28,iI U,none),(29,AV.int .i64 (bj .i64 k (ofNat 1)),none)])) (bm [(0,al.row (Row.G [iI 0,iI 0,AV.nils])),(0,al.row (rM q 20)),(0,al.row (Row.G [AV.int .i64 f,AV.int .i64 t,aP m y false])),(0,al.row (Row.G [AV.int .i64 (q (aq 0 i 2)),AV.int .i64 (q (au (aq 0 k 2) 1)),AV.nils]))]):=by kernel_rfl
theorem KD (n:Nat) (O:Int) (U:Nat) (Z:Nat→Int) (V:Nat) (J:Nat→Int) (W B:Nat→Int) (H:aa) (q:Nat→Int) (i k:Int) (f t:Int) (m:Nat) (y:Nat→Int) (g:Nat) (x:Nat→Int):aF (bJ n 65 128) (il aC n 0) (cE aK 4 (gp (shR O U Z V J W B) true U i k (ofNat 0)) (zh q f t (aP m y false) (q (aq 0 i 2)) (q (au (aq 0 k 2) 1))::H) (.ok (.normal,hints (gp (shR O U Z V J W B) true U i k (ofNat U)++[(48,.bool false)]),BP q f t (aP m y false) (q (aq 0 i 2)) (q (au (aq 0 k 2) 1)) g x::H))) aJ (part Tryd.f65 [1,0,1,1,1,1,0,1,0,0,1,1,0,0,1,1,0,0]) (hints (iE (shR O U Z V J W B) true U i k)) (fj q f t (aP m y false)::H) =
 (fun (Z0:bC)=>((fun (Z1:aT)=>((fun (Z2:bC)=>((fun (Z3:aT)=>((fun (Z4:aD)=>((fun (Z5:bC)=>Tr.ite (bF k (ofNat U)) (Tr.req (cu i 10) (Tr.req (cH 0 0) (Tr.req (bX (aq 0 i 2) 20) (Tr.req (cu k 10) (Tr.req (cH 0 0) (Tr.req (bX (au (aq 0 k 2) 1) 20) (Tr.req (bT (dW 0 0) (dW 0 1)) (Tr.reqP (Z4=Z4∧Z5::H=Z5::H) (Tr.ite true (Tr.ite (bF f (q (aq 0 i 2))) (Tr.ok (Ex.exit 1,[(0,shV O U Z V J W B,none),(2,AV.ptr 0 0 0 0,none),(4,AV.ptr 0 1 0 0,none),(5,AV.ptr 0 2 0 0,none),(6,AV.bool true,none),(7,AV.int .i64 i,none),(9,AV.ptr 0 3 0 0,none),(19,iI U,none),(20,AV.int .i64 i,none),(28,iI U,none),(29,AV.int .i64 k,none),(87,AV.bool true,some 1)],Z0::H)) (Tr.ite (bf true) (Tr.ite (bF (ofNat 0) (ofNat g)) (Tr.ite (bF (bj .i64 (bL .i64 (q (au (aq 0 k 2) 1)) (q (aq 0 i 2))) (ofNat 1)) (ofNat g)) (Tr.req (cH 0 0) (Tr.req (dP 0 g 0 g) (Tr.req (cH 0 0) (Tr.req (dP 0 g 0 g) (Tr.ok (Ex.normal,Z3,Z2::H)))))) (Tr.ok (Ex.normal,Z1,Z0::H))) (Tr.ok (Ex.normal,Z1,Z0::H))) (Tr.ite (bF (q (aq 0 i 2)) f) (Tr.ite (bF (ofNat 0) (ofNat g)) (Tr.ite (bF (bj .i64 (bL .i64 (q (au (aq 0 k 2) 1)) (q (aq 0 i 2))) (ofNat 1)) (ofNat g)) (Tr.req (cH 0 0) (Tr.req (dP 0 g 0 g) (Tr.req (cH 0 0) (Tr.req (dP 0 g 0 g) (Tr.ok (Ex.normal,Z3,Z2::H)))))) (Tr.ok (Ex.normal,Z1,Z0::H))) (Tr.ok (Ex.normal,Z1,Z0::H))) (Tr.ite (bF (q (au (aq 0 k 2) 1)) t) (Tr.ite (bF (ofNat 0) (ofNat g)) (Tr.ite (bF (bj .i64 (bL .i64 (q (au (aq 0 k 2) 1)) (q (aq 0 i 2))) (ofNat 1)) (ofNat g)) (Tr.req (cH 0 0) (Tr.req (dP 0 g 0 g) (Tr.req (cH 0 0) (Tr.req (dP 0 g 0 g) (Tr.ok (Ex.normal,Z3,Z2::H)))))) (Tr.ok (Ex.normal,Z1,Z0::H))) (Tr.ok (Ex.normal,Z1,Z0::H))) (Tr.ok (Ex.normal,Z1,Z0::H)))))) (Tr.ite (bf true) (Tr.ite (bF (ofNat 0) (ofNat g)) (Tr.ite (bF (bj .i64 (bL .i64 (q (au (aq 0 k 2) 1)) (q (aq 0 i 2))) (ofNat 1)) (ofNat g)) (Tr.req (cH 0 0) (Tr.req (dP 0 g 0 g) (Tr.req (cH 0 0) (Tr.req (dP 0 g 0 g) (Tr.ok (Ex.normal,Z3,Z2::H)))))) (Tr.ok (Ex.normal,Z1,Z0::H))) (Tr.ok (Ex.normal,Z1,Z0::H))) (Tr.ite (bF (q (aq 0 i 2)) f) (Tr.ite (bF (ofNat 0) (ofNat g)) (Tr.ite (bF (bj .i64 (bL .i64 (q (au (aq 0 k 2) 1)) (q (aq 0 i 2))) (ofNat 1)) (ofNat g)) (Tr.req (cH 0 0) (Tr.req (dP 0 g 0 g) (Tr.req (cH 0 0) (Tr.req (dP 0 g 0 g) (Tr.ok (Ex.normal,Z3,Z2::H)))))) (Tr.ok (Ex.normal,Z1,Z0::H))) (Tr.ok (Ex.normal,Z1,Z0::H))) (Tr.ite (bF (q (au (aq 0 k 2) 1)) t) (Tr.ite (bF (ofNat 0) (ofNat g)) (Tr.ite (bF (bj .i64 (bL .i64 (q (au (aq 0 k 2) 1)) (q (aq 0 i 2))) (ofNat 1)) (ofNat g)) (Tr.req (cH 0 0) (Tr.req (dP 0 g 0 g) (Tr.req (cH 0 0) (Tr.req (dP 0 g 0 g) (Tr.ok (Ex.normal,Z3,Z2::H)))))) (Tr.ok (Ex.normal,Z1,Z0::H))) (Tr.ok (Ex.normal,Z1,Z0::H))) (Tr.ok (Ex.normal,Z1,Z0::H)))))))))))))) (Tr.ok (Ex.exit 2,[(0,shV O U Z V J W B,none),(2,AV.ptr 0 0 0 0,none),(4,AV.ptr 0 1 0 0,none),(5,AV.ptr 0 2 0 0,none),(6,AV.bool true,none),(7,AV.int .i64 i,none),(19,iI U,none),(20,AV.int .i64 i,none),(28,iI U,none),(29,AV.int .i64 k,none),(30,AV.bool false,some 1)],(bm [(0,al.row (Row.G [iI 0,iI 0,AV.nils])),(0,al.row (rM q 20)),(0,al.row (Row.G [AV.int .i64 f,AV.int .i64 t,aP m y false]))])::H))) (bm [(0,al.row (Row.G [iI 0,iI 0,AV.nils])),(0,al.row (rM q 20)),(0,al.row (Row.G [AV.int .i64 f,AV.int .i64 t,aP m y false])),(0,al.row (Row.G [AV.int .i64 (q (aq 0 i 2)),AV.int .i64 (q (au (aq 0 k 2) 1)),AV.nils]))]))) [(0,shV O U Z V J W B),(2,AV.ptr 0 0 0 0),(4,AV.ptr 0 1 0 0),(5,AV.ptr 0 2 0 0),(6,AV.bool true),(7,AV.int .i64 i),(9,AV.ptr 0 3 0 0),(19,iI U),(20,AV.int .i64 i),(28,iI U),(29,AV.int .i64 k),(46,iI U),(47,iI 0)])) [(0,shV O U Z V J W B,none),(2,AV.ptr 0 0 0 0,none),(4,AV.ptr 0 1 0 0,none),(5,AV.ptr 0 2 0 0,none),(6,AV.bool true,some 1),(7,AV.int .i64 i,none),(19,iI U,none),(20,AV.int .i64 i,none),(28,iI U,none),(29,AV.int .i64 (bj .i64 k (ofNat 1)),none)])) (bm [(0,al.row (Row.G [iI 0,iI 0,AV.nils])),(0,al.row (rM q 20)),(0,al.row (Row.G [AV.int .i64 (q (aq 0 i 2)),AV.int .i64 (q (au (aq 0 k 2) 1)),aP g (qO x 0) false])),(0,al.row (Row.G [AV.int .i64 (q (aq 0 i 2)),AV.int .i64 (q (au (aq 0 k 2) 1)),aP g (qO x 0) false])),(0,al.dead)]))) [(0,shV O U Z V J W B,none),(2,AV.ptr 0 0 0 0,none),(4,AV.ptr 0 1 0 0,none),(5,AV.ptr 0 2 0 0,none),(6,AV.bool true,none),(7,AV.int .i64 i,none),(19,iI U,none),(20,AV.int .i64 i,none),(28,iI U,none),(29,AV.int .i64 (bj .i64 k (ofNat 1)),none)])) (bm [(0,al.row (Row.G [iI 0,iI 0,AV.nils])),(0,al.row (rM q 20)),(0,al.row (Row.G [AV.int .i64 f,AV.int .i64 t,aP m y false])),(0,al.row (Row.G [AV.int .i64 (q (aq 0 i 2)),AV.int .i64 (q (au (aq 0 k 2) 1)),AV.slc 0 4 0 0 1 g none])),(0,al.row (rM x g))]):=by kernel_rfl
end Go.Eng
end
section
namespace Go.Eng
open Go.Proofs Go.Eng.Gall
theorem vI:∀ b,(4,b) ∈ aI (part Tryd.f65 [1,0,1,1,1,1,0,1,0,0,1,1,0,0,1,1,0,0])→b=.loop (part Tryd.f65 [1,0,1,1,1,1,0,1,0,0,1,1,0,0,1,1,0,0,1,1,0,0,1,1,0,1,0,0]):=dJ (by kernel_rfl)
def x7 (q:Nat→Int) (F T:Int) (c:Nat):Bool:=decide (F≤q (2*c)) && decide (q (2*c+1)≤T)
def dV (q:Nat→Int) (F T:Int):Nat→List Int
 | 0=>[]
 | c+1=>if x7 q F T c=true then dV q F T c++[(c:Int)] else dV q F T c
theorem pz (q:Nat→Int) (F T:Int):∀ j,(dV q F T j).length≤j
 | 0=>Nat.le_refl 0
 | j+1=>by
   have:=pz q F T j;unfold dV;split
   · rw[List.length_append,List.length_singleton];omega
   · omega
noncomputable def EN (q:Nat→Int) (f t:Int) (A:AV) (F T:Int):List Int→bC
 | []=>zh q f t A F T
 | a::r=>BP q f t A F T (r.length+1) (az (a::r))
section
variable (n:Nat) (H:aa) (q:Nat→Int) (R:Row) (u:Bool) (f t:Int) (m:Nat) (y:Nat→Int) (U:Nat) (i k F T:Int)
theorem PL (hl:U≤10) (c:Nat) (hc:c<U) (L:List Int) (hL:L.length≤1000) :
 ∃ x,exec (bJ n 65 128) (part Tryd.f65 [1,0,1,1,1,1,0,1,0,0,1,1,0,0,1,1,0,0,1,1,0,0,1,1,0,1,0,0]) (gp R u U i k (c:Int)) (EN q f t .nils F T L::H)=some x∧x.1=.normal∧tidy 4 x.2.1 x.2.2=(gp R u U i k ((c+1:Nat):Int),EN q f t .nils F T (if x7 q F T c=true then L++[(c:Int)] else L)::H):=by
 have e1:bj .i64 (c:Int) (Int.ofNat 1)=((c+1:Nat):Int):=dO wO
 have ei:aq 0 (c:Int) 2=2*c:=by rw[bo];omega
 cases L with
 | nil =>
   have T0:=KO n H q R u f t 0 q U i k (c:Int) F T
   rw[e1,ei,aH] at T0
   refine aA T0 (aw _) (ah _ _) (aj _ _) ?_
   refine Tr.ae (fun h0=>?_) wJ
   refine Tr.ab wG (Tr.ab wG (Tr.ab wG (Tr.ae (fun q1=>Tr.ab wG (Tr.ab wG (Tr.ab wG (Tr.ae (fun q2=>?_) (fun q2=>Tr.ag ?_))))) (fun q1=>Tr.ag ?_))))
   all_goals rw[bk] at q1
   · rw[bk] at q2
     rw[if_pos (by unfold x7;rw[q1,q2];rfl)]
     refine Tr.ab wG (Tr.ab wG (Tr.ab wG (Tr.ab wG (Tr.ab wG (Tr.ag ⟨rfl,rfl⟩)))))
   · rw[bk] at q2
     rw[if_neg (by unfold x7;rw[q1,q2];decide)];exact ⟨rfl,rfl⟩
   · rw[if_neg (by unfold x7;rw[q1];simp)];exact ⟨rfl,rfl⟩
 | cons a r =>
   simp only[List.length_cons] at hL
   have e2:=lu (a::r) (c:Int)
   simp only[List.length_cons] at e2
   have e3:au (r.length+1) 1=r.length+1+1:=by rw[aH]
   have e4:b8 (Int.ofNat (r.length+1))=r.length+1:=by rw[kd];rfl
   have T0:=KP n H q R u f t 0 q U i k (c:Int) F T (r.length+1) (az (a::r))
   rw[e1,e4,e3,e2,ei,aH] at T0
   refine aA T0 (aw _) (ah _ _) (aj _ _) ?_
   refine Tr.ae (fun h0=>?_) wJ
   refine Tr.ab wG (Tr.ab wG (Tr.ab wG (Tr.ae (fun q1=>Tr.ab wG (Tr.ab wG (Tr.ab wG (Tr.ae (fun q2=>?_) (fun q2=>Tr.ag ?_))))) (fun q1=>Tr.ag ?_))))
   all_goals rw[bk] at q1
   · rw[bk] at q2
     rw[if_pos (by unfold x7;rw[q1,q2];rfl)]
     have er:(r++[(c:Int)]).length=r.length+1:=by rw[List.length_append,List.length_singleton]
     have el:EN q f t .nils F T (a::r++[(c:Int)])=BP q f t .nils F T (r.length+1+1) (az (a::r++[(c:Int)])):=by show BP _ _ _ _ _ _ ((r++[(c:Int)]).length+1) (az (a::(r++[(c:Int)])))=_;rw[er];rfl
     rw[el]
     generalize az (a::r++[(c:Int)])=Y at *
     refine Tr.ab wG (Tr.ab wG (Tr.ab wG (Tr.ab wG (Tr.ab wG (Tr.ae (fun q4=>?_) wJ)))))
     exact Tr.ab wG (Tr.ab wG (Tr.ab wG (Tr.ag ⟨rfl,rfl⟩)))
   · rw[bk] at q2
     rw[if_neg (by unfold x7;rw[q1,q2];decide)];exact ⟨rfl,rfl⟩
   · rw[if_neg (by unfold x7;rw[q1];simp)];exact ⟨rfl,rfl⟩
theorem Si (hl:U≤10):exec (bJ n 65 128) (.block 4 (.loop (part Tryd.f65 [1,0,1,1,1,1,0,1,0,0,1,1,0,0,1,1,0,0,1,1,0,0,1,1,0,1,0,0]))) (gp R u U i k (Int.ofNat 0)) (zh q f t .nils F T::H)=some (.normal,gp R u U i k (U:Int)++[(48,.bool false)],EN q f t .nils F T (dV q F T U)::H):=by
 refine jh (n:=n) (f:=65) (nt:=128) (c:=part Tryd.f65 [1,0,1,1,1,1,0,1,0,0,1,1,0,0,1,1,0,0,1,1,0,0,1,1,0,1,0,0]) 4 (fun c=>gp R u U i k (c:Int)) (fun c=>EN q f t .nils F T (dV q F T c)::H) U (gp R u U i k (U:Int)++[(48,.bool false)],EN q f t .nils F T (dV q F T U)::H) wO (fun c hc=>?_) ?_
 · exact PL n H q R u f t U i k F T hl c hc (dV q F T c) (by have:=pz q F T c;omega)
 · generalize dV q F T U=L;cases L with
   | nil =>
     obtain ⟨x,h1,rfl⟩:=aA (Q:=fun x=>x=(.exit 4,gp R u U i k (U:Int)++[(48,.bool false)],zh q f t .nils F T::H)) (KO n H q R u f t 0 q U i k (U:Int) F T) (aw _) (ah _ _) (aj _ _) (by
      refine Tr.ae wJ (fun h0=>Tr.ag rfl))
     exact h1
   | cons a r =>
     obtain ⟨x,h1,rfl⟩:=aA (Q:=fun x=>x=(.exit 4,gp R u U i k (U:Int)++[(48,.bool false)],BP q f t .nils F T (r.length+1) (az (a::r))::H)) (KP n H q R u f t 0 q U i k (U:Int) F T (r.length+1) (az (a::r))) (aw _) (ah _ _) (aj _ _) (by
      refine Tr.ae wJ (fun h0=>Tr.ag rfl))
     exact h1
theorem PM (hl:U≤10) (c:Nat) (hc:c<U) (L:List Int) (hL:L.length≤1000) :
 ∃ x,exec (bJ n 65 128) (part Tryd.f65 [1,0,1,1,1,1,0,1,0,0,1,1,0,0,1,1,0,0,1,1,0,0,1,1,0,1,0,0]) (gp R u U i k (c:Int)) (EN q f t (aP m y false) F T L::H)=some x∧x.1=.normal∧tidy 4 x.2.1 x.2.2=(gp R u U i k ((c+1:Nat):Int),EN q f t (aP m y false) F T (if x7 q F T c=true then L++[(c:Int)] else L)::H):=by
 have e1:bj .i64 (c:Int) (Int.ofNat 1)=((c+1:Nat):Int):=dO wO
 have ei:aq 0 (c:Int) 2=2*c:=by rw[bo];omega
 cases L with
 | nil =>
   have T0:=KQ n H q R u f t m y U i k (c:Int) F T
   rw[e1,ei,aH] at T0
   refine aA T0 (aw _) (ah _ _) (aj _ _) ?_
   refine Tr.ae (fun h0=>?_) wJ
   refine Tr.ab wG (Tr.ab wG (Tr.ab wG (Tr.ae (fun q1=>Tr.ab wG (Tr.ab wG (Tr.ab wG (Tr.ae (fun q2=>?_) (fun q2=>Tr.ag ?_))))) (fun q1=>Tr.ag ?_))))
   all_goals rw[bk] at q1
   · rw[bk] at q2
     rw[if_pos (by unfold x7;rw[q1,q2];rfl)]
     refine Tr.ab wG (Tr.ab wG (Tr.ab wG (Tr.ab wG (Tr.ab wG (Tr.ag ⟨rfl,rfl⟩)))))
   · rw[bk] at q2
     rw[if_neg (by unfold x7;rw[q1,q2];decide)];exact ⟨rfl,rfl⟩
   · rw[if_neg (by unfold x7;rw[q1];simp)];exact ⟨rfl,rfl⟩
 | cons a r =>
   simp only[List.length_cons] at hL
   have e2:=lu (a::r) (c:Int)
   simp only[List.length_cons] at e2
   have e3:au (r.length+1) 1=r.length+1+1:=by rw[aH]
   have e4:b8 (Int.ofNat (r.length+1))=r.length+1:=by rw[kd];rfl
   have T0:=KR n H q R u f t m y U i k (c:Int) F T (r.length+1) (az (a::r))
   rw[e1,e4,e3,e2,ei,aH] at T0
   refine aA T0 (aw _) (ah _ _) (aj _ _) ?_
   refine Tr.ae (fun h0=>?_) wJ
   refine Tr.ab wG (Tr.ab wG (Tr.ab wG (Tr.ae (fun q1=>Tr.ab wG (Tr.ab wG (Tr.ab wG (Tr.ae (fun q2=>?_) (fun q2=>Tr.ag ?_))))) (fun q1=>Tr.ag ?_))))
   all_goals rw[bk] at q1
   · rw[bk] at q2
     rw[if_pos (by unfold x7;rw[q1,q2];rfl)]
     have er:(r++[(c:Int)]).length=r.length+1:=by rw[List.length_append,List.length_singleton]
     have el:EN q f t (aP m y false) F T (a::r++[(c:Int)])=BP q f t (aP m y false) F T (r.length+1+1) (az (a::r++[(c:Int)])):=by show BP _ _ _ _ _ _ ((r++[(c:Int)]).length+1) (az (a::(r++[(c:Int)])))=_;rw[er];rfl
     rw[el]
     generalize az (a::r++[(c:Int)])=Y at *
     refine Tr.ab wG (Tr.ab wG (Tr.ab wG (Tr.ab wG (Tr.ab wG (Tr.ae (fun q4=>?_) wJ)))))
     exact Tr.ab wG (Tr.ab wG (Tr.ab wG (Tr.ag ⟨rfl,rfl⟩)))
   · rw[bk] at q2
     rw[if_neg (by unfold x7;rw[q1,q2];decide)];exact ⟨rfl,rfl⟩
   · rw[if_neg (by unfold x7;rw[q1];simp)];exact ⟨rfl,rfl⟩
theorem O9 (hl:U≤10):exec (bJ n 65 128) (.block 4 (.loop (part Tryd.f65 [1,0,1,1,1,1,0,1,0,0,1,1,0,0,1,1,0,0,1,1,0,0,1,1,0,1,0,0]))) (gp R u U i k (Int.ofNat 0)) (zh q f t (aP m y false) F T::H)=some (.normal,gp R u U i k (U:Int)++[(48,.bool false)],EN q f t (aP m y false) F T (dV q F T U)::H):=by
 refine jh (n:=n) (f:=65) (nt:=128) (c:=part Tryd.f65 [1,0,1,1,1,1,0,1,0,0,1,1,0,0,1,1,0,0,1,1,0,0,1,1,0,1,0,0]) 4 (fun c=>gp R u U i k (c:Int)) (fun c=>EN q f t (aP m y false) F T (dV q F T c)::H) U (gp R u U i k (U:Int)++[(48,.bool false)],EN q f t (aP m y false) F T (dV q F T U)::H) wO (fun c hc=>?_) ?_
 · exact PM n H q R u f t m y U i k F T hl c hc (dV q F T c) (by have:=pz q F T c;omega)
 · generalize dV q F T U=L;cases L with
   | nil =>
     obtain ⟨x,h1,rfl⟩:=aA (Q:=fun x=>x=(.exit 4,gp R u U i k (U:Int)++[(48,.bool false)],zh q f t (aP m y false) F T::H)) (KQ n H q R u f t m y U i k (U:Int) F T) (aw _) (ah _ _) (aj _ _) (by
      refine Tr.ae wJ (fun h0=>Tr.ag rfl))
     exact h1
   | cons a r =>
     obtain ⟨x,h1,rfl⟩:=aA (Q:=fun x=>x=(.exit 4,gp R u U i k (U:Int)++[(48,.bool false)],BP q f t (aP m y false) F T (r.length+1) (az (a::r))::H)) (KR n H q R u f t m y U i k (U:Int) F T (r.length+1) (az (a::r))) (aw _) (ah _ _) (aj _ _) (by
      refine Tr.ae wJ (fun h0=>Tr.ag rfl))
     exact h1
end
end Go.Eng
end
section
namespace Go.Eng
open Go.Proofs Go.Eng.Gall
def ub (q:Nat→Int) (U:Nat) (F T:Int):Bool:=decide (0<(dV q F T U).length) && decide (T-F+1<((dV q F T U).length:Int))
def NQ:Option (Int×Int)→Int→Int→Bool
 | none,_,_=>true
 | some (f,t),F,T=>decide (F<f) || decide (T<t)
def Fj (q:Nat→Int) (U:Nat) (F:Int) (b:Option (Int×Int)) (T:Int):Option (Int×Int):=if (NQ b F T && ub q U F T)=true then some (F,T) else b
def x5 (q:Nat→Int) (U:Nat) (F:Int) (b:Option (Int×Int)):Nat→Option (Int×Int)
 | 0=>b
 | k+1=>Fj q U F (x5 q U F b k) (q (2*k+1))
def Fv:Option (Int×Int)→Int→Bool
 | none,_=>false
 | some (f,_),F=>decide (f<F)
def kS (q:Nat→Int) (U:Nat):Nat→Option (Int×Int)
 | 0=>none
 | i+1=>if Fv (kS q U i) (q (2*i))=true then kS q U i else x5 q U (q (2*i)) (kS q U i) U
def jX (P:Int→Int→Prop):Option (Int×Int)→Prop
 | none=>∀ F T,¬ P F T
 | some (f,t)=>P f t∧∀ F T,P F T→f<F∨(f=F∧t≤T)
theorem iO {P Q:Int→Int→Prop} (h:∀ F T,P F T↔Q F T) {b:Option (Int×Int)}:jX P b↔jX Q b:=by
 have:P=Q:=funext fun F=>funext fun T=>propext (h F T);rw[this]
theorem GD {q:Nat→Int} {U:Nat} {F:Int} {b:Option (Int×Int)} (h:Fv b F=false):∀ k,Fv (x5 q U F b k) F=false
 | 0=>h
 | k+1=>by
   unfold x5 Fj;split
   · exact decide_eq_false (Int.lt_irrefl _)
   · exact GD h k
theorem HP {P:Int→Int→Prop} {q:Nat→Int} {U:Nat} {F T:Int} {b:Option (Int×Int)} (hb:jX P b) (hg:Fv b F=false):jX (fun x y=>P x y∨(x=F∧y=T∧ub q U F T=true)) (Fj q U F b T):=by
 unfold Fj;by_cases ho:ub q U F T=true
 · cases b with
   | none =>
     rw[if_pos (by rw[ho];rfl)];refine ⟨.inr ⟨rfl,rfl,ho⟩,?_⟩;rintro x y (h | ⟨rfl,rfl,_⟩)
     · exact absurd h (hb x y)
     · exact .inr ⟨rfl,Int.le_refl _⟩
   | some v =>
     obtain ⟨f,t⟩:=v;obtain ⟨h1,h2⟩:=hb;have hg:¬ f<F:=of_decide_eq_false hg;by_cases hc:F<f∨T<t
     · rw[if_pos (by rw[ho,Bool.and_true];show (decide (F<f) || decide (T<t))=true;simpa using hc)];refine ⟨.inr ⟨rfl,rfl,ho⟩,?_⟩;rintro x y (h | ⟨rfl,rfl,_⟩)
       · have:=h2 x y h;omega
       · exact .inr ⟨rfl,Int.le_refl _⟩
     · rw[if_neg (by rw[ho,Bool.and_true];show ¬ (decide (F<f) || decide (T<t))=true;simpa using hc)];refine ⟨.inl h1,?_⟩;rintro x y (h | ⟨rfl,rfl,_⟩)
       · exact h2 x y h
       · omega
 · rw[if_neg (by simp[ho])];exact (iO (fun x y=>⟨fun h=>.inl h,fun h=>h.elim id fun h=>absurd h.2.2 ho⟩)).1 hb
theorem yQ {P:Int→Int→Prop} {q:Nat→Int} {U:Nat} {F:Int} {b:Option (Int×Int)} (hb:jX P b) (hg:Fv b F=false):∀ k,jX (fun x y=>P x y∨(x=F∧∃ j,j<k∧y=q (2*j+1)∧ub q U F y=true)) (x5 q U F b k)
 | 0=>(iO (fun x y=>⟨fun h=>.inl h,fun h=>h.elim id fun ⟨_,j,h,_⟩=>absurd h (Nat.not_lt_zero j)⟩)).1 hb
 | k + 1=>by
   have:=HP (q:=q) (U:=U) (F:=F) (T:=q (2*k+1)) (b:=x5 q U F b k) (yQ (q:=q) (U:=U) hb hg k) (GD (q:=q) (U:=U) hg k);refine (iO (fun x y=>?_)).1 this;constructor
   · rintro ((h | ⟨h1,j,h2,h3,h4⟩) | ⟨rfl,rfl,h3⟩)
     · exact .inl h
     · exact .inr ⟨h1,j,by omega,h3,h4⟩
     · exact .inr ⟨rfl,k,by omega,rfl,h3⟩
   · rintro (h | ⟨rfl,j,h2,rfl,h4⟩)
     · exact .inl (.inl h)
     · by_cases e:j=k
       · subst e;exact .inr ⟨rfl,rfl,h4⟩
       · exact .inl (.inr ⟨rfl,j,by omega,rfl,h4⟩)
theorem ua (q:Nat→Int) (U:Nat):∀ i,jX (fun x y=>∃ j k,j<i∧k<U∧x=q (2*j)∧y=q (2*k+1)∧ub q U x y=true) (kS q U i)∨∃ f t,kS q U i=some (f,t)∧jX (fun x y=>∃ j k,j<i∧k<U∧x=q (2*j)∧y=q (2*k+1)∧ub q U x y=true) (some (f,t))
 | 0=>.inl fun F T ⟨j,_,h,_⟩=>absurd h (Nat.not_lt_zero j)
 | i + 1=>by
   have ih:jX (fun x y=>∃ j k,j<i∧k<U∧x=q (2*j)∧y=q (2*k+1)∧ub q U x y=true) (kS q U i):=by
    rcases ua q U i with h | ⟨f,t,h1,h2⟩
    · exact h
    · rw[h1];exact h2
   refine .inl ?_;unfold kS;by_cases hg:Fv (kS q U i) (q (2*i))=true
   · rw[if_pos hg];generalize kS q U i=b at *;cases b with
     | none=>cases hg
     | some v =>
       obtain ⟨f,t⟩:=v;have hg:f<q (2*i):=of_decide_eq_true hg;obtain ⟨⟨j,k,h1,h2⟩,h3⟩:=ih;refine ⟨⟨j,k,by omega,h2⟩,?_⟩;rintro F T ⟨j',k',a1,a2,rfl,rfl,a3⟩;by_cases e:j'=i
       · subst e;exact .inl hg
       · exact h3 _ _ ⟨j',k',by omega,a2,rfl,rfl,a3⟩
   · rw[if_neg hg];have hg:Fv (kS q U i) (q (2*i))=false:=by simpa using hg
     refine (iO (fun x y=>?_)).1 (yQ ih hg U);constructor
     · rintro (⟨j,k,h1,h2⟩ | ⟨rfl,k,h1,rfl,h2⟩)
       · exact ⟨j,k,by omega,h2⟩
       · exact ⟨i,k,by omega,h1,rfl,rfl,h2⟩
     · rintro ⟨j,k,h1,h2,rfl,rfl,h3⟩;by_cases e:j=i
       · subst e;exact .inr ⟨rfl,k,h2,rfl,h3⟩
       · exact .inl ⟨j,k,by omega,h2,rfl,rfl,h3⟩
end Go.Eng
end
section
namespace Go.Eng
open Go.Proofs Go.Eng.Gall
theorem rW (q:Nat→Int) (F T x:Int):∀ j,x ∈ dV q F T j↔∃ k,k<j∧x7 q F T k=true∧x=(k:Int)
 | 0=>by simp[dV]
 | j + 1=>by
   have ih:=rW q F T x j;unfold dV;split
   · rename_i h;rw[List.mem_append,List.mem_singleton,ih];constructor
     · rintro (⟨k,h1,h2,h3⟩ | h1)
       · exact ⟨k,by omega,h2,h3⟩
       · exact ⟨j,by omega,h,h1⟩
     · rintro ⟨k,h1,h2,h3⟩;by_cases e:k=j
       · subst e;exact .inr h3
       · exact .inl ⟨k,by omega,h2,h3⟩
   · rename_i h;rw[ih];constructor
     · rintro ⟨k,h1,h2,h3⟩;exact ⟨k,by omega,h2,h3⟩
     · rintro ⟨k,h1,h2,h3⟩;by_cases e:k=j
       · subst e;exact absurd h2 h
       · exact ⟨k,by omega,h2,h3⟩
theorem vX (q:Nat→Int) (F T:Int):∀ j,(dV q F T j).Nodup
 | 0=>List.nodup_nil
 | j + 1=>by
   have ih:=vX q F T j;unfold dV;split
   · rw[List.nodup_append];refine ⟨ih,by simp,?_⟩;intro a ha b hb e;rw[List.mem_singleton] at hb;obtain ⟨k,h1,_,h3⟩:=(rW q F T a j).1 ha;omega
   · exact ih
theorem dC {L:List Nat} (hn:L.Nodup) {M:List Int} (h:∀ x ∈ L,(x:Int) ∈ M):L.length≤M.length:=by
 have:=eT hn (M:=M.map Int.toNat) (fun x hx=>List.mem_map.2 ⟨(x:Int),h x hx,rfl⟩);rwa [List.length_map] at this
theorem od (f:Nat→Int):∀ (L:List Nat),L≠[]→∃ a ∈ L,∀ b ∈ L,f a≤f b
 | [],h=>absurd rfl h
 | [a],_=>⟨a,by simp,by simp⟩
 | a::b::L,_=>by
   obtain ⟨c,hc,h⟩:=od f (b::L) (by simp);by_cases e:f a≤f c
   · exact ⟨a,by simp,fun x hx=>by
      rcases List.mem_cons.1 hx with rfl | hx
      · exact Int.le_refl _
      · have:=h x hx;omega⟩
   · exact ⟨c,List.mem_cons_of_mem _ hc,fun x hx=>by
      rcases List.mem_cons.1 hx with rfl | hx
      · omega
      · exact h x hx⟩
theorem JL {q:Nat→Int} {U:Nat} (h:kS q U U=none):Room U (fun c=>q (2*c)) (fun c=>q (2*c+1)):=by
 have hf:∀ F T,¬ ∃ j k,j<U∧k<U∧F=q (2*j)∧T=q (2*k+1)∧ub q U F T=true:=by
  rcases ua q U U with h1 | ⟨f,t,h1,_⟩
  · rw[h] at h1;exact h1
  · rw[h] at h1;cases h1
 intro s t L hn hne hL;obtain ⟨a,ha,ha2⟩:=od (fun c=>q (2*c)) L hne;obtain ⟨b,hb,hb2⟩:=od (fun c=>-q (2*c+1)) L hne;have h1:=hf (q (2*a)) (q (2*b+1));have hov:ub q U (q (2*a)) (q (2*b+1))=false:=by
  cases e:ub q U (q (2*a)) (q (2*b+1)) with
  | false=>rfl
  | true=>exact absurd ⟨a,b,(hL a ha).1,(hL b hb).1,rfl,rfl,e⟩ h1
 have hle:L.length≤(dV q (q (2*a)) (q (2*b+1)) U).length:=dC hn fun x hx=>by
  refine (rW _ _ _ _ _).2 ⟨x,(hL x hx).1,?_,rfl⟩;have e1:=ha2 x hx;have e2:=hb2 x hx;unfold x7;rw[Bool.and_eq_true,decide_eq_true_iff,decide_eq_true_iff];constructor
  · exact e1
  · have e2:-q (2*b+1)≤-q (2*x+1):=e2;omega
 have hpos:0<L.length:=List.length_pos_iff.2 hne;unfold ub at hov;rw[decide_eq_true (show 0<(dV q (q (2*a)) (q (2*b+1)) U).length by omega),Bool.true_and,decide_eq_false_iff_not] at hov;have e3:s≤q (2*a):=(hL a ha).2.1;have e4:q (2*b+1)≤t:=(hL b hb).2.2;omega
theorem uk {n:Nat} {ok:Nat→Nat→Nat→Bool}:∀ {k:Nat} {L:List Nat},L ∈ ro n ok k↔L.length=k∧∀ i (h:i<L.length),L[i]<n∧(mask (L.take i)).testBit L[i]=false∧ok i (mask (L.take i)) L[i]=true
 | 0,L=>by
   show L ∈ [[]]↔_;rw[List.mem_singleton];constructor
   · rintro rfl;exact ⟨rfl,fun i h=>absurd h (Nat.not_lt_zero i)⟩
   · rintro ⟨h,_⟩;exact List.eq_nil_of_length_eq_zero h
 | k + 1,L=>by
   show L ∈ (ro n ok k).flatMap (fun L=>(nx ok n k (mask L)).map fun c=>L++[c])↔_;rw[List.mem_flatMap];constructor
   · rintro ⟨M,hM,hx⟩;obtain ⟨c,hc,rfl⟩:=List.mem_map.1 hx;obtain ⟨h1,h2⟩:=uk.1 hM;obtain ⟨c1,c2,c3⟩:=oF.1 hc;refine ⟨by rw[List.length_append,h1];rfl,fun i hi=>?_⟩;by_cases e:i<M.length
     · rw[List.getElem_append_left e,List.take_append_of_le_length wO];exact h2 i e
     · have:i=M.length:=by rw[List.length_append,List.length_singleton] at hi;omega
       subst this;rw[List.getElem_append_right (Nat.le_refl _),List.take_left' rfl];simp only[Nat.sub_self,List.getElem_cons_zero];rw[h1];exact ⟨c1,c2,c3⟩
   · rintro ⟨h1,h2⟩;have hne:L≠[]:=by intro e;rw[e] at h1;cases h1
     have hd:L.dropLast++[L.getLast hne]=L:=List.dropLast_concat_getLast hne;have hdl:L.dropLast.length=k:=by rw[List.length_dropLast,h1];rfl
     have ht:∀ i,i≤k→L.dropLast.take i=L.take i:=fun i hi=>by
      rw[List.dropLast_eq_take,List.take_take,Nat.min_eq_left wO]
     refine ⟨L.dropLast,uk.2 ⟨hdl,fun i hi=>?_⟩,List.mem_map.2 ⟨L.getLast hne,?_,hd⟩⟩
     · rw[ht i wO,List.getElem_dropLast];exact h2 i wO
     · have:=h2 k wO;rw[oF,List.getLast_eq_getElem];have e:L.take k=L.dropLast:=by rw[List.dropLast_eq_take,h1];rfl
       rw[e] at this;simpa[h1] using this
end Go.Eng
end
section
namespace Go.Eng
open Int (ofNat)
open Go.Proofs Go.Eng.Gall
noncomputable def tu (q:Nat→Int) (U:Nat):Option (Int×Int)→bC
 | none=>fj q (ofNat 0) (ofNat 0) .nils
 | some (f,t)=>fj q f t (aP (dV q f t U).length (az (dV q f t U)) false)
theorem uD {q:Nat→Int} {U:Nat} {F T:Int} {b:Option (Int×Int)} (h:ub q U F T=false):Fj q U F b T=b:=by unfold Fj;rw[h,Bool.and_false,if_neg (by decide)]
theorem Nx {q:Nat→Int} {U:Nat} {F T:Int} {b:Option (Int×Int)} (h:NQ b F T=false):Fj q U F b T=b:=by unfold Fj;rw[h,Bool.false_and,if_neg (by decide)]
theorem xV {q:Nat→Int} {U:Nat} {F T:Int} {b:Option (Int×Int)} (h:NQ b F T=true) (h2:ub q U F T=true):Fj q U F b T=some (F,T):=by unfold Fj;rw[h,h2];rfl
section
variable (n:Nat) (O:Int) (U:Nat) (Z:Nat→Int) (V:Nat) (J:Nat→Int) (W B:Nat→Int) (H:aa) (q:Nat→Int)
theorem Tw (hl:U≤10) (hq:∀ j,j<2*U→-1000000≤q j∧q j≤1000000) (i k:Nat) (hi:i<U) (hk:k<U) (b:Option (Int×Int)) (hb:Fv b (q (2*i))=false) :
 ∃ x,exec (bJ n 65 128) (part Tryd.f65 [1,0,1,1,1,1,0,1,0,0,1,1,0,0,1,1,0,0]) (iE (shR O U Z V J W B) b.isSome U i k) (tu q U b::H)=some x∧x.1=.normal∧tidy 3 x.2.1 x.2.2=(iE (shR O U Z V J W B) (Fj q U (q (2*i)) b (q (2*k+1))).isSome U i ((k+1:Nat):Int),tu q U (Fj q U (q (2*i)) b (q (2*k+1)))::H):=by
 have e1:bj .i64 (k:Int) (ofNat 1)=((k+1:Nat):Int):=dO wO
 have ei:aq 0 (i:Int) 2=2*i:=by rw[bo];omega
 have ek:aq 0 (k:Int) 2=2*k:=by rw[bo];omega
 have q1:=hq (2*i) wO
 have q2:=hq (2*k+1) wO
 have es:bj .i64 (bL .i64 (q (2*k+1)) (q (2*i))) (ofNat 1)=q (2*k+1)-q (2*i)+1:=by
  rw[Fc wO wO];exact N4 (by show _≤q (2*k+1)-q (2*i)+1;omega) (by show q (2*k+1)-q (2*i)+1≤_;omega)
 generalize hF:q (2*i)=F at *
 generalize hT:q (2*k+1)=T at *
 cases b with
 | none =>
   have hlp:=Si n H q (shR O U Z V J W B) false (ofNat 0) (ofNat 0) U i k F T hl
   cases hS:dV q F T U with
   | nil =>
     rw[hS] at hlp
     have ho:ub q U F T=false:=by unfold ub;rw[hS];rfl
     have T0:=O3 n O U Z V J W B H q i k (ofNat 0) (ofNat 0) 0 q
     rw[ei,ek,aH,e1,hF,hT] at T0
     rw[uD ho]
     refine aA T0 (aw _) (aU (ah _ _) vI (fun x hx=>fD hx (by simp only[ev.st,aN];exact hlp))) (aj _ _) ?_
     refine Tr.ae (fun h0=>?_) wJ
     refine Tr.ab wG (Tr.ab wG (Tr.ab wG (Tr.ab wG (Tr.ab wG (Tr.ab wG (Tr.ab wG (Tr.ak ⟨rfl,rfl⟩ (Tr.ae (fun h=>by cases h) (fun _=>Tr.ae (fun _=>Tr.ag ⟨rfl,rfl⟩) (fun h=>by simp[av] at h))))))))))
   | cons a r =>
     rw[hS] at hlp
     have hg:r.length+1≤U:=by have:=pz q F T U;rw[hS] at this;simpa using this
     have hov:ub q U F T=decide (T-F+1<((r.length+1:Nat):Int)):=by unfold ub;rw[hS];rfl
     have hup:tu q U (some (F,T))=fj q F T (aP (r.length+1) (az (a::r)) false):=by show fj q F T (aP (dV q F T U).length (az (dV q F T U)) false)=_;rw[hS];rfl
     have T0:=O4 n O U Z V J W B H q i k (ofNat 0) (ofNat 0) 0 q (r.length+1) (az (a::r))
     rw[ei,ek,aH,e1,hF,hT,es,iz] at T0
     refine aA T0 (aw _) (aU (ah _ _) vI (fun x hx=>fD hx (by simp only[ev.st,aN];exact hlp))) (aj _ _) ?_
     refine Tr.ae (fun h0=>?_) wJ
     refine Tr.ab wG (Tr.ab wG (Tr.ab wG (Tr.ab wG (Tr.ab wG (Tr.ab wG (Tr.ab wG (Tr.ak ⟨rfl,rfl⟩ (Tr.ae (fun h=>by cases h) (fun _=>Tr.ae (fun _=>Tr.ae (fun _=>Tr.ae (fun h1=>?_) (fun h1=>Tr.ag ?_)) wJ) (fun h=>by simp[av] at h))))))))))
     all_goals rw[bD] at h1
     · rw[xV rfl (hov.trans h1),hup]
       exact Tr.ab wG (Tr.ab wG (Tr.ab wG (Tr.ab wG (Tr.ag ⟨rfl,rfl⟩))))
     · rw[uD (hov.trans h1)];exact ⟨rfl,rfl⟩
 | some v =>
   obtain ⟨f,t⟩:=v
   have hb:decide (f<F)=false:=hb
   have hlp:=O9 n H q (shR O U Z V J W B) true f t (dV q f t U).length (az (dV q f t U)) U i k F T hl
   have hlv:tu q U (some (f,t))=fj q f t (aP (dV q f t U).length (az (dV q f t U)) false):=rfl
   generalize dV q f t U=L0 at hlp hlv
   cases hS:dV q F T U with
   | nil =>
     rw[hS] at hlp
     have ho:ub q U F T=false:=by unfold ub;rw[hS];rfl
     have T0:=KC n O U Z V J W B H q i k f t L0.length (az L0)
     rw[ei,ek,aH,e1,hF,hT] at T0
     rw[uD ho,hlv]
     refine aA T0 (aw _) (aU (ah _ _) vI (fun x hx=>fD hx (by simp only[ev.st,aN];exact hlp))) (aj _ _) ?_
     refine Tr.ae (fun h0=>?_) wJ
     refine Tr.ab wG (Tr.ab wG (Tr.ab wG (Tr.ab wG (Tr.ab wG (Tr.ab wG (Tr.ab wG (Tr.ak ⟨rfl,rfl⟩ (Tr.ae (fun _=>Tr.ae (fun h=>by rw[bD,hb] at h;cases h) (fun _=>Tr.ae (fun h=>by simp[av] at h) (fun _=>Tr.ae (fun _=>Tr.ag ⟨rfl,rfl⟩) (fun _=>Tr.ae (fun _=>Tr.ag ⟨rfl,rfl⟩) (fun _=>Tr.ag ⟨rfl,rfl⟩))))) (fun h=>by cases h)))))))))
   | cons a r =>
     rw[hS] at hlp
     have hg:r.length+1≤U:=by have:=pz q F T U;rw[hS] at this;simpa using this
     have hov:ub q U F T=decide (T-F+1<((r.length+1:Nat):Int)):=by unfold ub;rw[hS];rfl
     have hup:tu q U (some (F,T))=fj q F T (aP (r.length+1) (az (a::r)) false):=by show fj q F T (aP (dV q F T U).length (az (dV q F T U)) false)=_;rw[hS];rfl
     have T0:=KD n O U Z V J W B H q i k f t L0.length (az L0) (r.length+1) (az (a::r))
     rw[ei,ek,aH,e1,hF,hT,es,iz] at T0
     rw[hlv]
     refine aA T0 (aw _) (aU (ah _ _) vI (fun x hx=>fD hx (by simp only[ev.st,aN];exact hlp))) (aj _ _) ?_
     refine Tr.ae (fun h0=>?_) wJ
     refine Tr.ab wG (Tr.ab wG (Tr.ab wG (Tr.ab wG (Tr.ab wG (Tr.ab wG (Tr.ab wG (Tr.ak ⟨rfl,rfl⟩ (Tr.ae (fun _=>Tr.ae (fun h=>by rw[bD,hb] at h;cases h) (fun _=>Tr.ae (fun h=>by simp[av] at h) (fun _=>Tr.ae (fun h2=>Tr.ae (fun _=>Tr.ae (fun h1=>?_) (fun h1=>Tr.ag ?_)) wJ) (fun h2=>Tr.ae (fun h3=>Tr.ae (fun _=>Tr.ae (fun h1=>?_) (fun h1=>Tr.ag ?_)) wJ) (fun h3=>Tr.ag ?_))))) (fun h=>by cases h)))))))))
     all_goals rw[bD] at h2
     · rw[bD] at h1
       rw[xV (show NQ (some (f,t)) F T=true by show (decide (F<f) || decide (T<t))=true;rw[h2];rfl) (hov.trans h1),hup]
       exact Tr.ab wG (Tr.ab wG (Tr.ab wG (Tr.ab wG (Tr.ag ⟨rfl,rfl⟩))))
     · rw[bD] at h1
       rw[uD (hov.trans h1),hlv];exact ⟨rfl,rfl⟩
     all_goals rw[bD] at h3
     · rw[bD] at h1
       rw[xV (show NQ (some (f,t)) F T=true by show (decide (F<f) || decide (T<t))=true;rw[h3,Bool.or_true]) (hov.trans h1),hup]
       exact Tr.ab wG (Tr.ab wG (Tr.ab wG (Tr.ab wG (Tr.ag ⟨rfl,rfl⟩))))
     · rw[bD] at h1
       rw[uD (hov.trans h1),hlv];exact ⟨rfl,rfl⟩
     · rw[Nx (show NQ (some (f,t)) F T=false by show (decide (F<f) || decide (T<t))=false;rw[h2,h3];rfl),hlv];exact ⟨rfl,rfl⟩
end
end Go.Eng
end
