/- Gall: a right block: a round of its inner loop, trees. -/
import Derived.Test.YtgphpjdchnfjlaaDoorV6Gp6x13
set_option linter.unusedVariables false
set_option linter.unusedSimpArgs false
set_option maxRecDepth 100000
section
namespace Go.Eng
open Int (ofNat)
open Go.Proofs Go.Eng.Gall
theorem Ov (n:Nat) (O:Int) (U:Nat) (Z:Nat→Int) (V:Nat) (J:Nat→Int) (W B:Nat→Int) (H:aa) (q:Nat→Int) (i k:Int) (f t:Int) (m:Nat) (y:Nat→Int):aJ (bP n 65 128) (il aM n 0) (c9 aV 4 (gh (shR O U Z V J W B) false U i k (ofNat 0)) (yF q f t .nils (q (au 0 i 2)) (q (ah (au 0 k 2) 1))::H) (.ok (.normal,hints (gh (shR O U Z V J W B) false U i k (ofNat U)++[(48,.bool false)]),yF q f t .nils (q (au 0 i 2)) (q (ah (au 0 k 2) 1))::H))) aR (part Tryd.f65 [1,0,1,1,1,1,0,1,0,0,1,1,0,0,1,1,0,0]) (hints (im (shR O U Z V J W B) false U i k)) (eZ q f t .nils::H) =
 (fun (Z0:bK)=>((fun (Z1:aG)=>((fun (Z2:aE)=>Tr.ite (bQ k (ofNat U)) (Tr.req (bL i 10) (Tr.req (aU 0 0) (Tr.req (bt (au 0 i 2) 20) (Tr.req (bL k 10) (Tr.req (aU 0 0) (Tr.req (bt (ah (au 0 k 2) 1) 20) (Tr.req (bC (bH 0 0) (bH 0 1)) (Tr.reqP (Z2=Z2∧Z0::H=Z0::H) (Tr.ite false (Tr.ite (bQ f (q (au 0 i 2))) (Tr.ok (Ex.exit 1,[(0,shV O U Z V J W B,none),(2,AV.ptr 0 0 0 0,none),(4,AV.ptr 0 1 0 0,none),(5,AV.ptr 0 2 0 0,none),(6,AV.bool false,none),(7,AV.int .i64 i,none),(9,AV.ptr 0 3 0 0,none),(19,iI U,none),(20,AV.int .i64 i,none),(28,iI U,none),(29,AV.int .i64 k,none),(87,AV.bool true,some 1)],Z0::H)) (Tr.ite (bD false) (Tr.ok (Ex.normal,Z1,Z0::H)) (Tr.ite (bQ (q (au 0 i 2)) f) (Tr.ok (Ex.normal,Z1,Z0::H)) (Tr.ite (bQ (q (ah (au 0 k 2) 1)) t) (Tr.ok (Ex.normal,Z1,Z0::H)) (Tr.ok (Ex.normal,Z1,Z0::H)))))) (Tr.ite (bD false) (Tr.ok (Ex.normal,Z1,Z0::H)) (Tr.ite (bQ (q (au 0 i 2)) f) (Tr.ok (Ex.normal,Z1,Z0::H)) (Tr.ite (bQ (q (ah (au 0 k 2) 1)) t) (Tr.ok (Ex.normal,Z1,Z0::H)) (Tr.ok (Ex.normal,Z1,Z0::H)))))))))))))) (Tr.ok (Ex.exit 2,[(0,shV O U Z V J W B,none),(2,AV.ptr 0 0 0 0,none),(4,AV.ptr 0 1 0 0,none),(5,AV.ptr 0 2 0 0,none),(6,AV.bool false,none),(7,AV.int .i64 i,none),(19,iI U,none),(20,AV.int .i64 i,none),(28,iI U,none),(29,AV.int .i64 k,none),(30,AV.bool false,some 1)],(bO [(0,ao.row (Row.G [iI 0,iI 0,AV.nils])),(0,ao.row (rM q 20)),(0,ao.row (Row.G [AV.int .i64 f,AV.int .i64 t,AV.nils]))])::H))) [(0,shV O U Z V J W B),(2,AV.ptr 0 0 0 0),(4,AV.ptr 0 1 0 0),(5,AV.ptr 0 2 0 0),(6,AV.bool false),(7,AV.int .i64 i),(9,AV.ptr 0 3 0 0),(19,iI U),(20,AV.int .i64 i),(28,iI U),(29,AV.int .i64 k),(46,iI U),(47,iI 0)])) [(0,shV O U Z V J W B,none),(2,AV.ptr 0 0 0 0,none),(4,AV.ptr 0 1 0 0,none),(5,AV.ptr 0 2 0 0,none),(6,AV.bool false,none),(7,AV.int .i64 i,none),(19,iI U,none),(20,AV.int .i64 i,none),(28,iI U,none),(29,AV.int .i64 (bh .i64 k (ofNat 1)),none)])) (bO [(0,ao.row (Row.G [iI 0,iI 0,AV.nils])),(0,ao.row (rM q 20)),(0,ao.row (Row.G [AV.int .i64 f,AV.int .i64 t,AV.nils])),(0,ao.row (Row.G [AV.int .i64 (q (au 0 i 2)),AV.int .i64 (q (ah (au 0 k 2) 1)),AV.nils]))]):=by kernel_rfl
theorem Ow (n:Nat) (O:Int) (U:Nat) (Z:Nat→Int) (V:Nat) (J:Nat→Int) (W B:Nat→Int) (H:aa) (q:Nat→Int) (i k:Int) (f t:Int) (m:Nat) (y:Nat→Int) (g:Nat) (x:Nat→Int):aJ (bP n 65 128) (il aM n 0) (c9 aV 4 (gh (shR O U Z V J W B) false U i k (ofNat 0)) (yF q f t .nils (q (au 0 i 2)) (q (ah (au 0 k 2) 1))::H) (.ok (.normal,hints (gh (shR O U Z V J W B) false U i k (ofNat U)++[(48,.bool false)]),Bp q f t .nils (q (au 0 i 2)) (q (ah (au 0 k 2) 1)) g x::H))) aR (part Tryd.f65 [1,0,1,1,1,1,0,1,0,0,1,1,0,0,1,1,0,0]) (hints (im (shR O U Z V J W B) false U i k)) (eZ q f t .nils::H) =
 (fun (Z0:bK)=>((fun (Z1:aG)=>((fun (Z2:bK)=>((fun (Z3:aG)=>((fun (Z4:aE)=>((fun (Z5:bK)=>Tr.ite (bQ k (ofNat U)) (Tr.req (bL i 10) (Tr.req (aU 0 0) (Tr.req (bt (au 0 i 2) 20) (Tr.req (bL k 10) (Tr.req (aU 0 0) (Tr.req (bt (ah (au 0 k 2) 1) 20) (Tr.req (bC (bH 0 0) (bH 0 1)) (Tr.reqP (Z4=Z4∧Z5::H=Z5::H) (Tr.ite false (Tr.ite (bQ f (q (au 0 i 2))) (Tr.ok (Ex.exit 1,[(0,shV O U Z V J W B,none),(2,AV.ptr 0 0 0 0,none),(4,AV.ptr 0 1 0 0,none),(5,AV.ptr 0 2 0 0,none),(6,AV.bool false,none),(7,AV.int .i64 i,none),(9,AV.ptr 0 3 0 0,none),(19,iI U,none),(20,AV.int .i64 i,none),(28,iI U,none),(29,AV.int .i64 k,none),(87,AV.bool true,some 1)],Z0::H)) (Tr.ite (bD false) (Tr.ite (bQ (ofNat 0) (ofNat g)) (Tr.ite (bQ (bh .i64 (cq .i64 (q (ah (au 0 k 2) 1)) (q (au 0 i 2))) (ofNat 1)) (ofNat g)) (Tr.req (aU 0 0) (Tr.req (dX 0 g 0 g) (Tr.req (aU 0 0) (Tr.req (dX 0 g 0 g) (Tr.ok (Ex.normal,Z3,Z2::H)))))) (Tr.ok (Ex.normal,Z1,Z0::H))) (Tr.ok (Ex.normal,Z1,Z0::H))) (Tr.ite (bQ (q (au 0 i 2)) f) (Tr.ite (bQ (ofNat 0) (ofNat g)) (Tr.ite (bQ (bh .i64 (cq .i64 (q (ah (au 0 k 2) 1)) (q (au 0 i 2))) (ofNat 1)) (ofNat g)) (Tr.req (aU 0 0) (Tr.req (dX 0 g 0 g) (Tr.req (aU 0 0) (Tr.req (dX 0 g 0 g) (Tr.ok (Ex.normal,Z3,Z2::H)))))) (Tr.ok (Ex.normal,Z1,Z0::H))) (Tr.ok (Ex.normal,Z1,Z0::H))) (Tr.ite (bQ (q (ah (au 0 k 2) 1)) t) (Tr.ite (bQ (ofNat 0) (ofNat g)) (Tr.ite (bQ (bh .i64 (cq .i64 (q (ah (au 0 k 2) 1)) (q (au 0 i 2))) (ofNat 1)) (ofNat g)) (Tr.req (aU 0 0) (Tr.req (dX 0 g 0 g) (Tr.req (aU 0 0) (Tr.req (dX 0 g 0 g) (Tr.ok (Ex.normal,Z3,Z2::H)))))) (Tr.ok (Ex.normal,Z1,Z0::H))) (Tr.ok (Ex.normal,Z1,Z0::H))) (Tr.ok (Ex.normal,Z1,Z0::H)))))) (Tr.ite (bD false) (Tr.ite (bQ (ofNat 0) (ofNat g)) (Tr.ite (bQ (bh .i64 (cq .i64 (q (ah (au 0 k 2) 1)) (q (au 0 i 2))) (ofNat 1)) (ofNat g)) (Tr.req (aU 0 0) (Tr.req (dX 0 g 0 g) (Tr.req (aU 0 0) (Tr.req (dX 0 g 0 g) (Tr.ok (Ex.normal,Z3,Z2::H)))))) (Tr.ok (Ex.normal,Z1,Z0::H))) (Tr.ok (Ex.normal,Z1,Z0::H))) (Tr.ite (bQ (q (au 0 i 2)) f) (Tr.ite (bQ (ofNat 0) (ofNat g)) (Tr.ite (bQ (bh .i64 (cq .i64 (q (ah (au 0 k 2) 1)) (q (au 0 i 2))) (ofNat 1)) (ofNat g)) (Tr.req (aU 0 0) (Tr.req (dX 0 g 0 g) (Tr.req (aU 0 0) (Tr.req (dX 0 g 0 g) (Tr.ok (Ex.normal,Z3,Z2::H)))))) (Tr.ok (Ex.normal,Z1,Z0::H))) (Tr.ok (Ex.normal,Z1,Z0::H))) (Tr.ite (bQ (q (ah (au 0 k 2) 1)) t) (Tr.ite (bQ (ofNat 0) (ofNat g)) (Tr.ite (bQ (bh .i64 (cq .i64 (q (ah (au 0 k 2) 1)) (q (au 0 i 2))) (ofNat 1)) (ofNat g)) (Tr.req (aU 0 0) (Tr.req (dX 0 g 0 g) (Tr.req (aU 0 0) (Tr.req (dX 0 g 0 g) (Tr.ok (Ex.normal,Z3,Z2::H)))))) (Tr.ok (Ex.normal,Z1,Z0::H))) (Tr.ok (Ex.normal,Z1,Z0::H))) (Tr.ok (Ex.normal,Z1,Z0::H)))))))))))))) (Tr.ok (Ex.exit 2,[(0,shV O U Z V J W B,none),(2,AV.ptr 0 0 0 0,none),(4,AV.ptr 0 1 0 0,none),(5,AV.ptr 0 2 0 0,none),(6,AV.bool false,none),(7,AV.int .i64 i,none),(19,iI U,none),(20,AV.int .i64 i,none),(28,iI U,none),(29,AV.int .i64 k,none),(30,AV.bool false,some 1)],(bO [(0,ao.row (Row.G [iI 0,iI 0,AV.nils])),(0,ao.row (rM q 20)),(0,ao.row (Row.G [AV.int .i64 f,AV.int .i64 t,AV.nils]))])::H))) (bO [(0,ao.row (Row.G [iI 0,iI 0,AV.nils])),(0,ao.row (rM q 20)),(0,ao.row (Row.G [AV.int .i64 f,AV.int .i64 t,AV.nils])),(0,ao.row (Row.G [AV.int .i64 (q (au 0 i 2)),AV.int .i64 (q (ah (au 0 k 2) 1)),AV.nils]))]))) [(0,shV O U Z V J W B),(2,AV.ptr 0 0 0 0),(4,AV.ptr 0 1 0 0),(5,AV.ptr 0 2 0 0),(6,AV.bool false),(7,AV.int .i64 i),(9,AV.ptr 0 3 0 0),(19,iI U),(20,AV.int .i64 i),(28,iI U),(29,AV.int .i64 k),(46,iI U),(47,iI 0)])) [(0,shV O U Z V J W B,none),(2,AV.ptr 0 0 0 0,none),(4,AV.ptr 0 1 0 0,none),(5,AV.ptr 0 2 0 0,none),(6,AV.bool true,some 1),(7,AV.int .i64 i,none),(19,iI U,none),(20,AV.int .i64 i,none),(28,iI U,none),(29,AV.int .i64 (bh .i64 k (ofNat 1)),none)])) (bO [(0,ao.row (Row.G [iI 0,iI 0,AV.nils])),(0,ao.row (rM q 20)),(0,ao.row (Row.G [AV.int .i64 (q (au 0 i 2)),AV.int .i64 (q (ah (au 0 k 2) 1)),bk g (iO x 0) false])),(0,ao.row (Row.G [AV.int .i64 (q (au 0 i 2)),AV.int .i64 (q (ah (au 0 k 2) 1)),bk g (iO x 0) false])),(0,ao.dead)]))) [(0,shV O U Z V J W B,none),(2,AV.ptr 0 0 0 0,none),(4,AV.ptr 0 1 0 0,none),(5,AV.ptr 0 2 0 0,none),(6,AV.bool false,none),(7,AV.int .i64 i,none),(19,iI U,none),(20,AV.int .i64 i,none),(28,iI U,none),(29,AV.int .i64 (bh .i64 k (ofNat 1)),none)])) (bO [(0,ao.row (Row.G [iI 0,iI 0,AV.nils])),(0,ao.row (rM q 20)),(0,ao.row (Row.G [AV.int .i64 f,AV.int .i64 t,AV.nils])),(0,ao.row (Row.G [AV.int .i64 (q (au 0 i 2)),AV.int .i64 (q (ah (au 0 k 2) 1)),AV.slc 0 4 0 0 1 g none])),(0,ao.row (rM x g))]):=by kernel_rfl
theorem Kd (n:Nat) (O:Int) (U:Nat) (Z:Nat→Int) (V:Nat) (J:Nat→Int) (W B:Nat→Int) (H:aa) (q:Nat→Int) (i k:Int) (f t:Int) (m:Nat) (y:Nat→Int):aJ (bP n 65 128) (il aM n 0) (c9 aV 4 (gh (shR O U Z V J W B) true U i k (ofNat 0)) (yF q f t (bk m y false) (q (au 0 i 2)) (q (ah (au 0 k 2) 1))::H) (.ok (.normal,hints (gh (shR O U Z V J W B) true U i k (ofNat U)++[(48,.bool false)]),yF q f t (bk m y false) (q (au 0 i 2)) (q (ah (au 0 k 2) 1))::H))) aR (part Tryd.f65 [1,0,1,1,1,1,0,1,0,0,1,1,0,0,1,1,0,0]) (hints (im (shR O U Z V J W B) true U i k)) (eZ q f t (bk m y false)::H) =
 (fun (Z0:bK)=>((fun (Z1:aG)=>((fun (Z2:aE)=>Tr.ite (bQ k (ofNat U)) (Tr.req (bL i 10) (Tr.req (aU 0 0) (Tr.req (bt (au 0 i 2) 20) (Tr.req (bL k 10) (Tr.req (aU 0 0) (Tr.req (bt (ah (au 0 k 2) 1) 20) (Tr.req (bC (bH 0 0) (bH 0 1)) (Tr.reqP (Z2=Z2∧Z0::H=Z0::H) (Tr.ite true (Tr.ite (bQ f (q (au 0 i 2))) (Tr.ok (Ex.exit 1,[(0,shV O U Z V J W B,none),(2,AV.ptr 0 0 0 0,none),(4,AV.ptr 0 1 0 0,none),(5,AV.ptr 0 2 0 0,none),(6,AV.bool true,none),(7,AV.int .i64 i,none),(9,AV.ptr 0 3 0 0,none),(19,iI U,none),(20,AV.int .i64 i,none),(28,iI U,none),(29,AV.int .i64 k,none),(87,AV.bool true,some 1)],Z0::H)) (Tr.ite (bD true) (Tr.ok (Ex.normal,Z1,Z0::H)) (Tr.ite (bQ (q (au 0 i 2)) f) (Tr.ok (Ex.normal,Z1,Z0::H)) (Tr.ite (bQ (q (ah (au 0 k 2) 1)) t) (Tr.ok (Ex.normal,Z1,Z0::H)) (Tr.ok (Ex.normal,Z1,Z0::H)))))) (Tr.ite (bD true) (Tr.ok (Ex.normal,Z1,Z0::H)) (Tr.ite (bQ (q (au 0 i 2)) f) (Tr.ok (Ex.normal,Z1,Z0::H)) (Tr.ite (bQ (q (ah (au 0 k 2) 1)) t) (Tr.ok (Ex.normal,Z1,Z0::H)) (Tr.ok (Ex.normal,Z1,Z0::H)))))))))))))) (Tr.ok (Ex.exit 2,[(0,shV O U Z V J W B,none),(2,AV.ptr 0 0 0 0,none),(4,AV.ptr 0 1 0 0,none),(5,AV.ptr 0 2 0 0,none),(6,AV.bool true,none),(7,AV.int .i64 i,none),(19,iI U,none),(20,AV.int .i64 i,none),(28,iI U,none),(29,AV.int .i64 k,none),(30,AV.bool false,some 1)],(bO [(0,ao.row (Row.G [iI 0,iI 0,AV.nils])),(0,ao.row (rM q 20)),(0,ao.row (Row.G [AV.int .i64 f,AV.int .i64 t,bk m y false]))])::H))) [(0,shV O U Z V J W B),(2,AV.ptr 0 0 0 0),(4,AV.ptr 0 1 0 0),(5,AV.ptr 0 2 0 0),(6,AV.bool true),(7,AV.int .i64 i),(9,AV.ptr 0 3 0 0),(19,iI U),(20,AV.int .i64 i),(28,iI U),(29,AV.int .i64 k),(46,iI U),(47,iI 0)])) [(0,shV O U Z V J W B,none),(2,AV.ptr 0 0 0 0,none),(4,AV.ptr 0 1 0 0,none),(5,AV.ptr 0 2 0 0,none),(6,AV.bool true,none),(7,AV.int .i64 i,none),(19,iI U,none),(20,AV.int .i64 i,none),(28,iI U,none),(29,AV.int .i64 (bh .i64 k (ofNat 1)),none)])) (bO [(0,ao.row (Row.G [iI 0,iI 0,AV.nils])),(0,ao.row (rM q 20)),(0,ao.row (Row.G [AV.int .i64 f,AV.int .i64 t,bk m y false])),(0,ao.row (Row.G [AV.int .i64 (q (au 0 i 2)),AV.int .i64 (q (ah (au 0 k 2) 1)),AV.nils]))]):=by kernel_rfl
theorem Ke (n:Nat) (O:Int) (U:Nat) (Z:Nat→Int) (V:Nat) (J:Nat→Int) (W B:Nat→Int) (H:aa) (q:Nat→Int) (i k:Int) (f t:Int) (m:Nat) (y:Nat→Int) (g:Nat) (x:Nat→Int):aJ (bP n 65 128) (il aM n 0) (c9 aV 4 (gh (shR O U Z V J W B) true U i k (ofNat 0)) (yF q f t (bk m y false) (q (au 0 i 2)) (q (ah (au 0 k 2) 1))::H) (.ok (.normal,hints (gh (shR O U Z V J W B) true U i k (ofNat U)++[(48,.bool false)]),Bp q f t (bk m y false) (q (au 0 i 2)) (q (ah (au 0 k 2) 1)) g x::H))) aR (part Tryd.f65 [1,0,1,1,1,1,0,1,0,0,1,1,0,0,1,1,0,0]) (hints (im (shR O U Z V J W B) true U i k)) (eZ q f t (bk m y false)::H) =
 (fun (Z0:bK)=>((fun (Z1:aG)=>((fun (Z2:bK)=>((fun (Z3:aG)=>((fun (Z4:aE)=>((fun (Z5:bK)=>Tr.ite (bQ k (ofNat U)) (Tr.req (bL i 10) (Tr.req (aU 0 0) (Tr.req (bt (au 0 i 2) 20) (Tr.req (bL k 10) (Tr.req (aU 0 0) (Tr.req (bt (ah (au 0 k 2) 1) 20) (Tr.req (bC (bH 0 0) (bH 0 1)) (Tr.reqP (Z4=Z4∧Z5::H=Z5::H) (Tr.ite true (Tr.ite (bQ f (q (au 0 i 2))) (Tr.ok (Ex.exit 1,[(0,shV O U Z V J W B,none),(2,AV.ptr 0 0 0 0,none),(4,AV.ptr 0 1 0 0,none),(5,AV.ptr 0 2 0 0,none),(6,AV.bool true,none),(7,AV.int .i64 i,none),(9,AV.ptr 0 3 0 0,none),(19,iI U,none),(20,AV.int .i64 i,none),(28,iI U,none),(29,AV.int .i64 k,none),(87,AV.bool true,some 1)],Z0::H)) (Tr.ite (bD true) (Tr.ite (bQ (ofNat 0) (ofNat g)) (Tr.ite (bQ (bh .i64 (cq .i64 (q (ah (au 0 k 2) 1)) (q (au 0 i 2))) (ofNat 1)) (ofNat g)) (Tr.req (aU 0 0) (Tr.req (dX 0 g 0 g) (Tr.req (aU 0 0) (Tr.req (dX 0 g 0 g) (Tr.ok (Ex.normal,Z3,Z2::H)))))) (Tr.ok (Ex.normal,Z1,Z0::H))) (Tr.ok (Ex.normal,Z1,Z0::H))) (Tr.ite (bQ (q (au 0 i 2)) f) (Tr.ite (bQ (ofNat 0) (ofNat g)) (Tr.ite (bQ (bh .i64 (cq .i64 (q (ah (au 0 k 2) 1)) (q (au 0 i 2))) (ofNat 1)) (ofNat g)) (Tr.req (aU 0 0) (Tr.req (dX 0 g 0 g) (Tr.req (aU 0 0) (Tr.req (dX 0 g 0 g) (Tr.ok (Ex.normal,Z3,Z2::H)))))) (Tr.ok (Ex.normal,Z1,Z0::H))) (Tr.ok (Ex.normal,Z1,Z0::H))) (Tr.ite (bQ (q (ah (au 0 k 2) 1)) t) (Tr.ite (bQ (ofNat 0) (ofNat g)) (Tr.ite (bQ (bh .i64 (cq .i64 (q (ah (au 0 k 2) 1)) (q (au 0 i 2))) (ofNat 1)) (ofNat g)) (Tr.req (aU 0 0) (Tr.req (dX 0 g 0 g) (Tr.req (aU 0 0) (Tr.req (dX 0 g 0 g) (Tr.ok (Ex.normal,Z3,Z2::H)))))) (Tr.ok (Ex.normal,Z1,Z0::H))) (Tr.ok (Ex.normal,Z1,Z0::H))) (Tr.ok (Ex.normal,Z1,Z0::H)))))) (Tr.ite (bD true) (Tr.ite (bQ (ofNat 0) (ofNat g)) (Tr.ite (bQ (bh .i64 (cq .i64 (q (ah (au 0 k 2) 1)) (q (au 0 i 2))) (ofNat 1)) (ofNat g)) (Tr.req (aU 0 0) (Tr.req (dX 0 g 0 g) (Tr.req (aU 0 0) (Tr.req (dX 0 g 0 g) (Tr.ok (Ex.normal,Z3,Z2::H)))))) (Tr.ok (Ex.normal,Z1,Z0::H))) (Tr.ok (Ex.normal,Z1,Z0::H))) (Tr.ite (bQ (q (au 0 i 2)) f) (Tr.ite (bQ (ofNat 0) (ofNat g)) (Tr.ite (bQ (bh .i64 (cq .i64 (q (ah (au 0 k 2) 1)) (q (au 0 i 2))) (ofNat 1)) (ofNat g)) (Tr.req (aU 0 0) (Tr.req (dX 0 g 0 g) (Tr.req (aU 0 0) (Tr.req (dX 0 g 0 g) (Tr.ok (Ex.normal,Z3,Z2::H)))))) (Tr.ok (Ex.normal,Z1,Z0::H))) (Tr.ok (Ex.normal,Z1,Z0::H))) (Tr.ite (bQ (q (ah (au 0 k 2) 1)) t) (Tr.ite (bQ (ofNat 0) (ofNat g)) (Tr.ite (bQ (bh .i64 (cq .i64 (q (ah (au 0 k 2) 1)) (q (au 0 i 2))) (ofNat 1)) (ofNat g)) (Tr.req (aU 0 0) (Tr.req (dX 0 g 0 g) (Tr.req (aU 0 0) (Tr.req (dX 0 g 0 g) (Tr.ok (Ex.normal,Z3,Z2::H)))))) (Tr.ok (Ex.normal,Z1,Z0::H))) (Tr.ok (Ex.normal,Z1,Z0::H))) (Tr.ok (Ex.normal,Z1,Z0::H)))))))))))))) (Tr.ok (Ex.exit 2,[(0,shV O U Z V J W B,none),(2,AV.ptr 0 0 0 0,none),(4,AV.ptr 0 1 0 0,none),(5,AV.ptr 0 2 0 0,none),(6,AV.bool true,none),(7,AV.int .i64 i,none),(19,iI U,none),(20,AV.int .i64 i,none),(28,iI U,none),(29,AV.int .i64 k,none),(30,AV.bool false,some 1)],(bO [(0,ao.row (Row.G [iI 0,iI 0,AV.nils])),(0,ao.row (rM q 20)),(0,ao.row (Row.G [AV.int .i64 f,AV.int .i64 t,bk m y false]))])::H))) (bO [(0,ao.row (Row.G [iI 0,iI 0,AV.nils])),(0,ao.row (rM q 20)),(0,ao.row (Row.G [AV.int .i64 f,AV.int .i64 t,bk m y false])),(0,ao.row (Row.G [AV.int .i64 (q (au 0 i 2)),AV.int .i64 (q (ah (au 0 k 2) 1)),AV.nils]))]))) [(0,shV O U Z V J W B),(2,AV.ptr 0 0 0 0),(4,AV.ptr 0 1 0 0),(5,AV.ptr 0 2 0 0),(6,AV.bool true),(7,AV.int .i64 i),(9,AV.ptr 0 3 0 0),(19,iI U),(20,AV.int .i64 i),(28,iI U),(29,AV.int .i64 k),(46,iI U),(47,iI 0)])) [(0,shV O U Z V J W B,none),(2,AV.ptr 0 0 0 0,none),(4,AV.ptr 0 1 0 0,none),(5,AV.ptr 0 2 0 0,none),(6,AV.bool true,some 1),(7,AV.int .i64 i,none),(19,iI U,none),(20,AV.int .i64 i,none),(28,iI U,none),(29,AV.int .i64 (bh .i64 k (ofNat 1)),none)])) (bO [(0,ao.row (Row.G [iI 0,iI 0,AV.nils])),(0,ao.row (rM q 20)),(0,ao.row (Row.G [AV.int .i64 (q (au 0 i 2)),AV.int .i64 (q (ah (au 0 k 2) 1)),bk g (iO x 0) false])),(0,ao.row (Row.G [AV.int .i64 (q (au 0 i 2)),AV.int .i64 (q (ah (au 0 k 2) 1)),bk g (iO x 0) false])),(0,ao.dead)]))) [(0,shV O U Z V J W B,none),(2,AV.ptr 0 0 0 0,none),(4,AV.ptr 0 1 0 0,none),(5,AV.ptr 0 2 0 0,none),(6,AV.bool true,none),(7,AV.int .i64 i,none),(19,iI U,none),(20,AV.int .i64 i,none),(28,iI U,none),(29,AV.int .i64 (bh .i64 k (ofNat 1)),none)])) (bO [(0,ao.row (Row.G [iI 0,iI 0,AV.nils])),(0,ao.row (rM q 20)),(0,ao.row (Row.G [AV.int .i64 f,AV.int .i64 t,bk m y false])),(0,ao.row (Row.G [AV.int .i64 (q (au 0 i 2)),AV.int .i64 (q (ah (au 0 k 2) 1)),AV.slc 0 4 0 0 1 g none])),(0,ao.row (rM x g))]):=by kernel_rfl
end Go.Eng
end
section
namespace Go.Eng
open Go.Proofs Go.Eng.Gall
theorem vt:∀ b,(4,b) ∈ aO (part Tryd.f65 [1,0,1,1,1,1,0,1,0,0,1,1,0,0,1,1,0,0])→b=.loop (part Tryd.f65 [1,0,1,1,1,1,0,1,0,0,1,1,0,0,1,1,0,0,1,1,0,0,1,1,0,1,0,0]):=eP (by kernel_rfl)
def xK (q:Nat→Int) (F T:Int) (c:Nat):Bool:=decide (F≤q (2*c)) && decide (q (2*c+1)≤T)
def dR (q:Nat→Int) (F T:Int):Nat→List Int
 | 0=>[]
 | c+1=>if xK q F T c=true then dR q F T c++[(c:Int)] else dR q F T c
theorem py (q:Nat→Int) (F T:Int):∀ j,(dR q F T j).length≤j
 | 0=>Nat.le_refl 0
 | j+1=>by
   have:=py q F T j;unfold dR;split
   · rw[List.length_append,List.length_singleton];omega
   · omega
noncomputable def Ep (q:Nat→Int) (f t:Int) (A:AV) (F T:Int):List Int→bK
 | []=>yF q f t A F T
 | a::r=>Bp q f t A F T (r.length+1) (ar (a::r))
section
variable (n:Nat) (H:aa) (q:Nat→Int) (R:Row) (u:Bool) (f t:Int) (m:Nat) (y:Nat→Int) (U:Nat) (i k F T:Int)
theorem O5 (hl:U≤10) (c:Nat) (hc:c<U) (L:List Int) (hL:L.length≤1000) :
 ∃ x,exec (bP n 65 128) (part Tryd.f65 [1,0,1,1,1,1,0,1,0,0,1,1,0,0,1,1,0,0,1,1,0,0,1,1,0,1,0,0]) (gh R u U i k (c:Int)) (Ep q f t .nils F T L::H)=some x∧x.1=.normal∧tidy 4 x.2.1 x.2.2=(gh R u U i k ((c+1:Nat):Int),Ep q f t .nils F T (if xK q F T c=true then L++[(c:Int)] else L)::H):=by
 have e1:bh .i64 (c:Int) (Int.ofNat 1)=((c+1:Nat):Int):=fI wO
 have ei:au 0 (c:Int) 2=2*c:=by rw[bN];omega
 cases L with
 | nil =>
   have T0:=Kn n H q R u f t 0 q U i k (c:Int) F T
   rw[e1,ei,aF] at T0
   refine aI T0 (aA _) (aj _ _) (ak _ _) ?_
   refine Tr.af (fun h0=>?_) wJ
   refine Tr.ae wG (Tr.ae wG (Tr.ae wG (Tr.af (fun q1=>Tr.ae wG (Tr.ae wG (Tr.ae wG (Tr.af (fun q2=>?_) (fun q2=>Tr.ai ?_))))) (fun q1=>Tr.ai ?_))))
   all_goals rw[br] at q1
   · rw[br] at q2
     rw[if_pos (by unfold xK;rw[q1,q2];rfl)]
     refine Tr.ae wG (Tr.ae wG (Tr.ae wG (Tr.ae wG (Tr.ae wG (Tr.ai ⟨rfl,rfl⟩)))))
   · rw[br] at q2
     rw[if_neg (by unfold xK;rw[q1,q2];decide)];exact ⟨rfl,rfl⟩
   · rw[if_neg (by unfold xK;rw[q1];simp)];exact ⟨rfl,rfl⟩
 | cons a r =>
   simp only[List.length_cons] at hL
   have e2:=ng (a::r) (c:Int)
   simp only[List.length_cons] at e2
   have e3:ah (r.length+1) 1=r.length+1+1:=by rw[aF]
   have e4:cg (Int.ofNat (r.length+1))=r.length+1:=by rw[j9];rfl
   have T0:=Ko n H q R u f t 0 q U i k (c:Int) F T (r.length+1) (ar (a::r))
   rw[e1,e4,e3,e2,ei,aF] at T0
   refine aI T0 (aA _) (aj _ _) (ak _ _) ?_
   refine Tr.af (fun h0=>?_) wJ
   refine Tr.ae wG (Tr.ae wG (Tr.ae wG (Tr.af (fun q1=>Tr.ae wG (Tr.ae wG (Tr.ae wG (Tr.af (fun q2=>?_) (fun q2=>Tr.ai ?_))))) (fun q1=>Tr.ai ?_))))
   all_goals rw[br] at q1
   · rw[br] at q2
     rw[if_pos (by unfold xK;rw[q1,q2];rfl)]
     have er:(r++[(c:Int)]).length=r.length+1:=by rw[List.length_append,List.length_singleton]
     have el:Ep q f t .nils F T (a::r++[(c:Int)])=Bp q f t .nils F T (r.length+1+1) (ar (a::r++[(c:Int)])):=by show Bp _ _ _ _ _ _ ((r++[(c:Int)]).length+1) (ar (a::(r++[(c:Int)])))=_;rw[er];rfl
     rw[el]
     generalize ar (a::r++[(c:Int)])=Y at *
     refine Tr.ae wG (Tr.ae wG (Tr.ae wG (Tr.ae wG (Tr.ae wG (Tr.af (fun q4=>?_) wJ)))))
     exact Tr.ae wG (Tr.ae wG (Tr.ae wG (Tr.ai ⟨rfl,rfl⟩)))
   · rw[br] at q2
     rw[if_neg (by unfold xK;rw[q1,q2];decide)];exact ⟨rfl,rfl⟩
   · rw[if_neg (by unfold xK;rw[q1];simp)];exact ⟨rfl,rfl⟩
theorem Rj (hl:U≤10):exec (bP n 65 128) (.block 4 (.loop (part Tryd.f65 [1,0,1,1,1,1,0,1,0,0,1,1,0,0,1,1,0,0,1,1,0,0,1,1,0,1,0,0]))) (gh R u U i k (Int.ofNat 0)) (yF q f t .nils F T::H)=some (.normal,gh R u U i k (U:Int)++[(48,.bool false)],Ep q f t .nils F T (dR q F T U)::H):=by
 refine jY (n:=n) (f:=65) (nt:=128) (c:=part Tryd.f65 [1,0,1,1,1,1,0,1,0,0,1,1,0,0,1,1,0,0,1,1,0,0,1,1,0,1,0,0]) 4 (fun c=>gh R u U i k (c:Int)) (fun c=>Ep q f t .nils F T (dR q F T c)::H) U (gh R u U i k (U:Int)++[(48,.bool false)],Ep q f t .nils F T (dR q F T U)::H) wO (fun c hc=>?_) ?_
 · exact O5 n H q R u f t U i k F T hl c hc (dR q F T c) (by have:=py q F T c;omega)
 · generalize dR q F T U=L;cases L with
   | nil =>
     obtain ⟨x,h1,rfl⟩:=aI (Q:=fun x=>x=(.exit 4,gh R u U i k (U:Int)++[(48,.bool false)],yF q f t .nils F T::H)) (Kn n H q R u f t 0 q U i k (U:Int) F T) (aA _) (aj _ _) (ak _ _) (by
      refine Tr.af wJ (fun h0=>Tr.ai rfl))
     exact h1
   | cons a r =>
     obtain ⟨x,h1,rfl⟩:=aI (Q:=fun x=>x=(.exit 4,gh R u U i k (U:Int)++[(48,.bool false)],Bp q f t .nils F T (r.length+1) (ar (a::r))::H)) (Ko n H q R u f t 0 q U i k (U:Int) F T (r.length+1) (ar (a::r))) (aA _) (aj _ _) (ak _ _) (by
      refine Tr.af wJ (fun h0=>Tr.ai rfl))
     exact h1
theorem O6 (hl:U≤10) (c:Nat) (hc:c<U) (L:List Int) (hL:L.length≤1000) :
 ∃ x,exec (bP n 65 128) (part Tryd.f65 [1,0,1,1,1,1,0,1,0,0,1,1,0,0,1,1,0,0,1,1,0,0,1,1,0,1,0,0]) (gh R u U i k (c:Int)) (Ep q f t (bk m y false) F T L::H)=some x∧x.1=.normal∧tidy 4 x.2.1 x.2.2=(gh R u U i k ((c+1:Nat):Int),Ep q f t (bk m y false) F T (if xK q F T c=true then L++[(c:Int)] else L)::H):=by
 have e1:bh .i64 (c:Int) (Int.ofNat 1)=((c+1:Nat):Int):=fI wO
 have ei:au 0 (c:Int) 2=2*c:=by rw[bN];omega
 cases L with
 | nil =>
   have T0:=Kp n H q R u f t m y U i k (c:Int) F T
   rw[e1,ei,aF] at T0
   refine aI T0 (aA _) (aj _ _) (ak _ _) ?_
   refine Tr.af (fun h0=>?_) wJ
   refine Tr.ae wG (Tr.ae wG (Tr.ae wG (Tr.af (fun q1=>Tr.ae wG (Tr.ae wG (Tr.ae wG (Tr.af (fun q2=>?_) (fun q2=>Tr.ai ?_))))) (fun q1=>Tr.ai ?_))))
   all_goals rw[br] at q1
   · rw[br] at q2
     rw[if_pos (by unfold xK;rw[q1,q2];rfl)]
     refine Tr.ae wG (Tr.ae wG (Tr.ae wG (Tr.ae wG (Tr.ae wG (Tr.ai ⟨rfl,rfl⟩)))))
   · rw[br] at q2
     rw[if_neg (by unfold xK;rw[q1,q2];decide)];exact ⟨rfl,rfl⟩
   · rw[if_neg (by unfold xK;rw[q1];simp)];exact ⟨rfl,rfl⟩
 | cons a r =>
   simp only[List.length_cons] at hL
   have e2:=ng (a::r) (c:Int)
   simp only[List.length_cons] at e2
   have e3:ah (r.length+1) 1=r.length+1+1:=by rw[aF]
   have e4:cg (Int.ofNat (r.length+1))=r.length+1:=by rw[j9];rfl
   have T0:=Kq n H q R u f t m y U i k (c:Int) F T (r.length+1) (ar (a::r))
   rw[e1,e4,e3,e2,ei,aF] at T0
   refine aI T0 (aA _) (aj _ _) (ak _ _) ?_
   refine Tr.af (fun h0=>?_) wJ
   refine Tr.ae wG (Tr.ae wG (Tr.ae wG (Tr.af (fun q1=>Tr.ae wG (Tr.ae wG (Tr.ae wG (Tr.af (fun q2=>?_) (fun q2=>Tr.ai ?_))))) (fun q1=>Tr.ai ?_))))
   all_goals rw[br] at q1
   · rw[br] at q2
     rw[if_pos (by unfold xK;rw[q1,q2];rfl)]
     have er:(r++[(c:Int)]).length=r.length+1:=by rw[List.length_append,List.length_singleton]
     have el:Ep q f t (bk m y false) F T (a::r++[(c:Int)])=Bp q f t (bk m y false) F T (r.length+1+1) (ar (a::r++[(c:Int)])):=by show Bp _ _ _ _ _ _ ((r++[(c:Int)]).length+1) (ar (a::(r++[(c:Int)])))=_;rw[er];rfl
     rw[el]
     generalize ar (a::r++[(c:Int)])=Y at *
     refine Tr.ae wG (Tr.ae wG (Tr.ae wG (Tr.ae wG (Tr.ae wG (Tr.af (fun q4=>?_) wJ)))))
     exact Tr.ae wG (Tr.ae wG (Tr.ae wG (Tr.ai ⟨rfl,rfl⟩)))
   · rw[br] at q2
     rw[if_neg (by unfold xK;rw[q1,q2];decide)];exact ⟨rfl,rfl⟩
   · rw[if_neg (by unfold xK;rw[q1];simp)];exact ⟨rfl,rfl⟩
theorem OB (hl:U≤10):exec (bP n 65 128) (.block 4 (.loop (part Tryd.f65 [1,0,1,1,1,1,0,1,0,0,1,1,0,0,1,1,0,0,1,1,0,0,1,1,0,1,0,0]))) (gh R u U i k (Int.ofNat 0)) (yF q f t (bk m y false) F T::H)=some (.normal,gh R u U i k (U:Int)++[(48,.bool false)],Ep q f t (bk m y false) F T (dR q F T U)::H):=by
 refine jY (n:=n) (f:=65) (nt:=128) (c:=part Tryd.f65 [1,0,1,1,1,1,0,1,0,0,1,1,0,0,1,1,0,0,1,1,0,0,1,1,0,1,0,0]) 4 (fun c=>gh R u U i k (c:Int)) (fun c=>Ep q f t (bk m y false) F T (dR q F T c)::H) U (gh R u U i k (U:Int)++[(48,.bool false)],Ep q f t (bk m y false) F T (dR q F T U)::H) wO (fun c hc=>?_) ?_
 · exact O6 n H q R u f t m y U i k F T hl c hc (dR q F T c) (by have:=py q F T c;omega)
 · generalize dR q F T U=L;cases L with
   | nil =>
     obtain ⟨x,h1,rfl⟩:=aI (Q:=fun x=>x=(.exit 4,gh R u U i k (U:Int)++[(48,.bool false)],yF q f t (bk m y false) F T::H)) (Kp n H q R u f t m y U i k (U:Int) F T) (aA _) (aj _ _) (ak _ _) (by
      refine Tr.af wJ (fun h0=>Tr.ai rfl))
     exact h1
   | cons a r =>
     obtain ⟨x,h1,rfl⟩:=aI (Q:=fun x=>x=(.exit 4,gh R u U i k (U:Int)++[(48,.bool false)],Bp q f t (bk m y false) F T (r.length+1) (ar (a::r))::H)) (Kq n H q R u f t m y U i k (U:Int) F T (r.length+1) (ar (a::r))) (aA _) (aj _ _) (ak _ _) (by
      refine Tr.af wJ (fun h0=>Tr.ai rfl))
     exact h1
end
end Go.Eng
end
section
namespace Go.Eng
open Go.Proofs Go.Eng.Gall
def tR (q:Nat→Int) (U:Nat) (F T:Int):Bool:=decide (0<(dR q F T U).length) && decide (T-F+1<((dR q F T U).length:Int))
def Nj:Option (Int×Int)→Int→Int→Bool
 | none,_,_=>true
 | some (f,t),F,T=>decide (F<f) || decide (T<t)
def EJ (q:Nat→Int) (U:Nat) (F:Int) (b:Option (Int×Int)) (T:Int):Option (Int×Int):=if (Nj b F T && tR q U F T)=true then some (F,T) else b
def xH (q:Nat→Int) (U:Nat) (F:Int) (b:Option (Int×Int)):Nat→Option (Int×Int)
 | 0=>b
 | k+1=>EJ q U F (xH q U F b k) (q (2*k+1))
def ET:Option (Int×Int)→Int→Bool
 | none,_=>false
 | some (f,_),F=>decide (f<F)
def lF (q:Nat→Int) (U:Nat):Nat→Option (Int×Int)
 | 0=>none
 | i+1=>if ET (lF q U i) (q (2*i))=true then lF q U i else xH q U (q (2*i)) (lF q U i) U
def jV (P:Int→Int→Prop):Option (Int×Int)→Prop
 | none=>∀ F T,¬ P F T
 | some (f,t)=>P f t∧∀ F T,P F T→f<F∨(f=F∧t≤T)
theorem iD {P Q:Int→Int→Prop} (h:∀ F T,P F T↔Q F T) {b:Option (Int×Int)}:jV P b↔jV Q b:=by
 have:P=Q:=funext fun F=>funext fun T=>propext (h F T);rw[this]
theorem Ge {q:Nat→Int} {U:Nat} {F:Int} {b:Option (Int×Int)} (h:ET b F=false):∀ k,ET (xH q U F b k) F=false
 | 0=>h
 | k+1=>by
   unfold xH EJ;split
   · exact decide_eq_false (Int.lt_irrefl _)
   · exact Ge h k
theorem Hj {P:Int→Int→Prop} {q:Nat→Int} {U:Nat} {F T:Int} {b:Option (Int×Int)} (hb:jV P b) (hg:ET b F=false):jV (fun x y=>P x y∨(x=F∧y=T∧tR q U F T=true)) (EJ q U F b T):=by
 unfold EJ;by_cases ho:tR q U F T=true
 · cases b with
   | none =>
     rw[if_pos (by rw[ho];rfl)];refine ⟨.inr ⟨rfl,rfl,ho⟩,?_⟩;rintro x y (h | ⟨rfl,rfl,_⟩)
     · exact absurd h (hb x y)
     · exact .inr ⟨rfl,Int.le_refl _⟩
   | some v =>
     obtain ⟨f,t⟩:=v;obtain ⟨h1,h2⟩:=hb;have hg:¬ f<F:=of_decide_eq_false hg;by_cases hc:F<f∨T<t
     · rw[if_pos (by rw[ho,Bool.and_true];show (decide (F<f) || decide (T<t))=true;simpa using hc)];refine ⟨.inr ⟨rfl,rfl,ho⟩,?_⟩;rintro x y (h | ⟨rfl,rfl,_⟩)
       · have:=h2 x y h;omega
       · exact .inr ⟨rfl,Int.le_refl _⟩
     · rw[if_neg (by rw[ho,Bool.and_true];show ¬ (decide (F<f) || decide (T<t))=true;simpa using hc)];refine ⟨.inl h1,?_⟩;rintro x y (h | ⟨rfl,rfl,_⟩)
       · exact h2 x y h
       · omega
 · rw[if_neg (by simp[ho])];exact (iD (fun x y=>⟨fun h=>.inl h,fun h=>h.elim id fun h=>absurd h.2.2 ho⟩)).1 hb
theorem yq {P:Int→Int→Prop} {q:Nat→Int} {U:Nat} {F:Int} {b:Option (Int×Int)} (hb:jV P b) (hg:ET b F=false):∀ k,jV (fun x y=>P x y∨(x=F∧∃ j,j<k∧y=q (2*j+1)∧tR q U F y=true)) (xH q U F b k)
 | 0=>(iD (fun x y=>⟨fun h=>.inl h,fun h=>h.elim id fun ⟨_,j,h,_⟩=>absurd h (Nat.not_lt_zero j)⟩)).1 hb
 | k + 1=>by
   have:=Hj (q:=q) (U:=U) (F:=F) (T:=q (2*k+1)) (b:=xH q U F b k) (yq (q:=q) (U:=U) hb hg k) (Ge (q:=q) (U:=U) hg k);refine (iD (fun x y=>?_)).1 this;constructor
   · rintro ((h | ⟨h1,j,h2,h3,h4⟩) | ⟨rfl,rfl,h3⟩)
     · exact .inl h
     · exact .inr ⟨h1,j,by omega,h3,h4⟩
     · exact .inr ⟨rfl,k,by omega,rfl,h3⟩
   · rintro (h | ⟨rfl,j,h2,rfl,h4⟩)
     · exact .inl (.inl h)
     · by_cases e:j=k
       · subst e;exact .inr ⟨rfl,rfl,h4⟩
       · exact .inl (.inr ⟨rfl,j,by omega,rfl,h4⟩)
theorem tQ (q:Nat→Int) (U:Nat):∀ i,jV (fun x y=>∃ j k,j<i∧k<U∧x=q (2*j)∧y=q (2*k+1)∧tR q U x y=true) (lF q U i)∨∃ f t,lF q U i=some (f,t)∧jV (fun x y=>∃ j k,j<i∧k<U∧x=q (2*j)∧y=q (2*k+1)∧tR q U x y=true) (some (f,t))
 | 0=>.inl fun F T ⟨j,_,h,_⟩=>absurd h (Nat.not_lt_zero j)
 | i + 1=>by
   have ih:jV (fun x y=>∃ j k,j<i∧k<U∧x=q (2*j)∧y=q (2*k+1)∧tR q U x y=true) (lF q U i):=by
    rcases tQ q U i with h | ⟨f,t,h1,h2⟩
    · exact h
    · rw[h1];exact h2
   refine .inl ?_;unfold lF;by_cases hg:ET (lF q U i) (q (2*i))=true
   · rw[if_pos hg];generalize lF q U i=b at *;cases b with
     | none=>cases hg
     | some v =>
       obtain ⟨f,t⟩:=v;have hg:f<q (2*i):=of_decide_eq_true hg;obtain ⟨⟨j,k,h1,h2⟩,h3⟩:=ih;refine ⟨⟨j,k,by omega,h2⟩,?_⟩;rintro F T ⟨j',k',a1,a2,rfl,rfl,a3⟩;by_cases e:j'=i
       · subst e;exact .inl hg
       · exact h3 _ _ ⟨j',k',by omega,a2,rfl,rfl,a3⟩
   · rw[if_neg hg];have hg:ET (lF q U i) (q (2*i))=false:=by simpa using hg
     refine (iD (fun x y=>?_)).1 (yq ih hg U);constructor
     · rintro (⟨j,k,h1,h2⟩ | ⟨rfl,k,h1,rfl,h2⟩)
       · exact ⟨j,k,by omega,h2⟩
       · exact ⟨i,k,by omega,h1,rfl,rfl,h2⟩
     · rintro ⟨j,k,h1,h2,rfl,rfl,h3⟩;by_cases e:j=i
       · subst e;exact .inr ⟨rfl,k,h2,rfl,h3⟩
       · exact .inl ⟨j,k,by omega,h2,rfl,rfl,h3⟩
end Go.Eng
end
section
namespace Go.Eng
open Go.Proofs Go.Eng.Gall
theorem rS (q:Nat→Int) (F T x:Int):∀ j,x ∈ dR q F T j↔∃ k,k<j∧xK q F T k=true∧x=(k:Int)
 | 0=>by simp[dR]
 | j + 1=>by
   have ih:=rS q F T x j;unfold dR;split
   · rename_i h;rw[List.mem_append,List.mem_singleton,ih];constructor
     · rintro (⟨k,h1,h2,h3⟩ | h1)
       · exact ⟨k,by omega,h2,h3⟩
       · exact ⟨j,by omega,h,h1⟩
     · rintro ⟨k,h1,h2,h3⟩;by_cases e:k=j
       · subst e;exact .inr h3
       · exact .inl ⟨k,by omega,h2,h3⟩
   · rename_i h;rw[ih];constructor
     · rintro ⟨k,h1,h2,h3⟩;exact ⟨k,by omega,h2,h3⟩
     · rintro ⟨k,h1,h2,h3⟩;by_cases e:k=j
       · subst e;exact absurd h2 h
       · exact ⟨k,by omega,h2,h3⟩
theorem vK (q:Nat→Int) (F T:Int):∀ j,(dR q F T j).Nodup
 | 0=>List.nodup_nil
 | j + 1=>by
   have ih:=vK q F T j;unfold dR;split
   · rw[List.nodup_append];refine ⟨ih,by simp,?_⟩;intro a ha b hb e;rw[List.mem_singleton] at hb;obtain ⟨k,h1,_,h3⟩:=(rS q F T a j).1 ha;omega
   · exact ih
theorem dv {L:List Nat} (hn:L.Nodup) {M:List Int} (h:∀ x ∈ L,(x:Int) ∈ M):L.length≤M.length:=by
 have:=eM hn (M:=M.map Int.toNat) (fun x hx=>List.mem_map.2 ⟨(x:Int),h x hx,rfl⟩);rwa [List.length_map] at this
theorem od (f:Nat→Int):∀ (L:List Nat),L≠[]→∃ a ∈ L,∀ b ∈ L,f a≤f b
 | [],h=>absurd rfl h
 | [a],_=>⟨a,by simp,by simp⟩
 | a::b::L,_=>by
   obtain ⟨c,hc,h⟩:=od f (b::L) (by simp);by_cases e:f a≤f c
   · exact ⟨a,by simp,fun x hx=>by
      rcases List.mem_cons.1 hx with rfl | hx
      · exact Int.le_refl _
      · have:=h x hx;omega⟩
   · exact ⟨c,List.mem_cons_of_mem _ hc,fun x hx=>by
      rcases List.mem_cons.1 hx with rfl | hx
      · omega
      · exact h x hx⟩
theorem Jp {q:Nat→Int} {U:Nat} (h:lF q U U=none):Room U (fun c=>q (2*c)) (fun c=>q (2*c+1)):=by
 have hf:∀ F T,¬ ∃ j k,j<U∧k<U∧F=q (2*j)∧T=q (2*k+1)∧tR q U F T=true:=by
  rcases tQ q U U with h1 | ⟨f,t,h1,_⟩
  · rw[h] at h1;exact h1
  · rw[h] at h1;cases h1
 intro s t L hn hne hL;obtain ⟨a,ha,ha2⟩:=od (fun c=>q (2*c)) L hne;obtain ⟨b,hb,hb2⟩:=od (fun c=>-q (2*c+1)) L hne;have h1:=hf (q (2*a)) (q (2*b+1));have hov:tR q U (q (2*a)) (q (2*b+1))=false:=by
  cases e:tR q U (q (2*a)) (q (2*b+1)) with
  | false=>rfl
  | true=>exact absurd ⟨a,b,(hL a ha).1,(hL b hb).1,rfl,rfl,e⟩ h1
 have hle:L.length≤(dR q (q (2*a)) (q (2*b+1)) U).length:=dv hn fun x hx=>by
  refine (rS _ _ _ _ _).2 ⟨x,(hL x hx).1,?_,rfl⟩;have e1:=ha2 x hx;have e2:=hb2 x hx;unfold xK;rw[Bool.and_eq_true,decide_eq_true_iff,decide_eq_true_iff];constructor
  · exact e1
  · have e2:-q (2*b+1)≤-q (2*x+1):=e2;omega
 have hpos:0<L.length:=List.length_pos_iff.2 hne;unfold tR at hov;rw[decide_eq_true (show 0<(dR q (q (2*a)) (q (2*b+1)) U).length by omega),Bool.true_and,decide_eq_false_iff_not] at hov;have e3:s≤q (2*a):=(hL a ha).2.1;have e4:q (2*b+1)≤t:=(hL b hb).2.2;omega
theorem uf {n:Nat} {ok:Nat→Nat→Nat→Bool}:∀ {k:Nat} {L:List Nat},L ∈ ro n ok k↔L.length=k∧∀ i (h:i<L.length),L[i]<n∧(mask (L.take i)).testBit L[i]=false∧ok i (mask (L.take i)) L[i]=true
 | 0,L=>by
   show L ∈ [[]]↔_;rw[List.mem_singleton];constructor
   · rintro rfl;exact ⟨rfl,fun i h=>absurd h (Nat.not_lt_zero i)⟩
   · rintro ⟨h,_⟩;exact List.eq_nil_of_length_eq_zero h
 | k + 1,L=>by
   show L ∈ (ro n ok k).flatMap (fun L=>(nx ok n k (mask L)).map fun c=>L++[c])↔_;rw[List.mem_flatMap];constructor
   · rintro ⟨M,hM,hx⟩;obtain ⟨c,hc,rfl⟩:=List.mem_map.1 hx;obtain ⟨h1,h2⟩:=uf.1 hM;obtain ⟨c1,c2,c3⟩:=oF.1 hc;refine ⟨by rw[List.length_append,h1];rfl,fun i hi=>?_⟩;by_cases e:i<M.length
     · rw[List.getElem_append_left e,List.take_append_of_le_length wO];exact h2 i e
     · have:i=M.length:=by rw[List.length_append,List.length_singleton] at hi;omega
       subst this;rw[List.getElem_append_right (Nat.le_refl _),List.take_left' rfl];simp only[Nat.sub_self,List.getElem_cons_zero];rw[h1];exact ⟨c1,c2,c3⟩
   · rintro ⟨h1,h2⟩;have hne:L≠[]:=by intro e;rw[e] at h1;cases h1
     have hd:L.dropLast++[L.getLast hne]=L:=List.dropLast_concat_getLast hne;have hdl:L.dropLast.length=k:=by rw[List.length_dropLast,h1];rfl
     have ht:∀ i,i≤k→L.dropLast.take i=L.take i:=fun i hi=>by
      rw[List.dropLast_eq_take,List.take_take,Nat.min_eq_left wO]
     refine ⟨L.dropLast,uf.2 ⟨hdl,fun i hi=>?_⟩,List.mem_map.2 ⟨L.getLast hne,?_,hd⟩⟩
     · rw[ht i wO,List.getElem_dropLast];exact h2 i wO
     · have:=h2 k wO;rw[oF,List.getLast_eq_getElem];have e:L.take k=L.dropLast:=by rw[List.dropLast_eq_take,h1];rfl
       rw[e] at this;simpa[h1] using this
end Go.Eng
end
section
namespace Go.Eng
open Int (ofNat)
open Go.Proofs Go.Eng.Gall
noncomputable def tk (q:Nat→Int) (U:Nat):Option (Int×Int)→bK
 | none=>eZ q (ofNat 0) (ofNat 0) .nils
 | some (f,t)=>eZ q f t (bk (dR q f t U).length (ar (dR q f t U)) false)
theorem uv {q:Nat→Int} {U:Nat} {F T:Int} {b:Option (Int×Int)} (h:tR q U F T=false):EJ q U F b T=b:=by unfold EJ;rw[h,Bool.and_false,if_neg (by decide)]
theorem MX {q:Nat→Int} {U:Nat} {F T:Int} {b:Option (Int×Int)} (h:Nj b F T=false):EJ q U F b T=b:=by unfold EJ;rw[h,Bool.false_and,if_neg (by decide)]
theorem xA {q:Nat→Int} {U:Nat} {F T:Int} {b:Option (Int×Int)} (h:Nj b F T=true) (h2:tR q U F T=true):EJ q U F b T=some (F,T):=by unfold EJ;rw[h,h2];rfl
section
variable (n:Nat) (O:Int) (U:Nat) (Z:Nat→Int) (V:Nat) (J:Nat→Int) (W B:Nat→Int) (H:aa) (q:Nat→Int)
theorem Ss (hl:U≤10) (hq:∀ j,j<2*U→-1000000≤q j∧q j≤1000000) (i k:Nat) (hi:i<U) (hk:k<U) (b:Option (Int×Int)) (hb:ET b (q (2*i))=false) :
 ∃ x,exec (bP n 65 128) (part Tryd.f65 [1,0,1,1,1,1,0,1,0,0,1,1,0,0,1,1,0,0]) (im (shR O U Z V J W B) b.isSome U i k) (tk q U b::H)=some x∧x.1=.normal∧tidy 3 x.2.1 x.2.2=(im (shR O U Z V J W B) (EJ q U (q (2*i)) b (q (2*k+1))).isSome U i ((k+1:Nat):Int),tk q U (EJ q U (q (2*i)) b (q (2*k+1)))::H):=by
 have e1:bh .i64 (k:Int) (ofNat 1)=((k+1:Nat):Int):=fI wO
 have ei:au 0 (i:Int) 2=2*i:=by rw[bN];omega
 have ek:au 0 (k:Int) 2=2*k:=by rw[bN];omega
 have q1:=hq (2*i) wO
 have q2:=hq (2*k+1) wO
 have es:bh .i64 (cq .i64 (q (2*k+1)) (q (2*i))) (ofNat 1)=q (2*k+1)-q (2*i)+1:=by
  rw[MO wO wO];exact Lm (by show _≤q (2*k+1)-q (2*i)+1;omega) (by show q (2*k+1)-q (2*i)+1≤_;omega)
 generalize hF:q (2*i)=F at *
 generalize hT:q (2*k+1)=T at *
 cases b with
 | none =>
   have hlp:=Rj n H q (shR O U Z V J W B) false (ofNat 0) (ofNat 0) U i k F T hl
   cases hS:dR q F T U with
   | nil =>
     rw[hS] at hlp
     have ho:tR q U F T=false:=by unfold tR;rw[hS];rfl
     have T0:=Ov n O U Z V J W B H q i k (ofNat 0) (ofNat 0) 0 q
     rw[ei,ek,aF,e1,hF,hT] at T0
     rw[uv ho]
     refine aI T0 (aA _) (bf (aj _ _) vt (fun x hx=>fp hx (by simp only[eD.st,aP];exact hlp))) (ak _ _) ?_
     refine Tr.af (fun h0=>?_) wJ
     refine Tr.ae wG (Tr.ae wG (Tr.ae wG (Tr.ae wG (Tr.ae wG (Tr.ae wG (Tr.ae wG (Tr.an ⟨rfl,rfl⟩ (Tr.af (fun h=>by cases h) (fun _=>Tr.af (fun _=>Tr.ai ⟨rfl,rfl⟩) (fun h=>by simp[aW] at h))))))))))
   | cons a r =>
     rw[hS] at hlp
     have hg:r.length+1≤U:=by have:=py q F T U;rw[hS] at this;simpa using this
     have hov:tR q U F T=decide (T-F+1<((r.length+1:Nat):Int)):=by unfold tR;rw[hS];rfl
     have hup:tk q U (some (F,T))=eZ q F T (bk (r.length+1) (ar (a::r)) false):=by show eZ q F T (bk (dR q F T U).length (ar (dR q F T U)) false)=_;rw[hS];rfl
     have T0:=Ow n O U Z V J W B H q i k (ofNat 0) (ofNat 0) 0 q (r.length+1) (ar (a::r))
     rw[ei,ek,aF,e1,hF,hT,es,fj] at T0
     refine aI T0 (aA _) (bf (aj _ _) vt (fun x hx=>fp hx (by simp only[eD.st,aP];exact hlp))) (ak _ _) ?_
     refine Tr.af (fun h0=>?_) wJ
     refine Tr.ae wG (Tr.ae wG (Tr.ae wG (Tr.ae wG (Tr.ae wG (Tr.ae wG (Tr.ae wG (Tr.an ⟨rfl,rfl⟩ (Tr.af (fun h=>by cases h) (fun _=>Tr.af (fun _=>Tr.af (fun _=>Tr.af (fun h1=>?_) (fun h1=>Tr.ai ?_)) wJ) (fun h=>by simp[aW] at h))))))))))
     all_goals rw[bY] at h1
     · rw[xA rfl (hov.trans h1),hup]
       exact Tr.ae wG (Tr.ae wG (Tr.ae wG (Tr.ae wG (Tr.ai ⟨rfl,rfl⟩))))
     · rw[uv (hov.trans h1)];exact ⟨rfl,rfl⟩
 | some v =>
   obtain ⟨f,t⟩:=v
   have hb:decide (f<F)=false:=hb
   have hlp:=OB n H q (shR O U Z V J W B) true f t (dR q f t U).length (ar (dR q f t U)) U i k F T hl
   have hlv:tk q U (some (f,t))=eZ q f t (bk (dR q f t U).length (ar (dR q f t U)) false):=rfl
   generalize dR q f t U=L0 at hlp hlv
   cases hS:dR q F T U with
   | nil =>
     rw[hS] at hlp
     have ho:tR q U F T=false:=by unfold tR;rw[hS];rfl
     have T0:=Kd n O U Z V J W B H q i k f t L0.length (ar L0)
     rw[ei,ek,aF,e1,hF,hT] at T0
     rw[uv ho,hlv]
     refine aI T0 (aA _) (bf (aj _ _) vt (fun x hx=>fp hx (by simp only[eD.st,aP];exact hlp))) (ak _ _) ?_
     refine Tr.af (fun h0=>?_) wJ
     refine Tr.ae wG (Tr.ae wG (Tr.ae wG (Tr.ae wG (Tr.ae wG (Tr.ae wG (Tr.ae wG (Tr.an ⟨rfl,rfl⟩ (Tr.af (fun _=>Tr.af (fun h=>by rw[bY,hb] at h;cases h) (fun _=>Tr.af (fun h=>by simp[aW] at h) (fun _=>Tr.af (fun _=>Tr.ai ⟨rfl,rfl⟩) (fun _=>Tr.af (fun _=>Tr.ai ⟨rfl,rfl⟩) (fun _=>Tr.ai ⟨rfl,rfl⟩))))) (fun h=>by cases h)))))))))
   | cons a r =>
     rw[hS] at hlp
     have hg:r.length+1≤U:=by have:=py q F T U;rw[hS] at this;simpa using this
     have hov:tR q U F T=decide (T-F+1<((r.length+1:Nat):Int)):=by unfold tR;rw[hS];rfl
     have hup:tk q U (some (F,T))=eZ q F T (bk (r.length+1) (ar (a::r)) false):=by show eZ q F T (bk (dR q F T U).length (ar (dR q F T U)) false)=_;rw[hS];rfl
     have T0:=Ke n O U Z V J W B H q i k f t L0.length (ar L0) (r.length+1) (ar (a::r))
     rw[ei,ek,aF,e1,hF,hT,es,fj] at T0
     rw[hlv]
     refine aI T0 (aA _) (bf (aj _ _) vt (fun x hx=>fp hx (by simp only[eD.st,aP];exact hlp))) (ak _ _) ?_
     refine Tr.af (fun h0=>?_) wJ
     refine Tr.ae wG (Tr.ae wG (Tr.ae wG (Tr.ae wG (Tr.ae wG (Tr.ae wG (Tr.ae wG (Tr.an ⟨rfl,rfl⟩ (Tr.af (fun _=>Tr.af (fun h=>by rw[bY,hb] at h;cases h) (fun _=>Tr.af (fun h=>by simp[aW] at h) (fun _=>Tr.af (fun h2=>Tr.af (fun _=>Tr.af (fun h1=>?_) (fun h1=>Tr.ai ?_)) wJ) (fun h2=>Tr.af (fun h3=>Tr.af (fun _=>Tr.af (fun h1=>?_) (fun h1=>Tr.ai ?_)) wJ) (fun h3=>Tr.ai ?_))))) (fun h=>by cases h)))))))))
     all_goals rw[bY] at h2
     · rw[bY] at h1
       rw[xA (show Nj (some (f,t)) F T=true by show (decide (F<f) || decide (T<t))=true;rw[h2];rfl) (hov.trans h1),hup]
       exact Tr.ae wG (Tr.ae wG (Tr.ae wG (Tr.ae wG (Tr.ai ⟨rfl,rfl⟩))))
     · rw[bY] at h1
       rw[uv (hov.trans h1),hlv];exact ⟨rfl,rfl⟩
     all_goals rw[bY] at h3
     · rw[bY] at h1
       rw[xA (show Nj (some (f,t)) F T=true by show (decide (F<f) || decide (T<t))=true;rw[h3,Bool.or_true]) (hov.trans h1),hup]
       exact Tr.ae wG (Tr.ae wG (Tr.ae wG (Tr.ae wG (Tr.ai ⟨rfl,rfl⟩))))
     · rw[bY] at h1
       rw[uv (hov.trans h1),hlv];exact ⟨rfl,rfl⟩
     · rw[MX (show Nj (some (f,t)) F T=false by show (decide (F<f) || decide (T<t))=false;rw[h2,h3];rfl),hlv];exact ⟨rfl,rfl⟩
end
end Go.Eng
end
