/- Gall: a right block: a round of its inner loop, trees. -/
import Derived.Test.YtgphpjdchnfjlaaDoorV6Gp6x13
set_option linter.unusedVariables false
set_option linter.unusedSimpArgs false
set_option maxRecDepth 100000
section
namespace Go.Eng
open Int (ofNat)
open Go.Proofs Go.Eng.Gall
theorem PW (n:Nat) (O:Int) (U:Nat) (Z:Nat→Int) (V:Nat) (J:Nat→Int) (W B:Nat→Int) (H:aa) (q:Nat→Int) (i k:Int) (f t:Int) (m:Nat) (y:Nat→Int):aJ (bN n 65 128) (il aK n 0) (bP aS 4 (gu (shR O U Z V J W B) false U i k (ofNat 0)) (zm q f t .nils (q (au 0 i 2)) (q (ar (au 0 k 2) 1))::H) (.ok (.normal,hints (gu (shR O U Z V J W B) false U i k (ofNat U)++[(48,.bool false)]),zm q f t .nils (q (au 0 i 2)) (q (ar (au 0 k 2) 1))::H))) aR (part Tryd.f65 [1,0,1,1,1,1,0,1,0,0,1,1,0,0,1,1,0,0]) (hints (iG (shR O U Z V J W B) false U i k)) (fh q f t .nils::H) =
 (fun (Z0:bB)=>((fun (Z1:aO)=>((fun (Z2:aD)=>Tr.ite (bE k (ofNat U)) (Tr.req (cQ i 10) (Tr.req (cg 0 0) (Tr.req (cK (au 0 i 2) 20) (Tr.req (cQ k 10) (Tr.req (cg 0 0) (Tr.req (cK (ar (au 0 k 2) 1) 20) (Tr.req (cr (eU 0 0) (eU 0 1)) (Tr.reqP (Z2=Z2∧Z0::H=Z0::H) (Tr.ite false (Tr.ite (bE f (q (au 0 i 2))) (Tr.ok (Ex.exit 1,[(0,shV O U Z V J W B,none),(2,AV.ptr 0 0 0 0,none),(4,AV.ptr 0 1 0 0,none),(5,AV.ptr 0 2 0 0,none),(6,AV.bool false,none),(7,AV.int .i64 i,none),(9,AV.ptr 0 3 0 0,none),(19,iI U,none),(20,AV.int .i64 i,none),(28,iI U,none),(29,AV.int .i64 k,none),(87,AV.bool true,some 1)],Z0::H)) (Tr.ite (aQ false) (Tr.ok (Ex.normal,Z1,Z0::H)) (Tr.ite (bE (q (au 0 i 2)) f) (Tr.ok (Ex.normal,Z1,Z0::H)) (Tr.ite (bE (q (ar (au 0 k 2) 1)) t) (Tr.ok (Ex.normal,Z1,Z0::H)) (Tr.ok (Ex.normal,Z1,Z0::H)))))) (Tr.ite (aQ false) (Tr.ok (Ex.normal,Z1,Z0::H)) (Tr.ite (bE (q (au 0 i 2)) f) (Tr.ok (Ex.normal,Z1,Z0::H)) (Tr.ite (bE (q (ar (au 0 k 2) 1)) t) (Tr.ok (Ex.normal,Z1,Z0::H)) (Tr.ok (Ex.normal,Z1,Z0::H)))))))))))))) (Tr.ok (Ex.exit 2,[(0,shV O U Z V J W B,none),(2,AV.ptr 0 0 0 0,none),(4,AV.ptr 0 1 0 0,none),(5,AV.ptr 0 2 0 0,none),(6,AV.bool false,none),(7,AV.int .i64 i,none),(19,iI U,none),(20,AV.int .i64 i,none),(28,iI U,none),(29,AV.int .i64 k,none),(30,AV.bool false,some 1)],(bh [(0,ak.row (Row.G [iI 0,iI 0,AV.nils])),(0,ak.row (rM q 20)),(0,ak.row (Row.G [AV.int .i64 f,AV.int .i64 t,AV.nils]))])::H))) [(0,shV O U Z V J W B),(2,AV.ptr 0 0 0 0),(4,AV.ptr 0 1 0 0),(5,AV.ptr 0 2 0 0),(6,AV.bool false),(7,AV.int .i64 i),(9,AV.ptr 0 3 0 0),(19,iI U),(20,AV.int .i64 i),(28,iI U),(29,AV.int .i64 k),(46,iI U),(47,iI 0)])) [(0,shV O U Z V J W B,none),(2,AV.ptr 0 0 0 0,none),(4,AV.ptr 0 1 0 0,none),(5,AV.ptr 0 2 0 0,none),(6,AV.bool false,none),(7,AV.int .i64 i,none),(19,iI U,none),(20,AV.int .i64 i,none),(28,iI U,none),(29,AV.int .i64 (bm .i64 k (ofNat 1)),none)])) (bh [(0,ak.row (Row.G [iI 0,iI 0,AV.nils])),(0,ak.row (rM q 20)),(0,ak.row (Row.G [AV.int .i64 f,AV.int .i64 t,AV.nils])),(0,ak.row (Row.G [AV.int .i64 (q (au 0 i 2)),AV.int .i64 (q (ar (au 0 k 2) 1)),AV.nils]))]):=by kernel_rfl
theorem PX (n:Nat) (O:Int) (U:Nat) (Z:Nat→Int) (V:Nat) (J:Nat→Int) (W B:Nat→Int) (H:aa) (q:Nat→Int) (i k:Int) (f t:Int) (m:Nat) (y:Nat→Int) (g:Nat) (x:Nat→Int):aJ (bN n 65 128) (il aK n 0) (bP aS 4 (gu (shR O U Z V J W B) false U i k (ofNat 0)) (zm q f t .nils (q (au 0 i 2)) (q (ar (au 0 k 2) 1))::H) (.ok (.normal,hints (gu (shR O U Z V J W B) false U i k (ofNat U)++[(48,.bool false)]),B5 q f t .nils (q (au 0 i 2)) (q (ar (au 0 k 2) 1)) g x::H))) aR (part Tryd.f65 [1,0,1,1,1,1,0,1,0,0,1,1,0,0,1,1,0,0]) (hints (iG (shR O U Z V J W B) false U i k)) (fh q f t .nils::H) =
 (fun (Z0:bB)=>((fun (Z1:aO)=>((fun (Z2:bB)=>((fun (Z3:aO)=>((fun (Z4:aD)=>((fun (Z5:bB)=>Tr.ite (bE k (ofNat U)) (Tr.req (cQ i 10) (Tr.req (cg 0 0) (Tr.req (cK (au 0 i 2) 20) (Tr.req (cQ k 10) (Tr.req (cg 0 0) (Tr.req (cK (ar (au 0 k 2) 1) 20) (Tr.req (cr (eU 0 0) (eU 0 1)) (Tr.reqP (Z4=Z4∧Z5::H=Z5::H) (Tr.ite false (Tr.ite (bE f (q (au 0 i 2))) (Tr.ok (Ex.exit 1,[(0,shV O U Z V J W B,none),(2,AV.ptr 0 0 0 0,none),(4,AV.ptr 0 1 0 0,none),(5,AV.ptr 0 2 0 0,none),(6,AV.bool false,none),(7,AV.int .i64 i,none),(9,AV.ptr 0 3 0 0,none),(19,iI U,none),(20,AV.int .i64 i,none),(28,iI U,none),(29,AV.int .i64 k,none),(87,AV.bool true,some 1)],Z0::H)) (Tr.ite (aQ false) (Tr.ite (bE (ofNat 0) (ofNat g)) (Tr.ite (bE (bm .i64 (aV .i64 (q (ar (au 0 k 2) 1)) (q (au 0 i 2))) (ofNat 1)) (ofNat g)) (Tr.req (cg 0 0) (Tr.req (dN 0 g 0 g) (Tr.req (cg 0 0) (Tr.req (dN 0 g 0 g) (Tr.ok (Ex.normal,Z3,Z2::H)))))) (Tr.ok (Ex.normal,Z1,Z0::H))) (Tr.ok (Ex.normal,Z1,Z0::H))) (Tr.ite (bE (q (au 0 i 2)) f) (Tr.ite (bE (ofNat 0) (ofNat g)) (Tr.ite (bE (bm .i64 (aV .i64 (q (ar (au 0 k 2) 1)) (q (au 0 i 2))) (ofNat 1)) (ofNat g)) (Tr.req (cg 0 0) (Tr.req (dN 0 g 0 g) (Tr.req (cg 0 0) (Tr.req (dN 0 g 0 g) (Tr.ok (Ex.normal,Z3,Z2::H)))))) (Tr.ok (Ex.normal,Z1,Z0::H))) (Tr.ok (Ex.normal,Z1,Z0::H))) (Tr.ite (bE (q (ar (au 0 k 2) 1)) t) (Tr.ite (bE (ofNat 0) (ofNat g)) (Tr.ite (bE (bm .i64 (aV .i64 (q (ar (au 0 k 2) 1)) (q (au 0 i 2))) (ofNat 1)) (ofNat g)) (Tr.req (cg 0 0) (Tr.req (dN 0 g 0 g) (Tr.req (cg 0 0) (Tr.req (dN 0 g 0 g) (Tr.ok (Ex.normal,Z3,Z2::H)))))) (Tr.ok (Ex.normal,Z1,Z0::H))) (Tr.ok (Ex.normal,Z1,Z0::H))) (Tr.ok (Ex.normal,Z1,Z0::H)))))) (Tr.ite (aQ false) (Tr.ite (bE (ofNat 0) (ofNat g)) (Tr.ite (bE (bm .i64 (aV .i64 (q (ar (au 0 k 2) 1)) (q (au 0 i 2))) (ofNat 1)) (ofNat g)) (Tr.req (cg 0 0) (Tr.req (dN 0 g 0 g) (Tr.req (cg 0 0) (Tr.req (dN 0 g 0 g) (Tr.ok (Ex.normal,Z3,Z2::H)))))) (Tr.ok (Ex.normal,Z1,Z0::H))) (Tr.ok (Ex.normal,Z1,Z0::H))) (Tr.ite (bE (q (au 0 i 2)) f) (Tr.ite (bE (ofNat 0) (ofNat g)) (Tr.ite (bE (bm .i64 (aV .i64 (q (ar (au 0 k 2) 1)) (q (au 0 i 2))) (ofNat 1)) (ofNat g)) (Tr.req (cg 0 0) (Tr.req (dN 0 g 0 g) (Tr.req (cg 0 0) (Tr.req (dN 0 g 0 g) (Tr.ok (Ex.normal,Z3,Z2::H)))))) (Tr.ok (Ex.normal,Z1,Z0::H))) (Tr.ok (Ex.normal,Z1,Z0::H))) (Tr.ite (bE (q (ar (au 0 k 2) 1)) t) (Tr.ite (bE (ofNat 0) (ofNat g)) (Tr.ite (bE (bm .i64 (aV .i64 (q (ar (au 0 k 2) 1)) (q (au 0 i 2))) (ofNat 1)) (ofNat g)) (Tr.req (cg 0 0) (Tr.req (dN 0 g 0 g) (Tr.req (cg 0 0) (Tr.req (dN 0 g 0 g) (Tr.ok (Ex.normal,Z3,Z2::H)))))) (Tr.ok (Ex.normal,Z1,Z0::H))) (Tr.ok (Ex.normal,Z1,Z0::H))) (Tr.ok (Ex.normal,Z1,Z0::H)))))))))))))) (Tr.ok (Ex.exit 2,[(0,shV O U Z V J W B,none),(2,AV.ptr 0 0 0 0,none),(4,AV.ptr 0 1 0 0,none),(5,AV.ptr 0 2 0 0,none),(6,AV.bool false,none),(7,AV.int .i64 i,none),(19,iI U,none),(20,AV.int .i64 i,none),(28,iI U,none),(29,AV.int .i64 k,none),(30,AV.bool false,some 1)],(bh [(0,ak.row (Row.G [iI 0,iI 0,AV.nils])),(0,ak.row (rM q 20)),(0,ak.row (Row.G [AV.int .i64 f,AV.int .i64 t,AV.nils]))])::H))) (bh [(0,ak.row (Row.G [iI 0,iI 0,AV.nils])),(0,ak.row (rM q 20)),(0,ak.row (Row.G [AV.int .i64 f,AV.int .i64 t,AV.nils])),(0,ak.row (Row.G [AV.int .i64 (q (au 0 i 2)),AV.int .i64 (q (ar (au 0 k 2) 1)),AV.nils]))]))) [(0,shV O U Z V J W B),(2,AV.ptr 0 0 0 0),(4,AV.ptr 0 1 0 0),(5,AV.ptr 0 2 0 0),(6,AV.bool false),(7,AV.int .i64 i),(9,AV.ptr 0 3 0 0),(19,iI U),(20,AV.int .i64 i),(28,iI U),(29,AV.int .i64 k),(46,iI U),(47,iI 0)])) [(0,shV O U Z V J W B,none),(2,AV.ptr 0 0 0 0,none),(4,AV.ptr 0 1 0 0,none),(5,AV.ptr 0 2 0 0,none),(6,AV.bool true,some 1),(7,AV.int .i64 i,none),(19,iI U,none),(20,AV.int .i64 i,none),(28,iI U,none),(29,AV.int .i64 (bm .i64 k (ofNat 1)),none)])) (bh [(0,ak.row (Row.G [iI 0,iI 0,AV.nils])),(0,ak.row (rM q 20)),(0,ak.row (Row.G [AV.int .i64 (q (au 0 i 2)),AV.int .i64 (q (ar (au 0 k 2) 1)),aF g (jI x 0) false])),(0,ak.row (Row.G [AV.int .i64 (q (au 0 i 2)),AV.int .i64 (q (ar (au 0 k 2) 1)),aF g (jI x 0) false])),(0,ak.dead)]))) [(0,shV O U Z V J W B,none),(2,AV.ptr 0 0 0 0,none),(4,AV.ptr 0 1 0 0,none),(5,AV.ptr 0 2 0 0,none),(6,AV.bool false,none),(7,AV.int .i64 i,none),(19,iI U,none),(20,AV.int .i64 i,none),(28,iI U,none),(29,AV.int .i64 (bm .i64 k (ofNat 1)),none)])) (bh [(0,ak.row (Row.G [iI 0,iI 0,AV.nils])),(0,ak.row (rM q 20)),(0,ak.row (Row.G [AV.int .i64 f,AV.int .i64 t,AV.nils])),(0,ak.row (Row.G [AV.int .i64 (q (au 0 i 2)),AV.int .i64 (q (ar (au 0 k 2) 1)),AV.slc 0 4 0 0 1 g none])),(0,ak.row (rM x g))]):=by kernel_rfl
theorem Le (n:Nat) (O:Int) (U:Nat) (Z:Nat→Int) (V:Nat) (J:Nat→Int) (W B:Nat→Int) (H:aa) (q:Nat→Int) (i k:Int) (f t:Int) (m:Nat) (y:Nat→Int):aJ (bN n 65 128) (il aK n 0) (bP aS 4 (gu (shR O U Z V J W B) true U i k (ofNat 0)) (zm q f t (aF m y false) (q (au 0 i 2)) (q (ar (au 0 k 2) 1))::H) (.ok (.normal,hints (gu (shR O U Z V J W B) true U i k (ofNat U)++[(48,.bool false)]),zm q f t (aF m y false) (q (au 0 i 2)) (q (ar (au 0 k 2) 1))::H))) aR (part Tryd.f65 [1,0,1,1,1,1,0,1,0,0,1,1,0,0,1,1,0,0]) (hints (iG (shR O U Z V J W B) true U i k)) (fh q f t (aF m y false)::H) =
 (fun (Z0:bB)=>((fun (Z1:aO)=>((fun (Z2:aD)=>Tr.ite (bE k (ofNat U)) (Tr.req (cQ i 10) (Tr.req (cg 0 0) (Tr.req (cK (au 0 i 2) 20) (Tr.req (cQ k 10) (Tr.req (cg 0 0) (Tr.req (cK (ar (au 0 k 2) 1) 20) (Tr.req (cr (eU 0 0) (eU 0 1)) (Tr.reqP (Z2=Z2∧Z0::H=Z0::H) (Tr.ite true (Tr.ite (bE f (q (au 0 i 2))) (Tr.ok (Ex.exit 1,[(0,shV O U Z V J W B,none),(2,AV.ptr 0 0 0 0,none),(4,AV.ptr 0 1 0 0,none),(5,AV.ptr 0 2 0 0,none),(6,AV.bool true,none),(7,AV.int .i64 i,none),(9,AV.ptr 0 3 0 0,none),(19,iI U,none),(20,AV.int .i64 i,none),(28,iI U,none),(29,AV.int .i64 k,none),(87,AV.bool true,some 1)],Z0::H)) (Tr.ite (aQ true) (Tr.ok (Ex.normal,Z1,Z0::H)) (Tr.ite (bE (q (au 0 i 2)) f) (Tr.ok (Ex.normal,Z1,Z0::H)) (Tr.ite (bE (q (ar (au 0 k 2) 1)) t) (Tr.ok (Ex.normal,Z1,Z0::H)) (Tr.ok (Ex.normal,Z1,Z0::H)))))) (Tr.ite (aQ true) (Tr.ok (Ex.normal,Z1,Z0::H)) (Tr.ite (bE (q (au 0 i 2)) f) (Tr.ok (Ex.normal,Z1,Z0::H)) (Tr.ite (bE (q (ar (au 0 k 2) 1)) t) (Tr.ok (Ex.normal,Z1,Z0::H)) (Tr.ok (Ex.normal,Z1,Z0::H)))))))))))))) (Tr.ok (Ex.exit 2,[(0,shV O U Z V J W B,none),(2,AV.ptr 0 0 0 0,none),(4,AV.ptr 0 1 0 0,none),(5,AV.ptr 0 2 0 0,none),(6,AV.bool true,none),(7,AV.int .i64 i,none),(19,iI U,none),(20,AV.int .i64 i,none),(28,iI U,none),(29,AV.int .i64 k,none),(30,AV.bool false,some 1)],(bh [(0,ak.row (Row.G [iI 0,iI 0,AV.nils])),(0,ak.row (rM q 20)),(0,ak.row (Row.G [AV.int .i64 f,AV.int .i64 t,aF m y false]))])::H))) [(0,shV O U Z V J W B),(2,AV.ptr 0 0 0 0),(4,AV.ptr 0 1 0 0),(5,AV.ptr 0 2 0 0),(6,AV.bool true),(7,AV.int .i64 i),(9,AV.ptr 0 3 0 0),(19,iI U),(20,AV.int .i64 i),(28,iI U),(29,AV.int .i64 k),(46,iI U),(47,iI 0)])) [(0,shV O U Z V J W B,none),(2,AV.ptr 0 0 0 0,none),(4,AV.ptr 0 1 0 0,none),(5,AV.ptr 0 2 0 0,none),(6,AV.bool true,none),(7,AV.int .i64 i,none),(19,iI U,none),(20,AV.int .i64 i,none),(28,iI U,none),(29,AV.int .i64 (bm .i64 k (ofNat 1)),none)])) (bh [(0,ak.row (Row.G [iI 0,iI 0,AV.nils])),(0,ak.row (rM q 20)),(0,ak.row (Row.G [AV.int .i64 f,AV.int .i64 t,aF m y false])),(0,ak.row (Row.G [AV.int .i64 (q (au 0 i 2)),AV.int .i64 (q (ar (au 0 k 2) 1)),AV.nils]))]):=by kernel_rfl
theorem Lf (n:Nat) (O:Int) (U:Nat) (Z:Nat→Int) (V:Nat) (J:Nat→Int) (W B:Nat→Int) (H:aa) (q:Nat→Int) (i k:Int) (f t:Int) (m:Nat) (y:Nat→Int) (g:Nat) (x:Nat→Int):aJ (bN n 65 128) (il aK n 0) (bP aS 4 (gu (shR O U Z V J W B) true U i k (ofNat 0)) (zm q f t (aF m y false) (q (au 0 i 2)) (q (ar (au 0 k 2) 1))::H) (.ok (.normal,hints (gu (shR O U Z V J W B) true U i k (ofNat U)++[(48,.bool false)]),B5 q f t (aF m y false) (q (au 0 i 2)) (q (ar (au 0 k 2) 1)) g x::H))) aR (part Tryd.f65 [1,0,1,1,1,1,0,1,0,0,1,1,0,0,1,1,0,0]) (hints (iG (shR O U Z V J W B) true U i k)) (fh q f t (aF m y false)::H) =
 (fun (Z0:bB)=>((fun (Z1:aO)=>((fun (Z2:bB)=>((fun (Z3:aO)=>((fun (Z4:aD)=>((fun (Z5:bB)=>Tr.ite (bE k (ofNat U)) (Tr.req (cQ i 10) (Tr.req (cg 0 0) (Tr.req (cK (au 0 i 2) 20) (Tr.req (cQ k 10) (Tr.req (cg 0 0) (Tr.req (cK (ar (au 0 k 2) 1) 20) (Tr.req (cr (eU 0 0) (eU 0 1)) (Tr.reqP (Z4=Z4∧Z5::H=Z5::H) (Tr.ite true (Tr.ite (bE f (q (au 0 i 2))) (Tr.ok (Ex.exit 1,[(0,shV O U Z V J W B,none),(2,AV.ptr 0 0 0 0,none),(4,AV.ptr 0 1 0 0,none),(5,AV.ptr 0 2 0 0,none),(6,AV.bool true,none),(7,AV.int .i64 i,none),(9,AV.ptr 0 3 0 0,none),(19,iI U,none),(20,AV.int .i64 i,none),(28,iI U,none),(29,AV.int .i64 k,none),(87,AV.bool true,some 1)],Z0::H)) (Tr.ite (aQ true) (Tr.ite (bE (ofNat 0) (ofNat g)) (Tr.ite (bE (bm .i64 (aV .i64 (q (ar (au 0 k 2) 1)) (q (au 0 i 2))) (ofNat 1)) (ofNat g)) (Tr.req (cg 0 0) (Tr.req (dN 0 g 0 g) (Tr.req (cg 0 0) (Tr.req (dN 0 g 0 g) (Tr.ok (Ex.normal,Z3,Z2::H)))))) (Tr.ok (Ex.normal,Z1,Z0::H))) (Tr.ok (Ex.normal,Z1,Z0::H))) (Tr.ite (bE (q (au 0 i 2)) f) (Tr.ite (bE (ofNat 0) (ofNat g)) (Tr.ite (bE (bm .i64 (aV .i64 (q (ar (au 0 k 2) 1)) (q (au 0 i 2))) (ofNat 1)) (ofNat g)) (Tr.req (cg 0 0) (Tr.req (dN 0 g 0 g) (Tr.req (cg 0 0) (Tr.req (dN 0 g 0 g) (Tr.ok (Ex.normal,Z3,Z2::H)))))) (Tr.ok (Ex.normal,Z1,Z0::H))) (Tr.ok (Ex.normal,Z1,Z0::H))) (Tr.ite (bE (q (ar (au 0 k 2) 1)) t) (Tr.ite (bE (ofNat 0) (ofNat g)) (Tr.ite (bE (bm .i64 (aV .i64 (q (ar (au 0 k 2) 1)) (q (au 0 i 2))) (ofNat 1)) (ofNat g)) (Tr.req (cg 0 0) (Tr.req (dN 0 g 0 g) (Tr.req (cg 0 0) (Tr.req (dN 0 g 0 g) (Tr.ok (Ex.normal,Z3,Z2::H)))))) (Tr.ok (Ex.normal,Z1,Z0::H))) (Tr.ok (Ex.normal,Z1,Z0::H))) (Tr.ok (Ex.normal,Z1,Z0::H)))))) (Tr.ite (aQ true) (Tr.ite (bE (ofNat 0) (ofNat g)) (Tr.ite (bE (bm .i64 (aV .i64 (q (ar (au 0 k 2) 1)) (q (au 0 i 2))) (ofNat 1)) (ofNat g)) (Tr.req (cg 0 0) (Tr.req (dN 0 g 0 g) (Tr.req (cg 0 0) (Tr.req (dN 0 g 0 g) (Tr.ok (Ex.normal,Z3,Z2::H)))))) (Tr.ok (Ex.normal,Z1,Z0::H))) (Tr.ok (Ex.normal,Z1,Z0::H))) (Tr.ite (bE (q (au 0 i 2)) f) (Tr.ite (bE (ofNat 0) (ofNat g)) (Tr.ite (bE (bm .i64 (aV .i64 (q (ar (au 0 k 2) 1)) (q (au 0 i 2))) (ofNat 1)) (ofNat g)) (Tr.req (cg 0 0) (Tr.req (dN 0 g 0 g) (Tr.req (cg 0 0) (Tr.req (dN 0 g 0 g) (Tr.ok (Ex.normal,Z3,Z2::H)))))) (Tr.ok (Ex.normal,Z1,Z0::H))) (Tr.ok (Ex.normal,Z1,Z0::H))) (Tr.ite (bE (q (ar (au 0 k 2) 1)) t) (Tr.ite (bE (ofNat 0) (ofNat g)) (Tr.ite (bE (bm .i64 (aV .i64 (q (ar (au 0 k 2) 1)) (q (au 0 i 2))) (ofNat 1)) (ofNat g)) (Tr.req (cg 0 0) (Tr.req (dN 0 g 0 g) (Tr.req (cg 0 0) (Tr.req (dN 0 g 0 g) (Tr.ok (Ex.normal,Z3,Z2::H)))))) (Tr.ok (Ex.normal,Z1,Z0::H))) (Tr.ok (Ex.normal,Z1,Z0::H))) (Tr.ok (Ex.normal,Z1,Z0::H)))))))))))))) (Tr.ok (Ex.exit 2,[(0,shV O U Z V J W B,none),(2,AV.ptr 0 0 0 0,none),(4,AV.ptr 0 1 0 0,none),(5,AV.ptr 0 2 0 0,none),(6,AV.bool true,none),(7,AV.int .i64 i,none),(19,iI U,none),(20,AV.int .i64 i,none),(28,iI U,none),(29,AV.int .i64 k,none),(30,AV.bool false,some 1)],(bh [(0,ak.row (Row.G [iI 0,iI 0,AV.nils])),(0,ak.row (rM q 20)),(0,ak.row (Row.G [AV.int .i64 f,AV.int .i64 t,aF m y false]))])::H))) (bh [(0,ak.row (Row.G [iI 0,iI 0,AV.nils])),(0,ak.row (rM q 20)),(0,ak.row (Row.G [AV.int .i64 f,AV.int .i64 t,aF m y false])),(0,ak.row (Row.G [AV.int .i64 (q (au 0 i 2)),AV.int .i64 (q (ar (au 0 k 2) 1)),AV.nils]))]))) [(0,shV O U Z V J W B),(2,AV.ptr 0 0 0 0),(4,AV.ptr 0 1 0 0),(5,AV.ptr 0 2 0 0),(6,AV.bool true),(7,AV.int .i64 i),(9,AV.ptr 0 3 0 0),(19,iI U),(20,AV.int .i64 i),(28,iI U),(29,AV.int .i64 k),(46,iI U),(47,iI 0)])) [(0,shV O U Z V J W B,none),(2,AV.ptr 0 0 0 0,none),(4,AV.ptr 0 1 0 0,none),(5,AV.ptr 0 2 0 0,none),(6,AV.bool true,some 1),(7,AV.int .i64 i,none),(19,iI U,none),(20,AV.int .i64 i,none),(28,iI U,none),(29,AV.int .i64 (bm .i64 k (ofNat 1)),none)])) (bh [(0,ak.row (Row.G [iI 0,iI 0,AV.nils])),(0,ak.row (rM q 20)),(0,ak.row (Row.G [AV.int .i64 (q (au 0 i 2)),AV.int .i64 (q (ar (au 0 k 2) 1)),aF g (jI x 0) false])),(0,ak.row (Row.G [AV.int .i64 (q (au 0 i 2)),AV.int .i64 (q (ar (au 0 k 2) 1)),aF g (jI x 0) false])),(0,ak.dead)]))) [(0,shV O U Z V J W B,none),(2,AV.ptr 0 0 0 0,none),(4,AV.ptr 0 1 0 0,none),(5,AV.ptr 0 2 0 0,none),(6,AV.bool true,none),(7,AV.int .i64 i,none),(19,iI U,none),(20,AV.int .i64 i,none),(28,iI U,none),(29,AV.int .i64 (bm .i64 k (ofNat 1)),none)])) (bh [(0,ak.row (Row.G [iI 0,iI 0,AV.nils])),(0,ak.row (rM q 20)),(0,ak.row (Row.G [AV.int .i64 f,AV.int .i64 t,aF m y false])),(0,ak.row (Row.G [AV.int .i64 (q (au 0 i 2)),AV.int .i64 (q (ar (au 0 k 2) 1)),AV.slc 0 4 0 0 1 g none])),(0,ak.row (rM x g))]):=by kernel_rfl
end Go.Eng
end
section
namespace Go.Eng
open Go.Proofs Go.Eng.Gall
theorem vQ:∀ b,(4,b) ∈ aP (part Tryd.f65 [1,0,1,1,1,1,0,1,0,0,1,1,0,0,1,1,0,0])→b=.loop (part Tryd.f65 [1,0,1,1,1,1,0,1,0,0,1,1,0,0,1,1,0,0,1,1,0,0,1,1,0,1,0,0]):=eA (by kernel_rfl)
def yf (q:Nat→Int) (F T:Int) (c:Nat):Bool:=decide (F≤q (2*c)) && decide (q (2*c+1)≤T)
def dR (q:Nat→Int) (F T:Int):Nat→List Int
 | 0=>[]
 | c+1=>if yf q F T c=true then dR q F T c++[(c:Int)] else dR q F T c
theorem py (q:Nat→Int) (F T:Int):∀ j,(dR q F T j).length≤j
 | 0=>Nat.le_refl 0
 | j+1=>by
   have:=py q F T j;unfold dR;split
   · rw[List.length_append,List.length_singleton];omega
   · omega
noncomputable def Fe (q:Nat→Int) (f t:Int) (A:AV) (F T:Int):List Int→bB
 | []=>zm q f t A F T
 | a::r=>B5 q f t A F T (r.length+1) (aC (a::r))
section
variable (n:Nat) (H:aa) (q:Nat→Int) (R:Row) (u:Bool) (f t:Int) (m:Nat) (y:Nat→Int) (U:Nat) (i k F T:Int)
theorem QD (hl:U≤10) (c:Nat) (hc:c<U) (L:List Int) (hL:L.length≤1000) :
 ∃ x,exec (bN n 65 128) (part Tryd.f65 [1,0,1,1,1,1,0,1,0,0,1,1,0,0,1,1,0,0,1,1,0,0,1,1,0,1,0,0]) (gu R u U i k (c:Int)) (Fe q f t .nils F T L::H)=some x∧x.1=.normal∧tidy 4 x.2.1 x.2.2=(gu R u U i k ((c+1:Nat):Int),Fe q f t .nils F T (if yf q F T c=true then L++[(c:Int)] else L)::H):=by
 have e1:bm .i64 (c:Int) (Int.ofNat 1)=((c+1:Nat):Int):=eg wO
 have ei:au 0 (c:Int) 2=2*c:=by rw[bt];omega
 cases L with
 | nil =>
   have T0:=Lq n H q R u f t 0 q U i k (c:Int) F T
   rw[e1,ei,aI] at T0
   refine aw T0 (aA _) (ai _ _) (aj _ _) ?_
   refine Tr.af (fun h0=>?_) wJ
   refine Tr.ab wG (Tr.ab wG (Tr.ab wG (Tr.af (fun q1=>Tr.ab wG (Tr.ab wG (Tr.ab wG (Tr.af (fun q2=>?_) (fun q2=>Tr.ag ?_))))) (fun q1=>Tr.ag ?_))))
   all_goals rw[bu] at q1
   · rw[bu] at q2
     rw[if_pos (by unfold yf;rw[q1,q2];rfl)]
     refine Tr.ab wG (Tr.ab wG (Tr.ab wG (Tr.ab wG (Tr.ab wG (Tr.ag ⟨rfl,rfl⟩)))))
   · rw[bu] at q2
     rw[if_neg (by unfold yf;rw[q1,q2];decide)];exact ⟨rfl,rfl⟩
   · rw[if_neg (by unfold yf;rw[q1];simp)];exact ⟨rfl,rfl⟩
 | cons a r =>
   simp only[List.length_cons] at hL
   have e2:=nm (a::r) (c:Int)
   simp only[List.length_cons] at e2
   have e3:ar (r.length+1) 1=r.length+1+1:=by rw[aI]
   have e4:cC (Int.ofNat (r.length+1))=r.length+1:=by rw[lX];rfl
   have T0:=Lr n H q R u f t 0 q U i k (c:Int) F T (r.length+1) (aC (a::r))
   rw[e1,e4,e3,e2,ei,aI] at T0
   refine aw T0 (aA _) (ai _ _) (aj _ _) ?_
   refine Tr.af (fun h0=>?_) wJ
   refine Tr.ab wG (Tr.ab wG (Tr.ab wG (Tr.af (fun q1=>Tr.ab wG (Tr.ab wG (Tr.ab wG (Tr.af (fun q2=>?_) (fun q2=>Tr.ag ?_))))) (fun q1=>Tr.ag ?_))))
   all_goals rw[bu] at q1
   · rw[bu] at q2
     rw[if_pos (by unfold yf;rw[q1,q2];rfl)]
     have er:(r++[(c:Int)]).length=r.length+1:=by rw[List.length_append,List.length_singleton]
     have el:Fe q f t .nils F T (a::r++[(c:Int)])=B5 q f t .nils F T (r.length+1+1) (aC (a::r++[(c:Int)])):=by show B5 _ _ _ _ _ _ ((r++[(c:Int)]).length+1) (aC (a::(r++[(c:Int)])))=_;rw[er];rfl
     rw[el]
     generalize aC (a::r++[(c:Int)])=Y at *
     refine Tr.ab wG (Tr.ab wG (Tr.ab wG (Tr.ab wG (Tr.ab wG (Tr.af (fun q4=>?_) wJ)))))
     exact Tr.ab wG (Tr.ab wG (Tr.ab wG (Tr.ag ⟨rfl,rfl⟩)))
   · rw[bu] at q2
     rw[if_neg (by unfold yf;rw[q1,q2];decide)];exact ⟨rfl,rfl⟩
   · rw[if_neg (by unfold yf;rw[q1];simp)];exact ⟨rfl,rfl⟩
theorem S4 (hl:U≤10):exec (bN n 65 128) (.block 4 (.loop (part Tryd.f65 [1,0,1,1,1,1,0,1,0,0,1,1,0,0,1,1,0,0,1,1,0,0,1,1,0,1,0,0]))) (gu R u U i k (Int.ofNat 0)) (zm q f t .nils F T::H)=some (.normal,gu R u U i k (U:Int)++[(48,.bool false)],Fe q f t .nils F T (dR q F T U)::H):=by
 refine fQ (n:=n) (f:=65) (nt:=128) (c:=part Tryd.f65 [1,0,1,1,1,1,0,1,0,0,1,1,0,0,1,1,0,0,1,1,0,0,1,1,0,1,0,0]) 4 (fun c=>gu R u U i k (c:Int)) (fun c=>Fe q f t .nils F T (dR q F T c)::H) U (gu R u U i k (U:Int)++[(48,.bool false)],Fe q f t .nils F T (dR q F T U)::H) wO (fun c hc=>?_) ?_
 · exact QD n H q R u f t U i k F T hl c hc (dR q F T c) (by have:=py q F T c;omega)
 · generalize dR q F T U=L;cases L with
   | nil =>
     obtain ⟨x,h1,rfl⟩:=aw (Q:=fun x=>x=(.exit 4,gu R u U i k (U:Int)++[(48,.bool false)],zm q f t .nils F T::H)) (Lq n H q R u f t 0 q U i k (U:Int) F T) (aA _) (ai _ _) (aj _ _) (by
      refine Tr.af wJ (fun h0=>Tr.ag rfl))
     exact h1
   | cons a r =>
     obtain ⟨x,h1,rfl⟩:=aw (Q:=fun x=>x=(.exit 4,gu R u U i k (U:Int)++[(48,.bool false)],B5 q f t .nils F T (r.length+1) (aC (a::r))::H)) (Lr n H q R u f t 0 q U i k (U:Int) F T (r.length+1) (aC (a::r))) (aA _) (ai _ _) (aj _ _) (by
      refine Tr.af wJ (fun h0=>Tr.ag rfl))
     exact h1
theorem QE (hl:U≤10) (c:Nat) (hc:c<U) (L:List Int) (hL:L.length≤1000) :
 ∃ x,exec (bN n 65 128) (part Tryd.f65 [1,0,1,1,1,1,0,1,0,0,1,1,0,0,1,1,0,0,1,1,0,0,1,1,0,1,0,0]) (gu R u U i k (c:Int)) (Fe q f t (aF m y false) F T L::H)=some x∧x.1=.normal∧tidy 4 x.2.1 x.2.2=(gu R u U i k ((c+1:Nat):Int),Fe q f t (aF m y false) F T (if yf q F T c=true then L++[(c:Int)] else L)::H):=by
 have e1:bm .i64 (c:Int) (Int.ofNat 1)=((c+1:Nat):Int):=eg wO
 have ei:au 0 (c:Int) 2=2*c:=by rw[bt];omega
 cases L with
 | nil =>
   have T0:=Ls n H q R u f t m y U i k (c:Int) F T
   rw[e1,ei,aI] at T0
   refine aw T0 (aA _) (ai _ _) (aj _ _) ?_
   refine Tr.af (fun h0=>?_) wJ
   refine Tr.ab wG (Tr.ab wG (Tr.ab wG (Tr.af (fun q1=>Tr.ab wG (Tr.ab wG (Tr.ab wG (Tr.af (fun q2=>?_) (fun q2=>Tr.ag ?_))))) (fun q1=>Tr.ag ?_))))
   all_goals rw[bu] at q1
   · rw[bu] at q2
     rw[if_pos (by unfold yf;rw[q1,q2];rfl)]
     refine Tr.ab wG (Tr.ab wG (Tr.ab wG (Tr.ab wG (Tr.ab wG (Tr.ag ⟨rfl,rfl⟩)))))
   · rw[bu] at q2
     rw[if_neg (by unfold yf;rw[q1,q2];decide)];exact ⟨rfl,rfl⟩
   · rw[if_neg (by unfold yf;rw[q1];simp)];exact ⟨rfl,rfl⟩
 | cons a r =>
   simp only[List.length_cons] at hL
   have e2:=nm (a::r) (c:Int)
   simp only[List.length_cons] at e2
   have e3:ar (r.length+1) 1=r.length+1+1:=by rw[aI]
   have e4:cC (Int.ofNat (r.length+1))=r.length+1:=by rw[lX];rfl
   have T0:=Lt n H q R u f t m y U i k (c:Int) F T (r.length+1) (aC (a::r))
   rw[e1,e4,e3,e2,ei,aI] at T0
   refine aw T0 (aA _) (ai _ _) (aj _ _) ?_
   refine Tr.af (fun h0=>?_) wJ
   refine Tr.ab wG (Tr.ab wG (Tr.ab wG (Tr.af (fun q1=>Tr.ab wG (Tr.ab wG (Tr.ab wG (Tr.af (fun q2=>?_) (fun q2=>Tr.ag ?_))))) (fun q1=>Tr.ag ?_))))
   all_goals rw[bu] at q1
   · rw[bu] at q2
     rw[if_pos (by unfold yf;rw[q1,q2];rfl)]
     have er:(r++[(c:Int)]).length=r.length+1:=by rw[List.length_append,List.length_singleton]
     have el:Fe q f t (aF m y false) F T (a::r++[(c:Int)])=B5 q f t (aF m y false) F T (r.length+1+1) (aC (a::r++[(c:Int)])):=by show B5 _ _ _ _ _ _ ((r++[(c:Int)]).length+1) (aC (a::(r++[(c:Int)])))=_;rw[er];rfl
     rw[el]
     generalize aC (a::r++[(c:Int)])=Y at *
     refine Tr.ab wG (Tr.ab wG (Tr.ab wG (Tr.ab wG (Tr.ab wG (Tr.af (fun q4=>?_) wJ)))))
     exact Tr.ab wG (Tr.ab wG (Tr.ab wG (Tr.ag ⟨rfl,rfl⟩)))
   · rw[bu] at q2
     rw[if_neg (by unfold yf;rw[q1,q2];decide)];exact ⟨rfl,rfl⟩
   · rw[if_neg (by unfold yf;rw[q1];simp)];exact ⟨rfl,rfl⟩
theorem P4 (hl:U≤10):exec (bN n 65 128) (.block 4 (.loop (part Tryd.f65 [1,0,1,1,1,1,0,1,0,0,1,1,0,0,1,1,0,0,1,1,0,0,1,1,0,1,0,0]))) (gu R u U i k (Int.ofNat 0)) (zm q f t (aF m y false) F T::H)=some (.normal,gu R u U i k (U:Int)++[(48,.bool false)],Fe q f t (aF m y false) F T (dR q F T U)::H):=by
 refine fQ (n:=n) (f:=65) (nt:=128) (c:=part Tryd.f65 [1,0,1,1,1,1,0,1,0,0,1,1,0,0,1,1,0,0,1,1,0,0,1,1,0,1,0,0]) 4 (fun c=>gu R u U i k (c:Int)) (fun c=>Fe q f t (aF m y false) F T (dR q F T c)::H) U (gu R u U i k (U:Int)++[(48,.bool false)],Fe q f t (aF m y false) F T (dR q F T U)::H) wO (fun c hc=>?_) ?_
 · exact QE n H q R u f t m y U i k F T hl c hc (dR q F T c) (by have:=py q F T c;omega)
 · generalize dR q F T U=L;cases L with
   | nil =>
     obtain ⟨x,h1,rfl⟩:=aw (Q:=fun x=>x=(.exit 4,gu R u U i k (U:Int)++[(48,.bool false)],zm q f t (aF m y false) F T::H)) (Ls n H q R u f t m y U i k (U:Int) F T) (aA _) (ai _ _) (aj _ _) (by
      refine Tr.af wJ (fun h0=>Tr.ag rfl))
     exact h1
   | cons a r =>
     obtain ⟨x,h1,rfl⟩:=aw (Q:=fun x=>x=(.exit 4,gu R u U i k (U:Int)++[(48,.bool false)],B5 q f t (aF m y false) F T (r.length+1) (aC (a::r))::H)) (Lt n H q R u f t m y U i k (U:Int) F T (r.length+1) (aC (a::r))) (aA _) (ai _ _) (aj _ _) (by
      refine Tr.af wJ (fun h0=>Tr.ag rfl))
     exact h1
end
end Go.Eng
end
section
namespace Go.Eng
open Go.Proofs Go.Eng.Gall
def um (q:Nat→Int) (U:Nat) (F T:Int):Bool:=decide (0<(dR q F T U).length) && decide (T-F+1<((dR q F T U).length:Int))
def OQ:Option (Int×Int)→Int→Int→Bool
 | none,_,_=>true
 | some (f,t),F,T=>decide (F<f) || decide (T<t)
def Fx (q:Nat→Int) (U:Nat) (F:Int) (b:Option (Int×Int)) (T:Int):Option (Int×Int):=if (OQ b F T && um q U F T)=true then some (F,T) else b
def yd (q:Nat→Int) (U:Nat) (F:Int) (b:Option (Int×Int)):Nat→Option (Int×Int)
 | 0=>b
 | k+1=>Fx q U F (yd q U F b k) (q (2*k+1))
def FI:Option (Int×Int)→Int→Bool
 | none,_=>false
 | some (f,_),F=>decide (f<F)
def lg (q:Nat→Int) (U:Nat):Nat→Option (Int×Int)
 | 0=>none
 | i+1=>if FI (lg q U i) (q (2*i))=true then lg q U i else yd q U (q (2*i)) (lg q U i) U
def kb (P:Int→Int→Prop):Option (Int×Int)→Prop
 | none=>∀ F T,¬ P F T
 | some (f,t)=>P f t∧∀ F T,P F T→f<F∨(f=F∧t≤T)
theorem iS {P Q:Int→Int→Prop} (h:∀ F T,P F T↔Q F T) {b:Option (Int×Int)}:kb P b↔kb Q b:=by
 have:P=Q:=funext fun F=>funext fun T=>propext (h F T);rw[this]
theorem GX {q:Nat→Int} {U:Nat} {F:Int} {b:Option (Int×Int)} (h:FI b F=false):∀ k,FI (yd q U F b k) F=false
 | 0=>h
 | k+1=>by
   unfold yd Fx;split
   · exact decide_eq_false (Int.lt_irrefl _)
   · exact GX h k
theorem Ig {P:Int→Int→Prop} {q:Nat→Int} {U:Nat} {F T:Int} {b:Option (Int×Int)} (hb:kb P b) (hg:FI b F=false):kb (fun x y=>P x y∨(x=F∧y=T∧um q U F T=true)) (Fx q U F b T):=by
 unfold Fx;by_cases ho:um q U F T=true
 · cases b with
   | none =>
     rw[if_pos (by rw[ho];rfl)];refine ⟨.inr ⟨rfl,rfl,ho⟩,?_⟩;rintro x y (h | ⟨rfl,rfl,_⟩)
     · exact absurd h (hb x y)
     · exact .inr ⟨rfl,Int.le_refl _⟩
   | some v =>
     obtain ⟨f,t⟩:=v;obtain ⟨h1,h2⟩:=hb;have hg:¬ f<F:=of_decide_eq_false hg;by_cases hc:F<f∨T<t
     · rw[if_pos (by rw[ho,Bool.and_true];show (decide (F<f) || decide (T<t))=true;simpa using hc)];refine ⟨.inr ⟨rfl,rfl,ho⟩,?_⟩;rintro x y (h | ⟨rfl,rfl,_⟩)
       · have:=h2 x y h;omega
       · exact .inr ⟨rfl,Int.le_refl _⟩
     · rw[if_neg (by rw[ho,Bool.and_true];show ¬ (decide (F<f) || decide (T<t))=true;simpa using hc)];refine ⟨.inl h1,?_⟩;rintro x y (h | ⟨rfl,rfl,_⟩)
       · exact h2 x y h
       · omega
 · rw[if_neg (by simp[ho])];exact (iS (fun x y=>⟨fun h=>.inl h,fun h=>h.elim id fun h=>absurd h.2.2 ho⟩)).1 hb
theorem yT {P:Int→Int→Prop} {q:Nat→Int} {U:Nat} {F:Int} {b:Option (Int×Int)} (hb:kb P b) (hg:FI b F=false):∀ k,kb (fun x y=>P x y∨(x=F∧∃ j,j<k∧y=q (2*j+1)∧um q U F y=true)) (yd q U F b k)
 | 0=>(iS (fun x y=>⟨fun h=>.inl h,fun h=>h.elim id fun ⟨_,j,h,_⟩=>absurd h (Nat.not_lt_zero j)⟩)).1 hb
 | k + 1=>by
   have:=Ig (q:=q) (U:=U) (F:=F) (T:=q (2*k+1)) (b:=yd q U F b k) (yT (q:=q) (U:=U) hb hg k) (GX (q:=q) (U:=U) hg k);refine (iS (fun x y=>?_)).1 this;constructor
   · rintro ((h | ⟨h1,j,h2,h3,h4⟩) | ⟨rfl,rfl,h3⟩)
     · exact .inl h
     · exact .inr ⟨h1,j,by omega,h3,h4⟩
     · exact .inr ⟨rfl,k,by omega,rfl,h3⟩
   · rintro (h | ⟨rfl,j,h2,rfl,h4⟩)
     · exact .inl (.inl h)
     · by_cases e:j=k
       · subst e;exact .inr ⟨rfl,rfl,h4⟩
       · exact .inl (.inr ⟨rfl,j,by omega,rfl,h4⟩)
theorem uk (q:Nat→Int) (U:Nat):∀ i,kb (fun x y=>∃ j k,j<i∧k<U∧x=q (2*j)∧y=q (2*k+1)∧um q U x y=true) (lg q U i)∨∃ f t,lg q U i=some (f,t)∧kb (fun x y=>∃ j k,j<i∧k<U∧x=q (2*j)∧y=q (2*k+1)∧um q U x y=true) (some (f,t))
 | 0=>.inl fun F T ⟨j,_,h,_⟩=>absurd h (Nat.not_lt_zero j)
 | i + 1=>by
   have ih:kb (fun x y=>∃ j k,j<i∧k<U∧x=q (2*j)∧y=q (2*k+1)∧um q U x y=true) (lg q U i):=by
    rcases uk q U i with h | ⟨f,t,h1,h2⟩
    · exact h
    · rw[h1];exact h2
   refine .inl ?_;unfold lg;by_cases hg:FI (lg q U i) (q (2*i))=true
   · rw[if_pos hg];generalize lg q U i=b at *;cases b with
     | none=>cases hg
     | some v =>
       obtain ⟨f,t⟩:=v;have hg:f<q (2*i):=of_decide_eq_true hg;obtain ⟨⟨j,k,h1,h2⟩,h3⟩:=ih;refine ⟨⟨j,k,by omega,h2⟩,?_⟩;rintro F T ⟨j',k',a1,a2,rfl,rfl,a3⟩;by_cases e:j'=i
       · subst e;exact .inl hg
       · exact h3 _ _ ⟨j',k',by omega,a2,rfl,rfl,a3⟩
   · rw[if_neg hg];have hg:FI (lg q U i) (q (2*i))=false:=by simpa using hg
     refine (iS (fun x y=>?_)).1 (yT ih hg U);constructor
     · rintro (⟨j,k,h1,h2⟩ | ⟨rfl,k,h1,rfl,h2⟩)
       · exact ⟨j,k,by omega,h2⟩
       · exact ⟨i,k,by omega,h1,rfl,rfl,h2⟩
     · rintro ⟨j,k,h1,h2,rfl,rfl,h3⟩;by_cases e:j=i
       · subst e;exact .inr ⟨rfl,k,h2,rfl,h3⟩
       · exact .inl ⟨j,k,by omega,h2,rfl,rfl,h3⟩
end Go.Eng
end
section
namespace Go.Eng
open Go.Proofs Go.Eng.Gall
theorem r6 (q:Nat→Int) (F T x:Int):∀ j,x ∈ dR q F T j↔∃ k,k<j∧yf q F T k=true∧x=(k:Int)
 | 0=>by simp[dR]
 | j + 1=>by
   have ih:=r6 q F T x j;unfold dR;split
   · rename_i h;rw[List.mem_append,List.mem_singleton,ih];constructor
     · rintro (⟨k,h1,h2,h3⟩ | h1)
       · exact ⟨k,by omega,h2,h3⟩
       · exact ⟨j,by omega,h,h1⟩
     · rintro ⟨k,h1,h2,h3⟩;by_cases e:k=j
       · subst e;exact .inr h3
       · exact .inl ⟨k,by omega,h2,h3⟩
   · rename_i h;rw[ih];constructor
     · rintro ⟨k,h1,h2,h3⟩;exact ⟨k,by omega,h2,h3⟩
     · rintro ⟨k,h1,h2,h3⟩;by_cases e:k=j
       · subst e;exact absurd h2 h
       · exact ⟨k,by omega,h2,h3⟩
theorem wg (q:Nat→Int) (F T:Int):∀ j,(dR q F T j).Nodup
 | 0=>List.nodup_nil
 | j + 1=>by
   have ih:=wg q F T j;unfold dR;split
   · rw[List.nodup_append];refine ⟨ih,by simp,?_⟩;intro a ha b hb e;rw[List.mem_singleton] at hb;obtain ⟨k,h1,_,h3⟩:=(r6 q F T a j).1 ha;omega
   · exact ih
theorem dy {L:List Nat} (hn:L.Nodup) {M:List Int} (h:∀ x ∈ L,(x:Int) ∈ M):L.length≤M.length:=by
 have:=gm hn (M:=M.map Int.toNat) (fun x hx=>List.mem_map.2 ⟨(x:Int),h x hx,rfl⟩);rwa [List.length_map] at this
theorem oe (f:Nat→Int):∀ (L:List Nat),L≠[]→∃ a ∈ L,∀ b ∈ L,f a≤f b
 | [],h=>absurd rfl h
 | [a],_=>⟨a,by simp,by simp⟩
 | a::b::L,_=>by
   obtain ⟨c,hc,h⟩:=oe f (b::L) (by simp);by_cases e:f a≤f c
   · exact ⟨a,by simp,fun x hx=>by
      rcases List.mem_cons.1 hx with rfl | hx
      · exact Int.le_refl _
      · have:=h x hx;omega⟩
   · exact ⟨c,List.mem_cons_of_mem _ hc,fun x hx=>by
      rcases List.mem_cons.1 hx with rfl | hx
      · omega
      · exact h x hx⟩
theorem Kn {q:Nat→Int} {U:Nat} (h:lg q U U=none):Room U (fun c=>q (2*c)) (fun c=>q (2*c+1)):=by
 have hf:∀ F T,¬ ∃ j k,j<U∧k<U∧F=q (2*j)∧T=q (2*k+1)∧um q U F T=true:=by
  rcases uk q U U with h1 | ⟨f,t,h1,_⟩
  · rw[h] at h1;exact h1
  · rw[h] at h1;cases h1
 intro s t L hn hne hL;obtain ⟨a,ha,ha2⟩:=oe (fun c=>q (2*c)) L hne;obtain ⟨b,hb,hb2⟩:=oe (fun c=>-q (2*c+1)) L hne;have h1:=hf (q (2*a)) (q (2*b+1));have hov:um q U (q (2*a)) (q (2*b+1))=false:=by
  cases e:um q U (q (2*a)) (q (2*b+1)) with
  | false=>rfl
  | true=>exact absurd ⟨a,b,(hL a ha).1,(hL b hb).1,rfl,rfl,e⟩ h1
 have hle:L.length≤(dR q (q (2*a)) (q (2*b+1)) U).length:=dy hn fun x hx=>by
  refine (r6 _ _ _ _ _).2 ⟨x,(hL x hx).1,?_,rfl⟩;have e1:=ha2 x hx;have e2:=hb2 x hx;unfold yf;rw[Bool.and_eq_true,decide_eq_true_iff,decide_eq_true_iff];constructor
  · exact e1
  · have e2:-q (2*b+1)≤-q (2*x+1):=e2;omega
 have hpos:0<L.length:=List.length_pos_iff.2 hne;unfold um at hov;rw[decide_eq_true (show 0<(dR q (q (2*a)) (q (2*b+1)) U).length by omega),Bool.true_and,decide_eq_false_iff_not] at hov;have e3:s≤q (2*a):=(hL a ha).2.1;have e4:q (2*b+1)≤t:=(hL b hb).2.2;omega
theorem xQ {n:Nat} {ok:Nat→Nat→Nat→Bool}:∀ {k:Nat} {L:List Nat},L ∈ ro n ok k↔L.length=k∧∀ i (h:i<L.length),L[i]<n∧(mask (L.take i)).testBit L[i]=false∧ok i (mask (L.take i)) L[i]=true
 | 0,L=>by
   show L ∈ [[]]↔_;rw[List.mem_singleton];constructor
   · rintro rfl;exact ⟨rfl,fun i h=>absurd h (Nat.not_lt_zero i)⟩
   · rintro ⟨h,_⟩;exact List.eq_nil_of_length_eq_zero h
 | k + 1,L=>by
   show L ∈ (ro n ok k).flatMap (fun L=>(nx ok n k (mask L)).map fun c=>L++[c])↔_;rw[List.mem_flatMap];constructor
   · rintro ⟨M,hM,hx⟩;obtain ⟨c,hc,rfl⟩:=List.mem_map.1 hx;obtain ⟨h1,h2⟩:=xQ.1 hM;obtain ⟨c1,c2,c3⟩:=oG.1 hc;refine ⟨by rw[List.length_append,h1];rfl,fun i hi=>?_⟩;by_cases e:i<M.length
     · rw[List.getElem_append_left e,List.take_append_of_le_length wO];exact h2 i e
     · have:i=M.length:=by rw[List.length_append,List.length_singleton] at hi;omega
       subst this;rw[List.getElem_append_right (Nat.le_refl _),List.take_left' rfl];simp only[Nat.sub_self,List.getElem_cons_zero];rw[h1];exact ⟨c1,c2,c3⟩
   · rintro ⟨h1,h2⟩;have hne:L≠[]:=by intro e;rw[e] at h1;cases h1
     have hd:L.dropLast++[L.getLast hne]=L:=List.dropLast_concat_getLast hne;have hdl:L.dropLast.length=k:=by rw[List.length_dropLast,h1];rfl
     have ht:∀ i,i≤k→L.dropLast.take i=L.take i:=fun i hi=>by
      rw[List.dropLast_eq_take,List.take_take,Nat.min_eq_left wO]
     refine ⟨L.dropLast,xQ.2 ⟨hdl,fun i hi=>?_⟩,List.mem_map.2 ⟨L.getLast hne,?_,hd⟩⟩
     · rw[ht i wO,List.getElem_dropLast];exact h2 i wO
     · have:=h2 k wO;rw[oG,List.getLast_eq_getElem];have e:L.take k=L.dropLast:=by rw[List.dropLast_eq_take,h1];rfl
       rw[e] at this;simpa[h1] using this
end Go.Eng
end
section
namespace Go.Eng
open Int (ofNat)
open Go.Proofs Go.Eng.Gall
noncomputable def tG (q:Nat→Int) (U:Nat):Option (Int×Int)→bB
 | none=>fh q (ofNat 0) (ofNat 0) .nils
 | some (f,t)=>fh q f t (aF (dR q f t U).length (aC (dR q f t U)) false)
theorem uN {q:Nat→Int} {U:Nat} {F T:Int} {b:Option (Int×Int)} (h:um q U F T=false):Fx q U F b T=b:=by unfold Fx;rw[h,Bool.and_false,if_neg (by decide)]
theorem Ol {q:Nat→Int} {U:Nat} {F T:Int} {b:Option (Int×Int)} (h:OQ b F T=false):Fx q U F b T=b:=by unfold Fx;rw[h,Bool.false_and,if_neg (by decide)]
theorem x4 {q:Nat→Int} {U:Nat} {F T:Int} {b:Option (Int×Int)} (h:OQ b F T=true) (h2:um q U F T=true):Fx q U F b T=some (F,T):=by unfold Fx;rw[h,h2];rfl
section
variable (n:Nat) (O:Int) (U:Nat) (Z:Nat→Int) (V:Nat) (J:Nat→Int) (W B:Nat→Int) (H:aa) (q:Nat→Int)
theorem Uc (hl:U≤10) (hq:∀ j,j<2*U→-1000000≤q j∧q j≤1000000) (i k:Nat) (hi:i<U) (hk:k<U) (b:Option (Int×Int)) (hb:FI b (q (2*i))=false) :
 ∃ x,exec (bN n 65 128) (part Tryd.f65 [1,0,1,1,1,1,0,1,0,0,1,1,0,0,1,1,0,0]) (iG (shR O U Z V J W B) b.isSome U i k) (tG q U b::H)=some x∧x.1=.normal∧tidy 3 x.2.1 x.2.2=(iG (shR O U Z V J W B) (Fx q U (q (2*i)) b (q (2*k+1))).isSome U i ((k+1:Nat):Int),tG q U (Fx q U (q (2*i)) b (q (2*k+1)))::H):=by
 have e1:bm .i64 (k:Int) (ofNat 1)=((k+1:Nat):Int):=eg wO
 have ei:au 0 (i:Int) 2=2*i:=by rw[bt];omega
 have ek:au 0 (k:Int) 2=2*k:=by rw[bt];omega
 have q1:=hq (2*i) wO
 have q2:=hq (2*k+1) wO
 have es:bm .i64 (aV .i64 (q (2*k+1)) (q (2*i))) (ofNat 1)=q (2*k+1)-q (2*i)+1:=by
  rw[QI wO wO];exact OZ (by show _≤q (2*k+1)-q (2*i)+1;omega) (by show q (2*k+1)-q (2*i)+1≤_;omega)
 generalize hF:q (2*i)=F at *
 generalize hT:q (2*k+1)=T at *
 cases b with
 | none =>
   have hlp:=S4 n H q (shR O U Z V J W B) false (ofNat 0) (ofNat 0) U i k F T hl
   cases hS:dR q F T U with
   | nil =>
     rw[hS] at hlp
     have ho:um q U F T=false:=by unfold um;rw[hS];rfl
     have T0:=PW n O U Z V J W B H q i k (ofNat 0) (ofNat 0) 0 q
     rw[ei,ek,aI,e1,hF,hT] at T0
     rw[uN ho]
     refine aw T0 (aA _) (az (ai _ _) vQ (fun x hx=>bJ hx (by simp only[db.st,aq];exact hlp))) (aj _ _) ?_
     refine Tr.af (fun h0=>?_) wJ
     refine Tr.ab wG (Tr.ab wG (Tr.ab wG (Tr.ab wG (Tr.ab wG (Tr.ab wG (Tr.ab wG (Tr.al ⟨rfl,rfl⟩ (Tr.af (fun h=>by cases h) (fun _=>Tr.af (fun _=>Tr.ag ⟨rfl,rfl⟩) (fun h=>by simp[aH] at h))))))))))
   | cons a r =>
     rw[hS] at hlp
     have hg:r.length+1≤U:=by have:=py q F T U;rw[hS] at this;simpa using this
     have hov:um q U F T=decide (T-F+1<((r.length+1:Nat):Int)):=by unfold um;rw[hS];rfl
     have hup:tG q U (some (F,T))=fh q F T (aF (r.length+1) (aC (a::r)) false):=by show fh q F T (aF (dR q F T U).length (aC (dR q F T U)) false)=_;rw[hS];rfl
     have T0:=PX n O U Z V J W B H q i k (ofNat 0) (ofNat 0) 0 q (r.length+1) (aC (a::r))
     rw[ei,ek,aI,e1,hF,hT,es,bU] at T0
     refine aw T0 (aA _) (az (ai _ _) vQ (fun x hx=>bJ hx (by simp only[db.st,aq];exact hlp))) (aj _ _) ?_
     refine Tr.af (fun h0=>?_) wJ
     refine Tr.ab wG (Tr.ab wG (Tr.ab wG (Tr.ab wG (Tr.ab wG (Tr.ab wG (Tr.ab wG (Tr.al ⟨rfl,rfl⟩ (Tr.af (fun h=>by cases h) (fun _=>Tr.af (fun _=>Tr.af (fun _=>Tr.af (fun h1=>?_) (fun h1=>Tr.ag ?_)) wJ) (fun h=>by simp[aH] at h))))))))))
     all_goals rw[bS] at h1
     · rw[x4 rfl (hov.trans h1),hup]
       exact Tr.ab wG (Tr.ab wG (Tr.ab wG (Tr.ab wG (Tr.ag ⟨rfl,rfl⟩))))
     · rw[uN (hov.trans h1)];exact ⟨rfl,rfl⟩
 | some v =>
   obtain ⟨f,t⟩:=v
   have hb:decide (f<F)=false:=hb
   have hlp:=P4 n H q (shR O U Z V J W B) true f t (dR q f t U).length (aC (dR q f t U)) U i k F T hl
   have hlv:tG q U (some (f,t))=fh q f t (aF (dR q f t U).length (aC (dR q f t U)) false):=rfl
   generalize dR q f t U=L0 at hlp hlv
   cases hS:dR q F T U with
   | nil =>
     rw[hS] at hlp
     have ho:um q U F T=false:=by unfold um;rw[hS];rfl
     have T0:=Le n O U Z V J W B H q i k f t L0.length (aC L0)
     rw[ei,ek,aI,e1,hF,hT] at T0
     rw[uN ho,hlv]
     refine aw T0 (aA _) (az (ai _ _) vQ (fun x hx=>bJ hx (by simp only[db.st,aq];exact hlp))) (aj _ _) ?_
     refine Tr.af (fun h0=>?_) wJ
     refine Tr.ab wG (Tr.ab wG (Tr.ab wG (Tr.ab wG (Tr.ab wG (Tr.ab wG (Tr.ab wG (Tr.al ⟨rfl,rfl⟩ (Tr.af (fun _=>Tr.af (fun h=>by rw[bS,hb] at h;cases h) (fun _=>Tr.af (fun h=>by simp[aH] at h) (fun _=>Tr.af (fun _=>Tr.ag ⟨rfl,rfl⟩) (fun _=>Tr.af (fun _=>Tr.ag ⟨rfl,rfl⟩) (fun _=>Tr.ag ⟨rfl,rfl⟩))))) (fun h=>by cases h)))))))))
   | cons a r =>
     rw[hS] at hlp
     have hg:r.length+1≤U:=by have:=py q F T U;rw[hS] at this;simpa using this
     have hov:um q U F T=decide (T-F+1<((r.length+1:Nat):Int)):=by unfold um;rw[hS];rfl
     have hup:tG q U (some (F,T))=fh q F T (aF (r.length+1) (aC (a::r)) false):=by show fh q F T (aF (dR q F T U).length (aC (dR q F T U)) false)=_;rw[hS];rfl
     have T0:=Lf n O U Z V J W B H q i k f t L0.length (aC L0) (r.length+1) (aC (a::r))
     rw[ei,ek,aI,e1,hF,hT,es,bU] at T0
     rw[hlv]
     refine aw T0 (aA _) (az (ai _ _) vQ (fun x hx=>bJ hx (by simp only[db.st,aq];exact hlp))) (aj _ _) ?_
     refine Tr.af (fun h0=>?_) wJ
     refine Tr.ab wG (Tr.ab wG (Tr.ab wG (Tr.ab wG (Tr.ab wG (Tr.ab wG (Tr.ab wG (Tr.al ⟨rfl,rfl⟩ (Tr.af (fun _=>Tr.af (fun h=>by rw[bS,hb] at h;cases h) (fun _=>Tr.af (fun h=>by simp[aH] at h) (fun _=>Tr.af (fun h2=>Tr.af (fun _=>Tr.af (fun h1=>?_) (fun h1=>Tr.ag ?_)) wJ) (fun h2=>Tr.af (fun h3=>Tr.af (fun _=>Tr.af (fun h1=>?_) (fun h1=>Tr.ag ?_)) wJ) (fun h3=>Tr.ag ?_))))) (fun h=>by cases h)))))))))
     all_goals rw[bS] at h2
     · rw[bS] at h1
       rw[x4 (show OQ (some (f,t)) F T=true by show (decide (F<f) || decide (T<t))=true;rw[h2];rfl) (hov.trans h1),hup]
       exact Tr.ab wG (Tr.ab wG (Tr.ab wG (Tr.ab wG (Tr.ag ⟨rfl,rfl⟩))))
     · rw[bS] at h1
       rw[uN (hov.trans h1),hlv];exact ⟨rfl,rfl⟩
     all_goals rw[bS] at h3
     · rw[bS] at h1
       rw[x4 (show OQ (some (f,t)) F T=true by show (decide (F<f) || decide (T<t))=true;rw[h3,Bool.or_true]) (hov.trans h1),hup]
       exact Tr.ab wG (Tr.ab wG (Tr.ab wG (Tr.ab wG (Tr.ag ⟨rfl,rfl⟩))))
     · rw[bS] at h1
       rw[uN (hov.trans h1),hlv];exact ⟨rfl,rfl⟩
     · rw[Ol (show OQ (some (f,t)) F T=false by show (decide (F<f) || decide (T<t))=false;rw[h2,h3];rfl),hlv];exact ⟨rfl,rfl⟩
end
end Go.Eng
end
