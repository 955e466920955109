/- Gall: a right block: the outer loop, trees. -/
import Derived.Test.YtgphpjdchnfjlaaDoorV6Gbbx5
set_option linter.unusedVariables false
set_option linter.unusedSimpArgs false
set_option maxRecDepth 100000
section
namespace Go.Eng
open Int (ofNat)
open Go.Proofs Go.Eng.Gall
noncomputable def AZ (R:Row) (U:Nat) (i k:Int):aC:=[(0,.ptrT none R 0),(2,.ptr 0 0 0 0),(4,.ptr 0 1 0 0),(5,.ptr 0 2 0 0),(6,.bool true),(7,.int .i64 i),(9,.ptr 0 3 0 0),(19,.int .i64 (ofNat U)),(20,.int .i64 i),(28,.int .i64 (ofNat U)),(29,.int .i64 k),(87,.bool true)]
theorem On (n:Nat) (O:Int) (U:Nat) (Z:Nat→Int) (V:Nat) (J:Nat→Int) (W B:Nat→Int) (H:ab) (q:Nat→Int) (i k:Int):aS (bQ n 65 128) (il aF n 0) (gf aR 4) aQ (part Tryd.f65 [1,0,1,1,1,1,0,1,0,0,1,1,0,0,1,1,0,0]) (hints (ie (shR O U Z V J W B) false U i k)) (eZ q (ofNat 0) (ofNat 0) .nils::H) =
 Tr.ite (bM k (ofNat U)) (Tr.req (c6 i 10) (Tr.req (cg 0 0) (Tr.req (cK (aw 0 i 2) 20) (Tr.req (c6 k 10) (Tr.req (cg 0 0) (Tr.req (cK (au (aw 0 k 2) 1) 20) (Tr.req (bV (fp 0 0) (fp 0 1)) Tr.bad))))))) (Tr.ok (Ex.exit 2,[(0,shV O U Z V J W B,none),(2,AV.ptr 0 0 0 0,none),(4,AV.ptr 0 1 0 0,none),(5,AV.ptr 0 2 0 0,none),(6,AV.bool false,none),(7,AV.int .i64 i,none),(19,iI U,none),(20,AV.int .i64 i,none),(28,iI U,none),(29,AV.int .i64 k,none),(30,AV.bool false,some 1)],(bz [(0,an.row (Row.G [iI 0,iI 0,AV.nils])),(0,an.row (rM q 20)),(0,an.row (Row.G [iI 0,iI 0,AV.nils]))])::H)):=by kernel_rfl
theorem Oo (n:Nat) (O:Int) (U:Nat) (Z:Nat→Int) (V:Nat) (J:Nat→Int) (W B:Nat→Int) (H:ab) (q:Nat→Int) (i k:Int) (f t:Int) (m:Nat) (y:Nat→Int):aS (bQ n 65 128) (il aF n 0) (gf aR 4) aQ (part Tryd.f65 [1,0,1,1,1,1,0,1,0,0,1,1,0,0,1,1,0,0]) (hints (ie (shR O U Z V J W B) true U i k)) (eZ q f t (cw m y false)::H) =
 Tr.ite (bM k (ofNat U)) (Tr.req (c6 i 10) (Tr.req (cg 0 0) (Tr.req (cK (aw 0 i 2) 20) (Tr.req (c6 k 10) (Tr.req (cg 0 0) (Tr.req (cK (au (aw 0 k 2) 1) 20) (Tr.req (bV (fp 0 0) (fp 0 1)) Tr.bad))))))) (Tr.ok (Ex.exit 2,[(0,shV O U Z V J W B,none),(2,AV.ptr 0 0 0 0,none),(4,AV.ptr 0 1 0 0,none),(5,AV.ptr 0 2 0 0,none),(6,AV.bool true,none),(7,AV.int .i64 i,none),(19,iI U,none),(20,AV.int .i64 i,none),(28,iI U,none),(29,AV.int .i64 k,none),(30,AV.bool false,some 1)],(bz [(0,an.row (Row.G [iI 0,iI 0,AV.nils])),(0,an.row (rM q 20)),(0,an.row (Row.G [AV.int .i64 f,AV.int .i64 t,cw m y false]))])::H)):=by kernel_rfl
theorem OO (n:Nat) (O:Int) (U:Nat) (Z:Nat→Int) (V:Nat) (J:Nat→Int) (W B:Nat→Int) (H:ab) (q:Nat→Int) (i:Int):aS (bQ n 65 128) (il aF n 0) (cV aR 2 (ie (shR O U Z V J W B) false U i (ofNat 0)) (eZ q (ofNat 0) (ofNat 0) .nils::H) (.ok (.normal,hints (ie (shR O U Z V J W B) false U i (ofNat U)++[(30,.bool false)]),eZ q (ofNat 0) (ofNat 0) .nils::H))) aQ (part Tryd.f65 [1,0,1,1,1,1,0,1,0,0]) (hints (kP (shR O U Z V J W B) false U i)) (eZ q (ofNat 0) (ofNat 0) .nils::H) =
 (fun (Z0:bG)=>((fun (Z1:aC)=>Tr.ite (bM i (ofNat U)) (Tr.reqP (Z1=Z1∧Z0::H=Z0::H) (Tr.ok (Ex.normal,[(0,shV O U Z V J W B,none),(2,AV.ptr 0 0 0 0,none),(4,AV.ptr 0 1 0 0,none),(5,AV.ptr 0 2 0 0,none),(6,AV.bool false,none),(19,iI U,none),(20,AV.int .i64 (bm .i64 i (ofNat 1)),none)],Z0::H))) (Tr.ok (Ex.exit 0,[(0,shV O U Z V J W B,none),(2,AV.ptr 0 0 0 0,none),(4,AV.ptr 0 1 0 0,none),(5,AV.ptr 0 2 0 0,none),(6,AV.bool false,none),(19,iI U,none),(20,AV.int .i64 i,none),(21,AV.bool false,some 1)],Z0::H))) [(0,shV O U Z V J W B),(2,AV.ptr 0 0 0 0),(4,AV.ptr 0 1 0 0),(5,AV.ptr 0 2 0 0),(6,AV.bool false),(7,AV.int .i64 i),(19,iI U),(20,AV.int .i64 i),(28,iI U),(29,iI 0)])) (bz [(0,an.row (Row.G [iI 0,iI 0,AV.nils])),(0,an.row (rM q 20)),(0,an.row (Row.G [iI 0,iI 0,AV.nils]))]):=by kernel_rfl
theorem OP (n:Nat) (O:Int) (U:Nat) (Z:Nat→Int) (V:Nat) (J:Nat→Int) (W B:Nat→Int) (H:ab) (q:Nat→Int) (i:Int) (f2 t2:Int) (m2:Nat) (y2:Nat→Int):aS (bQ n 65 128) (il aF n 0) (cV aR 2 (ie (shR O U Z V J W B) false U i (ofNat 0)) (eZ q (ofNat 0) (ofNat 0) .nils::H) (.ok (.normal,hints (ie (shR O U Z V J W B) true U i (ofNat U)++[(30,.bool false)]),eZ q f2 t2 (cw m2 y2 false)::H))) aQ (part Tryd.f65 [1,0,1,1,1,1,0,1,0,0]) (hints (kP (shR O U Z V J W B) false U i)) (eZ q (ofNat 0) (ofNat 0) .nils::H) =
 (fun (Z0:bG)=>((fun (Z1:aC)=>Tr.ite (bM i (ofNat U)) (Tr.reqP (Z1=Z1∧Z0::H=Z0::H) (Tr.ok (Ex.normal,[(0,shV O U Z V J W B,none),(2,AV.ptr 0 0 0 0,none),(4,AV.ptr 0 1 0 0,none),(5,AV.ptr 0 2 0 0,none),(6,AV.bool true,none),(19,iI U,none),(20,AV.int .i64 (bm .i64 i (ofNat 1)),none)],(bz [(0,an.row (Row.G [iI 0,iI 0,AV.nils])),(0,an.row (rM q 20)),(0,an.row (Row.G [AV.int .i64 f2,AV.int .i64 t2,cw m2 y2 false]))])::H))) (Tr.ok (Ex.exit 0,[(0,shV O U Z V J W B,none),(2,AV.ptr 0 0 0 0,none),(4,AV.ptr 0 1 0 0,none),(5,AV.ptr 0 2 0 0,none),(6,AV.bool false,none),(19,iI U,none),(20,AV.int .i64 i,none),(21,AV.bool false,some 1)],Z0::H))) [(0,shV O U Z V J W B),(2,AV.ptr 0 0 0 0),(4,AV.ptr 0 1 0 0),(5,AV.ptr 0 2 0 0),(6,AV.bool false),(7,AV.int .i64 i),(19,iI U),(20,AV.int .i64 i),(28,iI U),(29,iI 0)])) (bz [(0,an.row (Row.G [iI 0,iI 0,AV.nils])),(0,an.row (rM q 20)),(0,an.row (Row.G [iI 0,iI 0,AV.nils]))]):=by kernel_rfl
theorem OR (n:Nat) (O:Int) (U:Nat) (Z:Nat→Int) (V:Nat) (J:Nat→Int) (W B:Nat→Int) (H:ab) (q:Nat→Int) (i:Int) (f t:Int) (m:Nat) (y:Nat→Int) (f2 t2:Int) (m2:Nat) (y2:Nat→Int):aS (bQ n 65 128) (il aF n 0) (cV aR 2 (ie (shR O U Z V J W B) true U i (ofNat 0)) (eZ q f t (cw m y false)::H) (.ok (.normal,hints (ie (shR O U Z V J W B) true U i (ofNat U)++[(30,.bool false)]),eZ q f2 t2 (cw m2 y2 false)::H))) aQ (part Tryd.f65 [1,0,1,1,1,1,0,1,0,0]) (hints (kP (shR O U Z V J W B) true U i)) (eZ q f t (cw m y false)::H) =
 (fun (Z0:bG)=>((fun (Z1:aC)=>Tr.ite (bM i (ofNat U)) (Tr.reqP (Z1=Z1∧Z0::H=Z0::H) (Tr.ok (Ex.normal,[(0,shV O U Z V J W B,none),(2,AV.ptr 0 0 0 0,none),(4,AV.ptr 0 1 0 0,none),(5,AV.ptr 0 2 0 0,none),(6,AV.bool true,none),(19,iI U,none),(20,AV.int .i64 (bm .i64 i (ofNat 1)),none)],(bz [(0,an.row (Row.G [iI 0,iI 0,AV.nils])),(0,an.row (rM q 20)),(0,an.row (Row.G [AV.int .i64 f2,AV.int .i64 t2,cw m2 y2 false]))])::H))) (Tr.ok (Ex.exit 0,[(0,shV O U Z V J W B,none),(2,AV.ptr 0 0 0 0,none),(4,AV.ptr 0 1 0 0,none),(5,AV.ptr 0 2 0 0,none),(6,AV.bool true,none),(19,iI U,none),(20,AV.int .i64 i,none),(21,AV.bool false,some 1)],Z0::H))) [(0,shV O U Z V J W B),(2,AV.ptr 0 0 0 0),(4,AV.ptr 0 1 0 0),(5,AV.ptr 0 2 0 0),(6,AV.bool true),(7,AV.int .i64 i),(19,iI U),(20,AV.int .i64 i),(28,iI U),(29,iI 0)])) (bz [(0,an.row (Row.G [iI 0,iI 0,AV.nils])),(0,an.row (rM q 20)),(0,an.row (Row.G [AV.int .i64 f,AV.int .i64 t,cw m y false]))]):=by kernel_rfl
theorem OS (n:Nat) (O:Int) (U:Nat) (Z:Nat→Int) (V:Nat) (J:Nat→Int) (W B:Nat→Int) (H:ab) (q:Nat→Int) (i:Int) (f t:Int) (m:Nat) (y:Nat→Int) (F T:Int):aS (bQ n 65 128) (il aF n 0) (cV aR 2 (ie (shR O U Z V J W B) true U i (ofNat 0)) (eZ q f t (cw m y false)::H) (.ok (.exit 1,hints (AZ (shR O U Z V J W B) U i (ofNat 0)),yx q f t (cw m y false) F T::H))) aQ (part Tryd.f65 [1,0,1,1,1,1,0,1,0,0]) (hints (kP (shR O U Z V J W B) true U i)) (eZ q f t (cw m y false)::H) =
 (fun (Z0:bG)=>((fun (Z1:aC)=>Tr.ite (bM i (ofNat U)) (Tr.reqP (Z1=Z1∧Z0::H=Z0::H) (Tr.ok (Ex.normal,[(0,shV O U Z V J W B,none),(2,AV.ptr 0 0 0 0,none),(4,AV.ptr 0 1 0 0,none),(5,AV.ptr 0 2 0 0,none),(6,AV.bool true,none),(19,iI U,none),(20,AV.int .i64 (bm .i64 i (ofNat 1)),none)],(bz [(0,an.row (Row.G [iI 0,iI 0,AV.nils])),(0,an.row (rM q 20)),(0,an.row (Row.G [AV.int .i64 f,AV.int .i64 t,cw m y false])),(0,an.row (Row.G [AV.int .i64 F,AV.int .i64 T,AV.nils]))])::H))) (Tr.ok (Ex.exit 0,[(0,shV O U Z V J W B,none),(2,AV.ptr 0 0 0 0,none),(4,AV.ptr 0 1 0 0,none),(5,AV.ptr 0 2 0 0,none),(6,AV.bool true,none),(19,iI U,none),(20,AV.int .i64 i,none),(21,AV.bool false,some 1)],Z0::H))) [(0,shV O U Z V J W B),(2,AV.ptr 0 0 0 0),(4,AV.ptr 0 1 0 0),(5,AV.ptr 0 2 0 0),(6,AV.bool true),(7,AV.int .i64 i),(19,iI U),(20,AV.int .i64 i),(28,iI U),(29,iI 0)])) (bz [(0,an.row (Row.G [iI 0,iI 0,AV.nils])),(0,an.row (rM q 20)),(0,an.row (Row.G [AV.int .i64 f,AV.int .i64 t,cw m y false]))]):=by kernel_rfl
theorem OT (n:Nat) (O:Int) (U:Nat) (Z:Nat→Int) (V:Nat) (J:Nat→Int) (W B:Nat→Int) (H:ab) (q:Nat→Int) (i:Int) (f t:Int) (m:Nat) (y:Nat→Int) (F T:Int) (g:Nat) (x:Nat→Int):aS (bQ n 65 128) (il aF n 0) (cV aR 2 (ie (shR O U Z V J W B) true U i (ofNat 0)) (eZ q f t (cw m y false)::H) (.ok (.exit 1,hints (AZ (shR O U Z V J W B) U i (ofNat 0)),Bj q f t (cw m y false) F T g x::H))) aQ (part Tryd.f65 [1,0,1,1,1,1,0,1,0,0]) (hints (kP (shR O U Z V J W B) true U i)) (eZ q f t (cw m y false)::H) =
 (fun (Z0:bG)=>((fun (Z1:aC)=>Tr.ite (bM i (ofNat U)) (Tr.reqP (Z1=Z1∧Z0::H=Z0::H) (Tr.ok (Ex.normal,[(0,shV O U Z V J W B,none),(2,AV.ptr 0 0 0 0,none),(4,AV.ptr 0 1 0 0,none),(5,AV.ptr 0 2 0 0,none),(6,AV.bool true,none),(19,iI U,none),(20,AV.int .i64 (bm .i64 i (ofNat 1)),none)],(bz [(0,an.row (Row.G [iI 0,iI 0,AV.nils])),(0,an.row (rM q 20)),(0,an.row (Row.G [AV.int .i64 f,AV.int .i64 t,cw m y false])),(0,an.row (Row.G [AV.int .i64 F,AV.int .i64 T,AV.slc 0 4 0 0 1 g none])),(0,an.row (rM x g))])::H))) (Tr.ok (Ex.exit 0,[(0,shV O U Z V J W B,none),(2,AV.ptr 0 0 0 0,none),(4,AV.ptr 0 1 0 0,none),(5,AV.ptr 0 2 0 0,none),(6,AV.bool true,none),(19,iI U,none),(20,AV.int .i64 i,none),(21,AV.bool false,some 1)],Z0::H))) [(0,shV O U Z V J W B),(2,AV.ptr 0 0 0 0),(4,AV.ptr 0 1 0 0),(5,AV.ptr 0 2 0 0),(6,AV.bool true),(7,AV.int .i64 i),(19,iI U),(20,AV.int .i64 i),(28,iI U),(29,iI 0)])) (bz [(0,an.row (Row.G [iI 0,iI 0,AV.nils])),(0,an.row (rM q 20)),(0,an.row (Row.G [AV.int .i64 f,AV.int .i64 t,cw m y false]))]):=by kernel_rfl
theorem ON (n:Nat) (O:Int) (U:Nat) (Z:Nat→Int) (V:Nat) (J:Nat→Int) (W B:Nat→Int) (H:ab) (q:Nat→Int) (i:Int):aS (bQ n 65 128) (il aF n 0) (gf aR 2) aQ (part Tryd.f65 [1,0,1,1,1,1,0,1,0,0]) (hints (kP (shR O U Z V J W B) false U i)) (eZ q (ofNat 0) (ofNat 0) .nils::H) =
 Tr.ite (bM i (ofNat U)) Tr.bad (Tr.ok (Ex.exit 0,[(0,shV O U Z V J W B,none),(2,AV.ptr 0 0 0 0,none),(4,AV.ptr 0 1 0 0,none),(5,AV.ptr 0 2 0 0,none),(6,AV.bool false,none),(19,iI U,none),(20,AV.int .i64 i,none),(21,AV.bool false,some 1)],(bz [(0,an.row (Row.G [iI 0,iI 0,AV.nils])),(0,an.row (rM q 20)),(0,an.row (Row.G [iI 0,iI 0,AV.nils]))])::H)):=by kernel_rfl
theorem OQ (n:Nat) (O:Int) (U:Nat) (Z:Nat→Int) (V:Nat) (J:Nat→Int) (W B:Nat→Int) (H:ab) (q:Nat→Int) (i:Int) (f t:Int) (m:Nat) (y:Nat→Int):aS (bQ n 65 128) (il aF n 0) (gf aR 2) aQ (part Tryd.f65 [1,0,1,1,1,1,0,1,0,0]) (hints (kP (shR O U Z V J W B) true U i)) (eZ q f t (cw m y false)::H) =
 Tr.ite (bM i (ofNat U)) Tr.bad (Tr.ok (Ex.exit 0,[(0,shV O U Z V J W B,none),(2,AV.ptr 0 0 0 0,none),(4,AV.ptr 0 1 0 0,none),(5,AV.ptr 0 2 0 0,none),(6,AV.bool true,none),(19,iI U,none),(20,AV.int .i64 i,none),(21,AV.bool false,some 1)],(bz [(0,an.row (Row.G [iI 0,iI 0,AV.nils])),(0,an.row (rM q 20)),(0,an.row (Row.G [AV.int .i64 f,AV.int .i64 t,cw m y false]))])::H)):=by kernel_rfl
theorem Td (n:Nat) (O:Int) (U:Nat) (Z:Nat→Int) (V:Nat) (J:Nat→Int) (W B:Nat→Int) (H:ab) (q:Nat→Int) (r:Nat→Int):bg Tryd.prog (cd n) 100000 65 Tryd.f65 (KtG.kt 65) (il (tX aF 56 [shV O U Z V J W B] (.agg (.M [.arr .i64 r 20]))) n 0) (cV aR 0 (kP (shR O U Z V J W B) false U (ofNat 0)) (eZ (oE (fun x=>ofNat 0) 0 r 20) (ofNat 0) (ofNat 0) .nils::H) (.ok (.normal,hints (kP (shR O U Z V J W B) false U (ofNat U)++[(21,.bool false)]),eZ q (ofNat 0) (ofNat 0) .nils::H))) aQ [(shV O U Z V J W B,none)] H =
 (fun (Z0:bG)=>((fun (Z1:aC)=>Tr.reqP ([shV O U Z V J W B]=[shV O U Z V J W B]) (Tr.req (eD 0 20 0 20) (Tr.reqP (Z1=Z1∧Z0::H=Z0::H) (Tr.ok ((AV.tup [AV.agg (Row.G [iI 0,iI 0,AV.nils]),AV.bool false],none),H))))) [(0,shV O U Z V J W B),(2,AV.ptr 0 0 0 0),(4,AV.ptr 0 1 0 0),(5,AV.ptr 0 2 0 0),(6,AV.bool false),(19,iI U),(20,iI 0)])) (bz [(0,an.row (Row.G [iI 0,iI 0,AV.nils])),(0,an.row (rM (oE (fun x=>ofNat 0) 0 r 20) 20)),(0,an.row (Row.G [iI 0,iI 0,AV.nils]))]):=by kernel_rfl
theorem Te (n:Nat) (O:Int) (U:Nat) (Z:Nat→Int) (V:Nat) (J:Nat→Int) (W B:Nat→Int) (H:ab) (q:Nat→Int) (r:Nat→Int) (f2 t2:Int) (m2:Nat) (y2:Nat→Int):bg Tryd.prog (cd n) 100000 65 Tryd.f65 (KtG.kt 65) (il (tX aF 56 [shV O U Z V J W B] (.agg (.M [.arr .i64 r 20]))) n 0) (cV aR 0 (kP (shR O U Z V J W B) false U (ofNat 0)) (eZ (oE (fun x=>ofNat 0) 0 r 20) (ofNat 0) (ofNat 0) .nils::H) (.ok (.normal,hints (kP (shR O U Z V J W B) true U (ofNat U)++[(21,.bool false)]),eZ q f2 t2 (cw m2 y2 false)::H))) aQ [(shV O U Z V J W B,none)] H =
 (fun (Z0:bG)=>((fun (Z1:aC)=>Tr.reqP ([shV O U Z V J W B]=[shV O U Z V J W B]) (Tr.req (eD 0 20 0 20) (Tr.reqP (Z1=Z1∧Z0::H=Z0::H) (Tr.ok ((AV.tup [AV.agg (Row.G [AV.int .i64 f2,AV.int .i64 t2,cw m2 y2 false]),AV.bool true],none),H))))) [(0,shV O U Z V J W B),(2,AV.ptr 0 0 0 0),(4,AV.ptr 0 1 0 0),(5,AV.ptr 0 2 0 0),(6,AV.bool false),(19,iI U),(20,iI 0)])) (bz [(0,an.row (Row.G [iI 0,iI 0,AV.nils])),(0,an.row (rM (oE (fun x=>ofNat 0) 0 r 20) 20)),(0,an.row (Row.G [iI 0,iI 0,AV.nils]))]):=by kernel_rfl
end Go.Eng
end
section
namespace Go.Eng
open Int (ofNat)
open Go.Proofs Go.Eng.Gall
theorem JX:∀ b,(0,b) ∈ aP (bA Tryd.f65)→b=.loop (part Tryd.f65 [1,0,1,1,1,1,0,1,0,0]):=eN (by kernel_rfl)
theorem xF:∀ b,(2,b) ∈ aP (part Tryd.f65 [1,0,1,1,1,1,0,1,0,0])→b=.loop (part Tryd.f65 [1,0,1,1,1,1,0,1,0,0,1,1,0,0,1,1,0,0]):=eN (by kernel_rfl)
theorem Ca (q:Nat→Int) (U:Nat) (F:Int) (v:Int×Int):∀ k,xw q U F (some v) k≠none
 | 0=>by intro h;cases h
 | k+1=>by
   unfold xw EB;split
   · intro h;cases h
   · exact Ca q U F v k
section
variable (n:Nat) (O:Int) (U:Nat) (Z:Nat→Int) (V:Nat) (J:Nat→Int) (W B:Nat→Int) (H:ab) (q:Nat→Int)
theorem Od (b:Option (Int×Int)):aW (sU q U b::H)=3:=by cases b<;>rfl
theorem RB (hl:U≤10) (hq:∀ j,j<2*U→-1000000≤q j∧q j≤1000000) (i:Nat) (hi:i<U) (b:Option (Int×Int)) (hb:EK b (q (2*i))=false) :
 exec (bQ n 65 128) (.block 2 (.loop (part Tryd.f65 [1,0,1,1,1,1,0,1,0,0,1,1,0,0,1,1,0,0]))) (ie (shR O U Z V J W B) b.isSome U i (ofNat 0)) (sU q U b::H)=some (.normal,ie (shR O U Z V J W B) (xw q U (q (2*i)) b U).isSome U i (ofNat U)++[(30,.bool false)],sU q U (xw q U (q (2*i)) b U)::H):=by
 refine ig (n:=n) (f:=65) (nt:=128) (c:=part Tryd.f65 [1,0,1,1,1,1,0,1,0,0,1,1,0,0,1,1,0,0]) 2 (fun k=>ie (shR O U Z V J W B) (xw q U (q (2*i)) b k).isSome U i (k:Int)) (fun k=>sU q U (xw q U (q (2*i)) b k)::H) U (ie (shR O U Z V J W B) (xw q U (q (2*i)) b U).isSome U i (ofNat U)++[(30,.bool false)],sU q U (xw q U (q (2*i)) b U)::H) wO (fun k hk=>?_) ?_
 · rw[Od]
   exact SC n O U Z V J W B H q hl hq i k hi hk (xw q U (q (2*i)) b k) (Gb hb k)
 · generalize xw q U (q (2*i)) b U=c
   cases c with
   | none =>
     obtain ⟨x,h1,rfl⟩:=aB (Q:=fun x=>x=(.exit 2,ie (shR O U Z V J W B) false U i (ofNat U)++[(30,.bool false)],sU q U none::H)) (On n O U Z V J W B H q i (ofNat U)) (ay _) (cY (aj _ _) 4) (ak _ _) (by
      refine Tr.af wJ (fun h0=>Tr.ag rfl))
     exact h1
   | some v =>
     obtain ⟨f,t⟩:=v
     obtain ⟨x,h1,rfl⟩:=aB (Q:=fun x=>x=(.exit 2,ie (shR O U Z V J W B) true U i (ofNat U)++[(30,.bool false)],sU q U (some (f,t))::H)) (Oo n O U Z V J W B H q i (ofNat U) f t (dN q f t U).length (aI (dN q f t U))) (ay _) (cY (aj _ _) 4) (ak _ _) (by
      refine Tr.af wJ (fun h0=>Tr.ag rfl))
     exact h1
noncomputable def FL (q:Nat→Int) (U:Nat) (f t F T:Int):bG:=Ej q f t (cw (dN q f t U).length (aI (dN q f t U)) false) F T (dN q F T U)
theorem RE (hl:U≤10) (hq:∀ j,j<2*U→-1000000≤q j∧q j≤1000000) (i:Nat) (hi:i<U) (f t:Int) (hb:f<q (2*i)) :
 exec (bQ n 65 128) (.block 2 (.loop (part Tryd.f65 [1,0,1,1,1,1,0,1,0,0,1,1,0,0,1,1,0,0]))) (ie (shR O U Z V J W B) true U i (ofNat 0)) (sU q U (some (f,t))::H)=some (.exit 1,AZ (shR O U Z V J W B) U i (ofNat 0),FL q U f t (q (2*i)) (q 1)::H):=by
 have ei:aw 0 (i:Int) 2=2*i:=by rw[bJ];omega
 have ek:aw 0 (ofNat 0) 2=0:=by rw[bJ];rfl
 have hb2:decide (f<q (2*i))=true:=decide_eq_true hb
 have hx:exec (bQ n 65 128) (part Tryd.f65 [1,0,1,1,1,1,0,1,0,0,1,1,0,0,1,1,0,0]) (ie (shR O U Z V J W B) true U i (ofNat 0)) (sU q U (some (f,t))::H)=some (.exit 1,AZ (shR O U Z V J W B) U i (ofNat 0),FL q U f t (q (2*i)) (q 1)::H):=by
  have hlp:=Ou n H q (shR O U Z V J W B) true f t (dN q f t U).length (aI (dN q f t U)) U i (ofNat 0) (q (2*i)) (q 1) hl;cases hS:dN q (q (2*i)) (q 1) U with
  | nil =>
    rw[hS] at hlp;have e:FL q U f t (q (2*i)) (q 1)=yx q f t (cw (dN q f t U).length (aI (dN q f t U)) false) (q (2*i)) (q 1):=by unfold FL;rw[hS];rfl
    rw[e];have T0:=Ka n O U Z V J W B H q i (ofNat 0) f t (dN q f t U).length (aI (dN q f t U));rw[ei,ek,aM,Nat.zero_add] at T0;obtain ⟨x,h1,rfl⟩:=aB (Q:=fun x=>x=(.exit 1,AZ (shR O U Z V J W B) U i (ofNat 0),yx q f t (cw (dN q f t U).length (aI (dN q f t U)) false) (q (2*i)) (q 1)::H)) T0 (ay _) (aZ (aj _ _) u9 (fun x hx=>dL hx (by simp only[eB.st,aL];exact hlp))) (ak _ _) (by
     refine Tr.af (fun h0=>?_) wJ;exact Tr.aa wG (Tr.aa wG (Tr.aa wG (Tr.aa wG (Tr.aa wG (Tr.aa wG (Tr.aa wG (Tr.ai ⟨rfl,rfl⟩ (Tr.af (fun _=>Tr.af (fun _=>Tr.ag rfl) (fun h=>by rw[bx,hb2] at h;cases h)) (fun h=>by cases h))))))))))
    exact h1
  | cons a r =>
    rw[hS] at hlp;have e:FL q U f t (q (2*i)) (q 1)=Bj q f t (cw (dN q f t U).length (aI (dN q f t U)) false) (q (2*i)) (q 1) (r.length+1) (aI (a::r)):=by unfold FL;rw[hS];rfl
    rw[e];have T0:=Kb n O U Z V J W B H q i (ofNat 0) f t (dN q f t U).length (aI (dN q f t U)) (r.length+1) (aI (a::r));rw[ei,ek,aM,Nat.zero_add] at T0;obtain ⟨x,h1,rfl⟩:=aB (Q:=fun x=>x=(.exit 1,AZ (shR O U Z V J W B) U i (ofNat 0),Bj q f t (cw (dN q f t U).length (aI (dN q f t U)) false) (q (2*i)) (q 1) (r.length+1) (aI (a::r))::H)) T0 (ay _) (aZ (aj _ _) u9 (fun x hx=>dL hx (by simp only[eB.st,aL];exact hlp))) (ak _ _) (by
     refine Tr.af (fun h0=>?_) wJ;exact Tr.aa wG (Tr.aa wG (Tr.aa wG (Tr.aa wG (Tr.aa wG (Tr.aa wG (Tr.aa wG (Tr.ai ⟨rfl,rfl⟩ (Tr.af (fun _=>Tr.af (fun _=>Tr.ag rfl) (fun h=>by rw[bx,hb2] at h;cases h)) (fun h=>by cases h))))))))))
    exact h1
 exact cJ (fun id' h=>by cases h;rfl) (iN (body:=exec (bQ n 65 128) (part Tryd.f65 [1,0,1,1,1,1,0,1,0,0,1,1,0,0,1,1,0,0])) (n:=aW (sU q U (some (f,t))::H)) (fun _=>ie (shR O U Z V J W B) true U i (ofNat 0)) (fun _=>sU q U (some (f,t))::H) 0 (fun _=>false) (fun _=>(.exit 1,AZ (shR O U Z V J W B) U i (ofNat 0),FL q U f t (q (2*i)) (q 1)::H)) (fun j h=>absurd h (Nat.not_lt_zero j)) (fun j h=>absurd h (Nat.not_lt_zero j)) ⟨hx,by simp⟩ 0 0 100000 rfl wO)
theorem SD (hl:U≤10) (hq:∀ j,j<2*U→-1000000≤q j∧q j≤1000000) (i:Nat) (hi:i<U) :
 ∃ x,exec (bQ n 65 128) (part Tryd.f65 [1,0,1,1,1,1,0,1,0,0]) (kP (shR O U Z V J W B) (jg q U i).isSome U i) (sU q U (jg q U i)::H)=some x∧x.1=.normal∧tidy 3 x.2.1 x.2.2=(kP (shR O U Z V J W B) (jg q U (i+1)).isSome U ((i+1:Nat):Int),sU q U (jg q U (i+1))::H):=by
 have e1:bm .i64 (i:Int) (ofNat 1)=((i+1:Nat):Int):=eX wO
 have eo:jg q U (i+1)=if EK (jg q U i) (q (2*i))=true then jg q U i else xw q U (q (2*i)) (jg q U i) U:=rfl
 rw[eo]
 by_cases hg:EK (jg q U i) (q (2*i))=true
 · rw[if_pos hg]
   generalize jg q U i=b at *
   cases b with
   | none=>cases hg
   | some v =>
     obtain ⟨f,t⟩:=v
     have hx:=RE n O U Z V J W B H q hl hq i hi f t (of_decide_eq_true hg)
     cases hS:dN q (q (2*i)) (q 1) U with
     | nil =>
       have e:FL q U f t (q (2*i)) (q 1)=yx q f t (cw (dN q f t U).length (aI (dN q f t U)) false) (q (2*i)) (q 1):=by unfold FL;rw[hS];rfl
       rw[e] at hx
       have T0:=OS n O U Z V J W B H q i f t (dN q f t U).length (aI (dN q f t U)) (q (2*i)) (q 1)
       rw[e1] at T0
       refine aB T0 (ay _) (aZ (aj _ _) xF (fun x h=>dL h (by simp only[eB.st,aL];exact hx))) (ak _ _) ?_
       exact Tr.af (fun h0=>Tr.ai ⟨rfl,rfl⟩ (Tr.ag ⟨rfl,rfl⟩)) wJ
     | cons a r =>
       have e:FL q U f t (q (2*i)) (q 1)=Bj q f t (cw (dN q f t U).length (aI (dN q f t U)) false) (q (2*i)) (q 1) (r.length+1) (aI (a::r)):=by unfold FL;rw[hS];rfl
       rw[e] at hx
       have T0:=OT n O U Z V J W B H q i f t (dN q f t U).length (aI (dN q f t U)) (q (2*i)) (q 1) (r.length+1) (aI (a::r))
       rw[e1] at T0
       refine aB T0 (ay _) (aZ (aj _ _) xF (fun x h=>dL h (by simp only[eB.st,aL];exact hx))) (ak _ _) ?_
       exact Tr.af (fun h0=>Tr.ai ⟨rfl,rfl⟩ (Tr.ag ⟨rfl,rfl⟩)) wJ
 · rw[if_neg hg]
   have hg:EK (jg q U i) (q (2*i))=false:=by simpa using hg
   have hx:=RB n O U Z V J W B H q hl hq i hi _ hg
   generalize hc:xw q U (q (2*i)) (jg q U i) U=c at *
   generalize jg q U i=b at *
   cases b with
   | none =>
     cases c with
     | none =>
       have T0:=OO n O U Z V J W B H q i
       rw[e1] at T0
       refine aB T0 (ay _) (aZ (aj _ _) xF (fun x h=>dL h (by simp only[eB.st,aL];exact hx))) (ak _ _) ?_
       exact Tr.af (fun h0=>Tr.ai ⟨rfl,rfl⟩ (Tr.ag ⟨rfl,rfl⟩)) wJ
     | some v =>
       obtain ⟨f,t⟩:=v
       have T0:=OP n O U Z V J W B H q i f t (dN q f t U).length (aI (dN q f t U))
       rw[e1] at T0
       refine aB T0 (ay _) (aZ (aj _ _) xF (fun x h=>dL h (by simp only[eB.st,aL];exact hx))) (ak _ _) ?_
       exact Tr.af (fun h0=>Tr.ai ⟨rfl,rfl⟩ (Tr.ag ⟨rfl,rfl⟩)) wJ
   | some v =>
     obtain ⟨f,t⟩:=v
     cases c with
     | none=>exact absurd hc (Ca _ _ _ _ _)
     | some v2 =>
       obtain ⟨f2,t2⟩:=v2
       have T0:=OR n O U Z V J W B H q i f t (dN q f t U).length (aI (dN q f t U)) f2 t2 (dN q f2 t2 U).length (aI (dN q f2 t2 U))
       rw[e1] at T0
       refine aB T0 (ay _) (aZ (aj _ _) xF (fun x h=>dL h (by simp only[eB.st,aL];exact hx))) (ak _ _) ?_
       exact Tr.af (fun h0=>Tr.ai ⟨rfl,rfl⟩ (Tr.ag ⟨rfl,rfl⟩)) wJ
end
end Go.Eng
end
section
namespace Go.Eng
open Int (ofNat)
open Go.Proofs Go.Eng.Gall
theorem HR (n:Nat) (b:Nat→Nat) (w:Nat→Int):Bd n b w n (gK n b w) where
 lo c hc:=by
  have:gK n b w (2*c)=fw n b w n c:=by unfold gK;rw[if_pos wO,if_pos wO,show 2*c / 2=c by omega]
  omega
 hi c hc:=by
  have:gK n b w (2*c+1)=-fv n b w n c:=by unfold gK;rw[if_pos wO,if_neg wO,show (2*c+1) / 2=c by omega]
  omega
 out i hi:=by unfold gK;rw[if_neg wO]
section
variable (n:Nat) (O:Int) (U:Nat) (Z:Nat→Int) (V:Nat) (J:Nat→Int) (W B:Nat→Int) (H:ab) (q:Nat→Int)
theorem RC (hl:U≤10) (hq:∀ j,j<2*U→-1000000≤q j∧q j≤1000000) :
 exec (bQ n 65 128) (.block 0 (.loop (part Tryd.f65 [1,0,1,1,1,1,0,1,0,0]))) (kP (shR O U Z V J W B) false U (ofNat 0)) (eZ q (ofNat 0) (ofNat 0) .nils::H)=some (.normal,kP (shR O U Z V J W B) (jg q U U).isSome U (ofNat U)++[(21,.bool false)],sU q U (jg q U U)::H):=by
 refine ig (n:=n) (f:=65) (nt:=128) (c:=part Tryd.f65 [1,0,1,1,1,1,0,1,0,0]) 0 (fun i=>kP (shR O U Z V J W B) (jg q U i).isSome U (i:Int)) (fun i=>sU q U (jg q U i)::H) U (kP (shR O U Z V J W B) (jg q U U).isSome U (ofNat U)++[(21,.bool false)],sU q U (jg q U U)::H) wO (fun i hi=>?_) ?_
 · rw[Od]
   exact SD n O U Z V J W B H q hl hq i hi
 · generalize jg q U U=c
   cases c with
   | none =>
     obtain ⟨x,h1,rfl⟩:=aB (Q:=fun x=>x=(.exit 0,kP (shR O U Z V J W B) false U (ofNat U)++[(21,.bool false)],sU q U none::H)) (ON n O U Z V J W B H q (ofNat U)) (ay _) (cY (aj _ _) 2) (ak _ _) (by
      refine Tr.af wJ (fun h0=>Tr.ag rfl))
     exact h1
   | some v =>
     obtain ⟨f,t⟩:=v
     obtain ⟨x,h1,rfl⟩:=aB (Q:=fun x=>x=(.exit 0,kP (shR O U Z V J W B) true U (ofNat U)++[(21,.bool false)],sU q U (some (f,t))::H)) (OQ n O U Z V J W B H q (ofNat U) f t (dN q f t U).length (aI (dN q f t U))) (ay _) (cY (aj _ _) 2) (ak _ _) (by
      refine Tr.af wJ (fun h0=>Tr.ag rfl))
     exact h1
noncomputable def UN (q:Nat→Int) (U:Nat):Option (Int×Int)→AV
 | none=>.tup [.agg (.G [.int .i64 (ofNat 0),.int .i64 (ofNat 0),.nils]),.bool false]
 | some (f,t)=>.tup [.agg (.G [.int .i64 f,.int .i64 t,cw (dN q f t U).length (aI (dN q f t U)) false]),.bool true]
noncomputable def qB (r:Nat→Int):Nat→Int:=oE (fun _=>ofNat 0) 0 r 20
theorem GW (r:Nat→Int) {j:Nat} (hj:j<20):qB r j=r j:=by unfold qB;rw[v7];unfold xK;simp[hj]
theorem PT (b:Nat→Nat) (hS:gH U W b):cd (n+3) (.fn 65) [shV O U Z V J W (bI b)] H=some (UN (qB (gK U b W)) U (jg (qB (gK U b W)) U U),H):=by
 have hq:∀ j,j<2*U→-1000000≤qB (gK U b W) j∧qB (gK U b W) j≤1000000:=fun j hj=>by
  have hl:=hS.len;rw[GW _ wO];have h:=AE (K:=100000) wO hS.win (HR U b W) (j / 2) wO;rcases Nat.mod_two_eq_zero_or_one j with e | e
  · rw[show 2*(j / 2)=j by omega] at h;omega
  · rw[show 2*(j / 2)+1=j by omega] at h;omega
 have h56:=fun H=>UY n O U Z V J W b H hS;have hlp:=RC (n+2) O U Z V J W (bI b) H (qB (gK U b W)) hS.len hq;generalize hQ:jg (qB (gK U b W)) U U=c at *;cases c with
 | none =>
   refine rj (n:=n+2) Tryd.func65 rfl (fun _ _=>rfl) rfl (Td (n+2) O U Z V J W (bI b) H (qB (gK U b W)) (gK U b W)) (bo _ _ (bO (aN _) h56)) (aZ (aj _ _) JX (fun x h=>dL h (by simp only[eB.st,aL];exact hlp))) (ak _ _) ?_;exact Tr.ai rfl (Tr.aa wG (Tr.ai ⟨rfl,rfl⟩ (Tr.ag ⟨rfl,rfl⟩)))
 | some v =>
   obtain ⟨f,t⟩:=v;refine rj (n:=n+2) Tryd.func65 rfl (fun _ _=>rfl) rfl (Te (n+2) O U Z V J W (bI b) H (qB (gK U b W)) (gK U b W) f t (dN (qB (gK U b W)) f t U).length (aI (dN (qB (gK U b W)) f t U))) (bo _ _ (bO (aN _) h56)) (aZ (aj _ _) JX (fun x h=>dL h (by simp only[eB.st,aL];exact hlp))) (ak _ _) ?_;exact Tr.ai rfl (Tr.aa wG (Tr.ai ⟨rfl,rfl⟩ (Tr.ag ⟨rfl,rfl⟩)))
end
end Go.Eng
end
section
namespace Go.Eng
open Go.Proofs Go.Eng.Gall Go.Eng.Q
theorem wP {W:Nat→Int} {b:Nat→Nat} {k X c:Nat} (hb:b c<2 ^ 62) (hX:X<2 ^ 62):okW W (bI b) k X c=true↔(∀ a,(b c).testBit a=true→X.testBit a=true)∧W (2*c)≤(k:Int)∧(k:Int)≤W (2*c+1):=by
 unfold okW;obtain ⟨w,hw,hw2⟩:=Uj hb hX;rw[show bI b c=(b c:Int) from rfl,hw,Bool.and_eq_true,Bool.and_eq_true,bh,bh,aE,decide_eq_true_iff,decide_eq_true_iff,beq_iff_eq];have e:(w:Int)=Int.ofNat 0↔∀ a,(b c).testBit a=true→X.testBit a=true:=by
  constructor
  · intro h a ha;have h:w=0:=by
     have h:(w:Int)=0:=h;omega
    have:=hw2 a;rw[h,Nat.zero_testBit,ha,Bool.true_and] at this;cases e:X.testBit a with
    | true=>rfl
    | false=>rw[e] at this;cases this
  · intro h;have:w=0:=by
     apply Nat.eq_of_testBit_eq;intro a;rw[hw2,Nat.zero_testBit];cases e:(b c).testBit a with
     | false=>rfl
     | true=>rw[h a e];rfl
    rw[this];rfl
 rw[e]
theorem kA {n:Nat} {b:Nat→Nat} {W:Nat→Int} {L:List Nat} (hn:n≤10) (hb:∀ c,c<n→b c<2 ^ n):L ∈ ro n (okW W (bI b)) n↔L.length=n∧L.Nodup∧(∀ x ∈ L,x<n)∧∀ i (h:i<L.length),(∀ a,(b L[i]).testBit a=true→a ∈ L.take i)∧W (2*L[i])≤(i:Int)∧(i:Int)≤W (2*L[i]+1):=by
 have p62:2 ^ n≤2 ^ 62:=Nat.pow_le_pow_right wO wO;constructor
 · intro h;obtain ⟨h1,h2,h3⟩:=ln h;refine ⟨h1,h2,h3,fun i hi=>?_⟩;have hl:=h3 _ (List.getElem_mem hi);have hnt:(L.take i).Nodup:=h2.sublist (List.take_sublist i L);have hm:mask (L.take i)<2 ^ n:=wE hnt fun x hx=>h3 x (List.mem_of_mem_take hx);have:=((mA.1 h).2 i hi).2.2;rw[wP (Nat.lt_of_lt_of_le (hb _ hl) p62) (Nat.lt_of_lt_of_le hm p62)] at this;refine ⟨fun a ha=>?_,this.2⟩;have:=this.1 a ha;rw[eI hnt] at this;exact of_decide_eq_true this
 · rintro ⟨h1,h2,h3,h4⟩;refine mA.2 ⟨h1,fun i hi=>?_⟩;have hl:=h3 _ (List.getElem_mem hi);have hnt:(L.take i).Nodup:=h2.sublist (List.take_sublist i L);have hm:mask (L.take i)<2 ^ n:=wE hnt fun x hx=>h3 x (List.mem_of_mem_take hx);refine ⟨hl,?_,(wP (Nat.lt_of_lt_of_le (hb _ hl) p62) (Nat.lt_of_lt_of_le hm p62)).2 ⟨fun a ha=>?_,(h4 i hi).2⟩⟩
   · rw[eI hnt];refine decide_eq_false fun hx=>?_;obtain ⟨j,hj,he⟩:=List.mem_iff_getElem.1 hx;rw[List.length_take] at hj;rw[List.getElem_take] at he;have:=(List.pairwise_iff_getElem.1 h2) j i wO hi wO;exact this he
   · rw[eI hnt];exact decide_eq_true ((h4 i hi).1 a ha)
section
variable {n:Nat} {b:Nat→Nat} {W:Nat→Int} {L:List Nat}
theorem gm {L:List Nat} {c:Nat} (h:c ∈ L):∃ hi:L.idxOf c<L.length,L[L.idxOf c]=c:=⟨List.idxOf_lt_length_iff.2 h,List.getElem_idxOf _⟩
theorem xo {L:List Nat} {a i:Nat} (h:a ∈ L.take i):L.idxOf a<i:=by
 obtain ⟨j,hj,he⟩:=List.mem_iff_getElem.1 h;rw[List.length_take] at hj;rw[List.getElem_take] at he;have h2:L.idxOf a≤j:=by
  refine Nat.le_of_not_lt fun hlt=>?_;have:=List.not_of_lt_findIdx (p:=(· == a)) (xs:=L) (i:=j) hlt;rw[he] at this;simp at this
 omega
theorem Gk (hL:L.length=n∧L.Nodup∧(∀ x ∈ L,x<n)∧∀ i (h:i<L.length),(∀ a,(b L[i]).testBit a=true→a ∈ L.take i)∧W (2*L[i])≤(i:Int)∧(i:Int)≤W (2*L[i]+1)):∀ t c,c ∈ L→fw n b W t c≤(L.idxOf c:Int)
 | 0,c,hc=>by
   obtain ⟨hi,he⟩:=gm hc;have:=(hL.2.2.2 _ hi).2.1;rw[he] at this;exact this
 | t + 1,c,hc=>by
   rcases jd (fw n b W t c) (fun a=>fw n b W t a+1) (fun a=>(b c).testBit a) n with e | ⟨a,h1,h2,h3⟩
   · have e:fw n b W (t+1) c=fw n b W t c:=e;rw[e];exact Gk hL t c hc
   · have h3:fw n b W (t+1) c=fw n b W t a+1:=h3;obtain ⟨hi,he⟩:=gm hc;have hm:=(hL.2.2.2 _ hi).1 a (by rw[he];exact h2);have:=xo hm;have:=Gk hL t a (List.mem_of_mem_take hm);omega
theorem F5 (hL:L.length=n∧L.Nodup∧(∀ x ∈ L,x<n)∧∀ i (h:i<L.length),(∀ a,(b L[i]).testBit a=true→a ∈ L.take i)∧W (2*L[i])≤(i:Int)∧(i:Int)≤W (2*L[i]+1)):∀ t c,c ∈ L→fv n b W t c≤-(L.idxOf c:Int)
 | 0,c,hc=>by
   obtain ⟨hi,he⟩:=gm hc;have:=(hL.2.2.2 _ hi).2.2;rw[he] at this;show -W (2*c+1)≤_;omega
 | t + 1,c,hc=>by
   rcases jd (fv n b W t c) (fun a=>fv n b W t a+1) (fun a=>(b a).testBit c) n with e | ⟨a,h1,h2,h3⟩
   · have e:fv n b W (t+1) c=fv n b W t c:=e;rw[e];exact F5 hL t c hc
   · have h3:fv n b W (t+1) c=fv n b W t a+1:=h3;have ha:a ∈ L:=fk hL.2.1 hL.1 hL.2.2.1 h1;obtain ⟨hi,he⟩:=gm ha;have hm:=(hL.2.2.2 _ hi).1 c (by rw[he];exact h2);have:=xo hm;have:=F5 hL t a ha;omega
theorem IA {M:List Int} (hn:M.Nodup) {F T:Int} (h:∀ x ∈ M,F≤x∧x≤T):M≠[]→(M.length:Int)≤T-F+1:=fun hne=>by
 have h1:(M.map fun x=>(x-F).toNat).Nodup:=by
  rw[List.Nodup,List.pairwise_map,List.pairwise_iff_getElem];intro i j hi hj hij;have a:=(List.pairwise_iff_getElem.1 hn) i j hi hj hij;have b1:=h _ (List.getElem_mem hi);have b2:=h _ (List.getElem_mem hj);have a:M[i]≠M[j]:=a;omega
 have h2:=fZ h1 (M:=List.range (T-F+1).toNat) (fun y hy=>by
  obtain ⟨x,hx,rfl⟩:=List.mem_map.1 hy;have:=h x hx;rw[List.mem_range];omega)
 rw[List.length_map,List.length_range] at h2;obtain ⟨x,hx⟩:=List.exists_mem_of_ne_nil M hne;have:=h x hx;omega
theorem r4 (hS:gH n W b) (hW:∀ c,c<n→0≤W (2*c)∧W (2*c+1)<n):jg (qB (gK n b W)) n n=none↔∃ L,L ∈ ro n (okW W (bI b)) n:=by
 have hl:=hS.len;have hqe:∀ c,c<n→qB (gK n b W) (2*c)=fw n b W n c∧qB (gK n b W) (2*c+1)=-fv n b W n c:=fun c hc=>by
  rw[GW _ wO,GW _ wO];unfold gK;rw[if_pos wO,if_pos wO,if_pos wO,if_neg wO,show 2*c / 2=c by omega,show (2*c+1) / 2=c by omega];exact ⟨rfl,rfl⟩
 have hlo:∀ c,W (2*c)≤fw n b W n c:=fun c=>by have:=lo_le (n:=n) (b:=b) (w:=W) 0 n c;rw[Nat.zero_add] at this;exact this
 have hhi:∀ c,-W (2*c+1)≤fv n b W n c:=fun c=>by have:=Cy (n:=n) (b:=b) (w:=W) 0 n c;rw[Nat.zero_add] at this;exact this
 constructor
 · intro h;have hr:=Jn h;obtain ⟨L,hL⟩:=G2 (B:=fun a c=>(b c).testBit a=true) hr (fun i hi=>by show 0≤qB _ (2*i);rw[(hqe i hi).1];have:=hlo i;have:=hW i hi;omega) (fun i hi=>by show qB _ (2*i+1) < _;rw[(hqe i hi).2];have:=hhi i;have:=hW i hi;omega) (fun a c ha hc hp=>by
    show qB _ (2*a)<qB _ (2*c)∧qB _ (2*a+1)<qB _ (2*c+1);rw[(hqe a ha).1,(hqe c hc).1,(hqe a ha).2,(hqe c hc).2];have:=CK (w:=W) hS.nob ha hc hp;have:=J7 (w:=W) hS.nob ha hc hp;omega)
   refine ⟨L,(kA hl hS.bef).2 ⟨hL.len,hL.nd,hL.lt,fun i hi=>⟨fun a ha=>?_,?_⟩⟩⟩
   · have hc:=hL.lt _ (List.getElem_mem hi);have han:a<n:=by
      refine Nat.lt_of_not_le fun hge=>?_;rw[Nat.testBit_lt_two_pow (Nat.lt_of_lt_of_le (hS.bef _ hc) (Nat.pow_le_pow_right wO hge))] at ha;cases ha
     obtain ⟨hj,he⟩:=gm (fk hL.nd hL.len hL.lt han);rcases Nat.lt_trichotomy (L.idxOf a) i with q | q | q
     · refine List.mem_iff_getElem.2 ⟨L.idxOf a,by rw[List.length_take];omega,?_⟩;rw[List.getElem_take];exact he
     · exfalso;have e:L[i]=a:=by rw[← he];congr 1;exact q.symm
       have:=CK (w:=W) hS.nob (a:=a) (c:=L[i]) han hc ha;rw[e] at this;omega
     · exact absurd (by rw[he];exact ha) (hL.pair i (L.idxOf a) hi hj q)
   · have hc:=hL.lt _ (List.getElem_mem hi);have:=hL.suit i hi;have h1:qB (gK n b W) (2*L[i])≤(i:Int):=this.1;have h2:(i:Int)≤qB (gK n b W) (2*L[i]+1):=this.2;rw[(hqe _ hc).1] at h1;rw[(hqe _ hc).2] at h2;have:=hlo L[i];have:=hhi L[i];omega
 · rintro ⟨L,hL⟩;have hL:=(kA hl hS.bef).1 hL;have hf:jL (fun x y=>∃ j k,j<n∧k<n∧x=qB (gK n b W) (2*j)∧y=qB (gK n b W) (2*k+1)∧tw (qB (gK n b W)) n x y=true) (jg (qB (gK n b W)) n n):=by
    rcases tv (qB (gK n b W)) n n with h1 | ⟨f,t,h1,h2⟩
    · exact h1
    · rw[h1];exact h2
   cases e:jg (qB (gK n b W)) n n with
   | none=>rfl
   | some v =>
     exfalso;obtain ⟨F,T⟩:=v;rw[e] at hf;obtain ⟨⟨j,k,hj,hk,_,_,hov⟩,_⟩:=hf;unfold tw at hov;rw[Bool.and_eq_true,decide_eq_true_iff,decide_eq_true_iff] at hov;have hm:∀ x ∈ dN (qB (gK n b W)) F T n,∃ c,c<n∧x=(c:Int)∧F≤(L.idxOf c:Int)∧(L.idxOf c:Int)≤T:=fun x hx=>by
      obtain ⟨c,h1,h2,h3⟩:=(rp _ _ _ _ _).1 hx;unfold xy at h2;rw[Bool.and_eq_true,decide_eq_true_iff,decide_eq_true_iff,(hqe c h1).1,(hqe c h1).2] at h2;have hc:c ∈ L:=fk hL.2.1 hL.1 hL.2.2.1 h1;have:=Gk hL n c hc;have:=F5 hL n c hc;exact ⟨c,h1,h3,by omega,by omega⟩
     have hnd:((dN (qB (gK n b W)) F T n).map fun x=>(L.idxOf x.toNat:Int)).Nodup:=by
      rw[List.Nodup,List.pairwise_map];refine (List.Pairwise.and_mem.1 (vt (qB (gK n b W)) F T n)).imp ?_;rintro x y ⟨hx,hy,hne⟩ he;obtain ⟨c,h1,rfl,_⟩:=hm x hx;obtain ⟨d,h2,rfl,_⟩:=hm y hy;rw[Int.toNat_natCast,Int.toNat_natCast] at he;obtain ⟨i1,e1⟩:=gm (fk hL.2.1 hL.1 hL.2.2.1 h1);obtain ⟨i2,e2⟩:=gm (fk hL.2.1 hL.1 hL.2.2.1 h2);have he:L.idxOf c=L.idxOf d:=by omega
      have:c=d:=by
       rw[← e1,← e2];congr 1
      exact hne (by rw[this])
     have:=IA hnd (F:=F) (T:=T) (fun y hy=>by
      obtain ⟨x,hx,rfl⟩:=List.mem_map.1 hy;obtain ⟨c,_,rfl,h3⟩:=hm x hx;rw[Int.toNat_natCast];exact h3) (fun h0=>by
       have:=congrArg List.length h0;rw[List.length_map] at this;simp at this;rw[this] at hov;simp at hov)
     rw[List.length_map] at this;omega
end
end Go.Eng
end
section
namespace Go.Eng
open Go.Proofs Go.Eng.Gall
theorem Xl (n:Nat) (O:Int) (U:Nat) (Z:Nat→Int) (V:Nat) (J:Nat→Int) (W B:Nat→Int) (H:ab) (k:Int):bg Tryd.prog (cd n) 100000 34 Tryd.f34 (KtG.kt 34) (il (tX (tX aF 49 [a8 O U Z V J,.nils] (.tup [shV O U Z V J W B,.int .i64 (Int.ofNat 0)])) 73 [shV O U Z V J W B] (.int .i64 k)) n 0) aR aQ [(a8 O U Z V J,none)] H =
 Tr.reqP ([a8 O U Z V J,AV.nils]=[a8 O U Z V J,AV.nils]) (Tr.ite (bF (b9 (Int.ofNat 0) (Int.ofNat 0))) (Tr.ok ((AV.tup [iI 0,iI 0],none),H)) (Tr.reqP ([shV O U Z V J W B]=[shV O U Z V J W B]) (Tr.ok ((AV.tup [AV.int .i64 k,iI 0],none),H)))):=by kernel_rfl
theorem S2 (n:Nat) (O:Int) (U:Nat) (Z:Nat→Int) (V:Nat) (J:Nat→Int) (H:ab) (e:Int):bg Tryd.prog (cd n) 100000 34 Tryd.f34 (KtG.kt 34) (il (tN (tX aF 49 [a8 O U Z V J,.nils] (.tup [.nilp,.int .i64 e])) 73) n 0) aR aQ [(a8 O U Z V J,none)] H =
 Tr.reqP ([a8 O U Z V J,AV.nils]=[a8 O U Z V J,AV.nils]) (Tr.ite (bF (b9 e (Int.ofNat 0))) (Tr.ok ((AV.tup [iI 0,AV.int .i64 e],none),H)) Tr.bad):=by kernel_rfl
theorem S6 (n:Nat) (O:Int) (U:Nat) (Z:Nat→Int) (V:Nat) (J:Nat→Int) (G:ab) (e:Int):bg Tryd.prog (cd (n+2)) 100000 49 Tryd.f49 (KtG.kt 49) (il (tN (tX aF 22 [a8 O U Z V J] (.int .i64 e)) 62) n 2) aR aQ [(a8 O U Z V J,none),(.nils,none)] G =
 Tr.reqP ([a8 O U Z V J]=[a8 O U Z V J]) (Tr.ite (bF (b9 e (Int.ofNat 0))) (Tr.ok ((AV.tup [AV.nilp,AV.int .i64 e],none),G)) Tr.bad):=by kernel_rfl
section
variable (n:Nat) (O:Int) (U:Nat) (Z:Nat→Int) (V:Nat) (J:Nat→Int) (H:ab)
theorem Qg (hl:U≤1000) (hb:V≤1000) (h0:¬ cu O U Z V J=0):cd (n+14) (.fn 49) [a8 O U Z V J,.nils] H=some (.tup [.nilp,.int .i64 (cu O U Z V J)],H):=by
 refine bj (n:=n+13) Tryd.func49 rfl rfl rfl (S6 (n+11) O U Z V J H (cu O U Z V J)) (lF _ (n+11) 2 (fun q=>eA (bO (aN _) (fun H=>by
  rw[show n+11+q=n+q+11 by omega];exact NG (n+q) O U Z V J H hl hb)))) (aj _ _) (ak _ _) ?_
 refine Tr.ai rfl (Tr.af (fun q=>Tr.ag ⟨rfl,rfl⟩) (fun q=>?_));rw[ar,aE] at q;exact absurd (by simpa using q) h0
noncomputable def Nh:AV:=if cu O U Z V J=0 then .tup [.int .i64 (Q.cntF U (c9 O U Z) (ia V J)),.int .i64 0] else .tup [.int .i64 0,.int .i64 (cu O U Z V J)]
theorem UT (hl:U≤1000) (hb:V≤1000):cd (n+15) (.fn 34) [a8 O U Z V J] H=some (Nh O U Z V J,H):=by
 unfold Nh;by_cases h0:cu O U Z V J=0
 · rw[if_pos h0];obtain ⟨h1,_⟩:=jM h0;refine bj (n:=n+14) Tryd.func34 rfl rfl rfl (Xl (n+14) O U Z V J (c9 O U Z) (ia V J) H (Q.cntF U (c9 O U Z) (ia V J))) (bo _ _ (bO (bO (aN _) (fun H=>Qi n O U Z V J H hb h0)) (fun H=>Qs (n+13) O U Z V J (c9 O U Z) (ia V J) H h1.2))) (aj _ _) (ak _ _) ?_;refine Tr.ai rfl (Tr.af (fun q=>by simp[ar,aE] at q) (fun q=>Tr.ai rfl (Tr.ag ⟨rfl,rfl⟩)))
 · rw[if_neg h0];refine bj (n:=n+14) Tryd.func34 rfl rfl rfl (S2 (n+14) O U Z V J H (cu O U Z V J)) (bo _ _ (eA (bO (aN _) (fun H=>Qg n O U Z V J H hl hb h0)))) (aj _ _) (ak _ _) ?_;refine Tr.ai rfl (Tr.af (fun q=>Tr.ag ⟨rfl,rfl⟩) (fun q=>?_));rw[ar,aE] at q;exact absurd (by simpa using q) h0
end
end Go.Eng
end
section
namespace Go.Eng
open Int (ofNat)
open Go.Proofs Go.Eng.Gall
noncomputable def nb (d:Nat):AV:=.slc d 1 0 0 1 2 (some 2)
noncomputable def df (r:Row) (a b:Int):bG:=⟨false,[(0,.row r),(0,.row (.I .i64 [a,b]))]⟩
noncomputable def kd (j:Int):aC:=[(0,nb 4),(1,jr 2),(7,.int .i64 (ofNat 2)),(8,.int .i64 j)]
theorem JE (n:Nat) (O:Int) (U:Nat) (Z:Nat→Int) (V:Nat) (J:Nat→Int) (r r2:Row) (H:ab) (a b j:Int):aS (bQ (n+1) 89 19) (il aF n 1) aR aQ (part Tryd.f89 [1,0,1,0,0]) (hints (kd j)) (av::av::dz O U Z V J::⟨false,[(0,.row r2)]⟩::df r a b::H) =
 (fun (Z0:bG)=>((fun (Z1:bG)=>Tr.ite (bM j (ofNat 2)) (Tr.req (c6 j 2) (Tr.req (cg 0 0) (Tr.req (cK (aw 0 j 1) (Gh [a,b])) (Tr.ite (bM (aI [a,b] (aw 0 j 1)) (ofNat 0)) (Tr.ok (Ex.ret,[(4,AV.int .i64 j,none)],av::av::Z1::(bz [(0,an.row r2)])::Z0::H)) (Tr.ite (dp (ofNat U) (aI [a,b] (aw 0 j 1))) (Tr.ok (Ex.ret,[(4,AV.int .i64 j,none)],av::av::Z1::(bz [(0,an.row r2)])::Z0::H)) (Tr.ok (Ex.normal,[(0,AV.slc 4 1 0 0 1 2 (some 2),none),(1,AV.fn (Fn.func 80) [] [AV.ptr 2 0 0 0],none),(7,iI 2,none),(8,AV.int .i64 (bm .i64 j (ofNat 1)),none)],av::av::Z1::(bz [(0,an.row r2)])::Z0::H))))))) (Tr.ok (Ex.exit 0,[(0,AV.slc 4 1 0 0 1 2 (some 2),none),(1,AV.fn (Fn.func 80) [] [AV.ptr 2 0 0 0],none),(7,iI 2,none),(8,AV.int .i64 j,none),(9,AV.bool false,some 1)],av::av::Z1::(bz [(0,an.row r2)])::Z0::H))) (bz [(0,dk O U Z V J)]))) (bz [(0,an.row r),(0,an.row (Row.I .i64 [a,b]))]):=by kernel_rfl
theorem Tn (n:Nat) (G:ab):bg Tryd.prog (cd n) 100000 89 Tryd.f89 (KtG.kt 89) (il aF n 0) (cV aR 0 (kd (ofNat 0)) (av::G) (.ok (.normal,hints (kd (ofNat 2)++[(9,.bool false)]),av::G))) aQ [(nb 3,none),(jr 1,none)] G =
 (fun (Z0:aC)=>Tr.reqP (Z0=Z0∧av::G=av::G) (Tr.ok ((AV.int .i64 (Int.negSucc 0),some 1),G))) [(0,AV.slc 4 1 0 0 1 2 (some 2)),(1,AV.fn (Fn.func 80) [] [AV.ptr 2 0 0 0]),(7,iI 2),(8,iI 0)]:=by kernel_rfl
theorem PI (n:Nat) (i:Int) (G:ab):bg Tryd.prog (cd n) 100000 67 Tryd.f67 (KtG.kt 67) (il (oo aF 89 [nb 3,jr 1] (av::G) (.ok (.int .i64 i,av::G))) n 0) aR aQ [(nb 2,none),(jr 0,none)] G =
 Tr.reqP ([AV.slc 3 1 0 0 1 2 (some 2),AV.fn (Fn.func 80) [] [AV.ptr 1 0 0 0]]=[AV.slc 3 1 0 0 1 2 (some 2),AV.fn (Fn.func 80) [] [AV.ptr 1 0 0 0]]∧av::G=av::G) (Tr.ok ((AV.bool (dp (ofNat 0) i),none),G)):=by kernel_rfl
theorem S7 (n:Nat) (O:Int) (U:Nat) (Z:Nat→Int) (V:Nat) (J:Nat→Int) (W B:Nat→Int) (G:ab) (q:Bool) (C:List AV→Prop):bg Tryd.prog (cd n) 100000 49 Tryd.f49 (KtG.kt 49) (il (oo (lW (tX aF 22 [a8 O U Z V J] (.int .i64 (ofNat 0))) 62 (fun x=>some (C x,shV O U Z V J W B))) 67 [nb 2,jr 0] (dz O U Z V J::G) (.ok (.bool q,dz O U Z V J::G))) n 0) aR aQ [(a8 O U Z V J,none),(nb 1,none)] G =
 Tr.reqP ([a8 O U Z V J]=[a8 O U Z V J]) (Tr.ite (bF (b9 (ofNat 0) (ofNat 0))) (Tr.ok ((AV.tup [AV.nilp,iI 0],none),G)) (Tr.reqP ([AV.slc 2 1 0 0 1 2 (some 2),AV.fn (Fn.func 80) [] [AV.ptr 0 0 0 0]]=[AV.slc 2 1 0 0 1 2 (some 2),AV.fn (Fn.func 80) [] [AV.ptr 0 0 0 0]]∧(bz [(0,dk O U Z V J)])::G=(bz [(0,dk O U Z V J)])::G) (Tr.ite q (Tr.ok ((AV.tup [AV.nilp,iI 2],none),G)) (Tr.reqP (C [a8 O U Z V J]) (Tr.ok ((AV.tup [shV O U Z V J W B,iI 0],none),G)))))):=by kernel_rfl
theorem Tg (n:Nat) (O:Int) (U:Nat) (Z:Nat→Int) (V:Nat) (J:Nat→Int) (W B:Nat→Int) (G:ab) (f t:Int):bg Tryd.prog (cd n) 100000 69 Tryd.f69 (KtG.kt 69) (il (oo (tX aF 65 [shV O U Z V J W B] (.tup [.agg (.G [.int .i64 f,.int .i64 t,.nils]),.bool false])) 49 [a8 O U Z V J,nb 1] (dz O U Z V J::G) (.ok (.tup [shV O U Z V J W B,.int .i64 (ofNat 0)],dz O U Z V J::G))) n 0) aR aQ [(a8 O U Z V J,none),(nb 0,none)] G =
 Tr.reqP ([a8 O U Z V J,AV.slc 1 1 0 0 1 2 (some 2)]=[a8 O U Z V J,AV.slc 1 1 0 0 1 2 (some 2)]∧(bz [(0,dk O U Z V J)])::G=(bz [(0,dk O U Z V J)])::G) (Tr.ite (bF (b9 (ofNat 0) (ofNat 0))) (Tr.ok ((AV.tup [AV.nilp,iI 0],none),G)) (Tr.reqP ([shV O U Z V J W B]=[shV O U Z V J W B]) (Tr.ite false (Tr.ok ((AV.tup [AV.nilp,iI 13],none),G)) (Tr.ok ((AV.tup [shV O U Z V J W B,iI 0],none),G))))):=by kernel_rfl
theorem Tl (n:Nat) (O:Int) (U:Nat) (Z:Nat→Int) (V:Nat) (J:Nat→Int) (W B:Nat→Int) (G:ab) (f t:Int) (m:Nat) (y:Nat→Int):bg Tryd.prog (cd n) 100000 69 Tryd.f69 (KtG.kt 69) (il (oo (tX aF 65 [shV O U Z V J W B] (.tup [.agg (.G [.int .i64 f,.int .i64 t,cw m y false]),.bool true])) 49 [a8 O U Z V J,nb 1] (dz O U Z V J::G) (.ok (.tup [shV O U Z V J W B,.int .i64 (ofNat 0)],dz O U Z V J::G))) n 0) aR aQ [(a8 O U Z V J,none),(nb 0,none)] G =
 Tr.reqP ([a8 O U Z V J,AV.slc 1 1 0 0 1 2 (some 2)]=[a8 O U Z V J,AV.slc 1 1 0 0 1 2 (some 2)]∧(bz [(0,dk O U Z V J)])::G=(bz [(0,dk O U Z V J)])::G) (Tr.ite (bF (b9 (ofNat 0) (ofNat 0))) (Tr.ok ((AV.tup [AV.nilp,iI 0],none),G)) (Tr.reqP ([shV O U Z V J W B]=[shV O U Z V J W B]) (Tr.ite true (Tr.ok ((AV.tup [AV.nilp,iI 13],none),G)) (Tr.ok ((AV.tup [shV O U Z V J W B,iI 0],none),G))))):=by kernel_rfl
end Go.Eng
end
