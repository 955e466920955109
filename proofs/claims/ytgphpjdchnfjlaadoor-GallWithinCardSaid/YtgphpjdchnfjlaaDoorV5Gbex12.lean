/- Gall: a right block: the outer loop, trees. -/
import Derived.Test.YtgphpjdchnfjlaaDoorV5Gbbx5
set_option linter.unusedVariables false
set_option linter.unusedSimpArgs false
set_option maxRecDepth 100000
section
namespace Go.Eng
open Int (ofNat)
open Go.Proofs Go.Eng.Gall
noncomputable def Bz (R:Row) (U:Nat) (i k:Int):aD:=[(0,.ptrT none R 0),(2,.ptr 0 0 0 0),(4,.ptr 0 1 0 0),(5,.ptr 0 2 0 0),(6,.bool true),(7,.int .i64 i),(9,.ptr 0 3 0 0),(19,.int .i64 (ofNat U)),(20,.int .i64 i),(28,.int .i64 (ofNat U)),(29,.int .i64 k),(87,.bool true)]
theorem O5 (n:Nat) (O:Int) (U:Nat) (Z:Nat→Int) (V:Nat) (J:Nat→Int) (W B:Nat→Int) (H:aa) (q:Nat→Int) (i k:Int):aF (bJ n 65 128) (il aC n 0) (eI aK 4) aJ (part Tryd.f65 [1,0,1,1,1,1,0,1,0,0,1,1,0,0,1,1,0,0]) (hints (iE (shR O U Z V J W B) false U i k)) (fj q (ofNat 0) (ofNat 0) .nils::H) =
 Tr.ite (bF k (ofNat U)) (Tr.req (cu i 10) (Tr.req (cH 0 0) (Tr.req (bX (aq 0 i 2) 20) (Tr.req (cu k 10) (Tr.req (cH 0 0) (Tr.req (bX (au (aq 0 k 2) 1) 20) (Tr.req (bT (dW 0 0) (dW 0 1)) Tr.bad))))))) (Tr.ok (Ex.exit 2,[(0,shV O U Z V J W B,none),(2,AV.ptr 0 0 0 0,none),(4,AV.ptr 0 1 0 0,none),(5,AV.ptr 0 2 0 0,none),(6,AV.bool false,none),(7,AV.int .i64 i,none),(19,iI U,none),(20,AV.int .i64 i,none),(28,iI U,none),(29,AV.int .i64 k,none),(30,AV.bool false,some 1)],(bm [(0,al.row (Row.G [iI 0,iI 0,AV.nils])),(0,al.row (rM q 20)),(0,al.row (Row.G [iI 0,iI 0,AV.nils]))])::H)):=by kernel_rfl
theorem O6 (n:Nat) (O:Int) (U:Nat) (Z:Nat→Int) (V:Nat) (J:Nat→Int) (W B:Nat→Int) (H:aa) (q:Nat→Int) (i k:Int) (f t:Int) (m:Nat) (y:Nat→Int):aF (bJ n 65 128) (il aC n 0) (eI aK 4) aJ (part Tryd.f65 [1,0,1,1,1,1,0,1,0,0,1,1,0,0,1,1,0,0]) (hints (iE (shR O U Z V J W B) true U i k)) (fj q f t (aP m y false)::H) =
 Tr.ite (bF k (ofNat U)) (Tr.req (cu i 10) (Tr.req (cH 0 0) (Tr.req (bX (aq 0 i 2) 20) (Tr.req (cu k 10) (Tr.req (cH 0 0) (Tr.req (bX (au (aq 0 k 2) 1) 20) (Tr.req (bT (dW 0 0) (dW 0 1)) Tr.bad))))))) (Tr.ok (Ex.exit 2,[(0,shV O U Z V J W B,none),(2,AV.ptr 0 0 0 0,none),(4,AV.ptr 0 1 0 0,none),(5,AV.ptr 0 2 0 0,none),(6,AV.bool true,none),(7,AV.int .i64 i,none),(19,iI U,none),(20,AV.int .i64 i,none),(28,iI U,none),(29,AV.int .i64 k,none),(30,AV.bool false,some 1)],(bm [(0,al.row (Row.G [iI 0,iI 0,AV.nils])),(0,al.row (rM q 20)),(0,al.row (Row.G [AV.int .i64 f,AV.int .i64 t,aP m y false]))])::H)):=by kernel_rfl
theorem Px (n:Nat) (O:Int) (U:Nat) (Z:Nat→Int) (V:Nat) (J:Nat→Int) (W B:Nat→Int) (H:aa) (q:Nat→Int) (i:Int):aF (bJ n 65 128) (il aC n 0) (cE aK 2 (iE (shR O U Z V J W B) false U i (ofNat 0)) (fj q (ofNat 0) (ofNat 0) .nils::H) (.ok (.normal,hints (iE (shR O U Z V J W B) false U i (ofNat U)++[(30,.bool false)]),fj q (ofNat 0) (ofNat 0) .nils::H))) aJ (part Tryd.f65 [1,0,1,1,1,1,0,1,0,0]) (hints (lg (shR O U Z V J W B) false U i)) (fj q (ofNat 0) (ofNat 0) .nils::H) =
 (fun (Z0:bC)=>((fun (Z1:aD)=>Tr.ite (bF i (ofNat U)) (Tr.reqP (Z1=Z1∧Z0::H=Z0::H) (Tr.ok (Ex.normal,[(0,shV O U Z V J W B,none),(2,AV.ptr 0 0 0 0,none),(4,AV.ptr 0 1 0 0,none),(5,AV.ptr 0 2 0 0,none),(6,AV.bool false,none),(19,iI U,none),(20,AV.int .i64 (bj .i64 i (ofNat 1)),none)],Z0::H))) (Tr.ok (Ex.exit 0,[(0,shV O U Z V J W B,none),(2,AV.ptr 0 0 0 0,none),(4,AV.ptr 0 1 0 0,none),(5,AV.ptr 0 2 0 0,none),(6,AV.bool false,none),(19,iI U,none),(20,AV.int .i64 i,none),(21,AV.bool false,some 1)],Z0::H))) [(0,shV O U Z V J W B),(2,AV.ptr 0 0 0 0),(4,AV.ptr 0 1 0 0),(5,AV.ptr 0 2 0 0),(6,AV.bool false),(7,AV.int .i64 i),(19,iI U),(20,AV.int .i64 i),(28,iI U),(29,iI 0)])) (bm [(0,al.row (Row.G [iI 0,iI 0,AV.nils])),(0,al.row (rM q 20)),(0,al.row (Row.G [iI 0,iI 0,AV.nils]))]):=by kernel_rfl
theorem Py (n:Nat) (O:Int) (U:Nat) (Z:Nat→Int) (V:Nat) (J:Nat→Int) (W B:Nat→Int) (H:aa) (q:Nat→Int) (i:Int) (f2 t2:Int) (m2:Nat) (y2:Nat→Int):aF (bJ n 65 128) (il aC n 0) (cE aK 2 (iE (shR O U Z V J W B) false U i (ofNat 0)) (fj q (ofNat 0) (ofNat 0) .nils::H) (.ok (.normal,hints (iE (shR O U Z V J W B) true U i (ofNat U)++[(30,.bool false)]),fj q f2 t2 (aP m2 y2 false)::H))) aJ (part Tryd.f65 [1,0,1,1,1,1,0,1,0,0]) (hints (lg (shR O U Z V J W B) false U i)) (fj q (ofNat 0) (ofNat 0) .nils::H) =
 (fun (Z0:bC)=>((fun (Z1:aD)=>Tr.ite (bF i (ofNat U)) (Tr.reqP (Z1=Z1∧Z0::H=Z0::H) (Tr.ok (Ex.normal,[(0,shV O U Z V J W B,none),(2,AV.ptr 0 0 0 0,none),(4,AV.ptr 0 1 0 0,none),(5,AV.ptr 0 2 0 0,none),(6,AV.bool true,none),(19,iI U,none),(20,AV.int .i64 (bj .i64 i (ofNat 1)),none)],(bm [(0,al.row (Row.G [iI 0,iI 0,AV.nils])),(0,al.row (rM q 20)),(0,al.row (Row.G [AV.int .i64 f2,AV.int .i64 t2,aP m2 y2 false]))])::H))) (Tr.ok (Ex.exit 0,[(0,shV O U Z V J W B,none),(2,AV.ptr 0 0 0 0,none),(4,AV.ptr 0 1 0 0,none),(5,AV.ptr 0 2 0 0,none),(6,AV.bool false,none),(19,iI U,none),(20,AV.int .i64 i,none),(21,AV.bool false,some 1)],Z0::H))) [(0,shV O U Z V J W B),(2,AV.ptr 0 0 0 0),(4,AV.ptr 0 1 0 0),(5,AV.ptr 0 2 0 0),(6,AV.bool false),(7,AV.int .i64 i),(19,iI U),(20,AV.int .i64 i),(28,iI U),(29,iI 0)])) (bm [(0,al.row (Row.G [iI 0,iI 0,AV.nils])),(0,al.row (rM q 20)),(0,al.row (Row.G [iI 0,iI 0,AV.nils]))]):=by kernel_rfl
theorem PA (n:Nat) (O:Int) (U:Nat) (Z:Nat→Int) (V:Nat) (J:Nat→Int) (W B:Nat→Int) (H:aa) (q:Nat→Int) (i:Int) (f t:Int) (m:Nat) (y:Nat→Int) (f2 t2:Int) (m2:Nat) (y2:Nat→Int):aF (bJ n 65 128) (il aC n 0) (cE aK 2 (iE (shR O U Z V J W B) true U i (ofNat 0)) (fj q f t (aP m y false)::H) (.ok (.normal,hints (iE (shR O U Z V J W B) true U i (ofNat U)++[(30,.bool false)]),fj q f2 t2 (aP m2 y2 false)::H))) aJ (part Tryd.f65 [1,0,1,1,1,1,0,1,0,0]) (hints (lg (shR O U Z V J W B) true U i)) (fj q f t (aP m y false)::H) =
 (fun (Z0:bC)=>((fun (Z1:aD)=>Tr.ite (bF i (ofNat U)) (Tr.reqP (Z1=Z1∧Z0::H=Z0::H) (Tr.ok (Ex.normal,[(0,shV O U Z V J W B,none),(2,AV.ptr 0 0 0 0,none),(4,AV.ptr 0 1 0 0,none),(5,AV.ptr 0 2 0 0,none),(6,AV.bool true,none),(19,iI U,none),(20,AV.int .i64 (bj .i64 i (ofNat 1)),none)],(bm [(0,al.row (Row.G [iI 0,iI 0,AV.nils])),(0,al.row (rM q 20)),(0,al.row (Row.G [AV.int .i64 f2,AV.int .i64 t2,aP m2 y2 false]))])::H))) (Tr.ok (Ex.exit 0,[(0,shV O U Z V J W B,none),(2,AV.ptr 0 0 0 0,none),(4,AV.ptr 0 1 0 0,none),(5,AV.ptr 0 2 0 0,none),(6,AV.bool true,none),(19,iI U,none),(20,AV.int .i64 i,none),(21,AV.bool false,some 1)],Z0::H))) [(0,shV O U Z V J W B),(2,AV.ptr 0 0 0 0),(4,AV.ptr 0 1 0 0),(5,AV.ptr 0 2 0 0),(6,AV.bool true),(7,AV.int .i64 i),(19,iI U),(20,AV.int .i64 i),(28,iI U),(29,iI 0)])) (bm [(0,al.row (Row.G [iI 0,iI 0,AV.nils])),(0,al.row (rM q 20)),(0,al.row (Row.G [AV.int .i64 f,AV.int .i64 t,aP m y false]))]):=by kernel_rfl
theorem PB (n:Nat) (O:Int) (U:Nat) (Z:Nat→Int) (V:Nat) (J:Nat→Int) (W B:Nat→Int) (H:aa) (q:Nat→Int) (i:Int) (f t:Int) (m:Nat) (y:Nat→Int) (F T:Int):aF (bJ n 65 128) (il aC n 0) (cE aK 2 (iE (shR O U Z V J W B) true U i (ofNat 0)) (fj q f t (aP m y false)::H) (.ok (.exit 1,hints (Bz (shR O U Z V J W B) U i (ofNat 0)),zh q f t (aP m y false) F T::H))) aJ (part Tryd.f65 [1,0,1,1,1,1,0,1,0,0]) (hints (lg (shR O U Z V J W B) true U i)) (fj q f t (aP m y false)::H) =
 (fun (Z0:bC)=>((fun (Z1:aD)=>Tr.ite (bF i (ofNat U)) (Tr.reqP (Z1=Z1∧Z0::H=Z0::H) (Tr.ok (Ex.normal,[(0,shV O U Z V J W B,none),(2,AV.ptr 0 0 0 0,none),(4,AV.ptr 0 1 0 0,none),(5,AV.ptr 0 2 0 0,none),(6,AV.bool true,none),(19,iI U,none),(20,AV.int .i64 (bj .i64 i (ofNat 1)),none)],(bm [(0,al.row (Row.G [iI 0,iI 0,AV.nils])),(0,al.row (rM q 20)),(0,al.row (Row.G [AV.int .i64 f,AV.int .i64 t,aP m y false])),(0,al.row (Row.G [AV.int .i64 F,AV.int .i64 T,AV.nils]))])::H))) (Tr.ok (Ex.exit 0,[(0,shV O U Z V J W B,none),(2,AV.ptr 0 0 0 0,none),(4,AV.ptr 0 1 0 0,none),(5,AV.ptr 0 2 0 0,none),(6,AV.bool true,none),(19,iI U,none),(20,AV.int .i64 i,none),(21,AV.bool false,some 1)],Z0::H))) [(0,shV O U Z V J W B),(2,AV.ptr 0 0 0 0),(4,AV.ptr 0 1 0 0),(5,AV.ptr 0 2 0 0),(6,AV.bool true),(7,AV.int .i64 i),(19,iI U),(20,AV.int .i64 i),(28,iI U),(29,iI 0)])) (bm [(0,al.row (Row.G [iI 0,iI 0,AV.nils])),(0,al.row (rM q 20)),(0,al.row (Row.G [AV.int .i64 f,AV.int .i64 t,aP m y false]))]):=by kernel_rfl
theorem PC (n:Nat) (O:Int) (U:Nat) (Z:Nat→Int) (V:Nat) (J:Nat→Int) (W B:Nat→Int) (H:aa) (q:Nat→Int) (i:Int) (f t:Int) (m:Nat) (y:Nat→Int) (F T:Int) (g:Nat) (x:Nat→Int):aF (bJ n 65 128) (il aC n 0) (cE aK 2 (iE (shR O U Z V J W B) true U i (ofNat 0)) (fj q f t (aP m y false)::H) (.ok (.exit 1,hints (Bz (shR O U Z V J W B) U i (ofNat 0)),BP q f t (aP m y false) F T g x::H))) aJ (part Tryd.f65 [1,0,1,1,1,1,0,1,0,0]) (hints (lg (shR O U Z V J W B) true U i)) (fj q f t (aP m y false)::H) =
 (fun (Z0:bC)=>((fun (Z1:aD)=>Tr.ite (bF i (ofNat U)) (Tr.reqP (Z1=Z1∧Z0::H=Z0::H) (Tr.ok (Ex.normal,[(0,shV O U Z V J W B,none),(2,AV.ptr 0 0 0 0,none),(4,AV.ptr 0 1 0 0,none),(5,AV.ptr 0 2 0 0,none),(6,AV.bool true,none),(19,iI U,none),(20,AV.int .i64 (bj .i64 i (ofNat 1)),none)],(bm [(0,al.row (Row.G [iI 0,iI 0,AV.nils])),(0,al.row (rM q 20)),(0,al.row (Row.G [AV.int .i64 f,AV.int .i64 t,aP m y false])),(0,al.row (Row.G [AV.int .i64 F,AV.int .i64 T,AV.slc 0 4 0 0 1 g none])),(0,al.row (rM x g))])::H))) (Tr.ok (Ex.exit 0,[(0,shV O U Z V J W B,none),(2,AV.ptr 0 0 0 0,none),(4,AV.ptr 0 1 0 0,none),(5,AV.ptr 0 2 0 0,none),(6,AV.bool true,none),(19,iI U,none),(20,AV.int .i64 i,none),(21,AV.bool false,some 1)],Z0::H))) [(0,shV O U Z V J W B),(2,AV.ptr 0 0 0 0),(4,AV.ptr 0 1 0 0),(5,AV.ptr 0 2 0 0),(6,AV.bool true),(7,AV.int .i64 i),(19,iI U),(20,AV.int .i64 i),(28,iI U),(29,iI 0)])) (bm [(0,al.row (Row.G [iI 0,iI 0,AV.nils])),(0,al.row (rM q 20)),(0,al.row (Row.G [AV.int .i64 f,AV.int .i64 t,aP m y false]))]):=by kernel_rfl
theorem Pv (n:Nat) (O:Int) (U:Nat) (Z:Nat→Int) (V:Nat) (J:Nat→Int) (W B:Nat→Int) (H:aa) (q:Nat→Int) (i:Int):aF (bJ n 65 128) (il aC n 0) (eI aK 2) aJ (part Tryd.f65 [1,0,1,1,1,1,0,1,0,0]) (hints (lg (shR O U Z V J W B) false U i)) (fj q (ofNat 0) (ofNat 0) .nils::H) =
 Tr.ite (bF i (ofNat U)) Tr.bad (Tr.ok (Ex.exit 0,[(0,shV O U Z V J W B,none),(2,AV.ptr 0 0 0 0,none),(4,AV.ptr 0 1 0 0,none),(5,AV.ptr 0 2 0 0,none),(6,AV.bool false,none),(19,iI U,none),(20,AV.int .i64 i,none),(21,AV.bool false,some 1)],(bm [(0,al.row (Row.G [iI 0,iI 0,AV.nils])),(0,al.row (rM q 20)),(0,al.row (Row.G [iI 0,iI 0,AV.nils]))])::H)):=by kernel_rfl
theorem Pz (n:Nat) (O:Int) (U:Nat) (Z:Nat→Int) (V:Nat) (J:Nat→Int) (W B:Nat→Int) (H:aa) (q:Nat→Int) (i:Int) (f t:Int) (m:Nat) (y:Nat→Int):aF (bJ n 65 128) (il aC n 0) (eI aK 2) aJ (part Tryd.f65 [1,0,1,1,1,1,0,1,0,0]) (hints (lg (shR O U Z V J W B) true U i)) (fj q f t (aP m y false)::H) =
 Tr.ite (bF i (ofNat U)) Tr.bad (Tr.ok (Ex.exit 0,[(0,shV O U Z V J W B,none),(2,AV.ptr 0 0 0 0,none),(4,AV.ptr 0 1 0 0,none),(5,AV.ptr 0 2 0 0,none),(6,AV.bool true,none),(19,iI U,none),(20,AV.int .i64 i,none),(21,AV.bool false,some 1)],(bm [(0,al.row (Row.G [iI 0,iI 0,AV.nils])),(0,al.row (rM q 20)),(0,al.row (Row.G [AV.int .i64 f,AV.int .i64 t,aP m y false]))])::H)):=by kernel_rfl
theorem Ua (n:Nat) (O:Int) (U:Nat) (Z:Nat→Int) (V:Nat) (J:Nat→Int) (W B:Nat→Int) (H:aa) (q:Nat→Int) (r:Nat→Int):aZ Tryd.prog (cd n) 100000 65 Tryd.f65 (KtG.kt 65) (il (tX aC 56 [shV O U Z V J W B] (.agg (.M [.arr .i64 r 20]))) n 0) (cE aK 0 (lg (shR O U Z V J W B) false U (ofNat 0)) (fj (nz (fun x=>ofNat 0) 0 r 20) (ofNat 0) (ofNat 0) .nils::H) (.ok (.normal,hints (lg (shR O U Z V J W B) false U (ofNat U)++[(21,.bool false)]),fj q (ofNat 0) (ofNat 0) .nils::H))) aJ [(shV O U Z V J W B,none)] H =
 (fun (Z0:bC)=>((fun (Z1:aD)=>Tr.reqP ([shV O U Z V J W B]=[shV O U Z V J W B]) (Tr.req (dP 0 20 0 20) (Tr.reqP (Z1=Z1∧Z0::H=Z0::H) (Tr.ok ((AV.tup [AV.agg (Row.G [iI 0,iI 0,AV.nils]),AV.bool false],none),H))))) [(0,shV O U Z V J W B),(2,AV.ptr 0 0 0 0),(4,AV.ptr 0 1 0 0),(5,AV.ptr 0 2 0 0),(6,AV.bool false),(19,iI U),(20,iI 0)])) (bm [(0,al.row (Row.G [iI 0,iI 0,AV.nils])),(0,al.row (rM (nz (fun x=>ofNat 0) 0 r 20) 20)),(0,al.row (Row.G [iI 0,iI 0,AV.nils]))]):=by kernel_rfl
theorem Ub (n:Nat) (O:Int) (U:Nat) (Z:Nat→Int) (V:Nat) (J:Nat→Int) (W B:Nat→Int) (H:aa) (q:Nat→Int) (r:Nat→Int) (f2 t2:Int) (m2:Nat) (y2:Nat→Int):aZ Tryd.prog (cd n) 100000 65 Tryd.f65 (KtG.kt 65) (il (tX aC 56 [shV O U Z V J W B] (.agg (.M [.arr .i64 r 20]))) n 0) (cE aK 0 (lg (shR O U Z V J W B) false U (ofNat 0)) (fj (nz (fun x=>ofNat 0) 0 r 20) (ofNat 0) (ofNat 0) .nils::H) (.ok (.normal,hints (lg (shR O U Z V J W B) true U (ofNat U)++[(21,.bool false)]),fj q f2 t2 (aP m2 y2 false)::H))) aJ [(shV O U Z V J W B,none)] H =
 (fun (Z0:bC)=>((fun (Z1:aD)=>Tr.reqP ([shV O U Z V J W B]=[shV O U Z V J W B]) (Tr.req (dP 0 20 0 20) (Tr.reqP (Z1=Z1∧Z0::H=Z0::H) (Tr.ok ((AV.tup [AV.agg (Row.G [AV.int .i64 f2,AV.int .i64 t2,aP m2 y2 false]),AV.bool true],none),H))))) [(0,shV O U Z V J W B),(2,AV.ptr 0 0 0 0),(4,AV.ptr 0 1 0 0),(5,AV.ptr 0 2 0 0),(6,AV.bool false),(19,iI U),(20,iI 0)])) (bm [(0,al.row (Row.G [iI 0,iI 0,AV.nils])),(0,al.row (rM (nz (fun x=>ofNat 0) 0 r 20) 20)),(0,al.row (Row.G [iI 0,iI 0,AV.nils]))]):=by kernel_rfl
end Go.Eng
end
section
namespace Go.Eng
open Int (ofNat)
open Go.Proofs Go.Eng.Gall
theorem Kk:∀ b,(0,b) ∈ aI (aW Tryd.f65)→b=.loop (part Tryd.f65 [1,0,1,1,1,1,0,1,0,0]):=dJ (by kernel_rfl)
theorem yg:∀ b,(2,b) ∈ aI (part Tryd.f65 [1,0,1,1,1,1,0,1,0,0])→b=.loop (part Tryd.f65 [1,0,1,1,1,1,0,1,0,0,1,1,0,0,1,1,0,0]):=dJ (by kernel_rfl)
theorem CB (q:Nat→Int) (U:Nat) (F:Int) (v:Int×Int):∀ k,x5 q U F (some v) k≠none
 | 0=>by intro h;cases h
 | k+1=>by
   unfold x5 Fj;split
   · intro h;cases h
   · exact CB q U F v k
section
variable (n:Nat) (O:Int) (U:Nat) (Z:Nat→Int) (V:Nat) (J:Nat→Int) (W B:Nat→Int) (H:aa) (q:Nat→Int)
theorem OW (b:Option (Int×Int)):a6 (tu q U b::H)=3:=by cases b<;>rfl
theorem Sw (hl:U≤10) (hq:∀ j,j<2*U→-1000000≤q j∧q j≤1000000) (i:Nat) (hi:i<U) (b:Option (Int×Int)) (hb:Fv b (q (2*i))=false) :
 exec (bJ n 65 128) (.block 2 (.loop (part Tryd.f65 [1,0,1,1,1,1,0,1,0,0,1,1,0,0,1,1,0,0]))) (iE (shR O U Z V J W B) b.isSome U i (ofNat 0)) (tu q U b::H)=some (.normal,iE (shR O U Z V J W B) (x5 q U (q (2*i)) b U).isSome U i (ofNat U)++[(30,.bool false)],tu q U (x5 q U (q (2*i)) b U)::H):=by
 refine jh (n:=n) (f:=65) (nt:=128) (c:=part Tryd.f65 [1,0,1,1,1,1,0,1,0,0,1,1,0,0,1,1,0,0]) 2 (fun k=>iE (shR O U Z V J W B) (x5 q U (q (2*i)) b k).isSome U i (k:Int)) (fun k=>tu q U (x5 q U (q (2*i)) b k)::H) U (iE (shR O U Z V J W B) (x5 q U (q (2*i)) b U).isSome U i (ofNat U)++[(30,.bool false)],tu q U (x5 q U (q (2*i)) b U)::H) wO (fun k hk=>?_) ?_
 · rw[OW]
   exact Tw n O U Z V J W B H q hl hq i k hi hk (x5 q U (q (2*i)) b k) (GD hb k)
 · generalize x5 q U (q (2*i)) b U=c
   cases c with
   | none =>
     obtain ⟨x,h1,rfl⟩:=aA (Q:=fun x=>x=(.exit 2,iE (shR O U Z V J W B) false U i (ofNat U)++[(30,.bool false)],tu q U none::H)) (O5 n O U Z V J W B H q i (ofNat U)) (aw _) (b9 (ah _ _) 4) (aj _ _) (by
      refine Tr.ae wJ (fun h0=>Tr.ag rfl))
     exact h1
   | some v =>
     obtain ⟨f,t⟩:=v
     obtain ⟨x,h1,rfl⟩:=aA (Q:=fun x=>x=(.exit 2,iE (shR O U Z V J W B) true U i (ofNat U)++[(30,.bool false)],tu q U (some (f,t))::H)) (O6 n O U Z V J W B H q i (ofNat U) f t (dV q f t U).length (az (dV q f t U))) (aw _) (b9 (ah _ _) 4) (aj _ _) (by
      refine Tr.ae wJ (fun h0=>Tr.ag rfl))
     exact h1
noncomputable def Ge (q:Nat→Int) (U:Nat) (f t F T:Int):bC:=EN q f t (aP (dV q f t U).length (az (dV q f t U)) false) F T (dV q F T U)
theorem SA (hl:U≤10) (hq:∀ j,j<2*U→-1000000≤q j∧q j≤1000000) (i:Nat) (hi:i<U) (f t:Int) (hb:f<q (2*i)) :
 exec (bJ n 65 128) (.block 2 (.loop (part Tryd.f65 [1,0,1,1,1,1,0,1,0,0,1,1,0,0,1,1,0,0]))) (iE (shR O U Z V J W B) true U i (ofNat 0)) (tu q U (some (f,t))::H)=some (.exit 1,Bz (shR O U Z V J W B) U i (ofNat 0),Ge q U f t (q (2*i)) (q 1)::H):=by
 have ei:aq 0 (i:Int) 2=2*i:=by rw[bo];omega
 have ek:aq 0 (ofNat 0) 2=0:=by rw[bo];rfl
 have hb2:decide (f<q (2*i))=true:=decide_eq_true hb
 have hx:exec (bJ n 65 128) (part Tryd.f65 [1,0,1,1,1,1,0,1,0,0,1,1,0,0,1,1,0,0]) (iE (shR O U Z V J W B) true U i (ofNat 0)) (tu q U (some (f,t))::H)=some (.exit 1,Bz (shR O U Z V J W B) U i (ofNat 0),Ge q U f t (q (2*i)) (q 1)::H):=by
  have hlp:=O9 n H q (shR O U Z V J W B) true f t (dV q f t U).length (az (dV q f t U)) U i (ofNat 0) (q (2*i)) (q 1) hl;cases hS:dV q (q (2*i)) (q 1) U with
  | nil =>
    rw[hS] at hlp;have e:Ge q U f t (q (2*i)) (q 1)=zh q f t (aP (dV q f t U).length (az (dV q f t U)) false) (q (2*i)) (q 1):=by unfold Ge;rw[hS];rfl
    rw[e];have T0:=KC n O U Z V J W B H q i (ofNat 0) f t (dV q f t U).length (az (dV q f t U));rw[ei,ek,aH,Nat.zero_add] at T0;obtain ⟨x,h1,rfl⟩:=aA (Q:=fun x=>x=(.exit 1,Bz (shR O U Z V J W B) U i (ofNat 0),zh q f t (aP (dV q f t U).length (az (dV q f t U)) false) (q (2*i)) (q 1)::H)) T0 (aw _) (aU (ah _ _) vI (fun x hx=>fD hx (by simp only[ev.st,aN];exact hlp))) (aj _ _) (by
     refine Tr.ae (fun h0=>?_) wJ;exact Tr.ab wG (Tr.ab wG (Tr.ab wG (Tr.ab wG (Tr.ab wG (Tr.ab wG (Tr.ab wG (Tr.ak ⟨rfl,rfl⟩ (Tr.ae (fun _=>Tr.ae (fun _=>Tr.ag rfl) (fun h=>by rw[bD,hb2] at h;cases h)) (fun h=>by cases h))))))))))
    exact h1
  | cons a r =>
    rw[hS] at hlp;have e:Ge q U f t (q (2*i)) (q 1)=BP q f t (aP (dV q f t U).length (az (dV q f t U)) false) (q (2*i)) (q 1) (r.length+1) (az (a::r)):=by unfold Ge;rw[hS];rfl
    rw[e];have T0:=KD n O U Z V J W B H q i (ofNat 0) f t (dV q f t U).length (az (dV q f t U)) (r.length+1) (az (a::r));rw[ei,ek,aH,Nat.zero_add] at T0;obtain ⟨x,h1,rfl⟩:=aA (Q:=fun x=>x=(.exit 1,Bz (shR O U Z V J W B) U i (ofNat 0),BP q f t (aP (dV q f t U).length (az (dV q f t U)) false) (q (2*i)) (q 1) (r.length+1) (az (a::r))::H)) T0 (aw _) (aU (ah _ _) vI (fun x hx=>fD hx (by simp only[ev.st,aN];exact hlp))) (aj _ _) (by
     refine Tr.ae (fun h0=>?_) wJ;exact Tr.ab wG (Tr.ab wG (Tr.ab wG (Tr.ab wG (Tr.ab wG (Tr.ab wG (Tr.ab wG (Tr.ak ⟨rfl,rfl⟩ (Tr.ae (fun _=>Tr.ae (fun _=>Tr.ag rfl) (fun h=>by rw[bD,hb2] at h;cases h)) (fun h=>by cases h))))))))))
    exact h1
 exact cU (fun id' h=>by cases h;rfl) (jb (body:=exec (bJ n 65 128) (part Tryd.f65 [1,0,1,1,1,1,0,1,0,0,1,1,0,0,1,1,0,0])) (n:=a6 (tu q U (some (f,t))::H)) (fun _=>iE (shR O U Z V J W B) true U i (ofNat 0)) (fun _=>tu q U (some (f,t))::H) 0 (fun _=>false) (fun _=>(.exit 1,Bz (shR O U Z V J W B) U i (ofNat 0),Ge q U f t (q (2*i)) (q 1)::H)) (fun j h=>absurd h (Nat.not_lt_zero j)) (fun j h=>absurd h (Nat.not_lt_zero j)) ⟨hx,by simp⟩ 0 0 100000 rfl wO)
theorem Tx (hl:U≤10) (hq:∀ j,j<2*U→-1000000≤q j∧q j≤1000000) (i:Nat) (hi:i<U) :
 ∃ x,exec (bJ n 65 128) (part Tryd.f65 [1,0,1,1,1,1,0,1,0,0]) (lg (shR O U Z V J W B) (kS q U i).isSome U i) (tu q U (kS q U i)::H)=some x∧x.1=.normal∧tidy 3 x.2.1 x.2.2=(lg (shR O U Z V J W B) (kS q U (i+1)).isSome U ((i+1:Nat):Int),tu q U (kS q U (i+1))::H):=by
 have e1:bj .i64 (i:Int) (ofNat 1)=((i+1:Nat):Int):=dO wO
 have eo:kS q U (i+1)=if Fv (kS q U i) (q (2*i))=true then kS q U i else x5 q U (q (2*i)) (kS q U i) U:=rfl
 rw[eo]
 by_cases hg:Fv (kS q U i) (q (2*i))=true
 · rw[if_pos hg]
   generalize kS q U i=b at *
   cases b with
   | none=>cases hg
   | some v =>
     obtain ⟨f,t⟩:=v
     have hx:=SA n O U Z V J W B H q hl hq i hi f t (of_decide_eq_true hg)
     cases hS:dV q (q (2*i)) (q 1) U with
     | nil =>
       have e:Ge q U f t (q (2*i)) (q 1)=zh q f t (aP (dV q f t U).length (az (dV q f t U)) false) (q (2*i)) (q 1):=by unfold Ge;rw[hS];rfl
       rw[e] at hx
       have T0:=PB n O U Z V J W B H q i f t (dV q f t U).length (az (dV q f t U)) (q (2*i)) (q 1)
       rw[e1] at T0
       refine aA T0 (aw _) (aU (ah _ _) yg (fun x h=>fD h (by simp only[ev.st,aN];exact hx))) (aj _ _) ?_
       exact Tr.ae (fun h0=>Tr.ak ⟨rfl,rfl⟩ (Tr.ag ⟨rfl,rfl⟩)) wJ
     | cons a r =>
       have e:Ge q U f t (q (2*i)) (q 1)=BP q f t (aP (dV q f t U).length (az (dV q f t U)) false) (q (2*i)) (q 1) (r.length+1) (az (a::r)):=by unfold Ge;rw[hS];rfl
       rw[e] at hx
       have T0:=PC n O U Z V J W B H q i f t (dV q f t U).length (az (dV q f t U)) (q (2*i)) (q 1) (r.length+1) (az (a::r))
       rw[e1] at T0
       refine aA T0 (aw _) (aU (ah _ _) yg (fun x h=>fD h (by simp only[ev.st,aN];exact hx))) (aj _ _) ?_
       exact Tr.ae (fun h0=>Tr.ak ⟨rfl,rfl⟩ (Tr.ag ⟨rfl,rfl⟩)) wJ
 · rw[if_neg hg]
   have hg:Fv (kS q U i) (q (2*i))=false:=by simpa using hg
   have hx:=Sw n O U Z V J W B H q hl hq i hi _ hg
   generalize hc:x5 q U (q (2*i)) (kS q U i) U=c at *
   generalize kS q U i=b at *
   cases b with
   | none =>
     cases c with
     | none =>
       have T0:=Px n O U Z V J W B H q i
       rw[e1] at T0
       refine aA T0 (aw _) (aU (ah _ _) yg (fun x h=>fD h (by simp only[ev.st,aN];exact hx))) (aj _ _) ?_
       exact Tr.ae (fun h0=>Tr.ak ⟨rfl,rfl⟩ (Tr.ag ⟨rfl,rfl⟩)) wJ
     | some v =>
       obtain ⟨f,t⟩:=v
       have T0:=Py n O U Z V J W B H q i f t (dV q f t U).length (az (dV q f t U))
       rw[e1] at T0
       refine aA T0 (aw _) (aU (ah _ _) yg (fun x h=>fD h (by simp only[ev.st,aN];exact hx))) (aj _ _) ?_
       exact Tr.ae (fun h0=>Tr.ak ⟨rfl,rfl⟩ (Tr.ag ⟨rfl,rfl⟩)) wJ
   | some v =>
     obtain ⟨f,t⟩:=v
     cases c with
     | none=>exact absurd hc (CB _ _ _ _ _)
     | some v2 =>
       obtain ⟨f2,t2⟩:=v2
       have T0:=PA n O U Z V J W B H q i f t (dV q f t U).length (az (dV q f t U)) f2 t2 (dV q f2 t2 U).length (az (dV q f2 t2 U))
       rw[e1] at T0
       refine aA T0 (aw _) (aU (ah _ _) yg (fun x h=>fD h (by simp only[ev.st,aN];exact hx))) (aj _ _) ?_
       exact Tr.ae (fun h0=>Tr.ak ⟨rfl,rfl⟩ (Tr.ag ⟨rfl,rfl⟩)) wJ
end
end Go.Eng
end
section
namespace Go.Eng
open Int (ofNat)
open Go.Proofs Go.Eng.Gall
theorem Iy (n:Nat) (b:Nat→Nat) (w:Nat→Int):Bd n b w n (eU n b w) where
 lo c hc:=by
  have:eU n b w (2*c)=fC n b w n c:=by unfold eU;rw[if_pos wO,if_pos wO,show 2*c / 2=c by omega]
  omega
 hi c hc:=by
  have:eU n b w (2*c+1)=-fA n b w n c:=by unfold eU;rw[if_pos wO,if_neg wO,show (2*c+1) / 2=c by omega]
  omega
 out i hi:=by unfold eU;rw[if_neg wO]
section
variable (n:Nat) (O:Int) (U:Nat) (Z:Nat→Int) (V:Nat) (J:Nat→Int) (W B:Nat→Int) (H:aa) (q:Nat→Int)
theorem Sx (hl:U≤10) (hq:∀ j,j<2*U→-1000000≤q j∧q j≤1000000) :
 exec (bJ n 65 128) (.block 0 (.loop (part Tryd.f65 [1,0,1,1,1,1,0,1,0,0]))) (lg (shR O U Z V J W B) false U (ofNat 0)) (fj q (ofNat 0) (ofNat 0) .nils::H)=some (.normal,lg (shR O U Z V J W B) (kS q U U).isSome U (ofNat U)++[(21,.bool false)],tu q U (kS q U U)::H):=by
 refine jh (n:=n) (f:=65) (nt:=128) (c:=part Tryd.f65 [1,0,1,1,1,1,0,1,0,0]) 0 (fun i=>lg (shR O U Z V J W B) (kS q U i).isSome U (i:Int)) (fun i=>tu q U (kS q U i)::H) U (lg (shR O U Z V J W B) (kS q U U).isSome U (ofNat U)++[(21,.bool false)],tu q U (kS q U U)::H) wO (fun i hi=>?_) ?_
 · rw[OW]
   exact Tx n O U Z V J W B H q hl hq i hi
 · generalize kS q U U=c
   cases c with
   | none =>
     obtain ⟨x,h1,rfl⟩:=aA (Q:=fun x=>x=(.exit 0,lg (shR O U Z V J W B) false U (ofNat U)++[(21,.bool false)],tu q U none::H)) (Pv n O U Z V J W B H q (ofNat U)) (aw _) (b9 (ah _ _) 2) (aj _ _) (by
      refine Tr.ae wJ (fun h0=>Tr.ag rfl))
     exact h1
   | some v =>
     obtain ⟨f,t⟩:=v
     obtain ⟨x,h1,rfl⟩:=aA (Q:=fun x=>x=(.exit 0,lg (shR O U Z V J W B) true U (ofNat U)++[(21,.bool false)],tu q U (some (f,t))::H)) (Pz n O U Z V J W B H q (ofNat U) f t (dV q f t U).length (az (dV q f t U))) (aw _) (b9 (ah _ _) 2) (aj _ _) (by
      refine Tr.ae wJ (fun h0=>Tr.ag rfl))
     exact h1
noncomputable def VT (q:Nat→Int) (U:Nat):Option (Int×Int)→AV
 | none=>.tup [.agg (.G [.int .i64 (ofNat 0),.int .i64 (ofNat 0),.nils]),.bool false]
 | some (f,t)=>.tup [.agg (.G [.int .i64 f,.int .i64 t,aP (dV q f t U).length (az (dV q f t U)) false]),.bool true]
noncomputable def qB (r:Nat→Int):Nat→Int:=nz (fun _=>ofNat 0) 0 r 20
theorem Ho (r:Nat→Int) {j:Nat} (hj:j<20):qB r j=r j:=by unfold qB;rw[rL];unfold wR;simp[hj]
theorem Vl (b:Nat→Nat) (hS:eN U W b):cd (n+3) (.fn 65) [shV O U Z V J W (bI b)] H=some (VT (qB (eU U b W)) U (kS (qB (eU U b W)) U U),H):=by
 have hq:∀ j,j<2*U→-1000000≤qB (eU U b W) j∧qB (eU U b W) j≤1000000:=fun j hj=>by
  have hl:=hS.len;rw[Ho _ wO];have h:=Ba (K:=100000) wO hS.win (Iy U b W) (j / 2) wO;rcases Nat.mod_two_eq_zero_or_one j with e | e
  · rw[show 2*(j / 2)=j by omega] at h;omega
  · rw[show 2*(j / 2)+1=j by omega] at h;omega
 have h56:=fun H=>Vk n O U Z V J W b H hS;have hlp:=Sx (n+2) O U Z V J W (bI b) H (qB (eU U b W)) hS.len hq;generalize hQ:kS (qB (eU U b W)) U U=c at *;cases c with
 | none =>
   refine pj (n:=n+2) Tryd.func65 rfl (fun _ _=>rfl) rfl (Ua (n+2) O U Z V J W (bI b) H (qB (eU U b W)) (eU U b W)) (bw _ _ (bW (aR _) h56)) (aU (ah _ _) Kk (fun x h=>fD h (by simp only[ev.st,aN];exact hlp))) (aj _ _) ?_;exact Tr.ak rfl (Tr.ab wG (Tr.ak ⟨rfl,rfl⟩ (Tr.ag ⟨rfl,rfl⟩)))
 | some v =>
   obtain ⟨f,t⟩:=v;refine pj (n:=n+2) Tryd.func65 rfl (fun _ _=>rfl) rfl (Ub (n+2) O U Z V J W (bI b) H (qB (eU U b W)) (eU U b W) f t (dV (qB (eU U b W)) f t U).length (az (dV (qB (eU U b W)) f t U))) (bw _ _ (bW (aR _) h56)) (aU (ah _ _) Kk (fun x h=>fD h (by simp only[ev.st,aN];exact hlp))) (aj _ _) ?_;exact Tr.ak rfl (Tr.ab wG (Tr.ak ⟨rfl,rfl⟩ (Tr.ag ⟨rfl,rfl⟩)))
end
end Go.Eng
end
section
namespace Go.Eng
open Go.Proofs Go.Eng.Gall Go.Eng.Q
theorem Dv {W:Nat→Int} {b:Nat→Nat} {k X c:Nat} (hb:b c<2 ^ 62) (hX:X<2 ^ 62):okW W (bI b) k X c=true↔(∀ a,(b c).testBit a=true→X.testBit a=true)∧W (2*c)≤(k:Int)∧(k:Int)≤W (2*c+1):=by
 unfold okW;obtain ⟨w,hw,hw2⟩:=QU hb hX;rw[show bI b c=(b c:Int) from rfl,hw,Bool.and_eq_true,Bool.and_eq_true,bk,bk,aQ,decide_eq_true_iff,decide_eq_true_iff,beq_iff_eq];have e:(w:Int)=Int.ofNat 0↔∀ a,(b c).testBit a=true→X.testBit a=true:=by
  constructor
  · intro h a ha;have h:w=0:=by
     have h:(w:Int)=0:=h;omega
    have:=hw2 a;rw[h,Nat.zero_testBit,ha,Bool.true_and] at this;cases e:X.testBit a with
    | true=>rfl
    | false=>rw[e] at this;cases this
  · intro h;have:w=0:=by
     apply Nat.eq_of_testBit_eq;intro a;rw[hw2,Nat.zero_testBit];cases e:(b c).testBit a with
     | false=>rfl
     | true=>rw[h a e];rfl
    rw[this];rfl
 rw[e]
theorem fw {n:Nat} {b:Nat→Nat} {W:Nat→Int} {L:List Nat} (hn:n≤10) (hb:∀ c,c<n→b c<2 ^ n):L ∈ ro n (okW W (bI b)) n↔L.length=n∧L.Nodup∧(∀ x ∈ L,x<n)∧∀ i (h:i<L.length),(∀ a,(b L[i]).testBit a=true→a ∈ L.take i)∧W (2*L[i])≤(i:Int)∧(i:Int)≤W (2*L[i]+1):=by
 have p62:2 ^ n≤2 ^ 62:=Nat.pow_le_pow_right wO wO;constructor
 · intro h;obtain ⟨h1,h2,h3⟩:=j9 h;refine ⟨h1,h2,h3,fun i hi=>?_⟩;have hl:=h3 _ (List.getElem_mem hi);have hnt:(L.take i).Nodup:=h2.sublist (List.take_sublist i L);have hm:mask (L.take i)<2 ^ n:=nk hnt fun x hx=>h3 x (List.mem_of_mem_take hx);have:=((uk.1 h).2 i hi).2.2;rw[Dv (Nat.lt_of_lt_of_le (hb _ hl) p62) (Nat.lt_of_lt_of_le hm p62)] at this;refine ⟨fun a ha=>?_,this.2⟩;have:=this.1 a ha;rw[cV hnt] at this;exact of_decide_eq_true this
 · rintro ⟨h1,h2,h3,h4⟩;refine uk.2 ⟨h1,fun i hi=>?_⟩;have hl:=h3 _ (List.getElem_mem hi);have hnt:(L.take i).Nodup:=h2.sublist (List.take_sublist i L);have hm:mask (L.take i)<2 ^ n:=nk hnt fun x hx=>h3 x (List.mem_of_mem_take hx);refine ⟨hl,?_,(Dv (Nat.lt_of_lt_of_le (hb _ hl) p62) (Nat.lt_of_lt_of_le hm p62)).2 ⟨fun a ha=>?_,(h4 i hi).2⟩⟩
   · rw[cV hnt];refine decide_eq_false fun hx=>?_;obtain ⟨j,hj,he⟩:=List.mem_iff_getElem.1 hx;rw[List.length_take] at hj;rw[List.getElem_take] at he;have:=(List.pairwise_iff_getElem.1 h2) j i wO hi wO;exact this he
   · rw[cV hnt];exact decide_eq_true ((h4 i hi).1 a ha)
section
variable {n:Nat} {b:Nat→Nat} {W:Nat→Int} {L:List Nat}
theorem gz {L:List Nat} {c:Nat} (h:c ∈ L):∃ hi:L.idxOf c<L.length,L[L.idxOf c]=c:=⟨List.idxOf_lt_length_iff.2 h,List.getElem_idxOf _⟩
theorem D1 {L:List Nat} {a i:Nat} (h:a ∈ L.take i):L.idxOf a<i:=by
 obtain ⟨j,hj,he⟩:=List.mem_iff_getElem.1 h;rw[List.length_take] at hj;rw[List.getElem_take] at he;have h2:L.idxOf a≤j:=by
  refine Nat.le_of_not_lt fun hlt=>?_;have:=List.not_of_lt_findIdx (p:=(· == a)) (xs:=L) (i:=j) hlt;rw[he] at this;simp at this
 omega
theorem za (hL:L.length=n∧L.Nodup∧(∀ x ∈ L,x<n)∧∀ i (h:i<L.length),(∀ a,(b L[i]).testBit a=true→a ∈ L.take i)∧W (2*L[i])≤(i:Int)∧(i:Int)≤W (2*L[i]+1)):∀ t c,c ∈ L→fC n b W t c≤(L.idxOf c:Int)
 | 0,c,hc=>by
   obtain ⟨hi,he⟩:=gz hc;have:=(hL.2.2.2 _ hi).2.1;rw[he] at this;exact this
 | t + 1,c,hc=>by
   rcases js (fC n b W t c) (fun a=>fC n b W t a+1) (fun a=>(b c).testBit a) n with e | ⟨a,h1,h2,h3⟩
   · have e:fC n b W (t+1) c=fC n b W t c:=e;rw[e];exact za hL t c hc
   · have h3:fC n b W (t+1) c=fC n b W t a+1:=h3;obtain ⟨hi,he⟩:=gz hc;have hm:=(hL.2.2.2 _ hi).1 a (by rw[he];exact h2);have:=D1 hm;have:=za hL t a (List.mem_of_mem_take hm);omega
theorem yL (hL:L.length=n∧L.Nodup∧(∀ x ∈ L,x<n)∧∀ i (h:i<L.length),(∀ a,(b L[i]).testBit a=true→a ∈ L.take i)∧W (2*L[i])≤(i:Int)∧(i:Int)≤W (2*L[i]+1)):∀ t c,c ∈ L→fA n b W t c≤-(L.idxOf c:Int)
 | 0,c,hc=>by
   obtain ⟨hi,he⟩:=gz hc;have:=(hL.2.2.2 _ hi).2.2;rw[he] at this;show -W (2*c+1)≤_;omega
 | t + 1,c,hc=>by
   rcases js (fA n b W t c) (fun a=>fA n b W t a+1) (fun a=>(b a).testBit c) n with e | ⟨a,h1,h2,h3⟩
   · have e:fA n b W (t+1) c=fA n b W t c:=e;rw[e];exact yL hL t c hc
   · have h3:fA n b W (t+1) c=fA n b W t a+1:=h3;have ha:a ∈ L:=gb hL.2.1 hL.1 hL.2.2.1 h1;obtain ⟨hi,he⟩:=gz ha;have hm:=(hL.2.2.2 _ hi).1 c (by rw[he];exact h2);have:=D1 hm;have:=yL hL t a ha;omega
theorem I7 {M:List Int} (hn:M.Nodup) {F T:Int} (h:∀ x ∈ M,F≤x∧x≤T):M≠[]→(M.length:Int)≤T-F+1:=fun hne=>by
 have h1:(M.map fun x=>(x-F).toNat).Nodup:=by
  rw[List.Nodup,List.pairwise_map,List.pairwise_iff_getElem];intro i j hi hj hij;have a:=(List.pairwise_iff_getElem.1 hn) i j hi hj hij;have b1:=h _ (List.getElem_mem hi);have b2:=h _ (List.getElem_mem hj);have a:M[i]≠M[j]:=a;omega
 have h2:=eT h1 (M:=List.range (T-F+1).toNat) (fun y hy=>by
  obtain ⟨x,hx,rfl⟩:=List.mem_map.1 hy;have:=h x hx;rw[List.mem_range];omega)
 rw[List.length_map,List.length_range] at h2;obtain ⟨x,hx⟩:=List.exists_mem_of_ne_nil M hne;have:=h x hx;omega
theorem wM (hS:eN n W b) (hW:∀ c,c<n→0≤W (2*c)∧W (2*c+1)<n):kS (qB (eU n b W)) n n=none↔∃ L,L ∈ ro n (okW W (bI b)) n:=by
 have hl:=hS.len;have hqe:∀ c,c<n→qB (eU n b W) (2*c)=fC n b W n c∧qB (eU n b W) (2*c+1)=-fA n b W n c:=fun c hc=>by
  rw[Ho _ wO,Ho _ wO];unfold eU;rw[if_pos wO,if_pos wO,if_pos wO,if_neg wO,show 2*c / 2=c by omega,show (2*c+1) / 2=c by omega];exact ⟨rfl,rfl⟩
 have hlo:∀ c,W (2*c)≤fC n b W n c:=fun c=>by have:=lo_le (n:=n) (b:=b) (w:=W) 0 n c;rw[Nat.zero_add] at this;exact this
 have hhi:∀ c,-W (2*c+1)≤fA n b W n c:=fun c=>by have:=yK (n:=n) (b:=b) (w:=W) 0 n c;rw[Nat.zero_add] at this;exact this
 constructor
 · intro h;have hr:=JL h;obtain ⟨L,hL⟩:=Ht (B:=fun a c=>(b c).testBit a=true) hr (fun i hi=>by show 0≤qB _ (2*i);rw[(hqe i hi).1];have:=hlo i;have:=hW i hi;omega) (fun i hi=>by show qB _ (2*i+1) < _;rw[(hqe i hi).2];have:=hhi i;have:=hW i hi;omega) (fun a c ha hc hp=>by
    show qB _ (2*a)<qB _ (2*c)∧qB _ (2*a+1)<qB _ (2*c+1);rw[(hqe a ha).1,(hqe c hc).1,(hqe a ha).2,(hqe c hc).2];have:=GN (w:=W) hS.nob ha hc hp;have:=Kz (w:=W) hS.nob ha hc hp;omega)
   refine ⟨L,(fw hl hS.bef).2 ⟨hL.len,hL.nd,hL.lt,fun i hi=>⟨fun a ha=>?_,?_⟩⟩⟩
   · have hc:=hL.lt _ (List.getElem_mem hi);have han:a<n:=by
      refine Nat.lt_of_not_le fun hge=>?_;rw[Nat.testBit_lt_two_pow (Nat.lt_of_lt_of_le (hS.bef _ hc) (Nat.pow_le_pow_right wO hge))] at ha;cases ha
     obtain ⟨hj,he⟩:=gz (gb hL.nd hL.len hL.lt han);rcases Nat.lt_trichotomy (L.idxOf a) i with q | q | q
     · refine List.mem_iff_getElem.2 ⟨L.idxOf a,by rw[List.length_take];omega,?_⟩;rw[List.getElem_take];exact he
     · exfalso;have e:L[i]=a:=by rw[← he];congr 1;exact q.symm
       have:=GN (w:=W) hS.nob (a:=a) (c:=L[i]) han hc ha;rw[e] at this;omega
     · exact absurd (by rw[he];exact ha) (hL.pair i (L.idxOf a) hi hj q)
   · have hc:=hL.lt _ (List.getElem_mem hi);have:=hL.suit i hi;have h1:qB (eU n b W) (2*L[i])≤(i:Int):=this.1;have h2:(i:Int)≤qB (eU n b W) (2*L[i]+1):=this.2;rw[(hqe _ hc).1] at h1;rw[(hqe _ hc).2] at h2;have:=hlo L[i];have:=hhi L[i];omega
 · rintro ⟨L,hL⟩;have hL:=(fw hl hS.bef).1 hL;have hf:jX (fun x y=>∃ j k,j<n∧k<n∧x=qB (eU n b W) (2*j)∧y=qB (eU n b W) (2*k+1)∧ub (qB (eU n b W)) n x y=true) (kS (qB (eU n b W)) n n):=by
    rcases ua (qB (eU n b W)) n n with h1 | ⟨f,t,h1,h2⟩
    · exact h1
    · rw[h1];exact h2
   cases e:kS (qB (eU n b W)) n n with
   | none=>rfl
   | some v =>
     exfalso;obtain ⟨F,T⟩:=v;rw[e] at hf;obtain ⟨⟨j,k,hj,hk,_,_,hov⟩,_⟩:=hf;unfold ub at hov;rw[Bool.and_eq_true,decide_eq_true_iff,decide_eq_true_iff] at hov;have hm:∀ x ∈ dV (qB (eU n b W)) F T n,∃ c,c<n∧x=(c:Int)∧F≤(L.idxOf c:Int)∧(L.idxOf c:Int)≤T:=fun x hx=>by
      obtain ⟨c,h1,h2,h3⟩:=(rW _ _ _ _ _).1 hx;unfold x7 at h2;rw[Bool.and_eq_true,decide_eq_true_iff,decide_eq_true_iff,(hqe c h1).1,(hqe c h1).2] at h2;have hc:c ∈ L:=gb hL.2.1 hL.1 hL.2.2.1 h1;have:=za hL n c hc;have:=yL hL n c hc;exact ⟨c,h1,h3,by omega,by omega⟩
     have hnd:((dV (qB (eU n b W)) F T n).map fun x=>(L.idxOf x.toNat:Int)).Nodup:=by
      rw[List.Nodup,List.pairwise_map];refine (List.Pairwise.and_mem.1 (vX (qB (eU n b W)) F T n)).imp ?_;rintro x y ⟨hx,hy,hne⟩ he;obtain ⟨c,h1,rfl,_⟩:=hm x hx;obtain ⟨d,h2,rfl,_⟩:=hm y hy;rw[Int.toNat_natCast,Int.toNat_natCast] at he;obtain ⟨i1,e1⟩:=gz (gb hL.2.1 hL.1 hL.2.2.1 h1);obtain ⟨i2,e2⟩:=gz (gb hL.2.1 hL.1 hL.2.2.1 h2);have he:L.idxOf c=L.idxOf d:=by omega
      have:c=d:=by
       rw[← e1,← e2];congr 1
      exact hne (by rw[this])
     have:=I7 hnd (F:=F) (T:=T) (fun y hy=>by
      obtain ⟨x,hx,rfl⟩:=List.mem_map.1 hy;obtain ⟨c,_,rfl,h3⟩:=hm x hx;rw[Int.toNat_natCast];exact h3) (fun h0=>by
       have:=congrArg List.length h0;rw[List.length_map] at this;simp at this;rw[this] at hov;simp at hov)
     rw[List.length_map] at this;omega
end
end Go.Eng
end
section
namespace Go.Eng
open Go.Proofs Go.Eng.Gall
section
variable (n:Nat) (O:Int) (U:Nat) (Z:Nat→Int) (V:Nat) (J:Nat→Int) (H:aa)
end
end Go.Eng
end
section
namespace Go.Eng
open Go.Proofs Go.Eng.Gall
noncomputable def iM (r:Row) (a b:Int):bC:=⟨false,[(0,.row r),(0,.row (.I .i64 [a,b]))]⟩
end Go.Eng
end
section
namespace Go.Eng
open Go.Proofs Go.Eng.Gall
noncomputable def ya (O:Int) (U:Nat) (Z:Nat→Int) (V:Nat) (J:Nat→Int):Option (Int×Int):=kS (qB (eU U (fun c=>dq J c V) (bR O U Z))) U U
noncomputable def Tp (O:Int) (U:Nat) (Z:Nat→Int) (V:Nat) (J:Nat→Int):AV:=if ya O U Z V J=none then .tup [KU O U Z V J,.int .i64 (Int.ofNat 0)] else .tup [.nilp,.int .i64 (Int.ofNat 13)]
section
variable (n:Nat) (O:Int) (U:Nat) (Z:Nat→Int) (V:Nat) (J:Nat→Int) (H:aa) (r r2:Row) (a b:Int)
end
end Go.Eng
end
section
namespace Go.Eng
open Go.Proofs Go.Eng.Gall
end Go.Eng
end
section
namespace Go.Eng
open Go.Proofs Go.Eng.Gall
section
variable (n:Nat) (O:Int) (U:Nat) (Z:Nat→Int) (V:Nat) (J:Nat→Int) (H:aa) (a b:Nat)
theorem M7 {c f i:Nat} {H:aa} {r:Row} {v:AV} {H':aa} (hf:f=63∨f=65) (hr:c8 H 0 i 0=some r) (hh:Hx r=true) (h:cd c (.fn f) [.ptrT none r 0] [⟨true,[]⟩]=some (v,H')):gL (cd c) f [.ptr 0 i 0 0] H=some (Mg v,H):=by
 have e:PN (cd c) f [.ptr 0 i 0 0] H=some (Mg v,H):=by
  show (match c8 H 0 i 0 with
   | some r=>if (Hx r && [].all (tH 9))=true then (match cd c (.fn f) (.ptrT none r 0::[]) [⟨true,[]⟩] with
     | some (v,_)=>some (Mg v,H)
     | none=>none) else none
   | none=>none)=_
  rw[hr];dsimp only;rw[hh,h];rfl
 have e2:gL (cd c) f [.ptr 0 i 0 0] H=(match PN (cd c) f [.ptr 0 i 0 0] H with
  | some x=>some x
  | none=>tY [⟨15,[],.bool true⟩] (cd c) f [.ptr 0 i 0 0] H):=by rcases hf with rfl | rfl<;>rfl
 rw[e2,e]
end
end Go.Eng
end
section
namespace Go.Eng
open Go.Proofs Go.Eng.Gall Go.Eng.Q
section
variable {n:Nat} {g:Nat→Nat} {W:Nat→Int}
theorem tc {L:List Nat} (hn:L.Nodup) {i:Nat} (hi:i<L.length):L.idxOf L[i]=i:=by
 obtain ⟨hj,he⟩:=gz (List.getElem_mem hi);rcases Nat.lt_trichotomy (L.idxOf L[i]) i with q | q | q
 · exact absurd he ((List.pairwise_iff_getElem.1 hn) _ _ hj hi q)
 · exact q
 · exact absurd he.symm ((List.pairwise_iff_getElem.1 hn) _ _ hi hj q)
end
end Go.Eng
end
section
namespace Go.Eng
open Go.Proofs Go.Eng.Gall Go.Eng.Q
section
variable {O:Int} {U:Nat} {Z:Nat→Int} {V:Nat} {J zb2:Nat→Int} {a b:Nat}
end
end Go.Eng
end
section
namespace Go.Eng
open Go.Proofs Go.Eng.Gall Go.Eng.Q
section
variable {O:Int} {U:Nat} {Z:Nat→Int} {V:Nat} {J:Nat→Int} {a b:Nat}
theorem pX (c:Nat) (hc:c<U):0≤bR O U Z (2*c)∧bR O U Z (2*c+1)<U:=by
 unfold bR;rw[if_pos wO,if_pos wO,if_pos wO,if_neg wO];omega
theorem MV (h0:dm O U Z V J=0):ya O U Z V J=none↔¬ cntF U (bR O U Z) (gv V J)=0:=by
 obtain ⟨h1,h2,h3,h4,h5,h6⟩:=kr h0;have hi:=wM (Ca O U Z V J h1.2 h3 h4 h5 h6) pX;unfold ya;rw[hi];unfold cntF;constructor
 · rintro ⟨L,hL⟩ h;rw[show gv V J=bI (fun c=>dq J c V) from rfl] at h;rw[List.eq_nil_of_length_eq_zero (show (ro U (okW (bR O U Z) (bI (fun c=>dq J c V))) U).length=0 by omega)] at hL;cases hL
 · intro h;rw[show gv V J=bI (fun c=>dq J c V) from rfl] at h;cases e:ro U (okW (bR O U Z) (bI (fun c=>dq J c V))) U with
   | nil=>rw[e] at h;exact absurd rfl h
   | cons L l=>exact ⟨L,by simp⟩
end
end Go.Eng
end
