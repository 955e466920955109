/- Gall: a right block: the outer loop, trees. -/
import Derived.Test.YtgphpjdchnfjlaaDoorV6Gbbx5
set_option linter.unusedVariables false
set_option linter.unusedSimpArgs false
set_option maxRecDepth 100000
section
namespace Go.Eng
open Int (ofNat)
open Go.Proofs Go.Eng.Gall
noncomputable def A5 (R:Row) (U:Nat) (i k:Int):aE:=[(0,.ptrT none R 0),(2,.ptr 0 0 0 0),(4,.ptr 0 1 0 0),(5,.ptr 0 2 0 0),(6,.bool true),(7,.int .i64 i),(9,.ptr 0 3 0 0),(19,.int .i64 (ofNat U)),(20,.int .i64 i),(28,.int .i64 (ofNat U)),(29,.int .i64 k),(87,.bool true)]
theorem Ox (n:Nat) (O:Int) (U:Nat) (Z:Nat→Int) (V:Nat) (J:Nat→Int) (W B:Nat→Int) (H:aa) (q:Nat→Int) (i k:Int):aJ (bP n 65 128) (il aM n 0) (gb aV 4) aR (part Tryd.f65 [1,0,1,1,1,1,0,1,0,0,1,1,0,0,1,1,0,0]) (hints (im (shR O U Z V J W B) false U i k)) (eZ q (ofNat 0) (ofNat 0) .nils::H) =
 Tr.ite (bQ k (ofNat U)) (Tr.req (bL i 10) (Tr.req (aU 0 0) (Tr.req (bt (au 0 i 2) 20) (Tr.req (bL k 10) (Tr.req (aU 0 0) (Tr.req (bt (ah (au 0 k 2) 1) 20) (Tr.req (bC (bH 0 0) (bH 0 1)) Tr.bad))))))) (Tr.ok (Ex.exit 2,[(0,shV O U Z V J W B,none),(2,AV.ptr 0 0 0 0,none),(4,AV.ptr 0 1 0 0,none),(5,AV.ptr 0 2 0 0,none),(6,AV.bool false,none),(7,AV.int .i64 i,none),(19,iI U,none),(20,AV.int .i64 i,none),(28,iI U,none),(29,AV.int .i64 k,none),(30,AV.bool false,some 1)],(bO [(0,ao.row (Row.G [iI 0,iI 0,AV.nils])),(0,ao.row (rM q 20)),(0,ao.row (Row.G [iI 0,iI 0,AV.nils]))])::H)):=by kernel_rfl
theorem Oy (n:Nat) (O:Int) (U:Nat) (Z:Nat→Int) (V:Nat) (J:Nat→Int) (W B:Nat→Int) (H:aa) (q:Nat→Int) (i k:Int) (f t:Int) (m:Nat) (y:Nat→Int):aJ (bP n 65 128) (il aM n 0) (gb aV 4) aR (part Tryd.f65 [1,0,1,1,1,1,0,1,0,0,1,1,0,0,1,1,0,0]) (hints (im (shR O U Z V J W B) true U i k)) (eZ q f t (bk m y false)::H) =
 Tr.ite (bQ k (ofNat U)) (Tr.req (bL i 10) (Tr.req (aU 0 0) (Tr.req (bt (au 0 i 2) 20) (Tr.req (bL k 10) (Tr.req (aU 0 0) (Tr.req (bt (ah (au 0 k 2) 1) 20) (Tr.req (bC (bH 0 0) (bH 0 1)) Tr.bad))))))) (Tr.ok (Ex.exit 2,[(0,shV O U Z V J W B,none),(2,AV.ptr 0 0 0 0,none),(4,AV.ptr 0 1 0 0,none),(5,AV.ptr 0 2 0 0,none),(6,AV.bool true,none),(7,AV.int .i64 i,none),(19,iI U,none),(20,AV.int .i64 i,none),(28,iI U,none),(29,AV.int .i64 k,none),(30,AV.bool false,some 1)],(bO [(0,ao.row (Row.G [iI 0,iI 0,AV.nils])),(0,ao.row (rM q 20)),(0,ao.row (Row.G [AV.int .i64 f,AV.int .i64 t,bk m y false]))])::H)):=by kernel_rfl
theorem OV (n:Nat) (O:Int) (U:Nat) (Z:Nat→Int) (V:Nat) (J:Nat→Int) (W B:Nat→Int) (H:aa) (q:Nat→Int) (i:Int):aJ (bP n 65 128) (il aM n 0) (c9 aV 2 (im (shR O U Z V J W B) false U i (ofNat 0)) (eZ q (ofNat 0) (ofNat 0) .nils::H) (.ok (.normal,hints (im (shR O U Z V J W B) false U i (ofNat U)++[(30,.bool false)]),eZ q (ofNat 0) (ofNat 0) .nils::H))) aR (part Tryd.f65 [1,0,1,1,1,1,0,1,0,0]) (hints (lf (shR O U Z V J W B) false U i)) (eZ q (ofNat 0) (ofNat 0) .nils::H) =
 (fun (Z0:bK)=>((fun (Z1:aE)=>Tr.ite (bQ i (ofNat U)) (Tr.reqP (Z1=Z1∧Z0::H=Z0::H) (Tr.ok (Ex.normal,[(0,shV O U Z V J W B,none),(2,AV.ptr 0 0 0 0,none),(4,AV.ptr 0 1 0 0,none),(5,AV.ptr 0 2 0 0,none),(6,AV.bool false,none),(19,iI U,none),(20,AV.int .i64 (bh .i64 i (ofNat 1)),none)],Z0::H))) (Tr.ok (Ex.exit 0,[(0,shV O U Z V J W B,none),(2,AV.ptr 0 0 0 0,none),(4,AV.ptr 0 1 0 0,none),(5,AV.ptr 0 2 0 0,none),(6,AV.bool false,none),(19,iI U,none),(20,AV.int .i64 i,none),(21,AV.bool false,some 1)],Z0::H))) [(0,shV O U Z V J W B),(2,AV.ptr 0 0 0 0),(4,AV.ptr 0 1 0 0),(5,AV.ptr 0 2 0 0),(6,AV.bool false),(7,AV.int .i64 i),(19,iI U),(20,AV.int .i64 i),(28,iI U),(29,iI 0)])) (bO [(0,ao.row (Row.G [iI 0,iI 0,AV.nils])),(0,ao.row (rM q 20)),(0,ao.row (Row.G [iI 0,iI 0,AV.nils]))]):=by kernel_rfl
theorem OW (n:Nat) (O:Int) (U:Nat) (Z:Nat→Int) (V:Nat) (J:Nat→Int) (W B:Nat→Int) (H:aa) (q:Nat→Int) (i:Int) (f2 t2:Int) (m2:Nat) (y2:Nat→Int):aJ (bP n 65 128) (il aM n 0) (c9 aV 2 (im (shR O U Z V J W B) false U i (ofNat 0)) (eZ q (ofNat 0) (ofNat 0) .nils::H) (.ok (.normal,hints (im (shR O U Z V J W B) true U i (ofNat U)++[(30,.bool false)]),eZ q f2 t2 (bk m2 y2 false)::H))) aR (part Tryd.f65 [1,0,1,1,1,1,0,1,0,0]) (hints (lf (shR O U Z V J W B) false U i)) (eZ q (ofNat 0) (ofNat 0) .nils::H) =
 (fun (Z0:bK)=>((fun (Z1:aE)=>Tr.ite (bQ i (ofNat U)) (Tr.reqP (Z1=Z1∧Z0::H=Z0::H) (Tr.ok (Ex.normal,[(0,shV O U Z V J W B,none),(2,AV.ptr 0 0 0 0,none),(4,AV.ptr 0 1 0 0,none),(5,AV.ptr 0 2 0 0,none),(6,AV.bool true,none),(19,iI U,none),(20,AV.int .i64 (bh .i64 i (ofNat 1)),none)],(bO [(0,ao.row (Row.G [iI 0,iI 0,AV.nils])),(0,ao.row (rM q 20)),(0,ao.row (Row.G [AV.int .i64 f2,AV.int .i64 t2,bk m2 y2 false]))])::H))) (Tr.ok (Ex.exit 0,[(0,shV O U Z V J W B,none),(2,AV.ptr 0 0 0 0,none),(4,AV.ptr 0 1 0 0,none),(5,AV.ptr 0 2 0 0,none),(6,AV.bool false,none),(19,iI U,none),(20,AV.int .i64 i,none),(21,AV.bool false,some 1)],Z0::H))) [(0,shV O U Z V J W B),(2,AV.ptr 0 0 0 0),(4,AV.ptr 0 1 0 0),(5,AV.ptr 0 2 0 0),(6,AV.bool false),(7,AV.int .i64 i),(19,iI U),(20,AV.int .i64 i),(28,iI U),(29,iI 0)])) (bO [(0,ao.row (Row.G [iI 0,iI 0,AV.nils])),(0,ao.row (rM q 20)),(0,ao.row (Row.G [iI 0,iI 0,AV.nils]))]):=by kernel_rfl
theorem OY (n:Nat) (O:Int) (U:Nat) (Z:Nat→Int) (V:Nat) (J:Nat→Int) (W B:Nat→Int) (H:aa) (q:Nat→Int) (i:Int) (f t:Int) (m:Nat) (y:Nat→Int) (f2 t2:Int) (m2:Nat) (y2:Nat→Int):aJ (bP n 65 128) (il aM n 0) (c9 aV 2 (im (shR O U Z V J W B) true U i (ofNat 0)) (eZ q f t (bk m y false)::H) (.ok (.normal,hints (im (shR O U Z V J W B) true U i (ofNat U)++[(30,.bool false)]),eZ q f2 t2 (bk m2 y2 false)::H))) aR (part Tryd.f65 [1,0,1,1,1,1,0,1,0,0]) (hints (lf (shR O U Z V J W B) true U i)) (eZ q f t (bk m y false)::H) =
 (fun (Z0:bK)=>((fun (Z1:aE)=>Tr.ite (bQ i (ofNat U)) (Tr.reqP (Z1=Z1∧Z0::H=Z0::H) (Tr.ok (Ex.normal,[(0,shV O U Z V J W B,none),(2,AV.ptr 0 0 0 0,none),(4,AV.ptr 0 1 0 0,none),(5,AV.ptr 0 2 0 0,none),(6,AV.bool true,none),(19,iI U,none),(20,AV.int .i64 (bh .i64 i (ofNat 1)),none)],(bO [(0,ao.row (Row.G [iI 0,iI 0,AV.nils])),(0,ao.row (rM q 20)),(0,ao.row (Row.G [AV.int .i64 f2,AV.int .i64 t2,bk m2 y2 false]))])::H))) (Tr.ok (Ex.exit 0,[(0,shV O U Z V J W B,none),(2,AV.ptr 0 0 0 0,none),(4,AV.ptr 0 1 0 0,none),(5,AV.ptr 0 2 0 0,none),(6,AV.bool true,none),(19,iI U,none),(20,AV.int .i64 i,none),(21,AV.bool false,some 1)],Z0::H))) [(0,shV O U Z V J W B),(2,AV.ptr 0 0 0 0),(4,AV.ptr 0 1 0 0),(5,AV.ptr 0 2 0 0),(6,AV.bool true),(7,AV.int .i64 i),(19,iI U),(20,AV.int .i64 i),(28,iI U),(29,iI 0)])) (bO [(0,ao.row (Row.G [iI 0,iI 0,AV.nils])),(0,ao.row (rM q 20)),(0,ao.row (Row.G [AV.int .i64 f,AV.int .i64 t,bk m y false]))]):=by kernel_rfl
theorem OZ (n:Nat) (O:Int) (U:Nat) (Z:Nat→Int) (V:Nat) (J:Nat→Int) (W B:Nat→Int) (H:aa) (q:Nat→Int) (i:Int) (f t:Int) (m:Nat) (y:Nat→Int) (F T:Int):aJ (bP n 65 128) (il aM n 0) (c9 aV 2 (im (shR O U Z V J W B) true U i (ofNat 0)) (eZ q f t (bk m y false)::H) (.ok (.exit 1,hints (A5 (shR O U Z V J W B) U i (ofNat 0)),yF q f t (bk m y false) F T::H))) aR (part Tryd.f65 [1,0,1,1,1,1,0,1,0,0]) (hints (lf (shR O U Z V J W B) true U i)) (eZ q f t (bk m y false)::H) =
 (fun (Z0:bK)=>((fun (Z1:aE)=>Tr.ite (bQ i (ofNat U)) (Tr.reqP (Z1=Z1∧Z0::H=Z0::H) (Tr.ok (Ex.normal,[(0,shV O U Z V J W B,none),(2,AV.ptr 0 0 0 0,none),(4,AV.ptr 0 1 0 0,none),(5,AV.ptr 0 2 0 0,none),(6,AV.bool true,none),(19,iI U,none),(20,AV.int .i64 (bh .i64 i (ofNat 1)),none)],(bO [(0,ao.row (Row.G [iI 0,iI 0,AV.nils])),(0,ao.row (rM q 20)),(0,ao.row (Row.G [AV.int .i64 f,AV.int .i64 t,bk m y false])),(0,ao.row (Row.G [AV.int .i64 F,AV.int .i64 T,AV.nils]))])::H))) (Tr.ok (Ex.exit 0,[(0,shV O U Z V J W B,none),(2,AV.ptr 0 0 0 0,none),(4,AV.ptr 0 1 0 0,none),(5,AV.ptr 0 2 0 0,none),(6,AV.bool true,none),(19,iI U,none),(20,AV.int .i64 i,none),(21,AV.bool false,some 1)],Z0::H))) [(0,shV O U Z V J W B),(2,AV.ptr 0 0 0 0),(4,AV.ptr 0 1 0 0),(5,AV.ptr 0 2 0 0),(6,AV.bool true),(7,AV.int .i64 i),(19,iI U),(20,AV.int .i64 i),(28,iI U),(29,iI 0)])) (bO [(0,ao.row (Row.G [iI 0,iI 0,AV.nils])),(0,ao.row (rM q 20)),(0,ao.row (Row.G [AV.int .i64 f,AV.int .i64 t,bk m y false]))]):=by kernel_rfl
theorem O0 (n:Nat) (O:Int) (U:Nat) (Z:Nat→Int) (V:Nat) (J:Nat→Int) (W B:Nat→Int) (H:aa) (q:Nat→Int) (i:Int) (f t:Int) (m:Nat) (y:Nat→Int) (F T:Int) (g:Nat) (x:Nat→Int):aJ (bP n 65 128) (il aM n 0) (c9 aV 2 (im (shR O U Z V J W B) true U i (ofNat 0)) (eZ q f t (bk m y false)::H) (.ok (.exit 1,hints (A5 (shR O U Z V J W B) U i (ofNat 0)),Bp q f t (bk m y false) F T g x::H))) aR (part Tryd.f65 [1,0,1,1,1,1,0,1,0,0]) (hints (lf (shR O U Z V J W B) true U i)) (eZ q f t (bk m y false)::H) =
 (fun (Z0:bK)=>((fun (Z1:aE)=>Tr.ite (bQ i (ofNat U)) (Tr.reqP (Z1=Z1∧Z0::H=Z0::H) (Tr.ok (Ex.normal,[(0,shV O U Z V J W B,none),(2,AV.ptr 0 0 0 0,none),(4,AV.ptr 0 1 0 0,none),(5,AV.ptr 0 2 0 0,none),(6,AV.bool true,none),(19,iI U,none),(20,AV.int .i64 (bh .i64 i (ofNat 1)),none)],(bO [(0,ao.row (Row.G [iI 0,iI 0,AV.nils])),(0,ao.row (rM q 20)),(0,ao.row (Row.G [AV.int .i64 f,AV.int .i64 t,bk m y false])),(0,ao.row (Row.G [AV.int .i64 F,AV.int .i64 T,AV.slc 0 4 0 0 1 g none])),(0,ao.row (rM x g))])::H))) (Tr.ok (Ex.exit 0,[(0,shV O U Z V J W B,none),(2,AV.ptr 0 0 0 0,none),(4,AV.ptr 0 1 0 0,none),(5,AV.ptr 0 2 0 0,none),(6,AV.bool true,none),(19,iI U,none),(20,AV.int .i64 i,none),(21,AV.bool false,some 1)],Z0::H))) [(0,shV O U Z V J W B),(2,AV.ptr 0 0 0 0),(4,AV.ptr 0 1 0 0),(5,AV.ptr 0 2 0 0),(6,AV.bool true),(7,AV.int .i64 i),(19,iI U),(20,AV.int .i64 i),(28,iI U),(29,iI 0)])) (bO [(0,ao.row (Row.G [iI 0,iI 0,AV.nils])),(0,ao.row (rM q 20)),(0,ao.row (Row.G [AV.int .i64 f,AV.int .i64 t,bk m y false]))]):=by kernel_rfl
theorem OU (n:Nat) (O:Int) (U:Nat) (Z:Nat→Int) (V:Nat) (J:Nat→Int) (W B:Nat→Int) (H:aa) (q:Nat→Int) (i:Int):aJ (bP n 65 128) (il aM n 0) (gb aV 2) aR (part Tryd.f65 [1,0,1,1,1,1,0,1,0,0]) (hints (lf (shR O U Z V J W B) false U i)) (eZ q (ofNat 0) (ofNat 0) .nils::H) =
 Tr.ite (bQ i (ofNat U)) Tr.bad (Tr.ok (Ex.exit 0,[(0,shV O U Z V J W B,none),(2,AV.ptr 0 0 0 0,none),(4,AV.ptr 0 1 0 0,none),(5,AV.ptr 0 2 0 0,none),(6,AV.bool false,none),(19,iI U,none),(20,AV.int .i64 i,none),(21,AV.bool false,some 1)],(bO [(0,ao.row (Row.G [iI 0,iI 0,AV.nils])),(0,ao.row (rM q 20)),(0,ao.row (Row.G [iI 0,iI 0,AV.nils]))])::H)):=by kernel_rfl
theorem OX (n:Nat) (O:Int) (U:Nat) (Z:Nat→Int) (V:Nat) (J:Nat→Int) (W B:Nat→Int) (H:aa) (q:Nat→Int) (i:Int) (f t:Int) (m:Nat) (y:Nat→Int):aJ (bP n 65 128) (il aM n 0) (gb aV 2) aR (part Tryd.f65 [1,0,1,1,1,1,0,1,0,0]) (hints (lf (shR O U Z V J W B) true U i)) (eZ q f t (bk m y false)::H) =
 Tr.ite (bQ i (ofNat U)) Tr.bad (Tr.ok (Ex.exit 0,[(0,shV O U Z V J W B,none),(2,AV.ptr 0 0 0 0,none),(4,AV.ptr 0 1 0 0,none),(5,AV.ptr 0 2 0 0,none),(6,AV.bool true,none),(19,iI U,none),(20,AV.int .i64 i,none),(21,AV.bool false,some 1)],(bO [(0,ao.row (Row.G [iI 0,iI 0,AV.nils])),(0,ao.row (rM q 20)),(0,ao.row (Row.G [AV.int .i64 f,AV.int .i64 t,bk m y false]))])::H)):=by kernel_rfl
theorem SY (n:Nat) (O:Int) (U:Nat) (Z:Nat→Int) (V:Nat) (J:Nat→Int) (W B:Nat→Int) (H:aa) (q:Nat→Int) (r:Nat→Int):bz Tryd.prog (cd n) 100000 65 Tryd.f65 (KtG.kt 65) (il (tX aM 56 [shV O U Z V J W B] (.agg (.M [.arr .i64 r 20]))) n 0) (c9 aV 0 (lf (shR O U Z V J W B) false U (ofNat 0)) (eZ (nz (fun x=>ofNat 0) 0 r 20) (ofNat 0) (ofNat 0) .nils::H) (.ok (.normal,hints (lf (shR O U Z V J W B) false U (ofNat U)++[(21,.bool false)]),eZ q (ofNat 0) (ofNat 0) .nils::H))) aR [(shV O U Z V J W B,none)] H =
 (fun (Z0:bK)=>((fun (Z1:aE)=>Tr.reqP ([shV O U Z V J W B]=[shV O U Z V J W B]) (Tr.req (dX 0 20 0 20) (Tr.reqP (Z1=Z1∧Z0::H=Z0::H) (Tr.ok ((AV.tup [AV.agg (Row.G [iI 0,iI 0,AV.nils]),AV.bool false],none),H))))) [(0,shV O U Z V J W B),(2,AV.ptr 0 0 0 0),(4,AV.ptr 0 1 0 0),(5,AV.ptr 0 2 0 0),(6,AV.bool false),(19,iI U),(20,iI 0)])) (bO [(0,ao.row (Row.G [iI 0,iI 0,AV.nils])),(0,ao.row (rM (nz (fun x=>ofNat 0) 0 r 20) 20)),(0,ao.row (Row.G [iI 0,iI 0,AV.nils]))]):=by kernel_rfl
theorem SZ (n:Nat) (O:Int) (U:Nat) (Z:Nat→Int) (V:Nat) (J:Nat→Int) (W B:Nat→Int) (H:aa) (q:Nat→Int) (r:Nat→Int) (f2 t2:Int) (m2:Nat) (y2:Nat→Int):bz Tryd.prog (cd n) 100000 65 Tryd.f65 (KtG.kt 65) (il (tX aM 56 [shV O U Z V J W B] (.agg (.M [.arr .i64 r 20]))) n 0) (c9 aV 0 (lf (shR O U Z V J W B) false U (ofNat 0)) (eZ (nz (fun x=>ofNat 0) 0 r 20) (ofNat 0) (ofNat 0) .nils::H) (.ok (.normal,hints (lf (shR O U Z V J W B) true U (ofNat U)++[(21,.bool false)]),eZ q f2 t2 (bk m2 y2 false)::H))) aR [(shV O U Z V J W B,none)] H =
 (fun (Z0:bK)=>((fun (Z1:aE)=>Tr.reqP ([shV O U Z V J W B]=[shV O U Z V J W B]) (Tr.req (dX 0 20 0 20) (Tr.reqP (Z1=Z1∧Z0::H=Z0::H) (Tr.ok ((AV.tup [AV.agg (Row.G [AV.int .i64 f2,AV.int .i64 t2,bk m2 y2 false]),AV.bool true],none),H))))) [(0,shV O U Z V J W B),(2,AV.ptr 0 0 0 0),(4,AV.ptr 0 1 0 0),(5,AV.ptr 0 2 0 0),(6,AV.bool false),(19,iI U),(20,iI 0)])) (bO [(0,ao.row (Row.G [iI 0,iI 0,AV.nils])),(0,ao.row (rM (nz (fun x=>ofNat 0) 0 r 20) 20)),(0,ao.row (Row.G [iI 0,iI 0,AV.nils]))]):=by kernel_rfl
end Go.Eng
end
section
namespace Go.Eng
open Int (ofNat)
open Go.Proofs Go.Eng.Gall
theorem JZ:∀ b,(0,b) ∈ aO (a7 Tryd.f65)→b=.loop (part Tryd.f65 [1,0,1,1,1,1,0,1,0,0]):=eP (by kernel_rfl)
theorem xS:∀ b,(2,b) ∈ aO (part Tryd.f65 [1,0,1,1,1,1,0,1,0,0])→b=.loop (part Tryd.f65 [1,0,1,1,1,1,0,1,0,0,1,1,0,0,1,1,0,0]):=eP (by kernel_rfl)
theorem Cc (q:Nat→Int) (U:Nat) (F:Int) (v:Int×Int):∀ k,xH q U F (some v) k≠none
 | 0=>by intro h;cases h
 | k+1=>by
   unfold xH EJ;split
   · intro h;cases h
   · exact Cc q U F v k
section
variable (n:Nat) (O:Int) (U:Nat) (Z:Nat→Int) (V:Nat) (J:Nat→Int) (W B:Nat→Int) (H:aa) (q:Nat→Int)
theorem Ol (b:Option (Int×Int)):aX (tk q U b::H)=3:=by cases b<;>rfl
theorem Ru (hl:U≤10) (hq:∀ j,j<2*U→-1000000≤q j∧q j≤1000000) (i:Nat) (hi:i<U) (b:Option (Int×Int)) (hb:ET b (q (2*i))=false) :
 exec (bP n 65 128) (.block 2 (.loop (part Tryd.f65 [1,0,1,1,1,1,0,1,0,0,1,1,0,0,1,1,0,0]))) (im (shR O U Z V J W B) b.isSome U i (ofNat 0)) (tk q U b::H)=some (.normal,im (shR O U Z V J W B) (xH q U (q (2*i)) b U).isSome U i (ofNat U)++[(30,.bool false)],tk q U (xH q U (q (2*i)) b U)::H):=by
 refine jY (n:=n) (f:=65) (nt:=128) (c:=part Tryd.f65 [1,0,1,1,1,1,0,1,0,0,1,1,0,0,1,1,0,0]) 2 (fun k=>im (shR O U Z V J W B) (xH q U (q (2*i)) b k).isSome U i (k:Int)) (fun k=>tk q U (xH q U (q (2*i)) b k)::H) U (im (shR O U Z V J W B) (xH q U (q (2*i)) b U).isSome U i (ofNat U)++[(30,.bool false)],tk q U (xH q U (q (2*i)) b U)::H) wO (fun k hk=>?_) ?_
 · rw[Ol]
   exact Ss n O U Z V J W B H q hl hq i k hi hk (xH q U (q (2*i)) b k) (Ge hb k)
 · generalize xH q U (q (2*i)) b U=c
   cases c with
   | none =>
     obtain ⟨x,h1,rfl⟩:=aI (Q:=fun x=>x=(.exit 2,im (shR O U Z V J W B) false U i (ofNat U)++[(30,.bool false)],tk q U none::H)) (Ox n O U Z V J W B H q i (ofNat U)) (aA _) (cY (aj _ _) 4) (ak _ _) (by
      refine Tr.af wJ (fun h0=>Tr.ai rfl))
     exact h1
   | some v =>
     obtain ⟨f,t⟩:=v
     obtain ⟨x,h1,rfl⟩:=aI (Q:=fun x=>x=(.exit 2,im (shR O U Z V J W B) true U i (ofNat U)++[(30,.bool false)],tk q U (some (f,t))::H)) (Oy n O U Z V J W B H q i (ofNat U) f t (dR q f t U).length (ar (dR q f t U))) (aA _) (cY (aj _ _) 4) (ak _ _) (by
      refine Tr.af wJ (fun h0=>Tr.ai rfl))
     exact h1
noncomputable def FL (q:Nat→Int) (U:Nat) (f t F T:Int):bK:=Ep q f t (bk (dR q f t U).length (ar (dR q f t U)) false) F T (dR q F T U)
theorem Rx (hl:U≤10) (hq:∀ j,j<2*U→-1000000≤q j∧q j≤1000000) (i:Nat) (hi:i<U) (f t:Int) (hb:f<q (2*i)) :
 exec (bP n 65 128) (.block 2 (.loop (part Tryd.f65 [1,0,1,1,1,1,0,1,0,0,1,1,0,0,1,1,0,0]))) (im (shR O U Z V J W B) true U i (ofNat 0)) (tk q U (some (f,t))::H)=some (.exit 1,A5 (shR O U Z V J W B) U i (ofNat 0),FL q U f t (q (2*i)) (q 1)::H):=by
 have ei:au 0 (i:Int) 2=2*i:=by rw[bN];omega
 have ek:au 0 (ofNat 0) 2=0:=by rw[bN];rfl
 have hb2:decide (f<q (2*i))=true:=decide_eq_true hb
 have hx:exec (bP n 65 128) (part Tryd.f65 [1,0,1,1,1,1,0,1,0,0,1,1,0,0,1,1,0,0]) (im (shR O U Z V J W B) true U i (ofNat 0)) (tk q U (some (f,t))::H)=some (.exit 1,A5 (shR O U Z V J W B) U i (ofNat 0),FL q U f t (q (2*i)) (q 1)::H):=by
  have hlp:=OB n H q (shR O U Z V J W B) true f t (dR q f t U).length (ar (dR q f t U)) U i (ofNat 0) (q (2*i)) (q 1) hl;cases hS:dR q (q (2*i)) (q 1) U with
  | nil =>
    rw[hS] at hlp;have e:FL q U f t (q (2*i)) (q 1)=yF q f t (bk (dR q f t U).length (ar (dR q f t U)) false) (q (2*i)) (q 1):=by unfold FL;rw[hS];rfl
    rw[e];have T0:=Kd n O U Z V J W B H q i (ofNat 0) f t (dR q f t U).length (ar (dR q f t U));rw[ei,ek,aF,Nat.zero_add] at T0;obtain ⟨x,h1,rfl⟩:=aI (Q:=fun x=>x=(.exit 1,A5 (shR O U Z V J W B) U i (ofNat 0),yF q f t (bk (dR q f t U).length (ar (dR q f t U)) false) (q (2*i)) (q 1)::H)) T0 (aA _) (bf (aj _ _) vt (fun x hx=>fp hx (by simp only[eD.st,aP];exact hlp))) (ak _ _) (by
     refine Tr.af (fun h0=>?_) wJ;exact Tr.ae wG (Tr.ae wG (Tr.ae wG (Tr.ae wG (Tr.ae wG (Tr.ae wG (Tr.ae wG (Tr.an ⟨rfl,rfl⟩ (Tr.af (fun _=>Tr.af (fun _=>Tr.ai rfl) (fun h=>by rw[bY,hb2] at h;cases h)) (fun h=>by cases h))))))))))
    exact h1
  | cons a r =>
    rw[hS] at hlp;have e:FL q U f t (q (2*i)) (q 1)=Bp q f t (bk (dR q f t U).length (ar (dR q f t U)) false) (q (2*i)) (q 1) (r.length+1) (ar (a::r)):=by unfold FL;rw[hS];rfl
    rw[e];have T0:=Ke n O U Z V J W B H q i (ofNat 0) f t (dR q f t U).length (ar (dR q f t U)) (r.length+1) (ar (a::r));rw[ei,ek,aF,Nat.zero_add] at T0;obtain ⟨x,h1,rfl⟩:=aI (Q:=fun x=>x=(.exit 1,A5 (shR O U Z V J W B) U i (ofNat 0),Bp q f t (bk (dR q f t U).length (ar (dR q f t U)) false) (q (2*i)) (q 1) (r.length+1) (ar (a::r))::H)) T0 (aA _) (bf (aj _ _) vt (fun x hx=>fp hx (by simp only[eD.st,aP];exact hlp))) (ak _ _) (by
     refine Tr.af (fun h0=>?_) wJ;exact Tr.ae wG (Tr.ae wG (Tr.ae wG (Tr.ae wG (Tr.ae wG (Tr.ae wG (Tr.ae wG (Tr.an ⟨rfl,rfl⟩ (Tr.af (fun _=>Tr.af (fun _=>Tr.ai rfl) (fun h=>by rw[bY,hb2] at h;cases h)) (fun h=>by cases h))))))))))
    exact h1
 exact dp (fun id' h=>by cases h;rfl) (iU (body:=exec (bP n 65 128) (part Tryd.f65 [1,0,1,1,1,1,0,1,0,0,1,1,0,0,1,1,0,0])) (n:=aX (tk q U (some (f,t))::H)) (fun _=>im (shR O U Z V J W B) true U i (ofNat 0)) (fun _=>tk q U (some (f,t))::H) 0 (fun _=>false) (fun _=>(.exit 1,A5 (shR O U Z V J W B) U i (ofNat 0),FL q U f t (q (2*i)) (q 1)::H)) (fun j h=>absurd h (Nat.not_lt_zero j)) (fun j h=>absurd h (Nat.not_lt_zero j)) ⟨hx,by simp⟩ 0 0 100000 rfl wO)
theorem Su (hl:U≤10) (hq:∀ j,j<2*U→-1000000≤q j∧q j≤1000000) (i:Nat) (hi:i<U) :
 ∃ x,exec (bP n 65 128) (part Tryd.f65 [1,0,1,1,1,1,0,1,0,0]) (lf (shR O U Z V J W B) (lF q U i).isSome U i) (tk q U (lF q U i)::H)=some x∧x.1=.normal∧tidy 3 x.2.1 x.2.2=(lf (shR O U Z V J W B) (lF q U (i+1)).isSome U ((i+1:Nat):Int),tk q U (lF q U (i+1))::H):=by
 have e1:bh .i64 (i:Int) (ofNat 1)=((i+1:Nat):Int):=fI wO
 have eo:lF q U (i+1)=if ET (lF q U i) (q (2*i))=true then lF q U i else xH q U (q (2*i)) (lF q U i) U:=rfl
 rw[eo]
 by_cases hg:ET (lF q U i) (q (2*i))=true
 · rw[if_pos hg]
   generalize lF q U i=b at *
   cases b with
   | none=>cases hg
   | some v =>
     obtain ⟨f,t⟩:=v
     have hx:=Rx n O U Z V J W B H q hl hq i hi f t (of_decide_eq_true hg)
     cases hS:dR q (q (2*i)) (q 1) U with
     | nil =>
       have e:FL q U f t (q (2*i)) (q 1)=yF q f t (bk (dR q f t U).length (ar (dR q f t U)) false) (q (2*i)) (q 1):=by unfold FL;rw[hS];rfl
       rw[e] at hx
       have T0:=OZ n O U Z V J W B H q i f t (dR q f t U).length (ar (dR q f t U)) (q (2*i)) (q 1)
       rw[e1] at T0
       refine aI T0 (aA _) (bf (aj _ _) xS (fun x h=>fp h (by simp only[eD.st,aP];exact hx))) (ak _ _) ?_
       exact Tr.af (fun h0=>Tr.an ⟨rfl,rfl⟩ (Tr.ai ⟨rfl,rfl⟩)) wJ
     | cons a r =>
       have e:FL q U f t (q (2*i)) (q 1)=Bp q f t (bk (dR q f t U).length (ar (dR q f t U)) false) (q (2*i)) (q 1) (r.length+1) (ar (a::r)):=by unfold FL;rw[hS];rfl
       rw[e] at hx
       have T0:=O0 n O U Z V J W B H q i f t (dR q f t U).length (ar (dR q f t U)) (q (2*i)) (q 1) (r.length+1) (ar (a::r))
       rw[e1] at T0
       refine aI T0 (aA _) (bf (aj _ _) xS (fun x h=>fp h (by simp only[eD.st,aP];exact hx))) (ak _ _) ?_
       exact Tr.af (fun h0=>Tr.an ⟨rfl,rfl⟩ (Tr.ai ⟨rfl,rfl⟩)) wJ
 · rw[if_neg hg]
   have hg:ET (lF q U i) (q (2*i))=false:=by simpa using hg
   have hx:=Ru n O U Z V J W B H q hl hq i hi _ hg
   generalize hc:xH q U (q (2*i)) (lF q U i) U=c at *
   generalize lF q U i=b at *
   cases b with
   | none =>
     cases c with
     | none =>
       have T0:=OV n O U Z V J W B H q i
       rw[e1] at T0
       refine aI T0 (aA _) (bf (aj _ _) xS (fun x h=>fp h (by simp only[eD.st,aP];exact hx))) (ak _ _) ?_
       exact Tr.af (fun h0=>Tr.an ⟨rfl,rfl⟩ (Tr.ai ⟨rfl,rfl⟩)) wJ
     | some v =>
       obtain ⟨f,t⟩:=v
       have T0:=OW n O U Z V J W B H q i f t (dR q f t U).length (ar (dR q f t U))
       rw[e1] at T0
       refine aI T0 (aA _) (bf (aj _ _) xS (fun x h=>fp h (by simp only[eD.st,aP];exact hx))) (ak _ _) ?_
       exact Tr.af (fun h0=>Tr.an ⟨rfl,rfl⟩ (Tr.ai ⟨rfl,rfl⟩)) wJ
   | some v =>
     obtain ⟨f,t⟩:=v
     cases c with
     | none=>exact absurd hc (Cc _ _ _ _ _)
     | some v2 =>
       obtain ⟨f2,t2⟩:=v2
       have T0:=OY n O U Z V J W B H q i f t (dR q f t U).length (ar (dR q f t U)) f2 t2 (dR q f2 t2 U).length (ar (dR q f2 t2 U))
       rw[e1] at T0
       refine aI T0 (aA _) (bf (aj _ _) xS (fun x h=>fp h (by simp only[eD.st,aP];exact hx))) (ak _ _) ?_
       exact Tr.af (fun h0=>Tr.an ⟨rfl,rfl⟩ (Tr.ai ⟨rfl,rfl⟩)) wJ
end
end Go.Eng
end
section
namespace Go.Eng
open Int (ofNat)
open Go.Proofs Go.Eng.Gall
theorem H6 (n:Nat) (b:Nat→Nat) (w:Nat→Int):Bd n b w n (jz n b w) where
 lo c hc:=by
  have:jz n b w (2*c)=fv n b w n c:=by unfold jz;rw[if_pos wO,if_pos wO,show 2*c / 2=c by omega]
  omega
 hi c hc:=by
  have:jz n b w (2*c+1)=-ft n b w n c:=by unfold jz;rw[if_pos wO,if_neg wO,show (2*c+1) / 2=c by omega]
  omega
 out i hi:=by unfold jz;rw[if_neg wO]
section
variable (n:Nat) (O:Int) (U:Nat) (Z:Nat→Int) (V:Nat) (J:Nat→Int) (W B:Nat→Int) (H:aa) (q:Nat→Int)
theorem Rv (hl:U≤10) (hq:∀ j,j<2*U→-1000000≤q j∧q j≤1000000) :
 exec (bP n 65 128) (.block 0 (.loop (part Tryd.f65 [1,0,1,1,1,1,0,1,0,0]))) (lf (shR O U Z V J W B) false U (ofNat 0)) (eZ q (ofNat 0) (ofNat 0) .nils::H)=some (.normal,lf (shR O U Z V J W B) (lF q U U).isSome U (ofNat U)++[(21,.bool false)],tk q U (lF q U U)::H):=by
 refine jY (n:=n) (f:=65) (nt:=128) (c:=part Tryd.f65 [1,0,1,1,1,1,0,1,0,0]) 0 (fun i=>lf (shR O U Z V J W B) (lF q U i).isSome U (i:Int)) (fun i=>tk q U (lF q U i)::H) U (lf (shR O U Z V J W B) (lF q U U).isSome U (ofNat U)++[(21,.bool false)],tk q U (lF q U U)::H) wO (fun i hi=>?_) ?_
 · rw[Ol]
   exact Su n O U Z V J W B H q hl hq i hi
 · generalize lF q U U=c
   cases c with
   | none =>
     obtain ⟨x,h1,rfl⟩:=aI (Q:=fun x=>x=(.exit 0,lf (shR O U Z V J W B) false U (ofNat U)++[(21,.bool false)],tk q U none::H)) (OU n O U Z V J W B H q (ofNat U)) (aA _) (cY (aj _ _) 2) (ak _ _) (by
      refine Tr.af wJ (fun h0=>Tr.ai rfl))
     exact h1
   | some v =>
     obtain ⟨f,t⟩:=v
     obtain ⟨x,h1,rfl⟩:=aI (Q:=fun x=>x=(.exit 0,lf (shR O U Z V J W B) true U (ofNat U)++[(21,.bool false)],tk q U (some (f,t))::H)) (OX n O U Z V J W B H q (ofNat U) f t (dR q f t U).length (ar (dR q f t U))) (aA _) (cY (aj _ _) 2) (ak _ _) (by
      refine Tr.af wJ (fun h0=>Tr.ai rfl))
     exact h1
noncomputable def Uq (q:Nat→Int) (U:Nat):Option (Int×Int)→AV
 | none=>.tup [.agg (.G [.int .i64 (ofNat 0),.int .i64 (ofNat 0),.nils]),.bool false]
 | some (f,t)=>.tup [.agg (.G [.int .i64 f,.int .i64 t,bk (dR q f t U).length (ar (dR q f t U)) false]),.bool true]
noncomputable def qB (r:Nat→Int):Nat→Int:=nz (fun _=>ofNat 0) 0 r 20
theorem GX (r:Nat→Int) {j:Nat} (hj:j<20):qB r j=r j:=by unfold qB;rw[rG];unfold wy;simp[hj]
theorem Uz (b:Nat→Nat) (hS:gm U W b):cd (n+3) (.fn 65) [shV O U Z V J W (bI b)] H=some (Uq (qB (jz U b W)) U (lF (qB (jz U b W)) U U),H):=by
 have hq:∀ j,j<2*U→-1000000≤qB (jz U b W) j∧qB (jz U b W) j≤1000000:=fun j hj=>by
  have hl:=hS.len;rw[GX _ wO];have h:=AJ (K:=100000) wO hS.win (H6 U b W) (j / 2) wO;rcases Nat.mod_two_eq_zero_or_one j with e | e
  · rw[show 2*(j / 2)=j by omega] at h;omega
  · rw[show 2*(j / 2)+1=j by omega] at h;omega
 have h56:=fun H=>Ut n O U Z V J W b H hS;have hlp:=Rv (n+2) O U Z V J W (bI b) H (qB (jz U b W)) hS.len hq;generalize hQ:lF (qB (jz U b W)) U U=c at *;cases c with
 | none =>
   refine ph (n:=n+2) Tryd.func65 rfl (fun _ _=>rfl) rfl (SY (n+2) O U Z V J W (bI b) H (qB (jz U b W)) (jz U b W)) (bV _ _ (dL (bo _) h56)) (bf (aj _ _) JZ (fun x h=>fp h (by simp only[eD.st,aP];exact hlp))) (ak _ _) ?_;exact Tr.an rfl (Tr.ae wG (Tr.an ⟨rfl,rfl⟩ (Tr.ai ⟨rfl,rfl⟩)))
 | some v =>
   obtain ⟨f,t⟩:=v;refine ph (n:=n+2) Tryd.func65 rfl (fun _ _=>rfl) rfl (SZ (n+2) O U Z V J W (bI b) H (qB (jz U b W)) (jz U b W) f t (dR (qB (jz U b W)) f t U).length (ar (dR (qB (jz U b W)) f t U))) (bV _ _ (dL (bo _) h56)) (bf (aj _ _) JZ (fun x h=>fp h (by simp only[eD.st,aP];exact hlp))) (ak _ _) ?_;exact Tr.an rfl (Tr.ae wG (Tr.an ⟨rfl,rfl⟩ (Tr.ai ⟨rfl,rfl⟩)))
end
end Go.Eng
end
section
namespace Go.Eng
open Go.Proofs Go.Eng.Gall Go.Eng.Q
theorem C9 {W:Nat→Int} {b:Nat→Nat} {k X c:Nat} (hb:b c<2 ^ 62) (hX:X<2 ^ 62):okW W (bI b) k X c=true↔(∀ a,(b c).testBit a=true→X.testBit a=true)∧W (2*c)≤(k:Int)∧(k:Int)≤W (2*c+1):=by
 unfold okW;obtain ⟨w,hw,hw2⟩:=P8 hb hX;rw[show bI b c=(b c:Int) from rfl,hw,Bool.and_eq_true,Bool.and_eq_true,br,br,bA,decide_eq_true_iff,decide_eq_true_iff,beq_iff_eq];have e:(w:Int)=Int.ofNat 0↔∀ a,(b c).testBit a=true→X.testBit a=true:=by
  constructor
  · intro h a ha;have h:w=0:=by
     have h:(w:Int)=0:=h;omega
    have:=hw2 a;rw[h,Nat.zero_testBit,ha,Bool.true_and] at this;cases e:X.testBit a with
    | true=>rfl
    | false=>rw[e] at this;cases this
  · intro h;have:w=0:=by
     apply Nat.eq_of_testBit_eq;intro a;rw[hw2,Nat.zero_testBit];cases e:(b c).testBit a with
     | false=>rfl
     | true=>rw[h a e];rfl
    rw[this];rfl
 rw[e]
theorem jr {n:Nat} {b:Nat→Nat} {W:Nat→Int} {L:List Nat} (hn:n≤10) (hb:∀ c,c<n→b c<2 ^ n):L ∈ ro n (okW W (bI b)) n↔L.length=n∧L.Nodup∧(∀ x ∈ L,x<n)∧∀ i (h:i<L.length),(∀ a,(b L[i]).testBit a=true→a ∈ L.take i)∧W (2*L[i])≤(i:Int)∧(i:Int)≤W (2*L[i]+1):=by
 have p62:2 ^ n≤2 ^ 62:=Nat.pow_le_pow_right wO wO;constructor
 · intro h;obtain ⟨h1,h2,h3⟩:=lJ h;refine ⟨h1,h2,h3,fun i hi=>?_⟩;have hl:=h3 _ (List.getElem_mem hi);have hnt:(L.take i).Nodup:=h2.sublist (List.take_sublist i L);have hm:mask (L.take i)<2 ^ n:=ni hnt fun x hx=>h3 x (List.mem_of_mem_take hx);have:=((uf.1 h).2 i hi).2.2;rw[C9 (Nat.lt_of_lt_of_le (hb _ hl) p62) (Nat.lt_of_lt_of_le hm p62)] at this;refine ⟨fun a ha=>?_,this.2⟩;have:=this.1 a ha;rw[cK hnt] at this;exact of_decide_eq_true this
 · rintro ⟨h1,h2,h3,h4⟩;refine uf.2 ⟨h1,fun i hi=>?_⟩;have hl:=h3 _ (List.getElem_mem hi);have hnt:(L.take i).Nodup:=h2.sublist (List.take_sublist i L);have hm:mask (L.take i)<2 ^ n:=ni hnt fun x hx=>h3 x (List.mem_of_mem_take hx);refine ⟨hl,?_,(C9 (Nat.lt_of_lt_of_le (hb _ hl) p62) (Nat.lt_of_lt_of_le hm p62)).2 ⟨fun a ha=>?_,(h4 i hi).2⟩⟩
   · rw[cK hnt];refine decide_eq_false fun hx=>?_;obtain ⟨j,hj,he⟩:=List.mem_iff_getElem.1 hx;rw[List.length_take] at hj;rw[List.getElem_take] at he;have:=(List.pairwise_iff_getElem.1 h2) j i wO hi wO;exact this he
   · rw[cK hnt];exact decide_eq_true ((h4 i hi).1 a ha)
section
variable {n:Nat} {b:Nat→Nat} {W:Nat→Int} {L:List Nat}
theorem iZ {L:List Nat} {c:Nat} (h:c ∈ L):∃ hi:L.idxOf c<L.length,L[L.idxOf c]=c:=⟨List.idxOf_lt_length_iff.2 h,List.getElem_idxOf _⟩
theorem DE {L:List Nat} {a i:Nat} (h:a ∈ L.take i):L.idxOf a<i:=by
 obtain ⟨j,hj,he⟩:=List.mem_iff_getElem.1 h;rw[List.length_take] at hj;rw[List.getElem_take] at he;have h2:L.idxOf a≤j:=by
  refine Nat.le_of_not_lt fun hlt=>?_;have:=List.not_of_lt_findIdx (p:=(· == a)) (xs:=L) (i:=j) hlt;rw[he] at this;simp at this
 omega
theorem Gp (hL:L.length=n∧L.Nodup∧(∀ x ∈ L,x<n)∧∀ i (h:i<L.length),(∀ a,(b L[i]).testBit a=true→a ∈ L.take i)∧W (2*L[i])≤(i:Int)∧(i:Int)≤W (2*L[i]+1)):∀ t c,c ∈ L→fv n b W t c≤(L.idxOf c:Int)
 | 0,c,hc=>by
   obtain ⟨hi,he⟩:=iZ hc;have:=(hL.2.2.2 _ hi).2.1;rw[he] at this;exact this
 | t + 1,c,hc=>by
   rcases jm (fv n b W t c) (fun a=>fv n b W t a+1) (fun a=>(b c).testBit a) n with e | ⟨a,h1,h2,h3⟩
   · have e:fv n b W (t+1) c=fv n b W t c:=e;rw[e];exact Gp hL t c hc
   · have h3:fv n b W (t+1) c=fv n b W t a+1:=h3;obtain ⟨hi,he⟩:=iZ hc;have hm:=(hL.2.2.2 _ hi).1 a (by rw[he];exact h2);have:=DE hm;have:=Gp hL t a (List.mem_of_mem_take hm);omega
theorem F8 (hL:L.length=n∧L.Nodup∧(∀ x ∈ L,x<n)∧∀ i (h:i<L.length),(∀ a,(b L[i]).testBit a=true→a ∈ L.take i)∧W (2*L[i])≤(i:Int)∧(i:Int)≤W (2*L[i]+1)):∀ t c,c ∈ L→ft n b W t c≤-(L.idxOf c:Int)
 | 0,c,hc=>by
   obtain ⟨hi,he⟩:=iZ hc;have:=(hL.2.2.2 _ hi).2.2;rw[he] at this;show -W (2*c+1)≤_;omega
 | t + 1,c,hc=>by
   rcases jm (ft n b W t c) (fun a=>ft n b W t a+1) (fun a=>(b a).testBit c) n with e | ⟨a,h1,h2,h3⟩
   · have e:ft n b W (t+1) c=ft n b W t c:=e;rw[e];exact F8 hL t c hc
   · have h3:ft n b W (t+1) c=ft n b W t a+1:=h3;have ha:a ∈ L:=lh hL.2.1 hL.1 hL.2.2.1 h1;obtain ⟨hi,he⟩:=iZ ha;have hm:=(hL.2.2.2 _ hi).1 c (by rw[he];exact h2);have:=DE hm;have:=F8 hL t a ha;omega
theorem IF {M:List Int} (hn:M.Nodup) {F T:Int} (h:∀ x ∈ M,F≤x∧x≤T):M≠[]→(M.length:Int)≤T-F+1:=fun hne=>by
 have h1:(M.map fun x=>(x-F).toNat).Nodup:=by
  rw[List.Nodup,List.pairwise_map,List.pairwise_iff_getElem];intro i j hi hj hij;have a:=(List.pairwise_iff_getElem.1 hn) i j hi hj hij;have b1:=h _ (List.getElem_mem hi);have b2:=h _ (List.getElem_mem hj);have a:M[i]≠M[j]:=a;omega
 have h2:=eM h1 (M:=List.range (T-F+1).toNat) (fun y hy=>by
  obtain ⟨x,hx,rfl⟩:=List.mem_map.1 hy;have:=h x hx;rw[List.mem_range];omega)
 rw[List.length_map,List.length_range] at h2;obtain ⟨x,hx⟩:=List.exists_mem_of_ne_nil M hne;have:=h x hx;omega
theorem Ly (hS:gm n W b) (hW:∀ c,c<n→0≤W (2*c)∧W (2*c+1)<n):lF (qB (jz n b W)) n n=none↔∃ L,L ∈ ro n (okW W (bI b)) n:=by
 have hl:=hS.len;have hqe:∀ c,c<n→qB (jz n b W) (2*c)=fv n b W n c∧qB (jz n b W) (2*c+1)=-ft n b W n c:=fun c hc=>by
  rw[GX _ wO,GX _ wO];unfold jz;rw[if_pos wO,if_pos wO,if_pos wO,if_neg wO,show 2*c / 2=c by omega,show (2*c+1) / 2=c by omega];exact ⟨rfl,rfl⟩
 have hlo:∀ c,W (2*c)≤fv n b W n c:=fun c=>by have:=lo_le (n:=n) (b:=b) (w:=W) 0 n c;rw[Nat.zero_add] at this;exact this
 have hhi:∀ c,-W (2*c+1)≤ft n b W n c:=fun c=>by have:=CC (n:=n) (b:=b) (w:=W) 0 n c;rw[Nat.zero_add] at this;exact this
 constructor
 · intro h;have hr:=Jp h;obtain ⟨L,hL⟩:=G2 (B:=fun a c=>(b c).testBit a=true) hr (fun i hi=>by show 0≤qB _ (2*i);rw[(hqe i hi).1];have:=hlo i;have:=hW i hi;omega) (fun i hi=>by show qB _ (2*i+1) < _;rw[(hqe i hi).2];have:=hhi i;have:=hW i hi;omega) (fun a c ha hc hp=>by
    show qB _ (2*a)<qB _ (2*c)∧qB _ (2*a+1)<qB _ (2*c+1);rw[(hqe a ha).1,(hqe c hc).1,(hqe a ha).2,(hqe c hc).2];have:=Gn (w:=W) hS.nob ha hc hp;have:=Ka (w:=W) hS.nob ha hc hp;omega)
   refine ⟨L,(jr hl hS.bef).2 ⟨hL.len,hL.nd,hL.lt,fun i hi=>⟨fun a ha=>?_,?_⟩⟩⟩
   · have hc:=hL.lt _ (List.getElem_mem hi);have han:a<n:=by
      refine Nat.lt_of_not_le fun hge=>?_;rw[Nat.testBit_lt_two_pow (Nat.lt_of_lt_of_le (hS.bef _ hc) (Nat.pow_le_pow_right wO hge))] at ha;cases ha
     obtain ⟨hj,he⟩:=iZ (lh hL.nd hL.len hL.lt han);rcases Nat.lt_trichotomy (L.idxOf a) i with q | q | q
     · refine List.mem_iff_getElem.2 ⟨L.idxOf a,by rw[List.length_take];omega,?_⟩;rw[List.getElem_take];exact he
     · exfalso;have e:L[i]=a:=by rw[← he];congr 1;exact q.symm
       have:=Gn (w:=W) hS.nob (a:=a) (c:=L[i]) han hc ha;rw[e] at this;omega
     · exact absurd (by rw[he];exact ha) (hL.pair i (L.idxOf a) hi hj q)
   · have hc:=hL.lt _ (List.getElem_mem hi);have:=hL.suit i hi;have h1:qB (jz n b W) (2*L[i])≤(i:Int):=this.1;have h2:(i:Int)≤qB (jz n b W) (2*L[i]+1):=this.2;rw[(hqe _ hc).1] at h1;rw[(hqe _ hc).2] at h2;have:=hlo L[i];have:=hhi L[i];omega
 · rintro ⟨L,hL⟩;have hL:=(jr hl hS.bef).1 hL;have hf:jV (fun x y=>∃ j k,j<n∧k<n∧x=qB (jz n b W) (2*j)∧y=qB (jz n b W) (2*k+1)∧tR (qB (jz n b W)) n x y=true) (lF (qB (jz n b W)) n n):=by
    rcases tQ (qB (jz n b W)) n n with h1 | ⟨f,t,h1,h2⟩
    · exact h1
    · rw[h1];exact h2
   cases e:lF (qB (jz n b W)) n n with
   | none=>rfl
   | some v =>
     exfalso;obtain ⟨F,T⟩:=v;rw[e] at hf;obtain ⟨⟨j,k,hj,hk,_,_,hov⟩,_⟩:=hf;unfold tR at hov;rw[Bool.and_eq_true,decide_eq_true_iff,decide_eq_true_iff] at hov;have hm:∀ x ∈ dR (qB (jz n b W)) F T n,∃ c,c<n∧x=(c:Int)∧F≤(L.idxOf c:Int)∧(L.idxOf c:Int)≤T:=fun x hx=>by
      obtain ⟨c,h1,h2,h3⟩:=(rS _ _ _ _ _).1 hx;unfold xK at h2;rw[Bool.and_eq_true,decide_eq_true_iff,decide_eq_true_iff,(hqe c h1).1,(hqe c h1).2] at h2;have hc:c ∈ L:=lh hL.2.1 hL.1 hL.2.2.1 h1;have:=Gp hL n c hc;have:=F8 hL n c hc;exact ⟨c,h1,h3,by omega,by omega⟩
     have hnd:((dR (qB (jz n b W)) F T n).map fun x=>(L.idxOf x.toNat:Int)).Nodup:=by
      rw[List.Nodup,List.pairwise_map];refine (List.Pairwise.and_mem.1 (vK (qB (jz n b W)) F T n)).imp ?_;rintro x y ⟨hx,hy,hne⟩ he;obtain ⟨c,h1,rfl,_⟩:=hm x hx;obtain ⟨d,h2,rfl,_⟩:=hm y hy;rw[Int.toNat_natCast,Int.toNat_natCast] at he;obtain ⟨i1,e1⟩:=iZ (lh hL.2.1 hL.1 hL.2.2.1 h1);obtain ⟨i2,e2⟩:=iZ (lh hL.2.1 hL.1 hL.2.2.1 h2);have he:L.idxOf c=L.idxOf d:=by omega
      have:c=d:=by
       rw[← e1,← e2];congr 1
      exact hne (by rw[this])
     have:=IF hnd (F:=F) (T:=T) (fun y hy=>by
      obtain ⟨x,hx,rfl⟩:=List.mem_map.1 hy;obtain ⟨c,_,rfl,h3⟩:=hm x hx;rw[Int.toNat_natCast];exact h3) (fun h0=>by
       have:=congrArg List.length h0;rw[List.length_map] at this;simp at this;rw[this] at hov;simp at hov)
     rw[List.length_map] at this;omega
end
end Go.Eng
end
section
namespace Go.Eng
open Go.Proofs Go.Eng.Gall
theorem W0 (n:Nat) (O:Int) (U:Nat) (Z:Nat→Int) (V:Nat) (J:Nat→Int) (W B:Nat→Int) (H:aa) (k:Int):bz Tryd.prog (cd n) 100000 34 Tryd.f34 (KtG.kt 34) (il (tX (tX aM 49 [bX O U Z V J,.nils] (.tup [shV O U Z V J W B,.int .i64 (Int.ofNat 0)])) 73 [shV O U Z V J W B] (.int .i64 k)) n 0) aV aR [(bX O U Z V J,none)] H =
 Tr.reqP ([bX O U Z V J,AV.nils]=[bX O U Z V J,AV.nils]) (Tr.ite (bD (c7 (Int.ofNat 0) (Int.ofNat 0))) (Tr.ok ((AV.tup [iI 0,iI 0],none),H)) (Tr.reqP ([shV O U Z V J W B]=[shV O U Z V J W B]) (Tr.ok ((AV.tup [AV.int .i64 k,iI 0],none),H)))):=by kernel_rfl
theorem SQ (n:Nat) (O:Int) (U:Nat) (Z:Nat→Int) (V:Nat) (J:Nat→Int) (H:aa) (e:Int):bz Tryd.prog (cd n) 100000 34 Tryd.f34 (KtG.kt 34) (il (tN (tX aM 49 [bX O U Z V J,.nils] (.tup [.nilp,.int .i64 e])) 73) n 0) aV aR [(bX O U Z V J,none)] H =
 Tr.reqP ([bX O U Z V J,AV.nils]=[bX O U Z V J,AV.nils]) (Tr.ite (bD (c7 e (Int.ofNat 0))) (Tr.ok ((AV.tup [iI 0,AV.int .i64 e],none),H)) Tr.bad):=by kernel_rfl
theorem SU (n:Nat) (O:Int) (U:Nat) (Z:Nat→Int) (V:Nat) (J:Nat→Int) (G:aa) (e:Int):bz Tryd.prog (cd (n+2)) 100000 49 Tryd.f49 (KtG.kt 49) (il (tN (tX aM 22 [bX O U Z V J] (.int .i64 e)) 62) n 2) aV aR [(bX O U Z V J,none),(.nils,none)] G =
 Tr.reqP ([bX O U Z V J]=[bX O U Z V J]) (Tr.ite (bD (c7 e (Int.ofNat 0))) (Tr.ok ((AV.tup [AV.nilp,AV.int .i64 e],none),G)) Tr.bad):=by kernel_rfl
section
variable (n:Nat) (O:Int) (U:Nat) (Z:Nat→Int) (V:Nat) (J:Nat→Int) (H:aa)
theorem Qi (hl:U≤1000) (hb:V≤1000) (h0:¬ cr O U Z V J=0):cd (n+14) (.fn 49) [bX O U Z V J,.nils] H=some (.tup [.nilp,.int .i64 (cr O U Z V J)],H):=by
 refine bU (n:=n+13) Tryd.func49 rfl rfl rfl (SU (n+11) O U Z V J H (cr O U Z V J)) (gU _ (n+11) 2 (fun q=>Hm (dL (bo _) (fun H=>by
  rw[show n+11+q=n+q+11 by omega];exact TV (n+q) O U Z V J H hl hb)))) (aj _ _) (ak _ _) ?_
 refine Tr.an rfl (Tr.af (fun q=>Tr.ai ⟨rfl,rfl⟩) (fun q=>?_));rw[aW,bA] at q;exact absurd (by simpa using q) h0
noncomputable def N1:AV:=if cr O U Z V J=0 then .tup [.int .i64 (Q.cntF U (ev O U Z) (gH V J)),.int .i64 0] else .tup [.int .i64 0,.int .i64 (cr O U Z V J)]
theorem Qh (hl:U≤1000) (hb:V≤1000):cd (n+15) (.fn 34) [bX O U Z V J] H=some (N1 O U Z V J,H):=by
 unfold N1;by_cases h0:cr O U Z V J=0
 · rw[if_pos h0];obtain ⟨h1,_⟩:=mh h0;refine bU (n:=n+14) Tryd.func34 rfl rfl rfl (W0 (n+14) O U Z V J (ev O U Z) (gH V J) H (Q.cntF U (ev O U Z) (gH V J))) (bV _ _ (dL (dL (bo _) (fun H=>LC n O U Z V J H hb h0)) (fun H=>Qj (n+13) O U Z V J (ev O U Z) (gH V J) H h1.2))) (aj _ _) (ak _ _) ?_;refine Tr.an rfl (Tr.af (fun q=>by simp[aW,bA] at q) (fun q=>Tr.an rfl (Tr.ai ⟨rfl,rfl⟩)))
 · rw[if_neg h0];refine bU (n:=n+14) Tryd.func34 rfl rfl rfl (SQ (n+14) O U Z V J H (cr O U Z V J)) (bV _ _ (Hm (dL (bo _) (fun H=>Qi n O U Z V J H hl hb h0)))) (aj _ _) (ak _ _) ?_;refine Tr.an rfl (Tr.af (fun q=>Tr.ai ⟨rfl,rfl⟩) (fun q=>?_));rw[aW,bA] at q;exact absurd (by simpa using q) h0
end
end Go.Eng
end
section
namespace Go.Eng
open Go.Proofs Go.Eng.Gall
noncomputable def iB (r:Row) (a b:Int):bK:=⟨false,[(0,.row r),(0,.row (.I .i64 [a,b]))]⟩
end Go.Eng
end
section
namespace Go.Eng
open Go.Proofs Go.Eng.Gall
noncomputable def I5 (O:Int) (U:Nat) (Z:Nat→Int) (V:Nat) (J:Nat→Int):Option (Int×Int):=lF (qB (jz U (fun c=>gf J c V) (ev O U Z))) U U
section
variable (n:Nat) (O:Int) (U:Nat) (Z:Nat→Int) (V:Nat) (J:Nat→Int) (H:aa) (r r2:Row) (a b:Int)
end
end Go.Eng
end
section
namespace Go.Eng
open Go.Proofs Go.Eng.Gall
end Go.Eng
end
section
namespace Go.Eng
open Go.Proofs Go.Eng.Gall
section
variable (n:Nat) (O:Int) (U:Nat) (Z:Nat→Int) (V:Nat) (J:Nat→Int) (H:aa) (a b:Nat)
theorem MB {c f i:Nat} {H:aa} {r:Row} {v:AV} {H':aa} (hf:f=63∨f=65) (hr:cX H 0 i 0=some r) (hh:G5 r=true) (h:cd c (.fn f) [.ptrT none r 0] [⟨true,[]⟩]=some (v,H')):ia (cd c) f [.ptr 0 i 0 0] H=some (LS v,H):=by
 have e:O8 (cd c) f [.ptr 0 i 0 0] H=some (LS v,H):=by
  show (match cX H 0 i 0 with
   | some r=>if (G5 r && [].all (tA 9))=true then (match cd c (.fn f) (.ptrT none r 0::[]) [⟨true,[]⟩] with
     | some (v,_)=>some (LS v,H)
     | none=>none) else none
   | none=>none)=_
  rw[hr];dsimp only;rw[hh,h];rfl
 have e2:ia (cd c) f [.ptr 0 i 0 0] H=(match O8 (cd c) f [.ptr 0 i 0 0] H with
  | some x=>some x
  | none=>tP [⟨15,[],.bool true⟩] (cd c) f [.ptr 0 i 0 0] H):=by rcases hf with rfl | rfl<;>rfl
 rw[e2,e]
end
end Go.Eng
end
section
namespace Go.Eng
open Go.Proofs Go.Eng.Gall Go.Eng.Q
theorem zj (n:Nat) (ok:Nat→Nat→Nat→Bool):∀ k,(ro n ok k).Nodup
 | 0=>by show [[]].Nodup;simp
 | k + 1=>by
   have ih:=zj n ok k;show ((ro n ok k).flatMap fun L=>(nx ok n k (mask L)).map fun c=>L++[c]).Nodup;rw[List.Nodup,List.flatMap,List.pairwise_flatten];refine ⟨fun l hl=>?_,?_⟩
   · obtain ⟨L,hL,rfl⟩:=List.mem_map.1 hl;rw[List.pairwise_map];have hn:(nx ok n k (mask L)).Nodup:=List.Pairwise.filter _ List.nodup_range;exact hn.imp (fun h e=>h (by simpa using e))
   · rw[List.pairwise_map];refine ih.imp (fun h x hx y hy e=>?_);obtain ⟨c,_,rfl⟩:=List.mem_map.1 hx;obtain ⟨d,_,rfl⟩:=List.mem_map.1 hy;have:=congrArg List.dropLast e;simp only[List.dropLast_concat] at this;exact h this
section
variable {n:Nat} {g:Nat→Nat} {W:Nat→Int}
theorem Bf {L:List Nat} (hn:L.Nodup) {i:Nat} (hi:i<L.length):L.idxOf L[i]=i:=by
 obtain ⟨hj,he⟩:=iZ (List.getElem_mem hi);rcases Nat.lt_trichotomy (L.idxOf L[i]) i with q | q | q
 · exact absurd he ((List.pairwise_iff_getElem.1 hn) _ _ hj hi q)
 · exact q
 · exact absurd he.symm ((List.pairwise_iff_getElem.1 hn) _ _ hi hj q)
end
end Go.Eng
end
section
namespace Go.Eng
open Go.Proofs Go.Eng.Gall Go.Eng.Q
section
variable {O:Int} {U:Nat} {Z:Nat→Int} {V:Nat} {J zb2:Nat→Int} {a b:Nat}
end
end Go.Eng
end
section
namespace Go.Eng
open Go.Proofs Go.Eng.Gall Go.Eng.Q
section
variable {O:Int} {U:Nat} {Z:Nat→Int} {V:Nat} {J:Nat→Int} {a b:Nat}
theorem Hv (c:Nat) (hc:c<U):0≤ev O U Z (2*c)∧ev O U Z (2*c+1)<U:=by
 unfold ev;rw[if_pos wO,if_pos wO,if_pos wO,if_neg wO];omega
end
end Go.Eng
end
