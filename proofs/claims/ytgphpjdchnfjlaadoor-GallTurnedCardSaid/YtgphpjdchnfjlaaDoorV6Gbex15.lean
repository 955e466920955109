/- Gall: a right block: the outer loop, trees. -/
import Derived.Test.YtgphpjdchnfjlaaDoorV6Gbbx5
set_option linter.unusedVariables false
set_option linter.unusedSimpArgs false
set_option maxRecDepth 100000
section
namespace Go.Eng
open Int (ofNat)
open Go.Proofs Go.Eng.Gall
noncomputable def BI (R:Row) (U:Nat) (i k:Int):aD:=[(0,.ptrT none R 0),(2,.ptr 0 0 0 0),(4,.ptr 0 1 0 0),(5,.ptr 0 2 0 0),(6,.bool true),(7,.int .i64 i),(9,.ptr 0 3 0 0),(19,.int .i64 (ofNat U)),(20,.int .i64 i),(28,.int .i64 (ofNat U)),(29,.int .i64 k),(87,.bool true)]
theorem PY (n:Nat) (O:Int) (U:Nat) (Z:Nat→Int) (V:Nat) (J:Nat→Int) (W B:Nat→Int) (H:aa) (q:Nat→Int) (i k:Int):aJ (bN n 65 128) (il aK n 0) (gq aS 4) aR (part Tryd.f65 [1,0,1,1,1,1,0,1,0,0,1,1,0,0,1,1,0,0]) (hints (iG (shR O U Z V J W B) false U i k)) (fh q (ofNat 0) (ofNat 0) .nils::H) =
 Tr.ite (bE k (ofNat U)) (Tr.req (cQ i 10) (Tr.req (cg 0 0) (Tr.req (cK (au 0 i 2) 20) (Tr.req (cQ k 10) (Tr.req (cg 0 0) (Tr.req (cK (ar (au 0 k 2) 1) 20) (Tr.req (cr (eU 0 0) (eU 0 1)) Tr.bad))))))) (Tr.ok (Ex.exit 2,[(0,shV O U Z V J W B,none),(2,AV.ptr 0 0 0 0,none),(4,AV.ptr 0 1 0 0,none),(5,AV.ptr 0 2 0 0,none),(6,AV.bool false,none),(7,AV.int .i64 i,none),(19,iI U,none),(20,AV.int .i64 i,none),(28,iI U,none),(29,AV.int .i64 k,none),(30,AV.bool false,some 1)],(bh [(0,ak.row (Row.G [iI 0,iI 0,AV.nils])),(0,ak.row (rM q 20)),(0,ak.row (Row.G [iI 0,iI 0,AV.nils]))])::H)):=by kernel_rfl
theorem PZ (n:Nat) (O:Int) (U:Nat) (Z:Nat→Int) (V:Nat) (J:Nat→Int) (W B:Nat→Int) (H:aa) (q:Nat→Int) (i k:Int) (f t:Int) (m:Nat) (y:Nat→Int):aJ (bN n 65 128) (il aK n 0) (gq aS 4) aR (part Tryd.f65 [1,0,1,1,1,1,0,1,0,0,1,1,0,0,1,1,0,0]) (hints (iG (shR O U Z V J W B) true U i k)) (fh q f t (aF m y false)::H) =
 Tr.ite (bE k (ofNat U)) (Tr.req (cQ i 10) (Tr.req (cg 0 0) (Tr.req (cK (au 0 i 2) 20) (Tr.req (cQ k 10) (Tr.req (cg 0 0) (Tr.req (cK (ar (au 0 k 2) 1) 20) (Tr.req (cr (eU 0 0) (eU 0 1)) Tr.bad))))))) (Tr.ok (Ex.exit 2,[(0,shV O U Z V J W B,none),(2,AV.ptr 0 0 0 0,none),(4,AV.ptr 0 1 0 0,none),(5,AV.ptr 0 2 0 0,none),(6,AV.bool true,none),(7,AV.int .i64 i,none),(19,iI U,none),(20,AV.int .i64 i,none),(28,iI U,none),(29,AV.int .i64 k,none),(30,AV.bool false,some 1)],(bh [(0,ak.row (Row.G [iI 0,iI 0,AV.nils])),(0,ak.row (rM q 20)),(0,ak.row (Row.G [AV.int .i64 f,AV.int .i64 t,aF m y false]))])::H)):=by kernel_rfl
theorem Qr (n:Nat) (O:Int) (U:Nat) (Z:Nat→Int) (V:Nat) (J:Nat→Int) (W B:Nat→Int) (H:aa) (q:Nat→Int) (i:Int):aJ (bN n 65 128) (il aK n 0) (bP aS 2 (iG (shR O U Z V J W B) false U i (ofNat 0)) (fh q (ofNat 0) (ofNat 0) .nils::H) (.ok (.normal,hints (iG (shR O U Z V J W B) false U i (ofNat U)++[(30,.bool false)]),fh q (ofNat 0) (ofNat 0) .nils::H))) aR (part Tryd.f65 [1,0,1,1,1,1,0,1,0,0]) (hints (lx (shR O U Z V J W B) false U i)) (fh q (ofNat 0) (ofNat 0) .nils::H) =
 (fun (Z0:bB)=>((fun (Z1:aD)=>Tr.ite (bE i (ofNat U)) (Tr.reqP (Z1=Z1∧Z0::H=Z0::H) (Tr.ok (Ex.normal,[(0,shV O U Z V J W B,none),(2,AV.ptr 0 0 0 0,none),(4,AV.ptr 0 1 0 0,none),(5,AV.ptr 0 2 0 0,none),(6,AV.bool false,none),(19,iI U,none),(20,AV.int .i64 (bm .i64 i (ofNat 1)),none)],Z0::H))) (Tr.ok (Ex.exit 0,[(0,shV O U Z V J W B,none),(2,AV.ptr 0 0 0 0,none),(4,AV.ptr 0 1 0 0,none),(5,AV.ptr 0 2 0 0,none),(6,AV.bool false,none),(19,iI U,none),(20,AV.int .i64 i,none),(21,AV.bool false,some 1)],Z0::H))) [(0,shV O U Z V J W B),(2,AV.ptr 0 0 0 0),(4,AV.ptr 0 1 0 0),(5,AV.ptr 0 2 0 0),(6,AV.bool false),(7,AV.int .i64 i),(19,iI U),(20,AV.int .i64 i),(28,iI U),(29,iI 0)])) (bh [(0,ak.row (Row.G [iI 0,iI 0,AV.nils])),(0,ak.row (rM q 20)),(0,ak.row (Row.G [iI 0,iI 0,AV.nils]))]):=by kernel_rfl
theorem Qs (n:Nat) (O:Int) (U:Nat) (Z:Nat→Int) (V:Nat) (J:Nat→Int) (W B:Nat→Int) (H:aa) (q:Nat→Int) (i:Int) (f2 t2:Int) (m2:Nat) (y2:Nat→Int):aJ (bN n 65 128) (il aK n 0) (bP aS 2 (iG (shR O U Z V J W B) false U i (ofNat 0)) (fh q (ofNat 0) (ofNat 0) .nils::H) (.ok (.normal,hints (iG (shR O U Z V J W B) true U i (ofNat U)++[(30,.bool false)]),fh q f2 t2 (aF m2 y2 false)::H))) aR (part Tryd.f65 [1,0,1,1,1,1,0,1,0,0]) (hints (lx (shR O U Z V J W B) false U i)) (fh q (ofNat 0) (ofNat 0) .nils::H) =
 (fun (Z0:bB)=>((fun (Z1:aD)=>Tr.ite (bE i (ofNat U)) (Tr.reqP (Z1=Z1∧Z0::H=Z0::H) (Tr.ok (Ex.normal,[(0,shV O U Z V J W B,none),(2,AV.ptr 0 0 0 0,none),(4,AV.ptr 0 1 0 0,none),(5,AV.ptr 0 2 0 0,none),(6,AV.bool true,none),(19,iI U,none),(20,AV.int .i64 (bm .i64 i (ofNat 1)),none)],(bh [(0,ak.row (Row.G [iI 0,iI 0,AV.nils])),(0,ak.row (rM q 20)),(0,ak.row (Row.G [AV.int .i64 f2,AV.int .i64 t2,aF m2 y2 false]))])::H))) (Tr.ok (Ex.exit 0,[(0,shV O U Z V J W B,none),(2,AV.ptr 0 0 0 0,none),(4,AV.ptr 0 1 0 0,none),(5,AV.ptr 0 2 0 0,none),(6,AV.bool false,none),(19,iI U,none),(20,AV.int .i64 i,none),(21,AV.bool false,some 1)],Z0::H))) [(0,shV O U Z V J W B),(2,AV.ptr 0 0 0 0),(4,AV.ptr 0 1 0 0),(5,AV.ptr 0 2 0 0),(6,AV.bool false),(7,AV.int .i64 i),(19,iI U),(20,AV.int .i64 i),(28,iI U),(29,iI 0)])) (bh [(0,ak.row (Row.G [iI 0,iI 0,AV.nils])),(0,ak.row (rM q 20)),(0,ak.row (Row.G [iI 0,iI 0,AV.nils]))]):=by kernel_rfl
theorem Qu (n:Nat) (O:Int) (U:Nat) (Z:Nat→Int) (V:Nat) (J:Nat→Int) (W B:Nat→Int) (H:aa) (q:Nat→Int) (i:Int) (f t:Int) (m:Nat) (y:Nat→Int) (f2 t2:Int) (m2:Nat) (y2:Nat→Int):aJ (bN n 65 128) (il aK n 0) (bP aS 2 (iG (shR O U Z V J W B) true U i (ofNat 0)) (fh q f t (aF m y false)::H) (.ok (.normal,hints (iG (shR O U Z V J W B) true U i (ofNat U)++[(30,.bool false)]),fh q f2 t2 (aF m2 y2 false)::H))) aR (part Tryd.f65 [1,0,1,1,1,1,0,1,0,0]) (hints (lx (shR O U Z V J W B) true U i)) (fh q f t (aF m y false)::H) =
 (fun (Z0:bB)=>((fun (Z1:aD)=>Tr.ite (bE i (ofNat U)) (Tr.reqP (Z1=Z1∧Z0::H=Z0::H) (Tr.ok (Ex.normal,[(0,shV O U Z V J W B,none),(2,AV.ptr 0 0 0 0,none),(4,AV.ptr 0 1 0 0,none),(5,AV.ptr 0 2 0 0,none),(6,AV.bool true,none),(19,iI U,none),(20,AV.int .i64 (bm .i64 i (ofNat 1)),none)],(bh [(0,ak.row (Row.G [iI 0,iI 0,AV.nils])),(0,ak.row (rM q 20)),(0,ak.row (Row.G [AV.int .i64 f2,AV.int .i64 t2,aF m2 y2 false]))])::H))) (Tr.ok (Ex.exit 0,[(0,shV O U Z V J W B,none),(2,AV.ptr 0 0 0 0,none),(4,AV.ptr 0 1 0 0,none),(5,AV.ptr 0 2 0 0,none),(6,AV.bool true,none),(19,iI U,none),(20,AV.int .i64 i,none),(21,AV.bool false,some 1)],Z0::H))) [(0,shV O U Z V J W B),(2,AV.ptr 0 0 0 0),(4,AV.ptr 0 1 0 0),(5,AV.ptr 0 2 0 0),(6,AV.bool true),(7,AV.int .i64 i),(19,iI U),(20,AV.int .i64 i),(28,iI U),(29,iI 0)])) (bh [(0,ak.row (Row.G [iI 0,iI 0,AV.nils])),(0,ak.row (rM q 20)),(0,ak.row (Row.G [AV.int .i64 f,AV.int .i64 t,aF m y false]))]):=by kernel_rfl
theorem Qv (n:Nat) (O:Int) (U:Nat) (Z:Nat→Int) (V:Nat) (J:Nat→Int) (W B:Nat→Int) (H:aa) (q:Nat→Int) (i:Int) (f t:Int) (m:Nat) (y:Nat→Int) (F T:Int):aJ (bN n 65 128) (il aK n 0) (bP aS 2 (iG (shR O U Z V J W B) true U i (ofNat 0)) (fh q f t (aF m y false)::H) (.ok (.exit 1,hints (BI (shR O U Z V J W B) U i (ofNat 0)),zm q f t (aF m y false) F T::H))) aR (part Tryd.f65 [1,0,1,1,1,1,0,1,0,0]) (hints (lx (shR O U Z V J W B) true U i)) (fh q f t (aF m y false)::H) =
 (fun (Z0:bB)=>((fun (Z1:aD)=>Tr.ite (bE i (ofNat U)) (Tr.reqP (Z1=Z1∧Z0::H=Z0::H) (Tr.ok (Ex.normal,[(0,shV O U Z V J W B,none),(2,AV.ptr 0 0 0 0,none),(4,AV.ptr 0 1 0 0,none),(5,AV.ptr 0 2 0 0,none),(6,AV.bool true,none),(19,iI U,none),(20,AV.int .i64 (bm .i64 i (ofNat 1)),none)],(bh [(0,ak.row (Row.G [iI 0,iI 0,AV.nils])),(0,ak.row (rM q 20)),(0,ak.row (Row.G [AV.int .i64 f,AV.int .i64 t,aF m y false])),(0,ak.row (Row.G [AV.int .i64 F,AV.int .i64 T,AV.nils]))])::H))) (Tr.ok (Ex.exit 0,[(0,shV O U Z V J W B,none),(2,AV.ptr 0 0 0 0,none),(4,AV.ptr 0 1 0 0,none),(5,AV.ptr 0 2 0 0,none),(6,AV.bool true,none),(19,iI U,none),(20,AV.int .i64 i,none),(21,AV.bool false,some 1)],Z0::H))) [(0,shV O U Z V J W B),(2,AV.ptr 0 0 0 0),(4,AV.ptr 0 1 0 0),(5,AV.ptr 0 2 0 0),(6,AV.bool true),(7,AV.int .i64 i),(19,iI U),(20,AV.int .i64 i),(28,iI U),(29,iI 0)])) (bh [(0,ak.row (Row.G [iI 0,iI 0,AV.nils])),(0,ak.row (rM q 20)),(0,ak.row (Row.G [AV.int .i64 f,AV.int .i64 t,aF m y false]))]):=by kernel_rfl
theorem Qw (n:Nat) (O:Int) (U:Nat) (Z:Nat→Int) (V:Nat) (J:Nat→Int) (W B:Nat→Int) (H:aa) (q:Nat→Int) (i:Int) (f t:Int) (m:Nat) (y:Nat→Int) (F T:Int) (g:Nat) (x:Nat→Int):aJ (bN n 65 128) (il aK n 0) (bP aS 2 (iG (shR O U Z V J W B) true U i (ofNat 0)) (fh q f t (aF m y false)::H) (.ok (.exit 1,hints (BI (shR O U Z V J W B) U i (ofNat 0)),B5 q f t (aF m y false) F T g x::H))) aR (part Tryd.f65 [1,0,1,1,1,1,0,1,0,0]) (hints (lx (shR O U Z V J W B) true U i)) (fh q f t (aF m y false)::H) =
 (fun (Z0:bB)=>((fun (Z1:aD)=>Tr.ite (bE i (ofNat U)) (Tr.reqP (Z1=Z1∧Z0::H=Z0::H) (Tr.ok (Ex.normal,[(0,shV O U Z V J W B,none),(2,AV.ptr 0 0 0 0,none),(4,AV.ptr 0 1 0 0,none),(5,AV.ptr 0 2 0 0,none),(6,AV.bool true,none),(19,iI U,none),(20,AV.int .i64 (bm .i64 i (ofNat 1)),none)],(bh [(0,ak.row (Row.G [iI 0,iI 0,AV.nils])),(0,ak.row (rM q 20)),(0,ak.row (Row.G [AV.int .i64 f,AV.int .i64 t,aF m y false])),(0,ak.row (Row.G [AV.int .i64 F,AV.int .i64 T,AV.slc 0 4 0 0 1 g none])),(0,ak.row (rM x g))])::H))) (Tr.ok (Ex.exit 0,[(0,shV O U Z V J W B,none),(2,AV.ptr 0 0 0 0,none),(4,AV.ptr 0 1 0 0,none),(5,AV.ptr 0 2 0 0,none),(6,AV.bool true,none),(19,iI U,none),(20,AV.int .i64 i,none),(21,AV.bool false,some 1)],Z0::H))) [(0,shV O U Z V J W B),(2,AV.ptr 0 0 0 0),(4,AV.ptr 0 1 0 0),(5,AV.ptr 0 2 0 0),(6,AV.bool true),(7,AV.int .i64 i),(19,iI U),(20,AV.int .i64 i),(28,iI U),(29,iI 0)])) (bh [(0,ak.row (Row.G [iI 0,iI 0,AV.nils])),(0,ak.row (rM q 20)),(0,ak.row (Row.G [AV.int .i64 f,AV.int .i64 t,aF m y false]))]):=by kernel_rfl
theorem Qq (n:Nat) (O:Int) (U:Nat) (Z:Nat→Int) (V:Nat) (J:Nat→Int) (W B:Nat→Int) (H:aa) (q:Nat→Int) (i:Int):aJ (bN n 65 128) (il aK n 0) (gq aS 2) aR (part Tryd.f65 [1,0,1,1,1,1,0,1,0,0]) (hints (lx (shR O U Z V J W B) false U i)) (fh q (ofNat 0) (ofNat 0) .nils::H) =
 Tr.ite (bE i (ofNat U)) Tr.bad (Tr.ok (Ex.exit 0,[(0,shV O U Z V J W B,none),(2,AV.ptr 0 0 0 0,none),(4,AV.ptr 0 1 0 0,none),(5,AV.ptr 0 2 0 0,none),(6,AV.bool false,none),(19,iI U,none),(20,AV.int .i64 i,none),(21,AV.bool false,some 1)],(bh [(0,ak.row (Row.G [iI 0,iI 0,AV.nils])),(0,ak.row (rM q 20)),(0,ak.row (Row.G [iI 0,iI 0,AV.nils]))])::H)):=by kernel_rfl
theorem Qt (n:Nat) (O:Int) (U:Nat) (Z:Nat→Int) (V:Nat) (J:Nat→Int) (W B:Nat→Int) (H:aa) (q:Nat→Int) (i:Int) (f t:Int) (m:Nat) (y:Nat→Int):aJ (bN n 65 128) (il aK n 0) (gq aS 2) aR (part Tryd.f65 [1,0,1,1,1,1,0,1,0,0]) (hints (lx (shR O U Z V J W B) true U i)) (fh q f t (aF m y false)::H) =
 Tr.ite (bE i (ofNat U)) Tr.bad (Tr.ok (Ex.exit 0,[(0,shV O U Z V J W B,none),(2,AV.ptr 0 0 0 0,none),(4,AV.ptr 0 1 0 0,none),(5,AV.ptr 0 2 0 0,none),(6,AV.bool true,none),(19,iI U,none),(20,AV.int .i64 i,none),(21,AV.bool false,some 1)],(bh [(0,ak.row (Row.G [iI 0,iI 0,AV.nils])),(0,ak.row (rM q 20)),(0,ak.row (Row.G [AV.int .i64 f,AV.int .i64 t,aF m y false]))])::H)):=by kernel_rfl
theorem UC (n:Nat) (O:Int) (U:Nat) (Z:Nat→Int) (V:Nat) (J:Nat→Int) (W B:Nat→Int) (H:aa) (q:Nat→Int) (r:Nat→Int):bo Tryd.prog (cd n) 100000 65 Tryd.f65 (KtG.kt 65) (il (tX aK 56 [shV O U Z V J W B] (.agg (.M [.arr .i64 r 20]))) n 0) (bP aS 0 (lx (shR O U Z V J W B) false U (ofNat 0)) (fh (o5 (fun x=>ofNat 0) 0 r 20) (ofNat 0) (ofNat 0) .nils::H) (.ok (.normal,hints (lx (shR O U Z V J W B) false U (ofNat U)++[(21,.bool false)]),fh q (ofNat 0) (ofNat 0) .nils::H))) aR [(shV O U Z V J W B,none)] H =
 (fun (Z0:bB)=>((fun (Z1:aD)=>Tr.reqP ([shV O U Z V J W B]=[shV O U Z V J W B]) (Tr.req (dN 0 20 0 20) (Tr.reqP (Z1=Z1∧Z0::H=Z0::H) (Tr.ok ((AV.tup [AV.agg (Row.G [iI 0,iI 0,AV.nils]),AV.bool false],none),H))))) [(0,shV O U Z V J W B),(2,AV.ptr 0 0 0 0),(4,AV.ptr 0 1 0 0),(5,AV.ptr 0 2 0 0),(6,AV.bool false),(19,iI U),(20,iI 0)])) (bh [(0,ak.row (Row.G [iI 0,iI 0,AV.nils])),(0,ak.row (rM (o5 (fun x=>ofNat 0) 0 r 20) 20)),(0,ak.row (Row.G [iI 0,iI 0,AV.nils]))]):=by kernel_rfl
theorem UD (n:Nat) (O:Int) (U:Nat) (Z:Nat→Int) (V:Nat) (J:Nat→Int) (W B:Nat→Int) (H:aa) (q:Nat→Int) (r:Nat→Int) (f2 t2:Int) (m2:Nat) (y2:Nat→Int):bo Tryd.prog (cd n) 100000 65 Tryd.f65 (KtG.kt 65) (il (tX aK 56 [shV O U Z V J W B] (.agg (.M [.arr .i64 r 20]))) n 0) (bP aS 0 (lx (shR O U Z V J W B) false U (ofNat 0)) (fh (o5 (fun x=>ofNat 0) 0 r 20) (ofNat 0) (ofNat 0) .nils::H) (.ok (.normal,hints (lx (shR O U Z V J W B) true U (ofNat U)++[(21,.bool false)]),fh q f2 t2 (aF m2 y2 false)::H))) aR [(shV O U Z V J W B,none)] H =
 (fun (Z0:bB)=>((fun (Z1:aD)=>Tr.reqP ([shV O U Z V J W B]=[shV O U Z V J W B]) (Tr.req (dN 0 20 0 20) (Tr.reqP (Z1=Z1∧Z0::H=Z0::H) (Tr.ok ((AV.tup [AV.agg (Row.G [AV.int .i64 f2,AV.int .i64 t2,aF m2 y2 false]),AV.bool true],none),H))))) [(0,shV O U Z V J W B),(2,AV.ptr 0 0 0 0),(4,AV.ptr 0 1 0 0),(5,AV.ptr 0 2 0 0),(6,AV.bool false),(19,iI U),(20,iI 0)])) (bh [(0,ak.row (Row.G [iI 0,iI 0,AV.nils])),(0,ak.row (rM (o5 (fun x=>ofNat 0) 0 r 20) 20)),(0,ak.row (Row.G [iI 0,iI 0,AV.nils]))]):=by kernel_rfl
end Go.Eng
end
section
namespace Go.Eng
open Int (ofNat)
open Go.Proofs Go.Eng.Gall
theorem K0:∀ b,(0,b) ∈ aP (aZ Tryd.f65)→b=.loop (part Tryd.f65 [1,0,1,1,1,1,0,1,0,0]):=eA (by kernel_rfl)
theorem yl:∀ b,(2,b) ∈ aP (part Tryd.f65 [1,0,1,1,1,1,0,1,0,0])→b=.loop (part Tryd.f65 [1,0,1,1,1,1,0,1,0,0,1,1,0,0,1,1,0,0]):=eA (by kernel_rfl)
theorem CO (q:Nat→Int) (U:Nat) (F:Int) (v:Int×Int):∀ k,yd q U F (some v) k≠none
 | 0=>by intro h;cases h
 | k+1=>by
   unfold yd Fx;split
   · intro h;cases h
   · exact CO q U F v k
section
variable (n:Nat) (O:Int) (U:Nat) (Z:Nat→Int) (V:Nat) (J:Nat→Int) (W B:Nat→Int) (H:aa) (q:Nat→Int)
theorem PO (b:Option (Int×Int)):aY (tG q U b::H)=3:=by cases b<;>rfl
theorem Tf (hl:U≤10) (hq:∀ j,j<2*U→-1000000≤q j∧q j≤1000000) (i:Nat) (hi:i<U) (b:Option (Int×Int)) (hb:FI b (q (2*i))=false) :
 exec (bN n 65 128) (.block 2 (.loop (part Tryd.f65 [1,0,1,1,1,1,0,1,0,0,1,1,0,0,1,1,0,0]))) (iG (shR O U Z V J W B) b.isSome U i (ofNat 0)) (tG q U b::H)=some (.normal,iG (shR O U Z V J W B) (yd q U (q (2*i)) b U).isSome U i (ofNat U)++[(30,.bool false)],tG q U (yd q U (q (2*i)) b U)::H):=by
 refine fQ (n:=n) (f:=65) (nt:=128) (c:=part Tryd.f65 [1,0,1,1,1,1,0,1,0,0,1,1,0,0,1,1,0,0]) 2 (fun k=>iG (shR O U Z V J W B) (yd q U (q (2*i)) b k).isSome U i (k:Int)) (fun k=>tG q U (yd q U (q (2*i)) b k)::H) U (iG (shR O U Z V J W B) (yd q U (q (2*i)) b U).isSome U i (ofNat U)++[(30,.bool false)],tG q U (yd q U (q (2*i)) b U)::H) wO (fun k hk=>?_) ?_
 · rw[PO]
   exact Uc n O U Z V J W B H q hl hq i k hi hk (yd q U (q (2*i)) b k) (GX hb k)
 · generalize yd q U (q (2*i)) b U=c
   cases c with
   | none =>
     obtain ⟨x,h1,rfl⟩:=aw (Q:=fun x=>x=(.exit 2,iG (shR O U Z V J W B) false U i (ofNat U)++[(30,.bool false)],tG q U none::H)) (PY n O U Z V J W B H q i (ofNat U)) (aA _) (c8 (ai _ _) 4) (aj _ _) (by
      refine Tr.af wJ (fun h0=>Tr.ag rfl))
     exact h1
   | some v =>
     obtain ⟨f,t⟩:=v
     obtain ⟨x,h1,rfl⟩:=aw (Q:=fun x=>x=(.exit 2,iG (shR O U Z V J W B) true U i (ofNat U)++[(30,.bool false)],tG q U (some (f,t))::H)) (PZ n O U Z V J W B H q i (ofNat U) f t (dR q f t U).length (aC (dR q f t U))) (aA _) (c8 (ai _ _) 4) (aj _ _) (by
      refine Tr.af wJ (fun h0=>Tr.ag rfl))
     exact h1
noncomputable def Gz (q:Nat→Int) (U:Nat) (f t F T:Int):bB:=Fe q f t (aF (dR q f t U).length (aC (dR q f t U)) false) F T (dR q F T U)
theorem Ti (hl:U≤10) (hq:∀ j,j<2*U→-1000000≤q j∧q j≤1000000) (i:Nat) (hi:i<U) (f t:Int) (hb:f<q (2*i)) :
 exec (bN n 65 128) (.block 2 (.loop (part Tryd.f65 [1,0,1,1,1,1,0,1,0,0,1,1,0,0,1,1,0,0]))) (iG (shR O U Z V J W B) true U i (ofNat 0)) (tG q U (some (f,t))::H)=some (.exit 1,BI (shR O U Z V J W B) U i (ofNat 0),Gz q U f t (q (2*i)) (q 1)::H):=by
 have ei:au 0 (i:Int) 2=2*i:=by rw[bt];omega
 have ek:au 0 (ofNat 0) 2=0:=by rw[bt];rfl
 have hb2:decide (f<q (2*i))=true:=decide_eq_true hb
 have hx:exec (bN n 65 128) (part Tryd.f65 [1,0,1,1,1,1,0,1,0,0,1,1,0,0,1,1,0,0]) (iG (shR O U Z V J W B) true U i (ofNat 0)) (tG q U (some (f,t))::H)=some (.exit 1,BI (shR O U Z V J W B) U i (ofNat 0),Gz q U f t (q (2*i)) (q 1)::H):=by
  have hlp:=P4 n H q (shR O U Z V J W B) true f t (dR q f t U).length (aC (dR q f t U)) U i (ofNat 0) (q (2*i)) (q 1) hl;cases hS:dR q (q (2*i)) (q 1) U with
  | nil =>
    rw[hS] at hlp;have e:Gz q U f t (q (2*i)) (q 1)=zm q f t (aF (dR q f t U).length (aC (dR q f t U)) false) (q (2*i)) (q 1):=by unfold Gz;rw[hS];rfl
    rw[e];have T0:=Le n O U Z V J W B H q i (ofNat 0) f t (dR q f t U).length (aC (dR q f t U));rw[ei,ek,aI,Nat.zero_add] at T0;obtain ⟨x,h1,rfl⟩:=aw (Q:=fun x=>x=(.exit 1,BI (shR O U Z V J W B) U i (ofNat 0),zm q f t (aF (dR q f t U).length (aC (dR q f t U)) false) (q (2*i)) (q 1)::H)) T0 (aA _) (az (ai _ _) vQ (fun x hx=>bJ hx (by simp only[db.st,aq];exact hlp))) (aj _ _) (by
     refine Tr.af (fun h0=>?_) wJ;exact Tr.ab wG (Tr.ab wG (Tr.ab wG (Tr.ab wG (Tr.ab wG (Tr.ab wG (Tr.ab wG (Tr.al ⟨rfl,rfl⟩ (Tr.af (fun _=>Tr.af (fun _=>Tr.ag rfl) (fun h=>by rw[bS,hb2] at h;cases h)) (fun h=>by cases h))))))))))
    exact h1
  | cons a r =>
    rw[hS] at hlp;have e:Gz q U f t (q (2*i)) (q 1)=B5 q f t (aF (dR q f t U).length (aC (dR q f t U)) false) (q (2*i)) (q 1) (r.length+1) (aC (a::r)):=by unfold Gz;rw[hS];rfl
    rw[e];have T0:=Lf n O U Z V J W B H q i (ofNat 0) f t (dR q f t U).length (aC (dR q f t U)) (r.length+1) (aC (a::r));rw[ei,ek,aI,Nat.zero_add] at T0;obtain ⟨x,h1,rfl⟩:=aw (Q:=fun x=>x=(.exit 1,BI (shR O U Z V J W B) U i (ofNat 0),B5 q f t (aF (dR q f t U).length (aC (dR q f t U)) false) (q (2*i)) (q 1) (r.length+1) (aC (a::r))::H)) T0 (aA _) (az (ai _ _) vQ (fun x hx=>bJ hx (by simp only[db.st,aq];exact hlp))) (aj _ _) (by
     refine Tr.af (fun h0=>?_) wJ;exact Tr.ab wG (Tr.ab wG (Tr.ab wG (Tr.ab wG (Tr.ab wG (Tr.ab wG (Tr.ab wG (Tr.al ⟨rfl,rfl⟩ (Tr.af (fun _=>Tr.af (fun _=>Tr.ag rfl) (fun h=>by rw[bS,hb2] at h;cases h)) (fun h=>by cases h))))))))))
    exact h1
 exact cP (fun id' h=>by cases h;rfl) (jg (body:=exec (bN n 65 128) (part Tryd.f65 [1,0,1,1,1,1,0,1,0,0,1,1,0,0,1,1,0,0])) (n:=aY (tG q U (some (f,t))::H)) (fun _=>iG (shR O U Z V J W B) true U i (ofNat 0)) (fun _=>tG q U (some (f,t))::H) 0 (fun _=>false) (fun _=>(.exit 1,BI (shR O U Z V J W B) U i (ofNat 0),Gz q U f t (q (2*i)) (q 1)::H)) (fun j h=>absurd h (Nat.not_lt_zero j)) (fun j h=>absurd h (Nat.not_lt_zero j)) ⟨hx,by simp⟩ 0 0 100000 rfl wO)
theorem Ud (hl:U≤10) (hq:∀ j,j<2*U→-1000000≤q j∧q j≤1000000) (i:Nat) (hi:i<U) :
 ∃ x,exec (bN n 65 128) (part Tryd.f65 [1,0,1,1,1,1,0,1,0,0]) (lx (shR O U Z V J W B) (lg q U i).isSome U i) (tG q U (lg q U i)::H)=some x∧x.1=.normal∧tidy 3 x.2.1 x.2.2=(lx (shR O U Z V J W B) (lg q U (i+1)).isSome U ((i+1:Nat):Int),tG q U (lg q U (i+1))::H):=by
 have e1:bm .i64 (i:Int) (ofNat 1)=((i+1:Nat):Int):=eg wO
 have eo:lg q U (i+1)=if FI (lg q U i) (q (2*i))=true then lg q U i else yd q U (q (2*i)) (lg q U i) U:=rfl
 rw[eo]
 by_cases hg:FI (lg q U i) (q (2*i))=true
 · rw[if_pos hg]
   generalize lg q U i=b at *
   cases b with
   | none=>cases hg
   | some v =>
     obtain ⟨f,t⟩:=v
     have hx:=Ti n O U Z V J W B H q hl hq i hi f t (of_decide_eq_true hg)
     cases hS:dR q (q (2*i)) (q 1) U with
     | nil =>
       have e:Gz q U f t (q (2*i)) (q 1)=zm q f t (aF (dR q f t U).length (aC (dR q f t U)) false) (q (2*i)) (q 1):=by unfold Gz;rw[hS];rfl
       rw[e] at hx
       have T0:=Qv n O U Z V J W B H q i f t (dR q f t U).length (aC (dR q f t U)) (q (2*i)) (q 1)
       rw[e1] at T0
       refine aw T0 (aA _) (az (ai _ _) yl (fun x h=>bJ h (by simp only[db.st,aq];exact hx))) (aj _ _) ?_
       exact Tr.af (fun h0=>Tr.al ⟨rfl,rfl⟩ (Tr.ag ⟨rfl,rfl⟩)) wJ
     | cons a r =>
       have e:Gz q U f t (q (2*i)) (q 1)=B5 q f t (aF (dR q f t U).length (aC (dR q f t U)) false) (q (2*i)) (q 1) (r.length+1) (aC (a::r)):=by unfold Gz;rw[hS];rfl
       rw[e] at hx
       have T0:=Qw n O U Z V J W B H q i f t (dR q f t U).length (aC (dR q f t U)) (q (2*i)) (q 1) (r.length+1) (aC (a::r))
       rw[e1] at T0
       refine aw T0 (aA _) (az (ai _ _) yl (fun x h=>bJ h (by simp only[db.st,aq];exact hx))) (aj _ _) ?_
       exact Tr.af (fun h0=>Tr.al ⟨rfl,rfl⟩ (Tr.ag ⟨rfl,rfl⟩)) wJ
 · rw[if_neg hg]
   have hg:FI (lg q U i) (q (2*i))=false:=by simpa using hg
   have hx:=Tf n O U Z V J W B H q hl hq i hi _ hg
   generalize hc:yd q U (q (2*i)) (lg q U i) U=c at *
   generalize lg q U i=b at *
   cases b with
   | none =>
     cases c with
     | none =>
       have T0:=Qr n O U Z V J W B H q i
       rw[e1] at T0
       refine aw T0 (aA _) (az (ai _ _) yl (fun x h=>bJ h (by simp only[db.st,aq];exact hx))) (aj _ _) ?_
       exact Tr.af (fun h0=>Tr.al ⟨rfl,rfl⟩ (Tr.ag ⟨rfl,rfl⟩)) wJ
     | some v =>
       obtain ⟨f,t⟩:=v
       have T0:=Qs n O U Z V J W B H q i f t (dR q f t U).length (aC (dR q f t U))
       rw[e1] at T0
       refine aw T0 (aA _) (az (ai _ _) yl (fun x h=>bJ h (by simp only[db.st,aq];exact hx))) (aj _ _) ?_
       exact Tr.af (fun h0=>Tr.al ⟨rfl,rfl⟩ (Tr.ag ⟨rfl,rfl⟩)) wJ
   | some v =>
     obtain ⟨f,t⟩:=v
     cases c with
     | none=>exact absurd hc (CO _ _ _ _ _)
     | some v2 =>
       obtain ⟨f2,t2⟩:=v2
       have T0:=Qu n O U Z V J W B H q i f t (dR q f t U).length (aC (dR q f t U)) f2 t2 (dR q f2 t2 U).length (aC (dR q f2 t2 U))
       rw[e1] at T0
       refine aw T0 (aA _) (az (ai _ _) yl (fun x h=>bJ h (by simp only[db.st,aq];exact hx))) (aj _ _) ?_
       exact Tr.af (fun h0=>Tr.al ⟨rfl,rfl⟩ (Tr.ag ⟨rfl,rfl⟩)) wJ
end
end Go.Eng
end
section
namespace Go.Eng
open Int (ofNat)
open Go.Proofs Go.Eng.Gall
theorem IY (n:Nat) (b:Nat→Nat) (w:Nat→Int):Bd n b w n (jL n b w) where
 lo c hc:=by
  have:jL n b w (2*c)=fC n b w n c:=by unfold jL;rw[if_pos wO,if_pos wO,show 2*c / 2=c by omega]
  omega
 hi c hc:=by
  have:jL n b w (2*c+1)=-fB n b w n c:=by unfold jL;rw[if_pos wO,if_neg wO,show (2*c+1) / 2=c by omega]
  omega
 out i hi:=by unfold jL;rw[if_neg wO]
section
variable (n:Nat) (O:Int) (U:Nat) (Z:Nat→Int) (V:Nat) (J:Nat→Int) (W B:Nat→Int) (H:aa) (q:Nat→Int)
theorem Tg (hl:U≤10) (hq:∀ j,j<2*U→-1000000≤q j∧q j≤1000000) :
 exec (bN n 65 128) (.block 0 (.loop (part Tryd.f65 [1,0,1,1,1,1,0,1,0,0]))) (lx (shR O U Z V J W B) false U (ofNat 0)) (fh q (ofNat 0) (ofNat 0) .nils::H)=some (.normal,lx (shR O U Z V J W B) (lg q U U).isSome U (ofNat U)++[(21,.bool false)],tG q U (lg q U U)::H):=by
 refine fQ (n:=n) (f:=65) (nt:=128) (c:=part Tryd.f65 [1,0,1,1,1,1,0,1,0,0]) 0 (fun i=>lx (shR O U Z V J W B) (lg q U i).isSome U (i:Int)) (fun i=>tG q U (lg q U i)::H) U (lx (shR O U Z V J W B) (lg q U U).isSome U (ofNat U)++[(21,.bool false)],tG q U (lg q U U)::H) wO (fun i hi=>?_) ?_
 · rw[PO]
   exact Ud n O U Z V J W B H q hl hq i hi
 · generalize lg q U U=c
   cases c with
   | none =>
     obtain ⟨x,h1,rfl⟩:=aw (Q:=fun x=>x=(.exit 0,lx (shR O U Z V J W B) false U (ofNat U)++[(21,.bool false)],tG q U none::H)) (Qq n O U Z V J W B H q (ofNat U)) (aA _) (c8 (ai _ _) 2) (aj _ _) (by
      refine Tr.af wJ (fun h0=>Tr.ag rfl))
     exact h1
   | some v =>
     obtain ⟨f,t⟩:=v
     obtain ⟨x,h1,rfl⟩:=aw (Q:=fun x=>x=(.exit 0,lx (shR O U Z V J W B) true U (ofNat U)++[(21,.bool false)],tG q U (some (f,t))::H)) (Qt n O U Z V J W B H q (ofNat U) f t (dR q f t U).length (aC (dR q f t U))) (aA _) (c8 (ai _ _) 2) (aj _ _) (by
      refine Tr.af wJ (fun h0=>Tr.ag rfl))
     exact h1
noncomputable def Wa (q:Nat→Int) (U:Nat):Option (Int×Int)→AV
 | none=>.tup [.agg (.G [.int .i64 (ofNat 0),.int .i64 (ofNat 0),.nils]),.bool false]
 | some (f,t)=>.tup [.agg (.G [.int .i64 f,.int .i64 t,aF (dR q f t U).length (aC (dR q f t U)) false]),.bool true]
noncomputable def qB (r:Nat→Int):Nat→Int:=o5 (fun _=>ofNat 0) 0 r 20
theorem HJ (r:Nat→Int) {j:Nat} (hj:j<20):qB r j=r j:=by unfold qB;rw[w7];unfold yr;simp[hj]
theorem VJ (b:Nat→Nat) (hS:gy U W b):cd (n+3) (.fn 65) [shV O U Z V J W (bI b)] H=some (Wa (qB (jL U b W)) U (lg (qB (jL U b W)) U U),H):=by
 have hq:∀ j,j<2*U→-1000000≤qB (jL U b W) j∧qB (jL U b W) j≤1000000:=fun j hj=>by
  have hl:=hS.len;rw[HJ _ wO];have h:=Bk (K:=100000) wO hS.win (IY U b W) (j / 2) wO;rcases Nat.mod_two_eq_zero_or_one j with e | e
  · rw[show 2*(j / 2)=j by omega] at h;omega
  · rw[show 2*(j / 2)+1=j by omega] at h;omega
 have h56:=fun H=>Wd n O U Z V J W b H hS;have hlp:=Tg (n+2) O U Z V J W (bI b) H (qB (jL U b W)) hS.len hq;generalize hQ:lg (qB (jL U b W)) U U=c at *;cases c with
 | none =>
   refine ph (n:=n+2) Tryd.func65 rfl (fun _ _=>rfl) rfl (UC (n+2) O U Z V J W (bI b) H (qB (jL U b W)) (jL U b W)) (bQ _ _ (eJ (bp _) h56)) (az (ai _ _) K0 (fun x h=>bJ h (by simp only[db.st,aq];exact hlp))) (aj _ _) ?_;exact Tr.al rfl (Tr.ab wG (Tr.al ⟨rfl,rfl⟩ (Tr.ag ⟨rfl,rfl⟩)))
 | some v =>
   obtain ⟨f,t⟩:=v;refine ph (n:=n+2) Tryd.func65 rfl (fun _ _=>rfl) rfl (UD (n+2) O U Z V J W (bI b) H (qB (jL U b W)) (jL U b W) f t (dR (qB (jL U b W)) f t U).length (aC (dR (qB (jL U b W)) f t U))) (bQ _ _ (eJ (bp _) h56)) (az (ai _ _) K0 (fun x h=>bJ h (by simp only[db.st,aq];exact hlp))) (aj _ _) ?_;exact Tr.al rfl (Tr.ab wG (Tr.al ⟨rfl,rfl⟩ (Tr.ag ⟨rfl,rfl⟩)))
end
end Go.Eng
end
section
namespace Go.Eng
open Go.Proofs Go.Eng.Gall Go.Eng.Q
theorem DK {W:Nat→Int} {b:Nat→Nat} {k X c:Nat} (hb:b c<2 ^ 62) (hX:X<2 ^ 62):okW W (bI b) k X c=true↔(∀ a,(b c).testBit a=true→X.testBit a=true)∧W (2*c)≤(k:Int)∧(k:Int)≤W (2*c+1):=by
 unfold okW;obtain ⟨w,hw,hw2⟩:=RO hb hX;rw[show bI b c=(b c:Int) from rfl,hw,Bool.and_eq_true,Bool.and_eq_true,bu,bu,bg,decide_eq_true_iff,decide_eq_true_iff,beq_iff_eq];have e:(w:Int)=Int.ofNat 0↔∀ a,(b c).testBit a=true→X.testBit a=true:=by
  constructor
  · intro h a ha;have h:w=0:=by
     have h:(w:Int)=0:=h;omega
    have:=hw2 a;rw[h,Nat.zero_testBit,ha,Bool.true_and] at this;cases e:X.testBit a with
    | true=>rfl
    | false=>rw[e] at this;cases this
  · intro h;have:w=0:=by
     apply Nat.eq_of_testBit_eq;intro a;rw[hw2,Nat.zero_testBit];cases e:(b c).testBit a with
     | false=>rfl
     | true=>rw[h a e];rfl
    rw[this];rfl
 rw[e]
theorem jE {n:Nat} {b:Nat→Nat} {W:Nat→Int} {L:List Nat} (hn:n≤10) (hb:∀ c,c<n→b c<2 ^ n):L ∈ ro n (okW W (bI b)) n↔L.length=n∧L.Nodup∧(∀ x ∈ L,x<n)∧∀ i (h:i<L.length),(∀ a,(b L[i]).testBit a=true→a ∈ L.take i)∧W (2*L[i])≤(i:Int)∧(i:Int)≤W (2*L[i]+1):=by
 have p62:2 ^ n≤2 ^ 62:=Nat.pow_le_pow_right wO wO;constructor
 · intro h;obtain ⟨h1,h2,h3⟩:=mW h;refine ⟨h1,h2,h3,fun i hi=>?_⟩;have hl:=h3 _ (List.getElem_mem hi);have hnt:(L.take i).Nodup:=h2.sublist (List.take_sublist i L);have hm:mask (L.take i)<2 ^ n:=sa hnt fun x hx=>h3 x (List.mem_of_mem_take hx);have:=((xQ.1 h).2 i hi).2.2;rw[DK (Nat.lt_of_lt_of_le (hb _ hl) p62) (Nat.lt_of_lt_of_le hm p62)] at this;refine ⟨fun a ha=>?_,this.2⟩;have:=this.1 a ha;rw[dE hnt] at this;exact of_decide_eq_true this
 · rintro ⟨h1,h2,h3,h4⟩;refine xQ.2 ⟨h1,fun i hi=>?_⟩;have hl:=h3 _ (List.getElem_mem hi);have hnt:(L.take i).Nodup:=h2.sublist (List.take_sublist i L);have hm:mask (L.take i)<2 ^ n:=sa hnt fun x hx=>h3 x (List.mem_of_mem_take hx);refine ⟨hl,?_,(DK (Nat.lt_of_lt_of_le (hb _ hl) p62) (Nat.lt_of_lt_of_le hm p62)).2 ⟨fun a ha=>?_,(h4 i hi).2⟩⟩
   · rw[dE hnt];refine decide_eq_false fun hx=>?_;obtain ⟨j,hj,he⟩:=List.mem_iff_getElem.1 hx;rw[List.length_take] at hj;rw[List.getElem_take] at he;have:=(List.pairwise_iff_getElem.1 h2) j i wO hi wO;exact this he
   · rw[dE hnt];exact decide_eq_true ((h4 i hi).1 a ha)
section
variable {n:Nat} {b:Nat→Nat} {W:Nat→Int} {L:List Nat}
theorem iD {L:List Nat} {c:Nat} (h:c ∈ L):∃ hi:L.idxOf c<L.length,L[L.idxOf c]=c:=⟨List.idxOf_lt_length_iff.2 h,List.getElem_idxOf _⟩
theorem x7 {L:List Nat} {a i:Nat} (h:a ∈ L.take i):L.idxOf a<i:=by
 obtain ⟨j,hj,he⟩:=List.mem_iff_getElem.1 h;rw[List.length_take] at hj;rw[List.getElem_take] at he;have h2:L.idxOf a≤j:=by
  refine Nat.le_of_not_lt fun hlt=>?_;have:=List.not_of_lt_findIdx (p:=(· == a)) (xs:=L) (i:=j) hlt;rw[he] at this;simp at this
 omega
theorem G6 (hL:L.length=n∧L.Nodup∧(∀ x ∈ L,x<n)∧∀ i (h:i<L.length),(∀ a,(b L[i]).testBit a=true→a ∈ L.take i)∧W (2*L[i])≤(i:Int)∧(i:Int)≤W (2*L[i]+1)):∀ t c,c ∈ L→fC n b W t c≤(L.idxOf c:Int)
 | 0,c,hc=>by
   obtain ⟨hi,he⟩:=iD hc;have:=(hL.2.2.2 _ hi).2.1;rw[he] at this;exact this
 | t + 1,c,hc=>by
   rcases jA (fC n b W t c) (fun a=>fC n b W t a+1) (fun a=>(b c).testBit a) n with e | ⟨a,h1,h2,h3⟩
   · have e:fC n b W (t+1) c=fC n b W t c:=e;rw[e];exact G6 hL t c hc
   · have h3:fC n b W (t+1) c=fC n b W t a+1:=h3;obtain ⟨hi,he⟩:=iD hc;have hm:=(hL.2.2.2 _ hi).1 a (by rw[he];exact h2);have:=x7 hm;have:=G6 hL t a (List.mem_of_mem_take hm);omega
theorem GR (hL:L.length=n∧L.Nodup∧(∀ x ∈ L,x<n)∧∀ i (h:i<L.length),(∀ a,(b L[i]).testBit a=true→a ∈ L.take i)∧W (2*L[i])≤(i:Int)∧(i:Int)≤W (2*L[i]+1)):∀ t c,c ∈ L→fB n b W t c≤-(L.idxOf c:Int)
 | 0,c,hc=>by
   obtain ⟨hi,he⟩:=iD hc;have:=(hL.2.2.2 _ hi).2.2;rw[he] at this;show -W (2*c+1)≤_;omega
 | t + 1,c,hc=>by
   rcases jA (fB n b W t c) (fun a=>fB n b W t a+1) (fun a=>(b a).testBit c) n with e | ⟨a,h1,h2,h3⟩
   · have e:fB n b W (t+1) c=fB n b W t c:=e;rw[e];exact GR hL t c hc
   · have h3:fB n b W (t+1) c=fB n b W t a+1:=h3;have ha:a ∈ L:=fv hL.2.1 hL.1 hL.2.2.1 h1;obtain ⟨hi,he⟩:=iD ha;have hm:=(hL.2.2.2 _ hi).1 c (by rw[he];exact h2);have:=x7 hm;have:=GR hL t a ha;omega
theorem JD {M:List Int} (hn:M.Nodup) {F T:Int} (h:∀ x ∈ M,F≤x∧x≤T):M≠[]→(M.length:Int)≤T-F+1:=fun hne=>by
 have h1:(M.map fun x=>(x-F).toNat).Nodup:=by
  rw[List.Nodup,List.pairwise_map,List.pairwise_iff_getElem];intro i j hi hj hij;have a:=(List.pairwise_iff_getElem.1 hn) i j hi hj hij;have b1:=h _ (List.getElem_mem hi);have b2:=h _ (List.getElem_mem hj);have a:M[i]≠M[j]:=a;omega
 have h2:=gm h1 (M:=List.range (T-F+1).toNat) (fun y hy=>by
  obtain ⟨x,hx,rfl⟩:=List.mem_map.1 hy;have:=h x hx;rw[List.mem_range];omega)
 rw[List.length_map,List.length_range] at h2;obtain ⟨x,hx⟩:=List.exists_mem_of_ne_nil M hne;have:=h x hx;omega
theorem Bm (hS:gy n W b) (hW:∀ c,c<n→0≤W (2*c)∧W (2*c+1)<n):lg (qB (jL n b W)) n n=none↔∃ L,L ∈ ro n (okW W (bI b)) n:=by
 have hl:=hS.len;have hqe:∀ c,c<n→qB (jL n b W) (2*c)=fC n b W n c∧qB (jL n b W) (2*c+1)=-fB n b W n c:=fun c hc=>by
  rw[HJ _ wO,HJ _ wO];unfold jL;rw[if_pos wO,if_pos wO,if_pos wO,if_neg wO,show 2*c / 2=c by omega,show (2*c+1) / 2=c by omega];exact ⟨rfl,rfl⟩
 have hlo:∀ c,W (2*c)≤fC n b W n c:=fun c=>by have:=lo_le (n:=n) (b:=b) (w:=W) 0 n c;rw[Nat.zero_add] at this;exact this
 have hhi:∀ c,-W (2*c+1)≤fB n b W n c:=fun c=>by have:=Dg (n:=n) (b:=b) (w:=W) 0 n c;rw[Nat.zero_add] at this;exact this
 constructor
 · intro h;have hr:=Kn h;obtain ⟨L,hL⟩:=HP (B:=fun a c=>(b c).testBit a=true) hr (fun i hi=>by show 0≤qB _ (2*i);rw[(hqe i hi).1];have:=hlo i;have:=hW i hi;omega) (fun i hi=>by show qB _ (2*i+1) < _;rw[(hqe i hi).2];have:=hhi i;have:=hW i hi;omega) (fun a c ha hc hp=>by
    show qB _ (2*a)<qB _ (2*c)∧qB _ (2*a+1)<qB _ (2*c+1);rw[(hqe a ha).1,(hqe c hc).1,(hqe a ha).2,(hqe c hc).2];have:=G5 (w:=W) hS.nob ha hc hp;have:=Lb (w:=W) hS.nob ha hc hp;omega)
   refine ⟨L,(jE hl hS.bef).2 ⟨hL.len,hL.nd,hL.lt,fun i hi=>⟨fun a ha=>?_,?_⟩⟩⟩
   · have hc:=hL.lt _ (List.getElem_mem hi);have han:a<n:=by
      refine Nat.lt_of_not_le fun hge=>?_;rw[Nat.testBit_lt_two_pow (Nat.lt_of_lt_of_le (hS.bef _ hc) (Nat.pow_le_pow_right wO hge))] at ha;cases ha
     obtain ⟨hj,he⟩:=iD (fv hL.nd hL.len hL.lt han);rcases Nat.lt_trichotomy (L.idxOf a) i with q | q | q
     · refine List.mem_iff_getElem.2 ⟨L.idxOf a,by rw[List.length_take];omega,?_⟩;rw[List.getElem_take];exact he
     · exfalso;have e:L[i]=a:=by rw[← he];congr 1;exact q.symm
       have:=G5 (w:=W) hS.nob (a:=a) (c:=L[i]) han hc ha;rw[e] at this;omega
     · exact absurd (by rw[he];exact ha) (hL.pair i (L.idxOf a) hi hj q)
   · have hc:=hL.lt _ (List.getElem_mem hi);have:=hL.suit i hi;have h1:qB (jL n b W) (2*L[i])≤(i:Int):=this.1;have h2:(i:Int)≤qB (jL n b W) (2*L[i]+1):=this.2;rw[(hqe _ hc).1] at h1;rw[(hqe _ hc).2] at h2;have:=hlo L[i];have:=hhi L[i];omega
 · rintro ⟨L,hL⟩;have hL:=(jE hl hS.bef).1 hL;have hf:kb (fun x y=>∃ j k,j<n∧k<n∧x=qB (jL n b W) (2*j)∧y=qB (jL n b W) (2*k+1)∧um (qB (jL n b W)) n x y=true) (lg (qB (jL n b W)) n n):=by
    rcases uk (qB (jL n b W)) n n with h1 | ⟨f,t,h1,h2⟩
    · exact h1
    · rw[h1];exact h2
   cases e:lg (qB (jL n b W)) n n with
   | none=>rfl
   | some v =>
     exfalso;obtain ⟨F,T⟩:=v;rw[e] at hf;obtain ⟨⟨j,k,hj,hk,_,_,hov⟩,_⟩:=hf;unfold um at hov;rw[Bool.and_eq_true,decide_eq_true_iff,decide_eq_true_iff] at hov;have hm:∀ x ∈ dR (qB (jL n b W)) F T n,∃ c,c<n∧x=(c:Int)∧F≤(L.idxOf c:Int)∧(L.idxOf c:Int)≤T:=fun x hx=>by
      obtain ⟨c,h1,h2,h3⟩:=(r6 _ _ _ _ _).1 hx;unfold yf at h2;rw[Bool.and_eq_true,decide_eq_true_iff,decide_eq_true_iff,(hqe c h1).1,(hqe c h1).2] at h2;have hc:c ∈ L:=fv hL.2.1 hL.1 hL.2.2.1 h1;have:=G6 hL n c hc;have:=GR hL n c hc;exact ⟨c,h1,h3,by omega,by omega⟩
     have hnd:((dR (qB (jL n b W)) F T n).map fun x=>(L.idxOf x.toNat:Int)).Nodup:=by
      rw[List.Nodup,List.pairwise_map];refine (List.Pairwise.and_mem.1 (wg (qB (jL n b W)) F T n)).imp ?_;rintro x y ⟨hx,hy,hne⟩ he;obtain ⟨c,h1,rfl,_⟩:=hm x hx;obtain ⟨d,h2,rfl,_⟩:=hm y hy;rw[Int.toNat_natCast,Int.toNat_natCast] at he;obtain ⟨i1,e1⟩:=iD (fv hL.2.1 hL.1 hL.2.2.1 h1);obtain ⟨i2,e2⟩:=iD (fv hL.2.1 hL.1 hL.2.2.1 h2);have he:L.idxOf c=L.idxOf d:=by omega
      have:c=d:=by
       rw[← e1,← e2];congr 1
      exact hne (by rw[this])
     have:=JD hnd (F:=F) (T:=T) (fun y hy=>by
      obtain ⟨x,hx,rfl⟩:=List.mem_map.1 hy;obtain ⟨c,_,rfl,h3⟩:=hm x hx;rw[Int.toNat_natCast];exact h3) (fun h0=>by
       have:=congrArg List.length h0;rw[List.length_map] at this;simp at this;rw[this] at hov;simp at hov)
     rw[List.length_map] at this;omega
end
end Go.Eng
end
section
namespace Go.Eng
open Go.Proofs Go.Eng.Gall
theorem YA (n:Nat) (O:Int) (U:Nat) (Z:Nat→Int) (V:Nat) (J:Nat→Int) (W B:Nat→Int) (H:aa) (k:Int):bo Tryd.prog (cd n) 100000 34 Tryd.f34 (KtG.kt 34) (il (tX (tX aK 49 [bj O U Z V J,.nils] (.tup [shV O U Z V J W B,.int .i64 (Int.ofNat 0)])) 73 [shV O U Z V J W B] (.int .i64 k)) n 0) aS aR [(bj O U Z V J,none)] H =
 Tr.reqP ([bj O U Z V J,AV.nils]=[bj O U Z V J,AV.nils]) (Tr.ite (aQ (bV (Int.ofNat 0) (Int.ofNat 0))) (Tr.ok ((AV.tup [iI 0,iI 0],none),H)) (Tr.reqP ([shV O U Z V J W B]=[shV O U Z V J W B]) (Tr.ok ((AV.tup [AV.int .i64 k,iI 0],none),H)))):=by kernel_rfl
theorem Uv (n:Nat) (O:Int) (U:Nat) (Z:Nat→Int) (V:Nat) (J:Nat→Int) (H:aa) (e:Int):bo Tryd.prog (cd n) 100000 34 Tryd.f34 (KtG.kt 34) (il (tN (tX aK 49 [bj O U Z V J,.nils] (.tup [.nilp,.int .i64 e])) 73) n 0) aS aR [(bj O U Z V J,none)] H =
 Tr.reqP ([bj O U Z V J,AV.nils]=[bj O U Z V J,AV.nils]) (Tr.ite (aQ (bV e (Int.ofNat 0))) (Tr.ok ((AV.tup [iI 0,AV.int .i64 e],none),H)) Tr.bad):=by kernel_rfl
theorem Ux (n:Nat) (O:Int) (U:Nat) (Z:Nat→Int) (V:Nat) (J:Nat→Int) (G:aa) (e:Int):bo Tryd.prog (cd (n+2)) 100000 49 Tryd.f49 (KtG.kt 49) (il (tN (tX aK 22 [bj O U Z V J] (.int .i64 e)) 62) n 2) aS aR [(bj O U Z V J,none),(.nils,none)] G =
 Tr.reqP ([bj O U Z V J]=[bj O U Z V J]) (Tr.ite (aQ (bV e (Int.ofNat 0))) (Tr.ok ((AV.tup [AV.nilp,AV.int .i64 e],none),G)) Tr.bad):=by kernel_rfl
section
variable (n:Nat) (O:Int) (U:Nat) (Z:Nat→Int) (V:Nat) (J:Nat→Int) (H:aa)
theorem RY (hl:U≤1000) (hb:V≤1000) (h0:¬ bL O U Z V J=0):cd (n+14) (.fn 49) [bj O U Z V J,.nils] H=some (.tup [.nilp,.int .i64 (bL O U Z V J)],H):=by
 refine bF (n:=n+13) Tryd.func49 rfl rfl rfl (Ux (n+11) O U Z V J H (bL O U Z V J)) (ir _ (n+11) 2 (fun q=>Al (eJ (bp _) (fun H=>by
  rw[show n+11+q=n+q+11 by omega];exact RW (n+q) O U Z V J H hl hb)))) (ai _ _) (aj _ _) ?_
 refine Tr.al rfl (Tr.af (fun q=>Tr.ag ⟨rfl,rfl⟩) (fun q=>?_));rw[aH,bg] at q;exact absurd (by simpa using q) h0
noncomputable def RD:AV:=if bL O U Z V J=0 then .tup [.int .i64 (Q.cntF U (dg O U Z) (fI V J)),.int .i64 0] else .tup [.int .i64 0,.int .i64 (bL O U Z V J)]
theorem VH (hl:U≤1000) (hb:V≤1000):cd (n+15) (.fn 34) [bj O U Z V J] H=some (RD O U Z V J,H):=by
 unfold RD;by_cases h0:bL O U Z V J=0
 · rw[if_pos h0];obtain ⟨h1,_⟩:=ke h0;refine bF (n:=n+14) Tryd.func34 rfl rfl rfl (YA (n+14) O U Z V J (dg O U Z) (fI V J) H (Q.cntF U (dg O U Z) (fI V J))) (bQ _ _ (eJ (eJ (bp _) (fun H=>Pf n O U Z V J H hb h0)) (fun H=>R3 (n+13) O U Z V J (dg O U Z) (fI V J) H h1.2))) (ai _ _) (aj _ _) ?_;refine Tr.al rfl (Tr.af (fun q=>by simp[aH,bg] at q) (fun q=>Tr.al rfl (Tr.ag ⟨rfl,rfl⟩)))
 · rw[if_neg h0];refine bF (n:=n+14) Tryd.func34 rfl rfl rfl (Uv (n+14) O U Z V J H (bL O U Z V J)) (bQ _ _ (Al (eJ (bp _) (fun H=>RY n O U Z V J H hl hb h0)))) (ai _ _) (aj _ _) ?_;refine Tr.al rfl (Tr.af (fun q=>Tr.ag ⟨rfl,rfl⟩) (fun q=>?_));rw[aH,bg] at q;exact absurd (by simpa using q) h0
end
end Go.Eng
end
section
namespace Go.Eng
open Go.Proofs Go.Eng.Gall
noncomputable def iP (r:Row) (a b:Int):bB:=⟨false,[(0,.row r),(0,.row (.I .i64 [a,b]))]⟩
end Go.Eng
end
section
namespace Go.Eng
open Go.Proofs Go.Eng.Gall
noncomputable def wA (O:Int) (U:Nat) (Z:Nat→Int) (V:Nat) (J:Nat→Int):Option (Int×Int):=lg (qB (jL U (fun c=>fA J c V) (dg O U Z))) U U
noncomputable def T7 (O:Int) (U:Nat) (Z:Nat→Int) (V:Nat) (J:Nat→Int):AV:=if wA O U Z V J=none then .tup [Lw O U Z V J,.int .i64 (Int.ofNat 0)] else .tup [.nilp,.int .i64 (Int.ofNat 13)]
section
variable (n:Nat) (O:Int) (U:Nat) (Z:Nat→Int) (V:Nat) (J:Nat→Int) (H:aa) (r r2:Row) (a b:Int)
end
end Go.Eng
end
section
namespace Go.Eng
open Go.Proofs Go.Eng.Gall
end Go.Eng
end
section
namespace Go.Eng
open Go.Proofs Go.Eng.Gall
section
variable (n:Nat) (O:Int) (U:Nat) (Z:Nat→Int) (V:Nat) (J:Nat→Int) (H:aa) (a b:Nat)
theorem NX {c f i:Nat} {H:aa} {r:Row} {v:AV} {H':aa} (hf:f=63∨f=65) (hr:c6 H 0 i 0=some r) (hh:HT r=true) (h:cd c (.fn f) [.ptrT none r 0] [⟨true,[]⟩]=some (v,H')):iy (cd c) f [.ptr 0 i 0 0] H=some (Nd v,H):=by
 have e:QG (cd c) f [.ptr 0 i 0 0] H=some (Nd v,H):=by
  show (match c6 H 0 i 0 with
   | some r=>if (HT r && [].all (tW 9))=true then (match cd c (.fn f) (.ptrT none r 0::[]) [⟨true,[]⟩] with
     | some (v,_)=>some (Nd v,H)
     | none=>none) else none
   | none=>none)=_
  rw[hr];dsimp only;rw[hh,h];rfl
 have e2:iy (cd c) f [.ptr 0 i 0 0] H=(match QG (cd c) f [.ptr 0 i 0 0] H with
  | some x=>some x
  | none=>uj [⟨15,[],.bool true⟩] (cd c) f [.ptr 0 i 0 0] H):=by rcases hf with rfl | rfl<;>rfl
 rw[e2,e]
end
end Go.Eng
end
section
namespace Go.Eng
open Go.Proofs Go.Eng.Gall Go.Eng.Q
theorem uA (n:Nat) (ok:Nat→Nat→Nat→Bool):∀ k,(ro n ok k).Nodup
 | 0=>by show [[]].Nodup;simp
 | k + 1=>by
   have ih:=uA n ok k;show ((ro n ok k).flatMap fun L=>(nx ok n k (mask L)).map fun c=>L++[c]).Nodup;rw[List.Nodup,List.flatMap,List.pairwise_flatten];refine ⟨fun l hl=>?_,?_⟩
   · obtain ⟨L,hL,rfl⟩:=List.mem_map.1 hl;rw[List.pairwise_map];have hn:(nx ok n k (mask L)).Nodup:=List.Pairwise.filter _ List.nodup_range;exact hn.imp (fun h e=>h (by simpa using e))
   · rw[List.pairwise_map];refine ih.imp (fun h x hx y hy e=>?_);obtain ⟨c,_,rfl⟩:=List.mem_map.1 hx;obtain ⟨d,_,rfl⟩:=List.mem_map.1 hy;have:=congrArg List.dropLast e;simp only[List.dropLast_concat] at this;exact h this
section
variable {n:Nat} {g:Nat→Nat} {W:Nat→Int}
theorem BR {L:List Nat} (hn:L.Nodup) {i:Nat} (hi:i<L.length):L.idxOf L[i]=i:=by
 obtain ⟨hj,he⟩:=iD (List.getElem_mem hi);rcases Nat.lt_trichotomy (L.idxOf L[i]) i with q | q | q
 · exact absurd he ((List.pairwise_iff_getElem.1 hn) _ _ hj hi q)
 · exact q
 · exact absurd he.symm ((List.pairwise_iff_getElem.1 hn) _ _ hi hj q)
theorem NC {α:Type} [DecidableEq α] {l m:List α} (h1:l.Nodup) (h2:m.Nodup) (h:∀ x,x ∈ l↔x ∈ m):l.length=m.length :=
 ((List.perm_ext_iff_of_nodup h1 h2).2 h).length_eq
end
end Go.Eng
end
section
namespace Go.Eng
open Go.Proofs Go.Eng.Gall Go.Eng.Q
section
variable {O:Int} {U:Nat} {Z:Nat→Int} {V:Nat} {J zb2:Nat→Int} {a b:Nat}
end
end Go.Eng
end
section
namespace Go.Eng
open Go.Proofs Go.Eng.Gall Go.Eng.Q
section
variable {O:Int} {U:Nat} {Z:Nat→Int} {V:Nat} {J:Nat→Int} {a b:Nat}
theorem Ba (c:Nat) (hc:c<U):0≤dg O U Z (2*c)∧dg O U Z (2*c+1)<U:=by
 unfold dg;rw[if_pos wO,if_pos wO,if_pos wO,if_neg wO];omega
theorem Hm (h0:bL O U Z V J=0):wA O U Z V J=none↔¬ cntF U (dg O U Z) (fI V J)=0:=by
 obtain ⟨h1,h2,h3,h4,h5,h6⟩:=ke h0;have hi:=Bm (H9 O U Z V J h1.2 h3 h4 h5 h6) Ba;unfold wA;rw[hi];unfold cntF;constructor
 · rintro ⟨L,hL⟩ h;rw[show fI V J=bI (fun c=>fA J c V) from rfl] at h;rw[List.eq_nil_of_length_eq_zero (show (ro U (okW (dg O U Z) (bI (fun c=>fA J c V))) U).length=0 by omega)] at hL;cases hL
 · intro h;rw[show fI V J=bI (fun c=>fA J c V) from rfl] at h;cases e:ro U (okW (dg O U Z) (bI (fun c=>fA J c V))) U with
   | nil=>rw[e] at h;exact absurd rfl h
   | cons L l=>exact ⟨L,by simp⟩
end
end Go.Eng
end
section
namespace Go.Eng
open Go.Proofs Go.Eng.Gall Go.Eng.Q
section
variable {n:Nat} {g:Nat→Nat} {W:Nat→Int}
variable (n g W)
noncomputable def JZ (W:Nat→Int):Bool:=(lg (qB (jL n g W)) n n).isNone
variable {n g W}
end
end Go.Eng
end
section
namespace Go.Eng
open Go.Proofs Go.Eng.Gall
noncomputable def MA (s:Nat) (R:Row):AV:=.fn (.func 90) [] [.ptrT (some s) (.G [.ptrT none R 0]) 0]
noncomputable def s6 (U:Nat) (j:Int):aD:=[(0,.yld 1 5),(9,.int .i64 (Int.ofNat U)),(10,.int .i64 j)]
theorem VX (n:Nat) (O:Int) (U:Nat) (Z:Nat→Int) (V:Nat) (J:Nat→Int) (W B:Nat→Int) (H:aa):bo Tryd.prog (cd n) 100000 70 Tryd.f70 (KtG.kt 70) (il aK n 0) aS aR [(shV O U Z V J W B,none)] H =
 Tr.ok ((AV.fn (Fn.func 90) [] [AV.ptrT (some 0) (Row.G [shV O U Z V J W B]) 0],none),H):=by kernel_rfl
end Go.Eng
end
section
namespace Go.Eng
open Go.Proofs Go.Eng.Gall
section
variable (n:Nat) (O:Int) (U:Nat) (Z:Nat→Int) (V:Nat) (J:Nat→Int)
theorem Lu (W:Nat→Int) (g:Nat→Nat) (HH:aa) (i:Nat) (hr:c6 HH 0 i 0=some (shR O U Z V J W (bI g))) (hS:gy U W g):∃ f t,cd (n+4) (.fn 65) [.ptr 0 i 0 0] HH=some (.tup [.agg (.G [.int .i64 f,.int .i64 t,.undef]),.bool (!JZ U g W)],HH):=by
 have h:=VJ n O U Z V J W [⟨true,[]⟩] g hS;have e:=NX (.inr rfl) hr rfl h;unfold JZ;cases hc:lg (qB (jL U g W)) U U with
 | none =>
   rw[hc] at e;exact ⟨Int.ofNat 0,Int.ofNat 0,oZ e⟩
 | some v =>
   obtain ⟨f,t⟩:=v;rw[hc] at e;exact ⟨f,t,oZ e⟩
variable (W:Nat→Int) (g:Nat→Nat) (H:aa)
theorem QK (k:Nat) (c:Nat):vI W (c:Int) (k:Int)=(dQ (W (2*c)) (k:Int) && dQ (k:Int) (W (2*c+1))):=by
 unfold vI;rw[bu,bu];rfl
end
end Go.Eng
end
