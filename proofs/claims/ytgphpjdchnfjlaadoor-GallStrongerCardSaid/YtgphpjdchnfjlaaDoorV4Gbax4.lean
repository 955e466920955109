/- Gall: a right block: trees. -/
import Derived.Test.YtgphpjdchnfjlaaDoorV4Gp6x12
set_option linter.unusedVariables false
set_option linter.unusedSimpArgs false
set_option maxRecDepth 100000
section
namespace Go.Eng
open Go.Proofs Go.Eng.Gall
noncomputable def kO (R:Row) (u:Bool) (lc:Nat) (i:Int):aD:=[(0,.ptrT none R 0),(2,.ptr 0 0 0 0),(4,.ptr 0 1 0 0),(5,.ptr 0 2 0 0),(6,.bool u),(19,.int .i64 (Int.ofNat lc)),(20,.int .i64 i)]
noncomputable def ia (R:Row) (u:Bool) (lc:Nat) (i k:Int):aD:=[(0,.ptrT none R 0),(2,.ptr 0 0 0 0),(4,.ptr 0 1 0 0),(5,.ptr 0 2 0 0),(6,.bool u),(7,.int .i64 i),(19,.int .i64 (Int.ofNat lc)),(20,.int .i64 i),(28,.int .i64 (Int.ofNat lc)),(29,.int .i64 k)]
noncomputable def fY (R:Row) (u:Bool) (lc:Nat) (i k c:Int):aD:=[(0,.ptrT none R 0),(2,.ptr 0 0 0 0),(4,.ptr 0 1 0 0),(5,.ptr 0 2 0 0),(6,.bool u),(7,.int .i64 i),(9,.ptr 0 3 0 0),(19,.int .i64 (Int.ofNat lc)),(20,.int .i64 i),(28,.int .i64 (Int.ofNat lc)),(29,.int .i64 k),(46,.int .i64 (Int.ofNat lc)),(47,.int .i64 c)]
noncomputable def Li (q:Nat→Int) (f t:Int) (A:AV):List (Nat×an):=[(0,.row (.G [.int .i64 (Int.ofNat 0),.int .i64 (Int.ofNat 0),.nils])),(0,.row (.M [.arr .i64 q 20])),(0,.row (.G [.int .i64 f,.int .i64 t,A]))]
noncomputable def eX (q:Nat→Int) (f t:Int) (A:AV):bF:=⟨false,Li q f t A⟩
noncomputable def yp (q:Nat→Int) (f t:Int) (A:AV) (F T:Int):bF:=⟨false,Li q f t A++[(0,.row (.G [.int .i64 F,.int .i64 T,.nils]))]⟩
noncomputable def A7 (q:Nat→Int) (f t:Int) (A:AV) (F T:Int) (c:Nat) (y:Nat→Int):bF:=⟨false,Li q f t A++[(0,.row (.G [.int .i64 F,.int .i64 T,.slc 0 4 0 0 1 c none])),(0,.row (.M [.arr .i64 y c]))]⟩
theorem J1 (n:Nat) (H:aa) (q:Nat→Int) (R:Row) (u:Bool) (f t:Int) (m:Nat) (y:Nat→Int) (lc:Nat) (i k c F T:Int):aJ (bP n 65 128) (il aH n 0) aS aR (part Tryd.f65 [1,0,1,1,1,1,0,1,0,0,1,1,0,0,1,1,0,0,1,1,0,0,1,1,0,1,0,0]) (hints (fY R u lc i k c)) (yp q f t .nils F T::H) =
 (fun (Z0:aO)=>((fun (Z1:bF)=>Tr.ite (bH c (Int.ofNat lc)) (Tr.req (bR c 10) (Tr.req (cj 0 0) (Tr.req (cH (av 0 c 2) 20) (Tr.ite (dJ F (q (av 0 c 2))) (Tr.req (bR c 10) (Tr.req (cj 0 0) (Tr.req (cH (aq (av 0 c 2) 1) 20) (Tr.ite (dJ (q (aq (av 0 c 2) 1)) T) (Tr.req (kG (Int.ofNat 0) 0) (Tr.req (kG (Int.ofNat 0) (bX (Int.ofNat 0))) (Tr.req (fU 0 1 8) (Tr.req (cj 0 0) (Tr.req (dD 1 1) (Tr.ok (Ex.normal,Z0,(bC [(0,an.row (Row.G [iI 0,iI 0,AV.nils])),(0,an.row (rM q 20)),(0,an.row (Row.G [AV.int .i64 f,AV.int .i64 t,AV.nils])),(0,an.row (Row.G [AV.int .i64 F,AV.int .i64 T,AV.slc 0 5 0 0 1 1 none])),(0,an.row (Row.I .i64 [c])),(0,an.row (rM (az [c]) 1))])::H))))))) (Tr.ok (Ex.normal,Z0,Z1::H)))))) (Tr.ok (Ex.normal,Z0,Z1::H)))))) (Tr.ok (Ex.exit 4,[(0,AV.ptrT none R 0,none),(2,AV.ptr 0 0 0 0,none),(4,AV.ptr 0 1 0 0,none),(5,AV.ptr 0 2 0 0,none),(6,AV.bool u,none),(7,AV.int .i64 i,none),(9,AV.ptr 0 3 0 0,none),(19,iI lc,none),(20,AV.int .i64 i,none),(28,iI lc,none),(29,AV.int .i64 k,none),(46,iI lc,none),(47,AV.int .i64 c,none),(48,AV.bool false,some 1)],Z1::H))) (bC [(0,an.row (Row.G [iI 0,iI 0,AV.nils])),(0,an.row (rM q 20)),(0,an.row (Row.G [AV.int .i64 f,AV.int .i64 t,AV.nils])),(0,an.row (Row.G [AV.int .i64 F,AV.int .i64 T,AV.nils]))]))) [(0,AV.ptrT none R 0,none),(2,AV.ptr 0 0 0 0,none),(4,AV.ptr 0 1 0 0,none),(5,AV.ptr 0 2 0 0,none),(6,AV.bool u,none),(7,AV.int .i64 i,none),(9,AV.ptr 0 3 0 0,none),(19,iI lc,none),(20,AV.int .i64 i,none),(28,iI lc,none),(29,AV.int .i64 k,none),(46,iI lc,none),(47,AV.int .i64 (a6 .i64 c (Int.ofNat 1)),none)]:=by kernel_rfl
theorem J2 (n:Nat) (H:aa) (q:Nat→Int) (R:Row) (u:Bool) (f t:Int) (m:Nat) (y:Nat→Int) (lc:Nat) (i k c F T:Int) (g:Nat) (x:Nat→Int):aJ (bP n 65 128) (il aH n 0) aS aR (part Tryd.f65 [1,0,1,1,1,1,0,1,0,0,1,1,0,0,1,1,0,0,1,1,0,0,1,1,0,1,0,0]) (hints (fY R u lc i k c)) (A7 q f t .nils F T g x::H) =
 (fun (Z0:aO)=>((fun (Z1:bF)=>Tr.ite (bH c (Int.ofNat lc)) (Tr.req (bR c 10) (Tr.req (cj 0 0) (Tr.req (cH (av 0 c 2) 20) (Tr.ite (dJ F (q (av 0 c 2))) (Tr.req (bR c 10) (Tr.req (cj 0 0) (Tr.req (cH (aq (av 0 c 2) 1) 20) (Tr.ite (dJ (q (aq (av 0 c 2) 1)) T) (Tr.req (kG (Int.ofNat g) g) (Tr.req (kG (Int.ofNat g) (bX (Int.ofNat g))) (Tr.req (fU (bX (Int.ofNat g)) 1 8) (Tr.req (cj 0 0) (Tr.req (dD 1 1) (Tr.ite (cH (bX (Int.ofNat g)) (aq (bX (Int.ofNat g)) 1)) (Tr.req (cj 0 0) (Tr.req (dD (bX (Int.ofNat g)) (bX (Int.ofNat g))) (Tr.req (dT 0 (bX (Int.ofNat g)) 0 g) (Tr.ok (Ex.normal,Z0,(bC [(0,an.row (Row.G [iI 0,iI 0,AV.nils])),(0,an.row (rM q 20)),(0,an.row (Row.G [AV.int .i64 f,AV.int .i64 t,AV.nils])),(0,an.row (Row.G [AV.int .i64 F,AV.int .i64 T,AV.slc 0 6 0 0 1 (aq (bX (Int.ofNat g)) 1) none])),(0,an.row (rM x g)),(0,an.row (Row.I .i64 [c])),(0,an.row (rM (oD (dZ x 0) (bX (Int.ofNat g)) (az [c])) (aq (bX (Int.ofNat g)) 1)))])::H))))) (Tr.req (cj 0 0) (Tr.req (cH (aq 0 (bX (Int.ofNat g))) g) (Tr.ok (Ex.normal,Z0,(bC [(0,an.row (Row.G [iI 0,iI 0,AV.nils])),(0,an.row (rM q 20)),(0,an.row (Row.G [AV.int .i64 f,AV.int .i64 t,AV.nils])),(0,an.row (Row.G [AV.int .i64 F,AV.int .i64 T,AV.slc 0 4 0 0 1 (aq (bX (Int.ofNat g)) 1) (some (bX (Int.ofNat g)))])),(0,an.row (rM (eg x (aq 0 (bX (Int.ofNat g))) c) g)),(0,an.row (Row.I .i64 [c]))])::H)))))))))) (Tr.ok (Ex.normal,Z0,Z1::H)))))) (Tr.ok (Ex.normal,Z0,Z1::H)))))) (Tr.ok (Ex.exit 4,[(0,AV.ptrT none R 0,none),(2,AV.ptr 0 0 0 0,none),(4,AV.ptr 0 1 0 0,none),(5,AV.ptr 0 2 0 0,none),(6,AV.bool u,none),(7,AV.int .i64 i,none),(9,AV.ptr 0 3 0 0,none),(19,iI lc,none),(20,AV.int .i64 i,none),(28,iI lc,none),(29,AV.int .i64 k,none),(46,iI lc,none),(47,AV.int .i64 c,none),(48,AV.bool false,some 1)],Z1::H))) (bC [(0,an.row (Row.G [iI 0,iI 0,AV.nils])),(0,an.row (rM q 20)),(0,an.row (Row.G [AV.int .i64 f,AV.int .i64 t,AV.nils])),(0,an.row (Row.G [AV.int .i64 F,AV.int .i64 T,AV.slc 0 4 0 0 1 g none])),(0,an.row (rM x g))]))) [(0,AV.ptrT none R 0,none),(2,AV.ptr 0 0 0 0,none),(4,AV.ptr 0 1 0 0,none),(5,AV.ptr 0 2 0 0,none),(6,AV.bool u,none),(7,AV.int .i64 i,none),(9,AV.ptr 0 3 0 0,none),(19,iI lc,none),(20,AV.int .i64 i,none),(28,iI lc,none),(29,AV.int .i64 k,none),(46,iI lc,none),(47,AV.int .i64 (a6 .i64 c (Int.ofNat 1)),none)]:=by kernel_rfl
theorem J3 (n:Nat) (H:aa) (q:Nat→Int) (R:Row) (u:Bool) (f t:Int) (m:Nat) (y:Nat→Int) (lc:Nat) (i k c F T:Int):aJ (bP n 65 128) (il aH n 0) aS aR (part Tryd.f65 [1,0,1,1,1,1,0,1,0,0,1,1,0,0,1,1,0,0,1,1,0,0,1,1,0,1,0,0]) (hints (fY R u lc i k c)) (yp q f t (aY m y false) F T::H) =
 (fun (Z0:aO)=>((fun (Z1:bF)=>Tr.ite (bH c (Int.ofNat lc)) (Tr.req (bR c 10) (Tr.req (cj 0 0) (Tr.req (cH (av 0 c 2) 20) (Tr.ite (dJ F (q (av 0 c 2))) (Tr.req (bR c 10) (Tr.req (cj 0 0) (Tr.req (cH (aq (av 0 c 2) 1) 20) (Tr.ite (dJ (q (aq (av 0 c 2) 1)) T) (Tr.req (kG (Int.ofNat 0) 0) (Tr.req (kG (Int.ofNat 0) (bX (Int.ofNat 0))) (Tr.req (fU 0 1 8) (Tr.req (cj 0 0) (Tr.req (dD 1 1) (Tr.ok (Ex.normal,Z0,(bC [(0,an.row (Row.G [iI 0,iI 0,AV.nils])),(0,an.row (rM q 20)),(0,an.row (Row.G [AV.int .i64 f,AV.int .i64 t,aY m y false])),(0,an.row (Row.G [AV.int .i64 F,AV.int .i64 T,AV.slc 0 5 0 0 1 1 none])),(0,an.row (Row.I .i64 [c])),(0,an.row (rM (az [c]) 1))])::H))))))) (Tr.ok (Ex.normal,Z0,Z1::H)))))) (Tr.ok (Ex.normal,Z0,Z1::H)))))) (Tr.ok (Ex.exit 4,[(0,AV.ptrT none R 0,none),(2,AV.ptr 0 0 0 0,none),(4,AV.ptr 0 1 0 0,none),(5,AV.ptr 0 2 0 0,none),(6,AV.bool u,none),(7,AV.int .i64 i,none),(9,AV.ptr 0 3 0 0,none),(19,iI lc,none),(20,AV.int .i64 i,none),(28,iI lc,none),(29,AV.int .i64 k,none),(46,iI lc,none),(47,AV.int .i64 c,none),(48,AV.bool false,some 1)],Z1::H))) (bC [(0,an.row (Row.G [iI 0,iI 0,AV.nils])),(0,an.row (rM q 20)),(0,an.row (Row.G [AV.int .i64 f,AV.int .i64 t,aY m y false])),(0,an.row (Row.G [AV.int .i64 F,AV.int .i64 T,AV.nils]))]))) [(0,AV.ptrT none R 0,none),(2,AV.ptr 0 0 0 0,none),(4,AV.ptr 0 1 0 0,none),(5,AV.ptr 0 2 0 0,none),(6,AV.bool u,none),(7,AV.int .i64 i,none),(9,AV.ptr 0 3 0 0,none),(19,iI lc,none),(20,AV.int .i64 i,none),(28,iI lc,none),(29,AV.int .i64 k,none),(46,iI lc,none),(47,AV.int .i64 (a6 .i64 c (Int.ofNat 1)),none)]:=by kernel_rfl
theorem J4 (n:Nat) (H:aa) (q:Nat→Int) (R:Row) (u:Bool) (f t:Int) (m:Nat) (y:Nat→Int) (lc:Nat) (i k c F T:Int) (g:Nat) (x:Nat→Int):aJ (bP n 65 128) (il aH n 0) aS aR (part Tryd.f65 [1,0,1,1,1,1,0,1,0,0,1,1,0,0,1,1,0,0,1,1,0,0,1,1,0,1,0,0]) (hints (fY R u lc i k c)) (A7 q f t (aY m y false) F T g x::H) =
 (fun (Z0:aO)=>((fun (Z1:bF)=>Tr.ite (bH c (Int.ofNat lc)) (Tr.req (bR c 10) (Tr.req (cj 0 0) (Tr.req (cH (av 0 c 2) 20) (Tr.ite (dJ F (q (av 0 c 2))) (Tr.req (bR c 10) (Tr.req (cj 0 0) (Tr.req (cH (aq (av 0 c 2) 1) 20) (Tr.ite (dJ (q (aq (av 0 c 2) 1)) T) (Tr.req (kG (Int.ofNat g) g) (Tr.req (kG (Int.ofNat g) (bX (Int.ofNat g))) (Tr.req (fU (bX (Int.ofNat g)) 1 8) (Tr.req (cj 0 0) (Tr.req (dD 1 1) (Tr.ite (cH (bX (Int.ofNat g)) (aq (bX (Int.ofNat g)) 1)) (Tr.req (cj 0 0) (Tr.req (dD (bX (Int.ofNat g)) (bX (Int.ofNat g))) (Tr.req (dT 0 (bX (Int.ofNat g)) 0 g) (Tr.ok (Ex.normal,Z0,(bC [(0,an.row (Row.G [iI 0,iI 0,AV.nils])),(0,an.row (rM q 20)),(0,an.row (Row.G [AV.int .i64 f,AV.int .i64 t,aY m y false])),(0,an.row (Row.G [AV.int .i64 F,AV.int .i64 T,AV.slc 0 6 0 0 1 (aq (bX (Int.ofNat g)) 1) none])),(0,an.row (rM x g)),(0,an.row (Row.I .i64 [c])),(0,an.row (rM (oD (dZ x 0) (bX (Int.ofNat g)) (az [c])) (aq (bX (Int.ofNat g)) 1)))])::H))))) (Tr.req (cj 0 0) (Tr.req (cH (aq 0 (bX (Int.ofNat g))) g) (Tr.ok (Ex.normal,Z0,(bC [(0,an.row (Row.G [iI 0,iI 0,AV.nils])),(0,an.row (rM q 20)),(0,an.row (Row.G [AV.int .i64 f,AV.int .i64 t,aY m y false])),(0,an.row (Row.G [AV.int .i64 F,AV.int .i64 T,AV.slc 0 4 0 0 1 (aq (bX (Int.ofNat g)) 1) (some (bX (Int.ofNat g)))])),(0,an.row (rM (eg x (aq 0 (bX (Int.ofNat g))) c) g)),(0,an.row (Row.I .i64 [c]))])::H)))))))))) (Tr.ok (Ex.normal,Z0,Z1::H)))))) (Tr.ok (Ex.normal,Z0,Z1::H)))))) (Tr.ok (Ex.exit 4,[(0,AV.ptrT none R 0,none),(2,AV.ptr 0 0 0 0,none),(4,AV.ptr 0 1 0 0,none),(5,AV.ptr 0 2 0 0,none),(6,AV.bool u,none),(7,AV.int .i64 i,none),(9,AV.ptr 0 3 0 0,none),(19,iI lc,none),(20,AV.int .i64 i,none),(28,iI lc,none),(29,AV.int .i64 k,none),(46,iI lc,none),(47,AV.int .i64 c,none),(48,AV.bool false,some 1)],Z1::H))) (bC [(0,an.row (Row.G [iI 0,iI 0,AV.nils])),(0,an.row (rM q 20)),(0,an.row (Row.G [AV.int .i64 f,AV.int .i64 t,aY m y false])),(0,an.row (Row.G [AV.int .i64 F,AV.int .i64 T,AV.slc 0 4 0 0 1 g none])),(0,an.row (rM x g))]))) [(0,AV.ptrT none R 0,none),(2,AV.ptr 0 0 0 0,none),(4,AV.ptr 0 1 0 0,none),(5,AV.ptr 0 2 0 0,none),(6,AV.bool u,none),(7,AV.int .i64 i,none),(9,AV.ptr 0 3 0 0,none),(19,iI lc,none),(20,AV.int .i64 i,none),(28,iI lc,none),(29,AV.int .i64 k,none),(46,iI lc,none),(47,AV.int .i64 (a6 .i64 c (Int.ofNat 1)),none)]:=by kernel_rfl
end Go.Eng
end
section
namespace Go.Eng
open Go.Proofs Go.Eng.Gall
theorem N4 (n:Nat) (dr:Int) (lc:Nat) (zc:Nat→Int) (lb:Nat) (zb:Nat→Int) (W B:Nat→Int) (H:aa) (q:Nat→Int) (i k:Int) (f t:Int) (m:Nat) (y:Nat→Int):aJ (bP n 65 128) (il aH n 0) (cM aS 4 (fY (shR dr lc zc lb zb W B) false lc i k (Int.ofNat 0)) (yp q f t .nils (q (av 0 i 2)) (q (aq (av 0 k 2) 1))::H) (.ok (.normal,hints (fY (shR dr lc zc lb zb W B) false lc i k (Int.ofNat lc)++[(48,.bool false)]),yp q f t .nils (q (av 0 i 2)) (q (aq (av 0 k 2) 1))::H))) aR (part Tryd.f65 [1,0,1,1,1,1,0,1,0,0,1,1,0,0,1,1,0,0]) (hints (ia (shR dr lc zc lb zb W B) false lc i k)) (eX q f t .nils::H) =
 (fun (Z0:bF)=>((fun (Z1:aO)=>((fun (Z2:aD)=>Tr.ite (bH k (Int.ofNat lc)) (Tr.req (bR i 10) (Tr.req (cj 0 0) (Tr.req (cH (av 0 i 2) 20) (Tr.req (bR k 10) (Tr.req (cj 0 0) (Tr.req (cH (aq (av 0 k 2) 1) 20) (Tr.req (bJ (dD 0 0) (dD 0 1)) (Tr.reqP (Z2=Z2∧Z0::H=Z0::H) (Tr.ite false (Tr.ite (bH f (q (av 0 i 2))) (Tr.ok (Ex.exit 1,[(0,shV dr lc zc lb zb W B,none),(2,AV.ptr 0 0 0 0,none),(4,AV.ptr 0 1 0 0,none),(5,AV.ptr 0 2 0 0,none),(6,AV.bool false,none),(7,AV.int .i64 i,none),(9,AV.ptr 0 3 0 0,none),(19,iI lc,none),(20,AV.int .i64 i,none),(28,iI lc,none),(29,AV.int .i64 k,none),(87,AV.bool true,some 1)],Z0::H)) (Tr.ite (aE false) (Tr.ok (Ex.normal,Z1,Z0::H)) (Tr.ite (bH (q (av 0 i 2)) f) (Tr.ok (Ex.normal,Z1,Z0::H)) (Tr.ite (bH (q (aq (av 0 k 2) 1)) t) (Tr.ok (Ex.normal,Z1,Z0::H)) (Tr.ok (Ex.normal,Z1,Z0::H)))))) (Tr.ite (aE false) (Tr.ok (Ex.normal,Z1,Z0::H)) (Tr.ite (bH (q (av 0 i 2)) f) (Tr.ok (Ex.normal,Z1,Z0::H)) (Tr.ite (bH (q (aq (av 0 k 2) 1)) t) (Tr.ok (Ex.normal,Z1,Z0::H)) (Tr.ok (Ex.normal,Z1,Z0::H)))))))))))))) (Tr.ok (Ex.exit 2,[(0,shV dr lc zc lb zb W B,none),(2,AV.ptr 0 0 0 0,none),(4,AV.ptr 0 1 0 0,none),(5,AV.ptr 0 2 0 0,none),(6,AV.bool false,none),(7,AV.int .i64 i,none),(19,iI lc,none),(20,AV.int .i64 i,none),(28,iI lc,none),(29,AV.int .i64 k,none),(30,AV.bool false,some 1)],(bC [(0,an.row (Row.G [iI 0,iI 0,AV.nils])),(0,an.row (rM q 20)),(0,an.row (Row.G [AV.int .i64 f,AV.int .i64 t,AV.nils]))])::H))) [(0,shV dr lc zc lb zb W B),(2,AV.ptr 0 0 0 0),(4,AV.ptr 0 1 0 0),(5,AV.ptr 0 2 0 0),(6,AV.bool false),(7,AV.int .i64 i),(9,AV.ptr 0 3 0 0),(19,iI lc),(20,AV.int .i64 i),(28,iI lc),(29,AV.int .i64 k),(46,iI lc),(47,iI 0)])) [(0,shV dr lc zc lb zb W B,none),(2,AV.ptr 0 0 0 0,none),(4,AV.ptr 0 1 0 0,none),(5,AV.ptr 0 2 0 0,none),(6,AV.bool false,none),(7,AV.int .i64 i,none),(19,iI lc,none),(20,AV.int .i64 i,none),(28,iI lc,none),(29,AV.int .i64 (a6 .i64 k (Int.ofNat 1)),none)])) (bC [(0,an.row (Row.G [iI 0,iI 0,AV.nils])),(0,an.row (rM q 20)),(0,an.row (Row.G [AV.int .i64 f,AV.int .i64 t,AV.nils])),(0,an.row (Row.G [AV.int .i64 (q (av 0 i 2)),AV.int .i64 (q (aq (av 0 k 2) 1)),AV.nils]))]):=by kernel_rfl
theorem N5 (n:Nat) (dr:Int) (lc:Nat) (zc:Nat→Int) (lb:Nat) (zb:Nat→Int) (W B:Nat→Int) (H:aa) (q:Nat→Int) (i k:Int) (f t:Int) (m:Nat) (y:Nat→Int) (g:Nat) (x:Nat→Int):aJ (bP n 65 128) (il aH n 0) (cM aS 4 (fY (shR dr lc zc lb zb W B) false lc i k (Int.ofNat 0)) (yp q f t .nils (q (av 0 i 2)) (q (aq (av 0 k 2) 1))::H) (.ok (.normal,hints (fY (shR dr lc zc lb zb W B) false lc i k (Int.ofNat lc)++[(48,.bool false)]),A7 q f t .nils (q (av 0 i 2)) (q (aq (av 0 k 2) 1)) g x::H))) aR (part Tryd.f65 [1,0,1,1,1,1,0,1,0,0,1,1,0,0,1,1,0,0]) (hints (ia (shR dr lc zc lb zb W B) false lc i k)) (eX q f t .nils::H) =
 (fun (Z0:bF)=>((fun (Z1:aO)=>((fun (Z2:bF)=>((fun (Z3:aO)=>((fun (Z4:aD)=>((fun (Z5:bF)=>Tr.ite (bH k (Int.ofNat lc)) (Tr.req (bR i 10) (Tr.req (cj 0 0) (Tr.req (cH (av 0 i 2) 20) (Tr.req (bR k 10) (Tr.req (cj 0 0) (Tr.req (cH (aq (av 0 k 2) 1) 20) (Tr.req (bJ (dD 0 0) (dD 0 1)) (Tr.reqP (Z4=Z4∧Z5::H=Z5::H) (Tr.ite false (Tr.ite (bH f (q (av 0 i 2))) (Tr.ok (Ex.exit 1,[(0,shV dr lc zc lb zb W B,none),(2,AV.ptr 0 0 0 0,none),(4,AV.ptr 0 1 0 0,none),(5,AV.ptr 0 2 0 0,none),(6,AV.bool false,none),(7,AV.int .i64 i,none),(9,AV.ptr 0 3 0 0,none),(19,iI lc,none),(20,AV.int .i64 i,none),(28,iI lc,none),(29,AV.int .i64 k,none),(87,AV.bool true,some 1)],Z0::H)) (Tr.ite (aE false) (Tr.ite (bH (Int.ofNat 0) (Int.ofNat g)) (Tr.ite (bH (a6 .i64 (ct .i64 (q (aq (av 0 k 2) 1)) (q (av 0 i 2))) (Int.ofNat 1)) (Int.ofNat g)) (Tr.req (cj 0 0) (Tr.req (dT 0 g 0 g) (Tr.req (cj 0 0) (Tr.req (dT 0 g 0 g) (Tr.ok (Ex.normal,Z3,Z2::H)))))) (Tr.ok (Ex.normal,Z1,Z0::H))) (Tr.ok (Ex.normal,Z1,Z0::H))) (Tr.ite (bH (q (av 0 i 2)) f) (Tr.ite (bH (Int.ofNat 0) (Int.ofNat g)) (Tr.ite (bH (a6 .i64 (ct .i64 (q (aq (av 0 k 2) 1)) (q (av 0 i 2))) (Int.ofNat 1)) (Int.ofNat g)) (Tr.req (cj 0 0) (Tr.req (dT 0 g 0 g) (Tr.req (cj 0 0) (Tr.req (dT 0 g 0 g) (Tr.ok (Ex.normal,Z3,Z2::H)))))) (Tr.ok (Ex.normal,Z1,Z0::H))) (Tr.ok (Ex.normal,Z1,Z0::H))) (Tr.ite (bH (q (aq (av 0 k 2) 1)) t) (Tr.ite (bH (Int.ofNat 0) (Int.ofNat g)) (Tr.ite (bH (a6 .i64 (ct .i64 (q (aq (av 0 k 2) 1)) (q (av 0 i 2))) (Int.ofNat 1)) (Int.ofNat g)) (Tr.req (cj 0 0) (Tr.req (dT 0 g 0 g) (Tr.req (cj 0 0) (Tr.req (dT 0 g 0 g) (Tr.ok (Ex.normal,Z3,Z2::H)))))) (Tr.ok (Ex.normal,Z1,Z0::H))) (Tr.ok (Ex.normal,Z1,Z0::H))) (Tr.ok (Ex.normal,Z1,Z0::H)))))) (Tr.ite (aE false) (Tr.ite (bH (Int.ofNat 0) (Int.ofNat g)) (Tr.ite (bH (a6 .i64 (ct .i64 (q (aq (av 0 k 2) 1)) (q (av 0 i 2))) (Int.ofNat 1)) (Int.ofNat g)) (Tr.req (cj 0 0) (Tr.req (dT 0 g 0 g) (Tr.req (cj 0 0) (Tr.req (dT 0 g 0 g) (Tr.ok (Ex.normal,Z3,Z2::H)))))) (Tr.ok (Ex.normal,Z1,Z0::H))) (Tr.ok (Ex.normal,Z1,Z0::H))) (Tr.ite (bH (q (av 0 i 2)) f) (Tr.ite (bH (Int.ofNat 0) (Int.ofNat g)) (Tr.ite (bH (a6 .i64 (ct .i64 (q (aq (av 0 k 2) 1)) (q (av 0 i 2))) (Int.ofNat 1)) (Int.ofNat g)) (Tr.req (cj 0 0) (Tr.req (dT 0 g 0 g) (Tr.req (cj 0 0) (Tr.req (dT 0 g 0 g) (Tr.ok (Ex.normal,Z3,Z2::H)))))) (Tr.ok (Ex.normal,Z1,Z0::H))) (Tr.ok (Ex.normal,Z1,Z0::H))) (Tr.ite (bH (q (aq (av 0 k 2) 1)) t) (Tr.ite (bH (Int.ofNat 0) (Int.ofNat g)) (Tr.ite (bH (a6 .i64 (ct .i64 (q (aq (av 0 k 2) 1)) (q (av 0 i 2))) (Int.ofNat 1)) (Int.ofNat g)) (Tr.req (cj 0 0) (Tr.req (dT 0 g 0 g) (Tr.req (cj 0 0) (Tr.req (dT 0 g 0 g) (Tr.ok (Ex.normal,Z3,Z2::H)))))) (Tr.ok (Ex.normal,Z1,Z0::H))) (Tr.ok (Ex.normal,Z1,Z0::H))) (Tr.ok (Ex.normal,Z1,Z0::H)))))))))))))) (Tr.ok (Ex.exit 2,[(0,shV dr lc zc lb zb W B,none),(2,AV.ptr 0 0 0 0,none),(4,AV.ptr 0 1 0 0,none),(5,AV.ptr 0 2 0 0,none),(6,AV.bool false,none),(7,AV.int .i64 i,none),(19,iI lc,none),(20,AV.int .i64 i,none),(28,iI lc,none),(29,AV.int .i64 k,none),(30,AV.bool false,some 1)],(bC [(0,an.row (Row.G [iI 0,iI 0,AV.nils])),(0,an.row (rM q 20)),(0,an.row (Row.G [AV.int .i64 f,AV.int .i64 t,AV.nils]))])::H))) (bC [(0,an.row (Row.G [iI 0,iI 0,AV.nils])),(0,an.row (rM q 20)),(0,an.row (Row.G [AV.int .i64 f,AV.int .i64 t,AV.nils])),(0,an.row (Row.G [AV.int .i64 (q (av 0 i 2)),AV.int .i64 (q (aq (av 0 k 2) 1)),AV.nils]))]))) [(0,shV dr lc zc lb zb W B),(2,AV.ptr 0 0 0 0),(4,AV.ptr 0 1 0 0),(5,AV.ptr 0 2 0 0),(6,AV.bool false),(7,AV.int .i64 i),(9,AV.ptr 0 3 0 0),(19,iI lc),(20,AV.int .i64 i),(28,iI lc),(29,AV.int .i64 k),(46,iI lc),(47,iI 0)])) [(0,shV dr lc zc lb zb W B,none),(2,AV.ptr 0 0 0 0,none),(4,AV.ptr 0 1 0 0,none),(5,AV.ptr 0 2 0 0,none),(6,AV.bool true,some 1),(7,AV.int .i64 i,none),(19,iI lc,none),(20,AV.int .i64 i,none),(28,iI lc,none),(29,AV.int .i64 (a6 .i64 k (Int.ofNat 1)),none)])) (bC [(0,an.row (Row.G [iI 0,iI 0,AV.nils])),(0,an.row (rM q 20)),(0,an.row (Row.G [AV.int .i64 (q (av 0 i 2)),AV.int .i64 (q (aq (av 0 k 2) 1)),aY g (dZ x 0) false])),(0,an.row (Row.G [AV.int .i64 (q (av 0 i 2)),AV.int .i64 (q (aq (av 0 k 2) 1)),aY g (dZ x 0) false])),(0,an.dead)]))) [(0,shV dr lc zc lb zb W B,none),(2,AV.ptr 0 0 0 0,none),(4,AV.ptr 0 1 0 0,none),(5,AV.ptr 0 2 0 0,none),(6,AV.bool false,none),(7,AV.int .i64 i,none),(19,iI lc,none),(20,AV.int .i64 i,none),(28,iI lc,none),(29,AV.int .i64 (a6 .i64 k (Int.ofNat 1)),none)])) (bC [(0,an.row (Row.G [iI 0,iI 0,AV.nils])),(0,an.row (rM q 20)),(0,an.row (Row.G [AV.int .i64 f,AV.int .i64 t,AV.nils])),(0,an.row (Row.G [AV.int .i64 (q (av 0 i 2)),AV.int .i64 (q (aq (av 0 k 2) 1)),AV.slc 0 4 0 0 1 g none])),(0,an.row (rM x g))]):=by kernel_rfl
theorem JP (n:Nat) (dr:Int) (lc:Nat) (zc:Nat→Int) (lb:Nat) (zb:Nat→Int) (W B:Nat→Int) (H:aa) (q:Nat→Int) (i k:Int) (f t:Int) (m:Nat) (y:Nat→Int):aJ (bP n 65 128) (il aH n 0) (cM aS 4 (fY (shR dr lc zc lb zb W B) true lc i k (Int.ofNat 0)) (yp q f t (aY m y false) (q (av 0 i 2)) (q (aq (av 0 k 2) 1))::H) (.ok (.normal,hints (fY (shR dr lc zc lb zb W B) true lc i k (Int.ofNat lc)++[(48,.bool false)]),yp q f t (aY m y false) (q (av 0 i 2)) (q (aq (av 0 k 2) 1))::H))) aR (part Tryd.f65 [1,0,1,1,1,1,0,1,0,0,1,1,0,0,1,1,0,0]) (hints (ia (shR dr lc zc lb zb W B) true lc i k)) (eX q f t (aY m y false)::H) =
 (fun (Z0:bF)=>((fun (Z1:aO)=>((fun (Z2:aD)=>Tr.ite (bH k (Int.ofNat lc)) (Tr.req (bR i 10) (Tr.req (cj 0 0) (Tr.req (cH (av 0 i 2) 20) (Tr.req (bR k 10) (Tr.req (cj 0 0) (Tr.req (cH (aq (av 0 k 2) 1) 20) (Tr.req (bJ (dD 0 0) (dD 0 1)) (Tr.reqP (Z2=Z2∧Z0::H=Z0::H) (Tr.ite true (Tr.ite (bH f (q (av 0 i 2))) (Tr.ok (Ex.exit 1,[(0,shV dr lc zc lb zb W B,none),(2,AV.ptr 0 0 0 0,none),(4,AV.ptr 0 1 0 0,none),(5,AV.ptr 0 2 0 0,none),(6,AV.bool true,none),(7,AV.int .i64 i,none),(9,AV.ptr 0 3 0 0,none),(19,iI lc,none),(20,AV.int .i64 i,none),(28,iI lc,none),(29,AV.int .i64 k,none),(87,AV.bool true,some 1)],Z0::H)) (Tr.ite (aE true) (Tr.ok (Ex.normal,Z1,Z0::H)) (Tr.ite (bH (q (av 0 i 2)) f) (Tr.ok (Ex.normal,Z1,Z0::H)) (Tr.ite (bH (q (aq (av 0 k 2) 1)) t) (Tr.ok (Ex.normal,Z1,Z0::H)) (Tr.ok (Ex.normal,Z1,Z0::H)))))) (Tr.ite (aE true) (Tr.ok (Ex.normal,Z1,Z0::H)) (Tr.ite (bH (q (av 0 i 2)) f) (Tr.ok (Ex.normal,Z1,Z0::H)) (Tr.ite (bH (q (aq (av 0 k 2) 1)) t) (Tr.ok (Ex.normal,Z1,Z0::H)) (Tr.ok (Ex.normal,Z1,Z0::H)))))))))))))) (Tr.ok (Ex.exit 2,[(0,shV dr lc zc lb zb W B,none),(2,AV.ptr 0 0 0 0,none),(4,AV.ptr 0 1 0 0,none),(5,AV.ptr 0 2 0 0,none),(6,AV.bool true,none),(7,AV.int .i64 i,none),(19,iI lc,none),(20,AV.int .i64 i,none),(28,iI lc,none),(29,AV.int .i64 k,none),(30,AV.bool false,some 1)],(bC [(0,an.row (Row.G [iI 0,iI 0,AV.nils])),(0,an.row (rM q 20)),(0,an.row (Row.G [AV.int .i64 f,AV.int .i64 t,aY m y false]))])::H))) [(0,shV dr lc zc lb zb W B),(2,AV.ptr 0 0 0 0),(4,AV.ptr 0 1 0 0),(5,AV.ptr 0 2 0 0),(6,AV.bool true),(7,AV.int .i64 i),(9,AV.ptr 0 3 0 0),(19,iI lc),(20,AV.int .i64 i),(28,iI lc),(29,AV.int .i64 k),(46,iI lc),(47,iI 0)])) [(0,shV dr lc zc lb zb W B,none),(2,AV.ptr 0 0 0 0,none),(4,AV.ptr 0 1 0 0,none),(5,AV.ptr 0 2 0 0,none),(6,AV.bool true,none),(7,AV.int .i64 i,none),(19,iI lc,none),(20,AV.int .i64 i,none),(28,iI lc,none),(29,AV.int .i64 (a6 .i64 k (Int.ofNat 1)),none)])) (bC [(0,an.row (Row.G [iI 0,iI 0,AV.nils])),(0,an.row (rM q 20)),(0,an.row (Row.G [AV.int .i64 f,AV.int .i64 t,aY m y false])),(0,an.row (Row.G [AV.int .i64 (q (av 0 i 2)),AV.int .i64 (q (aq (av 0 k 2) 1)),AV.nils]))]):=by kernel_rfl
theorem JQ (n:Nat) (dr:Int) (lc:Nat) (zc:Nat→Int) (lb:Nat) (zb:Nat→Int) (W B:Nat→Int) (H:aa) (q:Nat→Int) (i k:Int) (f t:Int) (m:Nat) (y:Nat→Int) (g:Nat) (x:Nat→Int):aJ (bP n 65 128) (il aH n 0) (cM aS 4 (fY (shR dr lc zc lb zb W B) true lc i k (Int.ofNat 0)) (yp q f t (aY m y false) (q (av 0 i 2)) (q (aq (av 0 k 2) 1))::H) (.ok (.normal,hints (fY (shR dr lc zc lb zb W B) true lc i k (Int.ofNat lc)++[(48,.bool false)]),A7 q f t (aY m y false) (q (av 0 i 2)) (q (aq (av 0 k 2) 1)) g x::H))) aR (part Tryd.f65 [1,0,1,1,1,1,0,1,0,0,1,1,0,0,1,1,0,0]) (hints (ia (shR dr lc zc lb zb W B) true lc i k)) (eX q f t (aY m y false)::H) =
 (fun (Z0:bF)=>((fun (Z1:aO)=>((fun (Z2:bF)=>((fun (Z3:aO)=>((fun (Z4:aD)=>((fun (Z5:bF)=>Tr.ite (bH k (Int.ofNat lc)) (Tr.req (bR i 10) (Tr.req (cj 0 0) (Tr.req (cH (av 0 i 2) 20) (Tr.req (bR k 10) (Tr.req (cj 0 0) (Tr.req (cH (aq (av 0 k 2) 1) 20) (Tr.req (bJ (dD 0 0) (dD 0 1)) (Tr.reqP (Z4=Z4∧Z5::H=Z5::H) (Tr.ite true (Tr.ite (bH f (q (av 0 i 2))) (Tr.ok (Ex.exit 1,[(0,shV dr lc zc lb zb W B,none),(2,AV.ptr 0 0 0 0,none),(4,AV.ptr 0 1 0 0,none),(5,AV.ptr 0 2 0 0,none),(6,AV.bool true,none),(7,AV.int .i64 i,none),(9,AV.ptr 0 3 0 0,none),(19,iI lc,none),(20,AV.int .i64 i,none),(28,iI lc,none),(29,AV.int .i64 k,none),(87,AV.bool true,some 1)],Z0::H)) (Tr.ite (aE true) (Tr.ite (bH (Int.ofNat 0) (Int.ofNat g)) (Tr.ite (bH (a6 .i64 (ct .i64 (q (aq (av 0 k 2) 1)) (q (av 0 i 2))) (Int.ofNat 1)) (Int.ofNat g)) (Tr.req (cj 0 0) (Tr.req (dT 0 g 0 g) (Tr.req (cj 0 0) (Tr.req (dT 0 g 0 g) (Tr.ok (Ex.normal,Z3,Z2::H)))))) (Tr.ok (Ex.normal,Z1,Z0::H))) (Tr.ok (Ex.normal,Z1,Z0::H))) (Tr.ite (bH (q (av 0 i 2)) f) (Tr.ite (bH (Int.ofNat 0) (Int.ofNat g)) (Tr.ite (bH (a6 .i64 (ct .i64 (q (aq (av 0 k 2) 1)) (q (av 0 i 2))) (Int.ofNat 1)) (Int.ofNat g)) (Tr.req (cj 0 0) (Tr.req (dT 0 g 0 g) (Tr.req (cj 0 0) (Tr.req (dT 0 g 0 g) (Tr.ok (Ex.normal,Z3,Z2::H)))))) (Tr.ok (Ex.normal,Z1,Z0::H))) (Tr.ok (Ex.normal,Z1,Z0::H))) (Tr.ite (bH (q (aq (av 0 k 2) 1)) t) (Tr.ite (bH (Int.ofNat 0) (Int.ofNat g)) (Tr.ite (bH (a6 .i64 (ct .i64 (q (aq (av 0 k 2) 1)) (q (av 0 i 2))) (Int.ofNat 1)) (Int.ofNat g)) (Tr.req (cj 0 0) (Tr.req (dT 0 g 0 g) (Tr.req (cj 0 0) (Tr.req (dT 0 g 0 g) (Tr.ok (Ex.normal,Z3,Z2::H)))))) (Tr.ok (Ex.normal,Z1,Z0::H))) (Tr.ok (Ex.normal,Z1,Z0::H))) (Tr.ok (Ex.normal,Z1,Z0::H)))))) (Tr.ite (aE true) (Tr.ite (bH (Int.ofNat 0) (Int.ofNat g)) (Tr.ite (bH (a6 .i64 (ct .i64 (q (aq (av 0 k 2) 1)) (q (av 0 i 2))) (Int.ofNat 1)) (Int.ofNat g)) (Tr.req (cj 0 0) (Tr.req (dT 0 g 0 g) (Tr.req (cj 0 0) (Tr.req (dT 0 g 0 g) (Tr.ok (Ex.normal,Z3,Z2::H)))))) (Tr.ok (Ex.normal,Z1,Z0::H))) (Tr.ok (Ex.normal,Z1,Z0::H))) (Tr.ite (bH (q (av 0 i 2)) f) (Tr.ite (bH (Int.ofNat 0) (Int.ofNat g)) (Tr.ite (bH (a6 .i64 (ct .i64 (q (aq (av 0 k 2) 1)) (q (av 0 i 2))) (Int.ofNat 1)) (Int.ofNat g)) (Tr.req (cj 0 0) (Tr.req (dT 0 g 0 g) (Tr.req (cj 0 0) (Tr.req (dT 0 g 0 g) (Tr.ok (Ex.normal,Z3,Z2::H)))))) (Tr.ok (Ex.normal,Z1,Z0::H))) (Tr.ok (Ex.normal,Z1,Z0::H))) (Tr.ite (bH (q (aq (av 0 k 2) 1)) t) (Tr.ite (bH (Int.ofNat 0) (Int.ofNat g)) (Tr.ite (bH (a6 .i64 (ct .i64 (q (aq (av 0 k 2) 1)) (q (av 0 i 2))) (Int.ofNat 1)) (Int.ofNat g)) (Tr.req (cj 0 0) (Tr.req (dT 0 g 0 g) (Tr.req (cj 0 0) (Tr.req (dT 0 g 0 g) (Tr.ok (Ex.normal,Z3,Z2::H)))))) (Tr.ok (Ex.normal,Z1,Z0::H))) (Tr.ok (Ex.normal,Z1,Z0::H))) (Tr.ok (Ex.normal,Z1,Z0::H)))))))))))))) (Tr.ok (Ex.exit 2,[(0,shV dr lc zc lb zb W B,none),(2,AV.ptr 0 0 0 0,none),(4,AV.ptr 0 1 0 0,none),(5,AV.ptr 0 2 0 0,none),(6,AV.bool true,none),(7,AV.int .i64 i,none),(19,iI lc,none),(20,AV.int .i64 i,none),(28,iI lc,none),(29,AV.int .i64 k,none),(30,AV.bool false,some 1)],(bC [(0,an.row (Row.G [iI 0,iI 0,AV.nils])),(0,an.row (rM q 20)),(0,an.row (Row.G [AV.int .i64 f,AV.int .i64 t,aY m y false]))])::H))) (bC [(0,an.row (Row.G [iI 0,iI 0,AV.nils])),(0,an.row (rM q 20)),(0,an.row (Row.G [AV.int .i64 f,AV.int .i64 t,aY m y false])),(0,an.row (Row.G [AV.int .i64 (q (av 0 i 2)),AV.int .i64 (q (aq (av 0 k 2) 1)),AV.nils]))]))) [(0,shV dr lc zc lb zb W B),(2,AV.ptr 0 0 0 0),(4,AV.ptr 0 1 0 0),(5,AV.ptr 0 2 0 0),(6,AV.bool true),(7,AV.int .i64 i),(9,AV.ptr 0 3 0 0),(19,iI lc),(20,AV.int .i64 i),(28,iI lc),(29,AV.int .i64 k),(46,iI lc),(47,iI 0)])) [(0,shV dr lc zc lb zb W B,none),(2,AV.ptr 0 0 0 0,none),(4,AV.ptr 0 1 0 0,none),(5,AV.ptr 0 2 0 0,none),(6,AV.bool true,some 1),(7,AV.int .i64 i,none),(19,iI lc,none),(20,AV.int .i64 i,none),(28,iI lc,none),(29,AV.int .i64 (a6 .i64 k (Int.ofNat 1)),none)])) (bC [(0,an.row (Row.G [iI 0,iI 0,AV.nils])),(0,an.row (rM q 20)),(0,an.row (Row.G [AV.int .i64 (q (av 0 i 2)),AV.int .i64 (q (aq (av 0 k 2) 1)),aY g (dZ x 0) false])),(0,an.row (Row.G [AV.int .i64 (q (av 0 i 2)),AV.int .i64 (q (aq (av 0 k 2) 1)),aY g (dZ x 0) false])),(0,an.dead)]))) [(0,shV dr lc zc lb zb W B,none),(2,AV.ptr 0 0 0 0,none),(4,AV.ptr 0 1 0 0,none),(5,AV.ptr 0 2 0 0,none),(6,AV.bool true,none),(7,AV.int .i64 i,none),(19,iI lc,none),(20,AV.int .i64 i,none),(28,iI lc,none),(29,AV.int .i64 (a6 .i64 k (Int.ofNat 1)),none)])) (bC [(0,an.row (Row.G [iI 0,iI 0,AV.nils])),(0,an.row (rM q 20)),(0,an.row (Row.G [AV.int .i64 f,AV.int .i64 t,aY m y false])),(0,an.row (Row.G [AV.int .i64 (q (av 0 i 2)),AV.int .i64 (q (aq (av 0 k 2) 1)),AV.slc 0 4 0 0 1 g none])),(0,an.row (rM x g))]):=by kernel_rfl
end Go.Eng
end
section
namespace Go.Eng
open Go.Proofs Go.Eng.Gall
theorem uU:∀ b,(4,b) ∈ aL (part Tryd.f65 [1,0,1,1,1,1,0,1,0,0,1,1,0,0,1,1,0,0])→b=.loop (part Tryd.f65 [1,0,1,1,1,1,0,1,0,0,1,1,0,0,1,1,0,0,1,1,0,0,1,1,0,1,0,0]):=ey (by kernel_rfl)
def xw (q:Nat→Int) (F T:Int) (c:Nat):Bool:=decide (F≤q (2*c)) && decide (q (2*c+1)≤T)
def dO (q:Nat→Int) (F T:Int):Nat→List Int
 | 0=>[]
 | c+1=>if xw q F T c=true then dO q F T c++[(c:Int)] else dO q F T c
theorem o7 (q:Nat→Int) (F T:Int):∀ j,(dO q F T j).length≤j
 | 0=>Nat.le_refl 0
 | j+1=>by
   have:=o7 q F T j;unfold dO;split
   · rw[List.length_append,List.length_singleton];omega
   · omega
noncomputable def D3 (q:Nat→Int) (f t:Int) (A:AV) (F T:Int):List Int→bF
 | []=>yp q f t A F T
 | a::r=>A7 q f t A F T (r.length+1) (az (a::r))
section
variable (n:Nat) (H:aa) (q:Nat→Int) (R:Row) (u:Bool) (f t:Int) (m:Nat) (y:Nat→Int) (lc:Nat) (i k F T:Int)
theorem OI (hl:lc≤10) (c:Nat) (hc:c<lc) (L:List Int) (hL:L.length≤1000) :
 ∃ x,exec (bP n 65 128) (part Tryd.f65 [1,0,1,1,1,1,0,1,0,0,1,1,0,0,1,1,0,0,1,1,0,0,1,1,0,1,0,0]) (fY R u lc i k (c:Int)) (D3 q f t .nils F T L::H)=some x∧x.1=.normal∧tidy 4 x.2.1 x.2.2=(fY R u lc i k ((c+1:Nat):Int),D3 q f t .nils F T (if xw q F T c=true then L++[(c:Int)] else L)::H):=by
 have e1:a6 .i64 (c:Int) (Int.ofNat 1)=((c+1:Nat):Int):=eN (by omega)
 have ei:av 0 (c:Int) 2=2*c:=by rw[bE];omega
 cases L with
 | nil =>
   have T0:=J1 n H q R u f t 0 q lc i k (c:Int) F T
   rw[e1,ei,aK] at T0
   refine aB T0 (aw _) (ai _ _) (aj _ _) ?_
   refine Tr.af (fun h0=>?_) wJ
   refine Tr.ae wG (Tr.ae wG (Tr.ae wG (Tr.af (fun q1=>Tr.ae wG (Tr.ae wG (Tr.ae wG (Tr.af (fun q2=>?_) (fun q2=>Tr.ah ?_))))) (fun q1=>Tr.ah ?_))))
   all_goals rw[bn] at q1
   · rw[bn] at q2
     rw[if_pos (by unfold xw;rw[q1,q2];rfl)]
     refine Tr.ae wG (Tr.ae wG (Tr.ae wG (Tr.ae wG (Tr.ae wG (Tr.ah ⟨rfl,rfl⟩)))))
   · rw[bn] at q2
     rw[if_neg (by unfold xw;rw[q1,q2];decide)];exact ⟨rfl,rfl⟩
   · rw[if_neg (by unfold xw;rw[q1];simp)];exact ⟨rfl,rfl⟩
 | cons a r =>
   simp only[List.length_cons] at hL
   have e2:=mQ (a::r) (c:Int)
   simp only[List.length_cons] at e2
   have e3:aq (r.length+1) 1=r.length+1+1:=by rw[aK]
   have e4:bX (Int.ofNat (r.length+1))=r.length+1:=by rw[jU];rfl
   have T0:=J2 n H q R u f t 0 q lc i k (c:Int) F T (r.length+1) (az (a::r))
   rw[e1,e4,e3,e2,ei,aK] at T0
   refine aB T0 (aw _) (ai _ _) (aj _ _) ?_
   refine Tr.af (fun h0=>?_) wJ
   refine Tr.ae wG (Tr.ae wG (Tr.ae wG (Tr.af (fun q1=>Tr.ae wG (Tr.ae wG (Tr.ae wG (Tr.af (fun q2=>?_) (fun q2=>Tr.ah ?_))))) (fun q1=>Tr.ah ?_))))
   all_goals rw[bn] at q1
   · rw[bn] at q2
     rw[if_pos (by unfold xw;rw[q1,q2];rfl)]
     have er:(r++[(c:Int)]).length=r.length+1:=by rw[List.length_append,List.length_singleton]
     have el:D3 q f t .nils F T (a::r++[(c:Int)])=A7 q f t .nils F T (r.length+1+1) (az (a::r++[(c:Int)])):=by show A7 _ _ _ _ _ _ ((r++[(c:Int)]).length+1) (az (a::(r++[(c:Int)])))=_;rw[er];rfl
     rw[el]
     generalize az (a::r++[(c:Int)])=Y at *
     refine Tr.ae wG (Tr.ae wG (Tr.ae wG (Tr.ae wG (Tr.ae wG (Tr.af (fun q4=>?_) wJ)))))
     exact Tr.ae wG (Tr.ae wG (Tr.ae wG (Tr.ah ⟨rfl,rfl⟩)))
   · rw[bn] at q2
     rw[if_neg (by unfold xw;rw[q1,q2];decide)];exact ⟨rfl,rfl⟩
   · rw[if_neg (by unfold xw;rw[q1];simp)];exact ⟨rfl,rfl⟩
theorem QZ (hl:lc≤10):exec (bP n 65 128) (.block 4 (.loop (part Tryd.f65 [1,0,1,1,1,1,0,1,0,0,1,1,0,0,1,1,0,0,1,1,0,0,1,1,0,1,0,0]))) (fY R u lc i k (Int.ofNat 0)) (yp q f t .nils F T::H)=some (.normal,fY R u lc i k (lc:Int)++[(48,.bool false)],D3 q f t .nils F T (dO q F T lc)::H):=by
 refine jM (n:=n) (f:=65) (nt:=128) (c:=part Tryd.f65 [1,0,1,1,1,1,0,1,0,0,1,1,0,0,1,1,0,0,1,1,0,0,1,1,0,1,0,0]) 4 (fun c=>fY R u lc i k (c:Int)) (fun c=>D3 q f t .nils F T (dO q F T c)::H) lc (fY R u lc i k (lc:Int)++[(48,.bool false)],D3 q f t .nils F T (dO q F T lc)::H) (by omega) (fun c hc=>?_) ?_
 · exact OI n H q R u f t lc i k F T hl c hc (dO q F T c) (by have:=o7 q F T c;omega)
 · generalize dO q F T lc=L;cases L with
   | nil =>
     obtain ⟨x,h1,rfl⟩:=aB (Q:=fun x=>x=(.exit 4,fY R u lc i k (lc:Int)++[(48,.bool false)],yp q f t .nils F T::H)) (J1 n H q R u f t 0 q lc i k (lc:Int) F T) (aw _) (ai _ _) (aj _ _) (by
      refine Tr.af wJ (fun h0=>Tr.ah rfl))
     exact h1
   | cons a r =>
     obtain ⟨x,h1,rfl⟩:=aB (Q:=fun x=>x=(.exit 4,fY R u lc i k (lc:Int)++[(48,.bool false)],A7 q f t .nils F T (r.length+1) (az (a::r))::H)) (J2 n H q R u f t 0 q lc i k (lc:Int) F T (r.length+1) (az (a::r))) (aw _) (ai _ _) (aj _ _) (by
      refine Tr.af wJ (fun h0=>Tr.ah rfl))
     exact h1
theorem OJ (hl:lc≤10) (c:Nat) (hc:c<lc) (L:List Int) (hL:L.length≤1000) :
 ∃ x,exec (bP n 65 128) (part Tryd.f65 [1,0,1,1,1,1,0,1,0,0,1,1,0,0,1,1,0,0,1,1,0,0,1,1,0,1,0,0]) (fY R u lc i k (c:Int)) (D3 q f t (aY m y false) F T L::H)=some x∧x.1=.normal∧tidy 4 x.2.1 x.2.2=(fY R u lc i k ((c+1:Nat):Int),D3 q f t (aY m y false) F T (if xw q F T c=true then L++[(c:Int)] else L)::H):=by
 have e1:a6 .i64 (c:Int) (Int.ofNat 1)=((c+1:Nat):Int):=eN (by omega)
 have ei:av 0 (c:Int) 2=2*c:=by rw[bE];omega
 cases L with
 | nil =>
   have T0:=J3 n H q R u f t m y lc i k (c:Int) F T
   rw[e1,ei,aK] at T0
   refine aB T0 (aw _) (ai _ _) (aj _ _) ?_
   refine Tr.af (fun h0=>?_) wJ
   refine Tr.ae wG (Tr.ae wG (Tr.ae wG (Tr.af (fun q1=>Tr.ae wG (Tr.ae wG (Tr.ae wG (Tr.af (fun q2=>?_) (fun q2=>Tr.ah ?_))))) (fun q1=>Tr.ah ?_))))
   all_goals rw[bn] at q1
   · rw[bn] at q2
     rw[if_pos (by unfold xw;rw[q1,q2];rfl)]
     refine Tr.ae wG (Tr.ae wG (Tr.ae wG (Tr.ae wG (Tr.ae wG (Tr.ah ⟨rfl,rfl⟩)))))
   · rw[bn] at q2
     rw[if_neg (by unfold xw;rw[q1,q2];decide)];exact ⟨rfl,rfl⟩
   · rw[if_neg (by unfold xw;rw[q1];simp)];exact ⟨rfl,rfl⟩
 | cons a r =>
   simp only[List.length_cons] at hL
   have e2:=mQ (a::r) (c:Int)
   simp only[List.length_cons] at e2
   have e3:aq (r.length+1) 1=r.length+1+1:=by rw[aK]
   have e4:bX (Int.ofNat (r.length+1))=r.length+1:=by rw[jU];rfl
   have T0:=J4 n H q R u f t m y lc i k (c:Int) F T (r.length+1) (az (a::r))
   rw[e1,e4,e3,e2,ei,aK] at T0
   refine aB T0 (aw _) (ai _ _) (aj _ _) ?_
   refine Tr.af (fun h0=>?_) wJ
   refine Tr.ae wG (Tr.ae wG (Tr.ae wG (Tr.af (fun q1=>Tr.ae wG (Tr.ae wG (Tr.ae wG (Tr.af (fun q2=>?_) (fun q2=>Tr.ah ?_))))) (fun q1=>Tr.ah ?_))))
   all_goals rw[bn] at q1
   · rw[bn] at q2
     rw[if_pos (by unfold xw;rw[q1,q2];rfl)]
     have er:(r++[(c:Int)]).length=r.length+1:=by rw[List.length_append,List.length_singleton]
     have el:D3 q f t (aY m y false) F T (a::r++[(c:Int)])=A7 q f t (aY m y false) F T (r.length+1+1) (az (a::r++[(c:Int)])):=by show A7 _ _ _ _ _ _ ((r++[(c:Int)]).length+1) (az (a::(r++[(c:Int)])))=_;rw[er];rfl
     rw[el]
     generalize az (a::r++[(c:Int)])=Y at *
     refine Tr.ae wG (Tr.ae wG (Tr.ae wG (Tr.ae wG (Tr.ae wG (Tr.af (fun q4=>?_) wJ)))))
     exact Tr.ae wG (Tr.ae wG (Tr.ae wG (Tr.ah ⟨rfl,rfl⟩)))
   · rw[bn] at q2
     rw[if_neg (by unfold xw;rw[q1,q2];decide)];exact ⟨rfl,rfl⟩
   · rw[if_neg (by unfold xw;rw[q1];simp)];exact ⟨rfl,rfl⟩
theorem Oa (hl:lc≤10):exec (bP n 65 128) (.block 4 (.loop (part Tryd.f65 [1,0,1,1,1,1,0,1,0,0,1,1,0,0,1,1,0,0,1,1,0,0,1,1,0,1,0,0]))) (fY R u lc i k (Int.ofNat 0)) (yp q f t (aY m y false) F T::H)=some (.normal,fY R u lc i k (lc:Int)++[(48,.bool false)],D3 q f t (aY m y false) F T (dO q F T lc)::H):=by
 refine jM (n:=n) (f:=65) (nt:=128) (c:=part Tryd.f65 [1,0,1,1,1,1,0,1,0,0,1,1,0,0,1,1,0,0,1,1,0,0,1,1,0,1,0,0]) 4 (fun c=>fY R u lc i k (c:Int)) (fun c=>D3 q f t (aY m y false) F T (dO q F T c)::H) lc (fY R u lc i k (lc:Int)++[(48,.bool false)],D3 q f t (aY m y false) F T (dO q F T lc)::H) (by omega) (fun c hc=>?_) ?_
 · exact OJ n H q R u f t m y lc i k F T hl c hc (dO q F T c) (by have:=o7 q F T c;omega)
 · generalize dO q F T lc=L;cases L with
   | nil =>
     obtain ⟨x,h1,rfl⟩:=aB (Q:=fun x=>x=(.exit 4,fY R u lc i k (lc:Int)++[(48,.bool false)],yp q f t (aY m y false) F T::H)) (J3 n H q R u f t m y lc i k (lc:Int) F T) (aw _) (ai _ _) (aj _ _) (by
      refine Tr.af wJ (fun h0=>Tr.ah rfl))
     exact h1
   | cons a r =>
     obtain ⟨x,h1,rfl⟩:=aB (Q:=fun x=>x=(.exit 4,fY R u lc i k (lc:Int)++[(48,.bool false)],A7 q f t (aY m y false) F T (r.length+1) (az (a::r))::H)) (J4 n H q R u f t m y lc i k (lc:Int) F T (r.length+1) (az (a::r))) (aw _) (ai _ _) (aj _ _) (by
      refine Tr.af wJ (fun h0=>Tr.ah rfl))
     exact h1
end
end Go.Eng
end
section
namespace Go.Eng
open Go.Proofs Go.Eng.Gall
def tl (q:Nat→Int) (lc:Nat) (F T:Int):Bool:=decide (0<(dO q F T lc).length) && decide (T-F+1<((dO q F T lc).length:Int))
def MT:Option (Int×Int)→Int→Int→Bool
 | none,_,_=>true
 | some (f,t),F,T=>decide (F<f) || decide (T<t)
def Ek (q:Nat→Int) (lc:Nat) (F:Int) (b:Option (Int×Int)) (T:Int):Option (Int×Int):=if (MT b F T && tl q lc F T)=true then some (F,T) else b
def xv (q:Nat→Int) (lc:Nat) (F:Int) (b:Option (Int×Int)):Nat→Option (Int×Int)
 | 0=>b
 | k+1=>Ek q lc F (xv q lc F b k) (q (2*k+1))
def Eu:Option (Int×Int)→Int→Bool
 | none,_=>false
 | some (f,_),F=>decide (f<F)
def lj (q:Nat→Int) (lc:Nat):Nat→Option (Int×Int)
 | 0=>none
 | i+1=>if Eu (lj q lc i) (q (2*i))=true then lj q lc i else xv q lc (q (2*i)) (lj q lc i) lc
def jK (P:Int→Int→Prop):Option (Int×Int)→Prop
 | none=>∀ F T,¬ P F T
 | some (f,t)=>P f t∧∀ F T,P F T→f<F∨(f=F∧t≤T)
theorem iy {P Q:Int→Int→Prop} (h:∀ F T,P F T↔Q F T) {b:Option (Int×Int)}:jK P b↔jK Q b:=by
 have:P=Q:=funext fun F=>funext fun T=>propext (h F T);rw[this]
theorem FP {q:Nat→Int} {lc:Nat} {F:Int} {b:Option (Int×Int)} (h:Eu b F=false):∀ k,Eu (xv q lc F b k) F=false
 | 0=>h
 | k+1=>by
   unfold xv Ek;split
   · exact decide_eq_false (Int.lt_irrefl _)
   · exact FP h k
theorem GY {P:Int→Int→Prop} {q:Nat→Int} {lc:Nat} {F T:Int} {b:Option (Int×Int)} (hb:jK P b) (hg:Eu b F=false):jK (fun x y=>P x y∨(x=F∧y=T∧tl q lc F T=true)) (Ek q lc F b T):=by
 unfold Ek;by_cases ho:tl q lc F T=true
 · cases b with
   | none =>
     rw[if_pos (by rw[ho];rfl)];refine ⟨.inr ⟨rfl,rfl,ho⟩,?_⟩;rintro x y (h | ⟨rfl,rfl,_⟩)
     · exact absurd h (hb x y)
     · exact .inr ⟨rfl,Int.le_refl _⟩
   | some v =>
     obtain ⟨f,t⟩:=v;obtain ⟨h1,h2⟩:=hb;have hg:¬ f<F:=of_decide_eq_false hg;by_cases hc:F<f∨T<t
     · rw[if_pos (by rw[ho,Bool.and_true];show (decide (F<f) || decide (T<t))=true;simpa using hc)];refine ⟨.inr ⟨rfl,rfl,ho⟩,?_⟩;rintro x y (h | ⟨rfl,rfl,_⟩)
       · have:=h2 x y h;omega
       · exact .inr ⟨rfl,Int.le_refl _⟩
     · rw[if_neg (by rw[ho,Bool.and_true];show ¬ (decide (F<f) || decide (T<t))=true;simpa using hc)];refine ⟨.inl h1,?_⟩;rintro x y (h | ⟨rfl,rfl,_⟩)
       · exact h2 x y h
       · omega
 · rw[if_neg (by simp[ho])];exact (iy (fun x y=>⟨fun h=>.inl h,fun h=>h.elim id fun h=>absurd h.2.2 ho⟩)).1 hb
theorem yb {P:Int→Int→Prop} {q:Nat→Int} {lc:Nat} {F:Int} {b:Option (Int×Int)} (hb:jK P b) (hg:Eu b F=false):∀ k,jK (fun x y=>P x y∨(x=F∧∃ j,j<k∧y=q (2*j+1)∧tl q lc F y=true)) (xv q lc F b k)
 | 0=>(iy (fun x y=>⟨fun h=>.inl h,fun h=>h.elim id fun ⟨_,j,h,_⟩=>absurd h (Nat.not_lt_zero j)⟩)).1 hb
 | k + 1=>by
   have:=GY (q:=q) (lc:=lc) (F:=F) (T:=q (2*k+1)) (b:=xv q lc F b k) (yb (q:=q) (lc:=lc) hb hg k) (FP (q:=q) (lc:=lc) hg k);refine (iy (fun x y=>?_)).1 this;constructor
   · rintro ((h | ⟨h1,j,h2,h3,h4⟩) | ⟨rfl,rfl,h3⟩)
     · exact .inl h
     · exact .inr ⟨h1,j,by omega,h3,h4⟩
     · exact .inr ⟨rfl,k,by omega,rfl,h3⟩
   · rintro (h | ⟨rfl,j,h2,rfl,h4⟩)
     · exact .inl (.inl h)
     · by_cases e:j=k
       · subst e;exact .inr ⟨rfl,rfl,h4⟩
       · exact .inl (.inr ⟨rfl,j,by omega,rfl,h4⟩)
theorem tk (q:Nat→Int) (lc:Nat):∀ i,jK (fun x y=>∃ j k,j<i∧k<lc∧x=q (2*j)∧y=q (2*k+1)∧tl q lc x y=true) (lj q lc i)∨∃ f t,lj q lc i=some (f,t)∧jK (fun x y=>∃ j k,j<i∧k<lc∧x=q (2*j)∧y=q (2*k+1)∧tl q lc x y=true) (some (f,t))
 | 0=>.inl fun F T ⟨j,_,h,_⟩=>absurd h (Nat.not_lt_zero j)
 | i + 1=>by
   have ih:jK (fun x y=>∃ j k,j<i∧k<lc∧x=q (2*j)∧y=q (2*k+1)∧tl q lc x y=true) (lj q lc i):=by
    rcases tk q lc i with h | ⟨f,t,h1,h2⟩
    · exact h
    · rw[h1];exact h2
   refine .inl ?_;unfold lj;by_cases hg:Eu (lj q lc i) (q (2*i))=true
   · rw[if_pos hg];generalize lj q lc i=b at *;cases b with
     | none=>cases hg
     | some v =>
       obtain ⟨f,t⟩:=v;have hg:f<q (2*i):=of_decide_eq_true hg;obtain ⟨⟨j,k,h1,h2⟩,h3⟩:=ih;refine ⟨⟨j,k,by omega,h2⟩,?_⟩;rintro F T ⟨j',k',a1,a2,rfl,rfl,a3⟩;by_cases e:j'=i
       · subst e;exact .inl hg
       · exact h3 _ _ ⟨j',k',by omega,a2,rfl,rfl,a3⟩
   · rw[if_neg hg];have hg:Eu (lj q lc i) (q (2*i))=false:=by simpa using hg
     refine (iy (fun x y=>?_)).1 (yb ih hg lc);constructor
     · rintro (⟨j,k,h1,h2⟩ | ⟨rfl,k,h1,rfl,h2⟩)
       · exact ⟨j,k,by omega,h2⟩
       · exact ⟨i,k,by omega,h1,rfl,rfl,h2⟩
     · rintro ⟨j,k,h1,h2,rfl,rfl,h3⟩;by_cases e:j=i
       · subst e;exact .inr ⟨rfl,k,h2,rfl,h3⟩
       · exact .inl ⟨j,k,by omega,h2,rfl,rfl,h3⟩
end Go.Eng
end
