/- Gall: a right block: trees. -/
import Derived.Test.YtgphpjdchnfjlaaDoorV3Gatx9
set_option linter.unusedVariables false
set_option linter.unusedSimpArgs false
set_option maxRecDepth 100000
section
namespace Go.Eng
open Go.Proofs Go.Eng.Gall
noncomputable def kY (R:Row) (u:Bool) (lc:Nat) (i:Int):aF:=[(0,.ptrT none R 0),(2,.ptr 0 0 0 0),(4,.ptr 0 1 0 0),(5,.ptr 0 2 0 0),(6,.bool u),(19,.int .i64 (Int.ofNat lc)),(20,.int .i64 i)]
noncomputable def iv (R:Row) (u:Bool) (lc:Nat) (i k:Int):aF:=[(0,.ptrT none R 0),(2,.ptr 0 0 0 0),(4,.ptr 0 1 0 0),(5,.ptr 0 2 0 0),(6,.bool u),(7,.int .i64 i),(19,.int .i64 (Int.ofNat lc)),(20,.int .i64 i),(28,.int .i64 (Int.ofNat lc)),(29,.int .i64 k)]
noncomputable def gk (R:Row) (u:Bool) (lc:Nat) (i k c:Int):aF:=[(0,.ptrT none R 0),(2,.ptr 0 0 0 0),(4,.ptr 0 1 0 0),(5,.ptr 0 2 0 0),(6,.bool u),(7,.int .i64 i),(9,.ptr 0 3 0 0),(19,.int .i64 (Int.ofNat lc)),(20,.int .i64 i),(28,.int .i64 (Int.ofNat lc)),(29,.int .i64 k),(46,.int .i64 (Int.ofNat lc)),(47,.int .i64 c)]
noncomputable def LO (q:Nat→Int) (f t:Int) (A:AV):List (Nat×an):=[(0,.row (.G [.int .i64 (Int.ofNat 0),.int .i64 (Int.ofNat 0),.nils])),(0,.row (.M [.arr .i64 q 20])),(0,.row (.G [.int .i64 f,.int .i64 t,A]))]
noncomputable def ff (q:Nat→Int) (f t:Int) (A:AV):bF:=⟨false,LO q f t A⟩
noncomputable def za (q:Nat→Int) (f t:Int) (A:AV) (F T:Int):bF:=⟨false,LO q f t A++[(0,.row (.G [.int .i64 F,.int .i64 T,.nils]))]⟩
noncomputable def BM (q:Nat→Int) (f t:Int) (A:AV) (F T:Int) (c:Nat) (y:Nat→Int):bF:=⟨false,LO q f t A++[(0,.row (.G [.int .i64 F,.int .i64 T,.slc 0 4 0 0 1 c none])),(0,.row (.M [.arr .i64 y c]))]⟩
theorem KC (n:Nat) (H:ab) (q:Nat→Int) (R:Row) (u:Bool) (f t:Int) (m:Nat) (y:Nat→Int) (lc:Nat) (i k c F T:Int):aH (bL n 65 128) (il aD n 0) aL aJ (part Tryd.f65 [1,0,1,1,1,1,0,1,0,0,1,1,0,0,1,1,0,0,1,1,0,0,1,1,0,1,0,0]) (hints (gk R u lc i k c)) (za q f t .nils F T::H) =
 (fun (Z0:aS)=>((fun (Z1:bF)=>Tr.ite (bD c (Int.ofNat lc)) (Tr.req (cj c 10) (Tr.req (cD 0 0) (Tr.req (bW (aq 0 c 2) 20) (Tr.ite (c8 F (q (aq 0 c 2))) (Tr.req (cj c 10) (Tr.req (cD 0 0) (Tr.req (bW (ar (aq 0 c 2) 1) 20) (Tr.ite (c8 (q (ar (aq 0 c 2) 1)) T) (Tr.req (kP (Int.ofNat 0) 0) (Tr.req (kP (Int.ofNat 0) (b5 (Int.ofNat 0))) (Tr.req (ie 0 1 8) (Tr.req (cD 0 0) (Tr.req (eR 1 1) (Tr.ok (Ex.normal,Z0,(bA [(0,an.row (Row.G [iI 0,iI 0,AV.nils])),(0,an.row (rM q 20)),(0,an.row (Row.G [AV.int .i64 f,AV.int .i64 t,AV.nils])),(0,an.row (Row.G [AV.int .i64 F,AV.int .i64 T,AV.slc 0 5 0 0 1 1 none])),(0,an.row (Row.I .i64 [c])),(0,an.row (rM (az [c]) 1))])::H))))))) (Tr.ok (Ex.normal,Z0,Z1::H)))))) (Tr.ok (Ex.normal,Z0,Z1::H)))))) (Tr.ok (Ex.exit 4,[(0,AV.ptrT none R 0,none),(2,AV.ptr 0 0 0 0,none),(4,AV.ptr 0 1 0 0,none),(5,AV.ptr 0 2 0 0,none),(6,AV.bool u,none),(7,AV.int .i64 i,none),(9,AV.ptr 0 3 0 0,none),(19,iI lc,none),(20,AV.int .i64 i,none),(28,iI lc,none),(29,AV.int .i64 k,none),(46,iI lc,none),(47,AV.int .i64 c,none),(48,AV.bool false,some 1)],Z1::H))) (bA [(0,an.row (Row.G [iI 0,iI 0,AV.nils])),(0,an.row (rM q 20)),(0,an.row (Row.G [AV.int .i64 f,AV.int .i64 t,AV.nils])),(0,an.row (Row.G [AV.int .i64 F,AV.int .i64 T,AV.nils]))]))) [(0,AV.ptrT none R 0,none),(2,AV.ptr 0 0 0 0,none),(4,AV.ptr 0 1 0 0,none),(5,AV.ptr 0 2 0 0,none),(6,AV.bool u,none),(7,AV.int .i64 i,none),(9,AV.ptr 0 3 0 0,none),(19,iI lc,none),(20,AV.int .i64 i,none),(28,iI lc,none),(29,AV.int .i64 k,none),(46,iI lc,none),(47,AV.int .i64 (bh .i64 c (Int.ofNat 1)),none)]:=by kernel_rfl
theorem KD (n:Nat) (H:ab) (q:Nat→Int) (R:Row) (u:Bool) (f t:Int) (m:Nat) (y:Nat→Int) (lc:Nat) (i k c F T:Int) (g:Nat) (x:Nat→Int):aH (bL n 65 128) (il aD n 0) aL aJ (part Tryd.f65 [1,0,1,1,1,1,0,1,0,0,1,1,0,0,1,1,0,0,1,1,0,0,1,1,0,1,0,0]) (hints (gk R u lc i k c)) (BM q f t .nils F T g x::H) =
 (fun (Z0:aS)=>((fun (Z1:bF)=>Tr.ite (bD c (Int.ofNat lc)) (Tr.req (cj c 10) (Tr.req (cD 0 0) (Tr.req (bW (aq 0 c 2) 20) (Tr.ite (c8 F (q (aq 0 c 2))) (Tr.req (cj c 10) (Tr.req (cD 0 0) (Tr.req (bW (ar (aq 0 c 2) 1) 20) (Tr.ite (c8 (q (ar (aq 0 c 2) 1)) T) (Tr.req (kP (Int.ofNat g) g) (Tr.req (kP (Int.ofNat g) (b5 (Int.ofNat g))) (Tr.req (ie (b5 (Int.ofNat g)) 1 8) (Tr.req (cD 0 0) (Tr.req (eR 1 1) (Tr.ite (bW (b5 (Int.ofNat g)) (ar (b5 (Int.ofNat g)) 1)) (Tr.req (cD 0 0) (Tr.req (eR (b5 (Int.ofNat g)) (b5 (Int.ofNat g))) (Tr.req (eD 0 (b5 (Int.ofNat g)) 0 g) (Tr.ok (Ex.normal,Z0,(bA [(0,an.row (Row.G [iI 0,iI 0,AV.nils])),(0,an.row (rM q 20)),(0,an.row (Row.G [AV.int .i64 f,AV.int .i64 t,AV.nils])),(0,an.row (Row.G [AV.int .i64 F,AV.int .i64 T,AV.slc 0 6 0 0 1 (ar (b5 (Int.ofNat g)) 1) none])),(0,an.row (rM x g)),(0,an.row (Row.I .i64 [c])),(0,an.row (rM (nZ (pZ x 0) (b5 (Int.ofNat g)) (az [c])) (ar (b5 (Int.ofNat g)) 1)))])::H))))) (Tr.req (cD 0 0) (Tr.req (bW (ar 0 (b5 (Int.ofNat g))) g) (Tr.ok (Ex.normal,Z0,(bA [(0,an.row (Row.G [iI 0,iI 0,AV.nils])),(0,an.row (rM q 20)),(0,an.row (Row.G [AV.int .i64 f,AV.int .i64 t,AV.nils])),(0,an.row (Row.G [AV.int .i64 F,AV.int .i64 T,AV.slc 0 4 0 0 1 (ar (b5 (Int.ofNat g)) 1) (some (b5 (Int.ofNat g)))])),(0,an.row (rM (dQ x (ar 0 (b5 (Int.ofNat g))) c) g)),(0,an.row (Row.I .i64 [c]))])::H)))))))))) (Tr.ok (Ex.normal,Z0,Z1::H)))))) (Tr.ok (Ex.normal,Z0,Z1::H)))))) (Tr.ok (Ex.exit 4,[(0,AV.ptrT none R 0,none),(2,AV.ptr 0 0 0 0,none),(4,AV.ptr 0 1 0 0,none),(5,AV.ptr 0 2 0 0,none),(6,AV.bool u,none),(7,AV.int .i64 i,none),(9,AV.ptr 0 3 0 0,none),(19,iI lc,none),(20,AV.int .i64 i,none),(28,iI lc,none),(29,AV.int .i64 k,none),(46,iI lc,none),(47,AV.int .i64 c,none),(48,AV.bool false,some 1)],Z1::H))) (bA [(0,an.row (Row.G [iI 0,iI 0,AV.nils])),(0,an.row (rM q 20)),(0,an.row (Row.G [AV.int .i64 f,AV.int .i64 t,AV.nils])),(0,an.row (Row.G [AV.int .i64 F,AV.int .i64 T,AV.slc 0 4 0 0 1 g none])),(0,an.row (rM x g))]))) [(0,AV.ptrT none R 0,none),(2,AV.ptr 0 0 0 0,none),(4,AV.ptr 0 1 0 0,none),(5,AV.ptr 0 2 0 0,none),(6,AV.bool u,none),(7,AV.int .i64 i,none),(9,AV.ptr 0 3 0 0,none),(19,iI lc,none),(20,AV.int .i64 i,none),(28,iI lc,none),(29,AV.int .i64 k,none),(46,iI lc,none),(47,AV.int .i64 (bh .i64 c (Int.ofNat 1)),none)]:=by kernel_rfl
theorem KE (n:Nat) (H:ab) (q:Nat→Int) (R:Row) (u:Bool) (f t:Int) (m:Nat) (y:Nat→Int) (lc:Nat) (i k c F T:Int):aH (bL n 65 128) (il aD n 0) aL aJ (part Tryd.f65 [1,0,1,1,1,1,0,1,0,0,1,1,0,0,1,1,0,0,1,1,0,0,1,1,0,1,0,0]) (hints (gk R u lc i k c)) (za q f t (aK m y false) F T::H) =
 (fun (Z0:aS)=>((fun (Z1:bF)=>Tr.ite (bD c (Int.ofNat lc)) (Tr.req (cj c 10) (Tr.req (cD 0 0) (Tr.req (bW (aq 0 c 2) 20) (Tr.ite (c8 F (q (aq 0 c 2))) (Tr.req (cj c 10) (Tr.req (cD 0 0) (Tr.req (bW (ar (aq 0 c 2) 1) 20) (Tr.ite (c8 (q (ar (aq 0 c 2) 1)) T) (Tr.req (kP (Int.ofNat 0) 0) (Tr.req (kP (Int.ofNat 0) (b5 (Int.ofNat 0))) (Tr.req (ie 0 1 8) (Tr.req (cD 0 0) (Tr.req (eR 1 1) (Tr.ok (Ex.normal,Z0,(bA [(0,an.row (Row.G [iI 0,iI 0,AV.nils])),(0,an.row (rM q 20)),(0,an.row (Row.G [AV.int .i64 f,AV.int .i64 t,aK m y false])),(0,an.row (Row.G [AV.int .i64 F,AV.int .i64 T,AV.slc 0 5 0 0 1 1 none])),(0,an.row (Row.I .i64 [c])),(0,an.row (rM (az [c]) 1))])::H))))))) (Tr.ok (Ex.normal,Z0,Z1::H)))))) (Tr.ok (Ex.normal,Z0,Z1::H)))))) (Tr.ok (Ex.exit 4,[(0,AV.ptrT none R 0,none),(2,AV.ptr 0 0 0 0,none),(4,AV.ptr 0 1 0 0,none),(5,AV.ptr 0 2 0 0,none),(6,AV.bool u,none),(7,AV.int .i64 i,none),(9,AV.ptr 0 3 0 0,none),(19,iI lc,none),(20,AV.int .i64 i,none),(28,iI lc,none),(29,AV.int .i64 k,none),(46,iI lc,none),(47,AV.int .i64 c,none),(48,AV.bool false,some 1)],Z1::H))) (bA [(0,an.row (Row.G [iI 0,iI 0,AV.nils])),(0,an.row (rM q 20)),(0,an.row (Row.G [AV.int .i64 f,AV.int .i64 t,aK m y false])),(0,an.row (Row.G [AV.int .i64 F,AV.int .i64 T,AV.nils]))]))) [(0,AV.ptrT none R 0,none),(2,AV.ptr 0 0 0 0,none),(4,AV.ptr 0 1 0 0,none),(5,AV.ptr 0 2 0 0,none),(6,AV.bool u,none),(7,AV.int .i64 i,none),(9,AV.ptr 0 3 0 0,none),(19,iI lc,none),(20,AV.int .i64 i,none),(28,iI lc,none),(29,AV.int .i64 k,none),(46,iI lc,none),(47,AV.int .i64 (bh .i64 c (Int.ofNat 1)),none)]:=by kernel_rfl
theorem KF (n:Nat) (H:ab) (q:Nat→Int) (R:Row) (u:Bool) (f t:Int) (m:Nat) (y:Nat→Int) (lc:Nat) (i k c F T:Int) (g:Nat) (x:Nat→Int):aH (bL n 65 128) (il aD n 0) aL aJ (part Tryd.f65 [1,0,1,1,1,1,0,1,0,0,1,1,0,0,1,1,0,0,1,1,0,0,1,1,0,1,0,0]) (hints (gk R u lc i k c)) (BM q f t (aK m y false) F T g x::H) =
 (fun (Z0:aS)=>((fun (Z1:bF)=>Tr.ite (bD c (Int.ofNat lc)) (Tr.req (cj c 10) (Tr.req (cD 0 0) (Tr.req (bW (aq 0 c 2) 20) (Tr.ite (c8 F (q (aq 0 c 2))) (Tr.req (cj c 10) (Tr.req (cD 0 0) (Tr.req (bW (ar (aq 0 c 2) 1) 20) (Tr.ite (c8 (q (ar (aq 0 c 2) 1)) T) (Tr.req (kP (Int.ofNat g) g) (Tr.req (kP (Int.ofNat g) (b5 (Int.ofNat g))) (Tr.req (ie (b5 (Int.ofNat g)) 1 8) (Tr.req (cD 0 0) (Tr.req (eR 1 1) (Tr.ite (bW (b5 (Int.ofNat g)) (ar (b5 (Int.ofNat g)) 1)) (Tr.req (cD 0 0) (Tr.req (eR (b5 (Int.ofNat g)) (b5 (Int.ofNat g))) (Tr.req (eD 0 (b5 (Int.ofNat g)) 0 g) (Tr.ok (Ex.normal,Z0,(bA [(0,an.row (Row.G [iI 0,iI 0,AV.nils])),(0,an.row (rM q 20)),(0,an.row (Row.G [AV.int .i64 f,AV.int .i64 t,aK m y false])),(0,an.row (Row.G [AV.int .i64 F,AV.int .i64 T,AV.slc 0 6 0 0 1 (ar (b5 (Int.ofNat g)) 1) none])),(0,an.row (rM x g)),(0,an.row (Row.I .i64 [c])),(0,an.row (rM (nZ (pZ x 0) (b5 (Int.ofNat g)) (az [c])) (ar (b5 (Int.ofNat g)) 1)))])::H))))) (Tr.req (cD 0 0) (Tr.req (bW (ar 0 (b5 (Int.ofNat g))) g) (Tr.ok (Ex.normal,Z0,(bA [(0,an.row (Row.G [iI 0,iI 0,AV.nils])),(0,an.row (rM q 20)),(0,an.row (Row.G [AV.int .i64 f,AV.int .i64 t,aK m y false])),(0,an.row (Row.G [AV.int .i64 F,AV.int .i64 T,AV.slc 0 4 0 0 1 (ar (b5 (Int.ofNat g)) 1) (some (b5 (Int.ofNat g)))])),(0,an.row (rM (dQ x (ar 0 (b5 (Int.ofNat g))) c) g)),(0,an.row (Row.I .i64 [c]))])::H)))))))))) (Tr.ok (Ex.normal,Z0,Z1::H)))))) (Tr.ok (Ex.normal,Z0,Z1::H)))))) (Tr.ok (Ex.exit 4,[(0,AV.ptrT none R 0,none),(2,AV.ptr 0 0 0 0,none),(4,AV.ptr 0 1 0 0,none),(5,AV.ptr 0 2 0 0,none),(6,AV.bool u,none),(7,AV.int .i64 i,none),(9,AV.ptr 0 3 0 0,none),(19,iI lc,none),(20,AV.int .i64 i,none),(28,iI lc,none),(29,AV.int .i64 k,none),(46,iI lc,none),(47,AV.int .i64 c,none),(48,AV.bool false,some 1)],Z1::H))) (bA [(0,an.row (Row.G [iI 0,iI 0,AV.nils])),(0,an.row (rM q 20)),(0,an.row (Row.G [AV.int .i64 f,AV.int .i64 t,aK m y false])),(0,an.row (Row.G [AV.int .i64 F,AV.int .i64 T,AV.slc 0 4 0 0 1 g none])),(0,an.row (rM x g))]))) [(0,AV.ptrT none R 0,none),(2,AV.ptr 0 0 0 0,none),(4,AV.ptr 0 1 0 0,none),(5,AV.ptr 0 2 0 0,none),(6,AV.bool u,none),(7,AV.int .i64 i,none),(9,AV.ptr 0 3 0 0,none),(19,iI lc,none),(20,AV.int .i64 i,none),(28,iI lc,none),(29,AV.int .i64 k,none),(46,iI lc,none),(47,AV.int .i64 (bh .i64 c (Int.ofNat 1)),none)]:=by kernel_rfl
end Go.Eng
end
section
namespace Go.Eng
open Go.Proofs Go.Eng.Gall
theorem OK (n:Nat) (dr:Int) (lc:Nat) (zc:Nat→Int) (lb:Nat) (zb:Nat→Int) (W B:Nat→Int) (H:ab) (q:Nat→Int) (i k:Int) (f t:Int) (m:Nat) (y:Nat→Int):aH (bL n 65 128) (il aD n 0) (cr aL 4 (gk (shR dr lc zc lb zb W B) false lc i k (Int.ofNat 0)) (za q f t .nils (q (aq 0 i 2)) (q (ar (aq 0 k 2) 1))::H) (.ok (.normal,hints (gk (shR dr lc zc lb zb W B) false lc i k (Int.ofNat lc)++[(48,.bool false)]),za q f t .nils (q (aq 0 i 2)) (q (ar (aq 0 k 2) 1))::H))) aJ (part Tryd.f65 [1,0,1,1,1,1,0,1,0,0,1,1,0,0,1,1,0,0]) (hints (iv (shR dr lc zc lb zb W B) false lc i k)) (ff q f t .nils::H) =
 (fun (Z0:bF)=>((fun (Z1:aS)=>((fun (Z2:aF)=>Tr.ite (bD k (Int.ofNat lc)) (Tr.req (cj i 10) (Tr.req (cD 0 0) (Tr.req (bW (aq 0 i 2) 20) (Tr.req (cj k 10) (Tr.req (cD 0 0) (Tr.req (bW (ar (aq 0 k 2) 1) 20) (Tr.req (bO (eR 0 0) (eR 0 1)) (Tr.reqP (Z2=Z2∧Z0::H=Z0::H) (Tr.ite false (Tr.ite (bD f (q (aq 0 i 2))) (Tr.ok (Ex.exit 1,[(0,shV dr lc zc lb zb W B,none),(2,AV.ptr 0 0 0 0,none),(4,AV.ptr 0 1 0 0,none),(5,AV.ptr 0 2 0 0,none),(6,AV.bool false,none),(7,AV.int .i64 i,none),(9,AV.ptr 0 3 0 0,none),(19,iI lc,none),(20,AV.int .i64 i,none),(28,iI lc,none),(29,AV.int .i64 k,none),(87,AV.bool true,some 1)],Z0::H)) (Tr.ite (bx false) (Tr.ok (Ex.normal,Z1,Z0::H)) (Tr.ite (bD (q (aq 0 i 2)) f) (Tr.ok (Ex.normal,Z1,Z0::H)) (Tr.ite (bD (q (ar (aq 0 k 2) 1)) t) (Tr.ok (Ex.normal,Z1,Z0::H)) (Tr.ok (Ex.normal,Z1,Z0::H)))))) (Tr.ite (bx false) (Tr.ok (Ex.normal,Z1,Z0::H)) (Tr.ite (bD (q (aq 0 i 2)) f) (Tr.ok (Ex.normal,Z1,Z0::H)) (Tr.ite (bD (q (ar (aq 0 k 2) 1)) t) (Tr.ok (Ex.normal,Z1,Z0::H)) (Tr.ok (Ex.normal,Z1,Z0::H)))))))))))))) (Tr.ok (Ex.exit 2,[(0,shV dr lc zc lb zb W B,none),(2,AV.ptr 0 0 0 0,none),(4,AV.ptr 0 1 0 0,none),(5,AV.ptr 0 2 0 0,none),(6,AV.bool false,none),(7,AV.int .i64 i,none),(19,iI lc,none),(20,AV.int .i64 i,none),(28,iI lc,none),(29,AV.int .i64 k,none),(30,AV.bool false,some 1)],(bA [(0,an.row (Row.G [iI 0,iI 0,AV.nils])),(0,an.row (rM q 20)),(0,an.row (Row.G [AV.int .i64 f,AV.int .i64 t,AV.nils]))])::H))) [(0,shV dr lc zc lb zb W B),(2,AV.ptr 0 0 0 0),(4,AV.ptr 0 1 0 0),(5,AV.ptr 0 2 0 0),(6,AV.bool false),(7,AV.int .i64 i),(9,AV.ptr 0 3 0 0),(19,iI lc),(20,AV.int .i64 i),(28,iI lc),(29,AV.int .i64 k),(46,iI lc),(47,iI 0)])) [(0,shV dr lc zc lb zb W B,none),(2,AV.ptr 0 0 0 0,none),(4,AV.ptr 0 1 0 0,none),(5,AV.ptr 0 2 0 0,none),(6,AV.bool false,none),(7,AV.int .i64 i,none),(19,iI lc,none),(20,AV.int .i64 i,none),(28,iI lc,none),(29,AV.int .i64 (bh .i64 k (Int.ofNat 1)),none)])) (bA [(0,an.row (Row.G [iI 0,iI 0,AV.nils])),(0,an.row (rM q 20)),(0,an.row (Row.G [AV.int .i64 f,AV.int .i64 t,AV.nils])),(0,an.row (Row.G [AV.int .i64 (q (aq 0 i 2)),AV.int .i64 (q (ar (aq 0 k 2) 1)),AV.nils]))]):=by kernel_rfl
theorem OL (n:Nat) (dr:Int) (lc:Nat) (zc:Nat→Int) (lb:Nat) (zb:Nat→Int) (W B:Nat→Int) (H:ab) (q:Nat→Int) (i k:Int) (f t:Int) (m:Nat) (y:Nat→Int) (g:Nat) (x:Nat→Int):aH (bL n 65 128) (il aD n 0) (cr aL 4 (gk (shR dr lc zc lb zb W B) false lc i k (Int.ofNat 0)) (za q f t .nils (q (aq 0 i 2)) (q (ar (aq 0 k 2) 1))::H) (.ok (.normal,hints (gk (shR dr lc zc lb zb W B) false lc i k (Int.ofNat lc)++[(48,.bool false)]),BM q f t .nils (q (aq 0 i 2)) (q (ar (aq 0 k 2) 1)) g x::H))) aJ (part Tryd.f65 [1,0,1,1,1,1,0,1,0,0,1,1,0,0,1,1,0,0]) (hints (iv (shR dr lc zc lb zb W B) false lc i k)) (ff q f t .nils::H) =
 (fun (Z0:bF)=>((fun (Z1:aS)=>((fun (Z2:bF)=>((fun (Z3:aS)=>((fun (Z4:aF)=>((fun (Z5:bF)=>Tr.ite (bD k (Int.ofNat lc)) (Tr.req (cj i 10) (Tr.req (cD 0 0) (Tr.req (bW (aq 0 i 2) 20) (Tr.req (cj k 10) (Tr.req (cD 0 0) (Tr.req (bW (ar (aq 0 k 2) 1) 20) (Tr.req (bO (eR 0 0) (eR 0 1)) (Tr.reqP (Z4=Z4∧Z5::H=Z5::H) (Tr.ite false (Tr.ite (bD f (q (aq 0 i 2))) (Tr.ok (Ex.exit 1,[(0,shV dr lc zc lb zb W B,none),(2,AV.ptr 0 0 0 0,none),(4,AV.ptr 0 1 0 0,none),(5,AV.ptr 0 2 0 0,none),(6,AV.bool false,none),(7,AV.int .i64 i,none),(9,AV.ptr 0 3 0 0,none),(19,iI lc,none),(20,AV.int .i64 i,none),(28,iI lc,none),(29,AV.int .i64 k,none),(87,AV.bool true,some 1)],Z0::H)) (Tr.ite (bx false) (Tr.ite (bD (Int.ofNat 0) (Int.ofNat g)) (Tr.ite (bD (bh .i64 (bN .i64 (q (ar (aq 0 k 2) 1)) (q (aq 0 i 2))) (Int.ofNat 1)) (Int.ofNat g)) (Tr.req (cD 0 0) (Tr.req (eD 0 g 0 g) (Tr.req (cD 0 0) (Tr.req (eD 0 g 0 g) (Tr.ok (Ex.normal,Z3,Z2::H)))))) (Tr.ok (Ex.normal,Z1,Z0::H))) (Tr.ok (Ex.normal,Z1,Z0::H))) (Tr.ite (bD (q (aq 0 i 2)) f) (Tr.ite (bD (Int.ofNat 0) (Int.ofNat g)) (Tr.ite (bD (bh .i64 (bN .i64 (q (ar (aq 0 k 2) 1)) (q (aq 0 i 2))) (Int.ofNat 1)) (Int.ofNat g)) (Tr.req (cD 0 0) (Tr.req (eD 0 g 0 g) (Tr.req (cD 0 0) (Tr.req (eD 0 g 0 g) (Tr.ok (Ex.normal,Z3,Z2::H)))))) (Tr.ok (Ex.normal,Z1,Z0::H))) (Tr.ok (Ex.normal,Z1,Z0::H))) (Tr.ite (bD (q (ar (aq 0 k 2) 1)) t) (Tr.ite (bD (Int.ofNat 0) (Int.ofNat g)) (Tr.ite (bD (bh .i64 (bN .i64 (q (ar (aq 0 k 2) 1)) (q (aq 0 i 2))) (Int.ofNat 1)) (Int.ofNat g)) (Tr.req (cD 0 0) (Tr.req (eD 0 g 0 g) (Tr.req (cD 0 0) (Tr.req (eD 0 g 0 g) (Tr.ok (Ex.normal,Z3,Z2::H)))))) (Tr.ok (Ex.normal,Z1,Z0::H))) (Tr.ok (Ex.normal,Z1,Z0::H))) (Tr.ok (Ex.normal,Z1,Z0::H)))))) (Tr.ite (bx false) (Tr.ite (bD (Int.ofNat 0) (Int.ofNat g)) (Tr.ite (bD (bh .i64 (bN .i64 (q (ar (aq 0 k 2) 1)) (q (aq 0 i 2))) (Int.ofNat 1)) (Int.ofNat g)) (Tr.req (cD 0 0) (Tr.req (eD 0 g 0 g) (Tr.req (cD 0 0) (Tr.req (eD 0 g 0 g) (Tr.ok (Ex.normal,Z3,Z2::H)))))) (Tr.ok (Ex.normal,Z1,Z0::H))) (Tr.ok (Ex.normal,Z1,Z0::H))) (Tr.ite (bD (q (aq 0 i 2)) f) (Tr.ite (bD (Int.ofNat 0) (Int.ofNat g)) (Tr.ite (bD (bh .i64 (bN .i64 (q (ar (aq 0 k 2) 1)) (q (aq 0 i 2))) (Int.ofNat 1)) (Int.ofNat g)) (Tr.req (cD 0 0) (Tr.req (eD 0 g 0 g) (Tr.req (cD 0 0) (Tr.req (eD 0 g 0 g) (Tr.ok (Ex.normal,Z3,Z2::H)))))) (Tr.ok (Ex.normal,Z1,Z0::H))) (Tr.ok (Ex.normal,Z1,Z0::H))) (Tr.ite (bD (q (ar (aq 0 k 2) 1)) t) (Tr.ite (bD (Int.ofNat 0) (Int.ofNat g)) (Tr.ite (bD (bh .i64 (bN .i64 (q (ar (aq 0 k 2) 1)) (q (aq 0 i 2))) (Int.ofNat 1)) (Int.ofNat g)) (Tr.req (cD 0 0) (Tr.req (eD 0 g 0 g) (Tr.req (cD 0 0) (Tr.req (eD 0 g 0 g) (Tr.ok (Ex.normal,Z3,Z2::H)))))) (Tr.ok (Ex.normal,Z1,Z0::H))) (Tr.ok (Ex.normal,Z1,Z0::H))) (Tr.ok (Ex.normal,Z1,Z0::H)))))))))))))) (Tr.ok (Ex.exit 2,[(0,shV dr lc zc lb zb W B,none),(2,AV.ptr 0 0 0 0,none),(4,AV.ptr 0 1 0 0,none),(5,AV.ptr 0 2 0 0,none),(6,AV.bool false,none),(7,AV.int .i64 i,none),(19,iI lc,none),(20,AV.int .i64 i,none),(28,iI lc,none),(29,AV.int .i64 k,none),(30,AV.bool false,some 1)],(bA [(0,an.row (Row.G [iI 0,iI 0,AV.nils])),(0,an.row (rM q 20)),(0,an.row (Row.G [AV.int .i64 f,AV.int .i64 t,AV.nils]))])::H))) (bA [(0,an.row (Row.G [iI 0,iI 0,AV.nils])),(0,an.row (rM q 20)),(0,an.row (Row.G [AV.int .i64 f,AV.int .i64 t,AV.nils])),(0,an.row (Row.G [AV.int .i64 (q (aq 0 i 2)),AV.int .i64 (q (ar (aq 0 k 2) 1)),AV.nils]))]))) [(0,shV dr lc zc lb zb W B),(2,AV.ptr 0 0 0 0),(4,AV.ptr 0 1 0 0),(5,AV.ptr 0 2 0 0),(6,AV.bool false),(7,AV.int .i64 i),(9,AV.ptr 0 3 0 0),(19,iI lc),(20,AV.int .i64 i),(28,iI lc),(29,AV.int .i64 k),(46,iI lc),(47,iI 0)])) [(0,shV dr lc zc lb zb W B,none),(2,AV.ptr 0 0 0 0,none),(4,AV.ptr 0 1 0 0,none),(5,AV.ptr 0 2 0 0,none),(6,AV.bool true,some 1),(7,AV.int .i64 i,none),(19,iI lc,none),(20,AV.int .i64 i,none),(28,iI lc,none),(29,AV.int .i64 (bh .i64 k (Int.ofNat 1)),none)])) (bA [(0,an.row (Row.G [iI 0,iI 0,AV.nils])),(0,an.row (rM q 20)),(0,an.row (Row.G [AV.int .i64 (q (aq 0 i 2)),AV.int .i64 (q (ar (aq 0 k 2) 1)),aK g (pZ x 0) false])),(0,an.row (Row.G [AV.int .i64 (q (aq 0 i 2)),AV.int .i64 (q (ar (aq 0 k 2) 1)),aK g (pZ x 0) false])),(0,an.dead)]))) [(0,shV dr lc zc lb zb W B,none),(2,AV.ptr 0 0 0 0,none),(4,AV.ptr 0 1 0 0,none),(5,AV.ptr 0 2 0 0,none),(6,AV.bool false,none),(7,AV.int .i64 i,none),(19,iI lc,none),(20,AV.int .i64 i,none),(28,iI lc,none),(29,AV.int .i64 (bh .i64 k (Int.ofNat 1)),none)])) (bA [(0,an.row (Row.G [iI 0,iI 0,AV.nils])),(0,an.row (rM q 20)),(0,an.row (Row.G [AV.int .i64 f,AV.int .i64 t,AV.nils])),(0,an.row (Row.G [AV.int .i64 (q (aq 0 i 2)),AV.int .i64 (q (ar (aq 0 k 2) 1)),AV.slc 0 4 0 0 1 g none])),(0,an.row (rM x g))]):=by kernel_rfl
theorem Kr (n:Nat) (dr:Int) (lc:Nat) (zc:Nat→Int) (lb:Nat) (zb:Nat→Int) (W B:Nat→Int) (H:ab) (q:Nat→Int) (i k:Int) (f t:Int) (m:Nat) (y:Nat→Int):aH (bL n 65 128) (il aD n 0) (cr aL 4 (gk (shR dr lc zc lb zb W B) true lc i k (Int.ofNat 0)) (za q f t (aK m y false) (q (aq 0 i 2)) (q (ar (aq 0 k 2) 1))::H) (.ok (.normal,hints (gk (shR dr lc zc lb zb W B) true lc i k (Int.ofNat lc)++[(48,.bool false)]),za q f t (aK m y false) (q (aq 0 i 2)) (q (ar (aq 0 k 2) 1))::H))) aJ (part Tryd.f65 [1,0,1,1,1,1,0,1,0,0,1,1,0,0,1,1,0,0]) (hints (iv (shR dr lc zc lb zb W B) true lc i k)) (ff q f t (aK m y false)::H) =
 (fun (Z0:bF)=>((fun (Z1:aS)=>((fun (Z2:aF)=>Tr.ite (bD k (Int.ofNat lc)) (Tr.req (cj i 10) (Tr.req (cD 0 0) (Tr.req (bW (aq 0 i 2) 20) (Tr.req (cj k 10) (Tr.req (cD 0 0) (Tr.req (bW (ar (aq 0 k 2) 1) 20) (Tr.req (bO (eR 0 0) (eR 0 1)) (Tr.reqP (Z2=Z2∧Z0::H=Z0::H) (Tr.ite true (Tr.ite (bD f (q (aq 0 i 2))) (Tr.ok (Ex.exit 1,[(0,shV dr lc zc lb zb W B,none),(2,AV.ptr 0 0 0 0,none),(4,AV.ptr 0 1 0 0,none),(5,AV.ptr 0 2 0 0,none),(6,AV.bool true,none),(7,AV.int .i64 i,none),(9,AV.ptr 0 3 0 0,none),(19,iI lc,none),(20,AV.int .i64 i,none),(28,iI lc,none),(29,AV.int .i64 k,none),(87,AV.bool true,some 1)],Z0::H)) (Tr.ite (bx true) (Tr.ok (Ex.normal,Z1,Z0::H)) (Tr.ite (bD (q (aq 0 i 2)) f) (Tr.ok (Ex.normal,Z1,Z0::H)) (Tr.ite (bD (q (ar (aq 0 k 2) 1)) t) (Tr.ok (Ex.normal,Z1,Z0::H)) (Tr.ok (Ex.normal,Z1,Z0::H)))))) (Tr.ite (bx true) (Tr.ok (Ex.normal,Z1,Z0::H)) (Tr.ite (bD (q (aq 0 i 2)) f) (Tr.ok (Ex.normal,Z1,Z0::H)) (Tr.ite (bD (q (ar (aq 0 k 2) 1)) t) (Tr.ok (Ex.normal,Z1,Z0::H)) (Tr.ok (Ex.normal,Z1,Z0::H)))))))))))))) (Tr.ok (Ex.exit 2,[(0,shV dr lc zc lb zb W B,none),(2,AV.ptr 0 0 0 0,none),(4,AV.ptr 0 1 0 0,none),(5,AV.ptr 0 2 0 0,none),(6,AV.bool true,none),(7,AV.int .i64 i,none),(19,iI lc,none),(20,AV.int .i64 i,none),(28,iI lc,none),(29,AV.int .i64 k,none),(30,AV.bool false,some 1)],(bA [(0,an.row (Row.G [iI 0,iI 0,AV.nils])),(0,an.row (rM q 20)),(0,an.row (Row.G [AV.int .i64 f,AV.int .i64 t,aK m y false]))])::H))) [(0,shV dr lc zc lb zb W B),(2,AV.ptr 0 0 0 0),(4,AV.ptr 0 1 0 0),(5,AV.ptr 0 2 0 0),(6,AV.bool true),(7,AV.int .i64 i),(9,AV.ptr 0 3 0 0),(19,iI lc),(20,AV.int .i64 i),(28,iI lc),(29,AV.int .i64 k),(46,iI lc),(47,iI 0)])) [(0,shV dr lc zc lb zb W B,none),(2,AV.ptr 0 0 0 0,none),(4,AV.ptr 0 1 0 0,none),(5,AV.ptr 0 2 0 0,none),(6,AV.bool true,none),(7,AV.int .i64 i,none),(19,iI lc,none),(20,AV.int .i64 i,none),(28,iI lc,none),(29,AV.int .i64 (bh .i64 k (Int.ofNat 1)),none)])) (bA [(0,an.row (Row.G [iI 0,iI 0,AV.nils])),(0,an.row (rM q 20)),(0,an.row (Row.G [AV.int .i64 f,AV.int .i64 t,aK m y false])),(0,an.row (Row.G [AV.int .i64 (q (aq 0 i 2)),AV.int .i64 (q (ar (aq 0 k 2) 1)),AV.nils]))]):=by kernel_rfl
theorem Kt (n:Nat) (dr:Int) (lc:Nat) (zc:Nat→Int) (lb:Nat) (zb:Nat→Int) (W B:Nat→Int) (H:ab) (q:Nat→Int) (i k:Int) (f t:Int) (m:Nat) (y:Nat→Int) (g:Nat) (x:Nat→Int):aH (bL n 65 128) (il aD n 0) (cr aL 4 (gk (shR dr lc zc lb zb W B) true lc i k (Int.ofNat 0)) (za q f t (aK m y false) (q (aq 0 i 2)) (q (ar (aq 0 k 2) 1))::H) (.ok (.normal,hints (gk (shR dr lc zc lb zb W B) true lc i k (Int.ofNat lc)++[(48,.bool false)]),BM q f t (aK m y false) (q (aq 0 i 2)) (q (ar (aq 0 k 2) 1)) g x::H))) aJ (part Tryd.f65 [1,0,1,1,1,1,0,1,0,0,1,1,0,0,1,1,0,0]) (hints (iv (shR dr lc zc lb zb W B) true lc i k)) (ff q f t (aK m y false)::H) =
 (fun (Z0:bF)=>((fun (Z1:aS)=>((fun (Z2:bF)=>((fun (Z3:aS)=>((fun (Z4:aF)=>((fun (Z5:bF)=>Tr.ite (bD k (Int.ofNat lc)) (Tr.req (cj i 10) (Tr.req (cD 0 0) (Tr.req (bW (aq 0 i 2) 20) (Tr.req (cj k 10) (Tr.req (cD 0 0) (Tr.req (bW (ar (aq 0 k 2) 1) 20) (Tr.req (bO (eR 0 0) (eR 0 1)) (Tr.reqP (Z4=Z4∧Z5::H=Z5::H) (Tr.ite true (Tr.ite (bD f (q (aq 0 i 2))) (Tr.ok (Ex.exit 1,[(0,shV dr lc zc lb zb W B,none),(2,AV.ptr 0 0 0 0,none),(4,AV.ptr 0 1 0 0,none),(5,AV.ptr 0 2 0 0,none),(6,AV.bool true,none),(7,AV.int .i64 i,none),(9,AV.ptr 0 3 0 0,none),(19,iI lc,none),(20,AV.int .i64 i,none),(28,iI lc,none),(29,AV.int .i64 k,none),(87,AV.bool true,some 1)],Z0::H)) (Tr.ite (bx true) (Tr.ite (bD (Int.ofNat 0) (Int.ofNat g)) (Tr.ite (bD (bh .i64 (bN .i64 (q (ar (aq 0 k 2) 1)) (q (aq 0 i 2))) (Int.ofNat 1)) (Int.ofNat g)) (Tr.req (cD 0 0) (Tr.req (eD 0 g 0 g) (Tr.req (cD 0 0) (Tr.req (eD 0 g 0 g) (Tr.ok (Ex.normal,Z3,Z2::H)))))) (Tr.ok (Ex.normal,Z1,Z0::H))) (Tr.ok (Ex.normal,Z1,Z0::H))) (Tr.ite (bD (q (aq 0 i 2)) f) (Tr.ite (bD (Int.ofNat 0) (Int.ofNat g)) (Tr.ite (bD (bh .i64 (bN .i64 (q (ar (aq 0 k 2) 1)) (q (aq 0 i 2))) (Int.ofNat 1)) (Int.ofNat g)) (Tr.req (cD 0 0) (Tr.req (eD 0 g 0 g) (Tr.req (cD 0 0) (Tr.req (eD 0 g 0 g) (Tr.ok (Ex.normal,Z3,Z2::H)))))) (Tr.ok (Ex.normal,Z1,Z0::H))) (Tr.ok (Ex.normal,Z1,Z0::H))) (Tr.ite (bD (q (ar (aq 0 k 2) 1)) t) (Tr.ite (bD (Int.ofNat 0) (Int.ofNat g)) (Tr.ite (bD (bh .i64 (bN .i64 (q (ar (aq 0 k 2) 1)) (q (aq 0 i 2))) (Int.ofNat 1)) (Int.ofNat g)) (Tr.req (cD 0 0) (Tr.req (eD 0 g 0 g) (Tr.req (cD 0 0) (Tr.req (eD 0 g 0 g) (Tr.ok (Ex.normal,Z3,Z2::H)))))) (Tr.ok (Ex.normal,Z1,Z0::H))) (Tr.ok (Ex.normal,Z1,Z0::H))) (Tr.ok (Ex.normal,Z1,Z0::H)))))) (Tr.ite (bx true) (Tr.ite (bD (Int.ofNat 0) (Int.ofNat g)) (Tr.ite (bD (bh .i64 (bN .i64 (q (ar (aq 0 k 2) 1)) (q (aq 0 i 2))) (Int.ofNat 1)) (Int.ofNat g)) (Tr.req (cD 0 0) (Tr.req (eD 0 g 0 g) (Tr.req (cD 0 0) (Tr.req (eD 0 g 0 g) (Tr.ok (Ex.normal,Z3,Z2::H)))))) (Tr.ok (Ex.normal,Z1,Z0::H))) (Tr.ok (Ex.normal,Z1,Z0::H))) (Tr.ite (bD (q (aq 0 i 2)) f) (Tr.ite (bD (Int.ofNat 0) (Int.ofNat g)) (Tr.ite (bD (bh .i64 (bN .i64 (q (ar (aq 0 k 2) 1)) (q (aq 0 i 2))) (Int.ofNat 1)) (Int.ofNat g)) (Tr.req (cD 0 0) (Tr.req (eD 0 g 0 g) (Tr.req (cD 0 0) (Tr.req (eD 0 g 0 g) (Tr.ok (Ex.normal,Z3,Z2::H)))))) (Tr.ok (Ex.normal,Z1,Z0::H))) (Tr.ok (Ex.normal,Z1,Z0::H))) (Tr.ite (bD (q (ar (aq 0 k 2) 1)) t) (Tr.ite (bD (Int.ofNat 0) (Int.ofNat g)) (Tr.ite (bD (bh .i64 (bN .i64 (q (ar (aq 0 k 2) 1)) (q (aq 0 i 2))) (Int.ofNat 1)) (Int.ofNat g)) (Tr.req (cD 0 0) (Tr.req (eD 0 g 0 g) (Tr.req (cD 0 0) (Tr.req (eD 0 g 0 g) (Tr.ok (Ex.normal,Z3,Z2::H)))))) (Tr.ok (Ex.normal,Z1,Z0::H))) (Tr.ok (Ex.normal,Z1,Z0::H))) (Tr.ok (Ex.normal,Z1,Z0::H)))))))))))))) (Tr.ok (Ex.exit 2,[(0,shV dr lc zc lb zb W B,none),(2,AV.ptr 0 0 0 0,none),(4,AV.ptr 0 1 0 0,none),(5,AV.ptr 0 2 0 0,none),(6,AV.bool true,none),(7,AV.int .i64 i,none),(19,iI lc,none),(20,AV.int .i64 i,none),(28,iI lc,none),(29,AV.int .i64 k,none),(30,AV.bool false,some 1)],(bA [(0,an.row (Row.G [iI 0,iI 0,AV.nils])),(0,an.row (rM q 20)),(0,an.row (Row.G [AV.int .i64 f,AV.int .i64 t,aK m y false]))])::H))) (bA [(0,an.row (Row.G [iI 0,iI 0,AV.nils])),(0,an.row (rM q 20)),(0,an.row (Row.G [AV.int .i64 f,AV.int .i64 t,aK m y false])),(0,an.row (Row.G [AV.int .i64 (q (aq 0 i 2)),AV.int .i64 (q (ar (aq 0 k 2) 1)),AV.nils]))]))) [(0,shV dr lc zc lb zb W B),(2,AV.ptr 0 0 0 0),(4,AV.ptr 0 1 0 0),(5,AV.ptr 0 2 0 0),(6,AV.bool true),(7,AV.int .i64 i),(9,AV.ptr 0 3 0 0),(19,iI lc),(20,AV.int .i64 i),(28,iI lc),(29,AV.int .i64 k),(46,iI lc),(47,iI 0)])) [(0,shV dr lc zc lb zb W B,none),(2,AV.ptr 0 0 0 0,none),(4,AV.ptr 0 1 0 0,none),(5,AV.ptr 0 2 0 0,none),(6,AV.bool true,some 1),(7,AV.int .i64 i,none),(19,iI lc,none),(20,AV.int .i64 i,none),(28,iI lc,none),(29,AV.int .i64 (bh .i64 k (Int.ofNat 1)),none)])) (bA [(0,an.row (Row.G [iI 0,iI 0,AV.nils])),(0,an.row (rM q 20)),(0,an.row (Row.G [AV.int .i64 (q (aq 0 i 2)),AV.int .i64 (q (ar (aq 0 k 2) 1)),aK g (pZ x 0) false])),(0,an.row (Row.G [AV.int .i64 (q (aq 0 i 2)),AV.int .i64 (q (ar (aq 0 k 2) 1)),aK g (pZ x 0) false])),(0,an.dead)]))) [(0,shV dr lc zc lb zb W B,none),(2,AV.ptr 0 0 0 0,none),(4,AV.ptr 0 1 0 0,none),(5,AV.ptr 0 2 0 0,none),(6,AV.bool true,none),(7,AV.int .i64 i,none),(19,iI lc,none),(20,AV.int .i64 i,none),(28,iI lc,none),(29,AV.int .i64 (bh .i64 k (Int.ofNat 1)),none)])) (bA [(0,an.row (Row.G [iI 0,iI 0,AV.nils])),(0,an.row (rM q 20)),(0,an.row (Row.G [AV.int .i64 f,AV.int .i64 t,aK m y false])),(0,an.row (Row.G [AV.int .i64 (q (aq 0 i 2)),AV.int .i64 (q (ar (aq 0 k 2) 1)),AV.slc 0 4 0 0 1 g none])),(0,an.row (rM x g))]):=by kernel_rfl
end Go.Eng
end
section
namespace Go.Eng
open Go.Proofs Go.Eng.Gall
theorem vA:∀ b,(4,b) ∈ aE (part Tryd.f65 [1,0,1,1,1,1,0,1,0,0,1,1,0,0,1,1,0,0])→b=.loop (part Tryd.f65 [1,0,1,1,1,1,0,1,0,0,1,1,0,0,1,1,0,0,1,1,0,0,1,1,0,1,0,0]):=dz (by kernel_rfl)
def vQ (q:Nat→Int) (F T:Int) (c:Nat):Bool:=decide (F≤q (2*c)) && decide (q (2*c+1)≤T)
def dB (q:Nat→Int) (F T:Int):Nat→List Int
 | 0=>[]
 | c+1=>if vQ q F T c=true then dB q F T c++[(c:Int)] else dB q F T c
theorem na (q:Nat→Int) (F T:Int):∀ j,(dB q F T j).length≤j
 | 0=>Nat.le_refl 0
 | j+1=>by
   have:=na q F T j;unfold dB;split
   · rw[List.length_append,List.length_singleton];omega
   · omega
noncomputable def EH (q:Nat→Int) (f t:Int) (A:AV) (F T:Int):List Int→bF
 | []=>za q f t A F T
 | a::r=>BM q f t A F T (r.length+1) (az (a::r))
section
variable (n:Nat) (H:ab) (q:Nat→Int) (R:Row) (u:Bool) (f t:Int) (m:Nat) (y:Nat→Int) (lc:Nat) (i k F T:Int)
theorem Po (hl:lc≤10) (c:Nat) (hc:c<lc) (L:List Int) (hL:L.length≤1000) :
 ∃ x,exec (bL n 65 128) (part Tryd.f65 [1,0,1,1,1,1,0,1,0,0,1,1,0,0,1,1,0,0,1,1,0,0,1,1,0,1,0,0]) (gk R u lc i k (c:Int)) (EH q f t .nils F T L::H)=some x∧x.1=.normal∧tidy 4 x.2.1 x.2.2=(gk R u lc i k ((c+1:Nat):Int),EH q f t .nils F T (if vQ q F T c=true then L++[(c:Int)] else L)::H):=by
 have e1:bh .i64 (c:Int) (Int.ofNat 1)=((c+1:Nat):Int):=dJ (by omega)
 have ei:aq 0 (c:Int) 2=2*c:=by rw[bG];omega
 cases L with
 | nil =>
   have T0:=KC n H q R u f t 0 q lc i k (c:Int) F T
   rw[e1,ei,aI] at T0
   refine ay T0 (av _) (ai _ _) (aj _ _) ?_
   refine Tr.ae (fun h0=>?_) wJ
   refine Tr.aa wG (Tr.aa wG (Tr.aa wG (Tr.ae (fun q1=>Tr.aa wG (Tr.aa wG (Tr.aa wG (Tr.ae (fun q2=>?_) (fun q2=>Tr.ag ?_))))) (fun q1=>Tr.ag ?_))))
   all_goals rw[bf] at q1
   · rw[bf] at q2
     rw[if_pos (by unfold vQ;rw[q1,q2];rfl)]
     refine Tr.aa wG (Tr.aa wG (Tr.aa wG (Tr.aa wG (Tr.aa wG (Tr.ag ⟨rfl,rfl⟩)))))
   · rw[bf] at q2
     rw[if_neg (by unfold vQ;rw[q1,q2];decide)];exact ⟨rfl,rfl⟩
   · rw[if_neg (by unfold vQ;rw[q1];simp)];exact ⟨rfl,rfl⟩
 | cons a r =>
   simp only[List.length_cons] at hL
   have e2:=nh (a::r) (c:Int)
   simp only[List.length_cons] at e2
   have e3:ar (r.length+1) 1=r.length+1+1:=by rw[aI]
   have e4:b5 (Int.ofNat (r.length+1))=r.length+1:=by rw[j6];rfl
   have T0:=KD n H q R u f t 0 q lc i k (c:Int) F T (r.length+1) (az (a::r))
   rw[e1,e4,e3,e2,ei,aI] at T0
   refine ay T0 (av _) (ai _ _) (aj _ _) ?_
   refine Tr.ae (fun h0=>?_) wJ
   refine Tr.aa wG (Tr.aa wG (Tr.aa wG (Tr.ae (fun q1=>Tr.aa wG (Tr.aa wG (Tr.aa wG (Tr.ae (fun q2=>?_) (fun q2=>Tr.ag ?_))))) (fun q1=>Tr.ag ?_))))
   all_goals rw[bf] at q1
   · rw[bf] at q2
     rw[if_pos (by unfold vQ;rw[q1,q2];rfl)]
     have er:(r++[(c:Int)]).length=r.length+1:=by rw[List.length_append,List.length_singleton]
     have el:EH q f t .nils F T (a::r++[(c:Int)])=BM q f t .nils F T (r.length+1+1) (az (a::r++[(c:Int)])):=by show BM _ _ _ _ _ _ ((r++[(c:Int)]).length+1) (az (a::(r++[(c:Int)])))=_;rw[er];rfl
     rw[el]
     generalize az (a::r++[(c:Int)])=Y at *
     refine Tr.aa wG (Tr.aa wG (Tr.aa wG (Tr.aa wG (Tr.aa wG (Tr.ae (fun q4=>?_) wJ)))))
     exact Tr.aa wG (Tr.aa wG (Tr.aa wG (Tr.ag ⟨rfl,rfl⟩)))
   · rw[bf] at q2
     rw[if_neg (by unfold vQ;rw[q1,q2];decide)];exact ⟨rfl,rfl⟩
   · rw[if_neg (by unfold vQ;rw[q1];simp)];exact ⟨rfl,rfl⟩
theorem R2 (hl:lc≤10):exec (bL n 65 128) (.block 4 (.loop (part Tryd.f65 [1,0,1,1,1,1,0,1,0,0,1,1,0,0,1,1,0,0,1,1,0,0,1,1,0,1,0,0]))) (gk R u lc i k (Int.ofNat 0)) (za q f t .nils F T::H)=some (.normal,gk R u lc i k (lc:Int)++[(48,.bool false)],EH q f t .nils F T (dB q F T lc)::H):=by
 refine iG (n:=n) (f:=65) (nt:=128) (c:=part Tryd.f65 [1,0,1,1,1,1,0,1,0,0,1,1,0,0,1,1,0,0,1,1,0,0,1,1,0,1,0,0]) 4 (fun c=>gk R u lc i k (c:Int)) (fun c=>EH q f t .nils F T (dB q F T c)::H) lc (gk R u lc i k (lc:Int)++[(48,.bool false)],EH q f t .nils F T (dB q F T lc)::H) (by omega) (fun c hc=>?_) ?_
 · exact Po n H q R u f t lc i k F T hl c hc (dB q F T c) (by have:=na q F T c;omega)
 · generalize dB q F T lc=L;cases L with
   | nil =>
     obtain ⟨x,h1,rfl⟩:=ay (Q:=fun x=>x=(.exit 4,gk R u lc i k (lc:Int)++[(48,.bool false)],za q f t .nils F T::H)) (KC n H q R u f t 0 q lc i k (lc:Int) F T) (av _) (ai _ _) (aj _ _) (by
      refine Tr.ae wJ (fun h0=>Tr.ag rfl))
     exact h1
   | cons a r =>
     obtain ⟨x,h1,rfl⟩:=ay (Q:=fun x=>x=(.exit 4,gk R u lc i k (lc:Int)++[(48,.bool false)],BM q f t .nils F T (r.length+1) (az (a::r))::H)) (KD n H q R u f t 0 q lc i k (lc:Int) F T (r.length+1) (az (a::r))) (av _) (ai _ _) (aj _ _) (by
      refine Tr.ae wJ (fun h0=>Tr.ag rfl))
     exact h1
theorem Pp (hl:lc≤10) (c:Nat) (hc:c<lc) (L:List Int) (hL:L.length≤1000) :
 ∃ x,exec (bL n 65 128) (part Tryd.f65 [1,0,1,1,1,1,0,1,0,0,1,1,0,0,1,1,0,0,1,1,0,0,1,1,0,1,0,0]) (gk R u lc i k (c:Int)) (EH q f t (aK m y false) F T L::H)=some x∧x.1=.normal∧tidy 4 x.2.1 x.2.2=(gk R u lc i k ((c+1:Nat):Int),EH q f t (aK m y false) F T (if vQ q F T c=true then L++[(c:Int)] else L)::H):=by
 have e1:bh .i64 (c:Int) (Int.ofNat 1)=((c+1:Nat):Int):=dJ (by omega)
 have ei:aq 0 (c:Int) 2=2*c:=by rw[bG];omega
 cases L with
 | nil =>
   have T0:=KE n H q R u f t m y lc i k (c:Int) F T
   rw[e1,ei,aI] at T0
   refine ay T0 (av _) (ai _ _) (aj _ _) ?_
   refine Tr.ae (fun h0=>?_) wJ
   refine Tr.aa wG (Tr.aa wG (Tr.aa wG (Tr.ae (fun q1=>Tr.aa wG (Tr.aa wG (Tr.aa wG (Tr.ae (fun q2=>?_) (fun q2=>Tr.ag ?_))))) (fun q1=>Tr.ag ?_))))
   all_goals rw[bf] at q1
   · rw[bf] at q2
     rw[if_pos (by unfold vQ;rw[q1,q2];rfl)]
     refine Tr.aa wG (Tr.aa wG (Tr.aa wG (Tr.aa wG (Tr.aa wG (Tr.ag ⟨rfl,rfl⟩)))))
   · rw[bf] at q2
     rw[if_neg (by unfold vQ;rw[q1,q2];decide)];exact ⟨rfl,rfl⟩
   · rw[if_neg (by unfold vQ;rw[q1];simp)];exact ⟨rfl,rfl⟩
 | cons a r =>
   simp only[List.length_cons] at hL
   have e2:=nh (a::r) (c:Int)
   simp only[List.length_cons] at e2
   have e3:ar (r.length+1) 1=r.length+1+1:=by rw[aI]
   have e4:b5 (Int.ofNat (r.length+1))=r.length+1:=by rw[j6];rfl
   have T0:=KF n H q R u f t m y lc i k (c:Int) F T (r.length+1) (az (a::r))
   rw[e1,e4,e3,e2,ei,aI] at T0
   refine ay T0 (av _) (ai _ _) (aj _ _) ?_
   refine Tr.ae (fun h0=>?_) wJ
   refine Tr.aa wG (Tr.aa wG (Tr.aa wG (Tr.ae (fun q1=>Tr.aa wG (Tr.aa wG (Tr.aa wG (Tr.ae (fun q2=>?_) (fun q2=>Tr.ag ?_))))) (fun q1=>Tr.ag ?_))))
   all_goals rw[bf] at q1
   · rw[bf] at q2
     rw[if_pos (by unfold vQ;rw[q1,q2];rfl)]
     have er:(r++[(c:Int)]).length=r.length+1:=by rw[List.length_append,List.length_singleton]
     have el:EH q f t (aK m y false) F T (a::r++[(c:Int)])=BM q f t (aK m y false) F T (r.length+1+1) (az (a::r++[(c:Int)])):=by show BM _ _ _ _ _ _ ((r++[(c:Int)]).length+1) (az (a::(r++[(c:Int)])))=_;rw[er];rfl
     rw[el]
     generalize az (a::r++[(c:Int)])=Y at *
     refine Tr.aa wG (Tr.aa wG (Tr.aa wG (Tr.aa wG (Tr.aa wG (Tr.ae (fun q4=>?_) wJ)))))
     exact Tr.aa wG (Tr.aa wG (Tr.aa wG (Tr.ag ⟨rfl,rfl⟩)))
   · rw[bf] at q2
     rw[if_neg (by unfold vQ;rw[q1,q2];decide)];exact ⟨rfl,rfl⟩
   · rw[if_neg (by unfold vQ;rw[q1];simp)];exact ⟨rfl,rfl⟩
theorem OR (hl:lc≤10):exec (bL n 65 128) (.block 4 (.loop (part Tryd.f65 [1,0,1,1,1,1,0,1,0,0,1,1,0,0,1,1,0,0,1,1,0,0,1,1,0,1,0,0]))) (gk R u lc i k (Int.ofNat 0)) (za q f t (aK m y false) F T::H)=some (.normal,gk R u lc i k (lc:Int)++[(48,.bool false)],EH q f t (aK m y false) F T (dB q F T lc)::H):=by
 refine iG (n:=n) (f:=65) (nt:=128) (c:=part Tryd.f65 [1,0,1,1,1,1,0,1,0,0,1,1,0,0,1,1,0,0,1,1,0,0,1,1,0,1,0,0]) 4 (fun c=>gk R u lc i k (c:Int)) (fun c=>EH q f t (aK m y false) F T (dB q F T c)::H) lc (gk R u lc i k (lc:Int)++[(48,.bool false)],EH q f t (aK m y false) F T (dB q F T lc)::H) (by omega) (fun c hc=>?_) ?_
 · exact Pp n H q R u f t m y lc i k F T hl c hc (dB q F T c) (by have:=na q F T c;omega)
 · generalize dB q F T lc=L;cases L with
   | nil =>
     obtain ⟨x,h1,rfl⟩:=ay (Q:=fun x=>x=(.exit 4,gk R u lc i k (lc:Int)++[(48,.bool false)],za q f t (aK m y false) F T::H)) (KE n H q R u f t m y lc i k (lc:Int) F T) (av _) (ai _ _) (aj _ _) (by
      refine Tr.ae wJ (fun h0=>Tr.ag rfl))
     exact h1
   | cons a r =>
     obtain ⟨x,h1,rfl⟩:=ay (Q:=fun x=>x=(.exit 4,gk R u lc i k (lc:Int)++[(48,.bool false)],BM q f t (aK m y false) F T (r.length+1) (az (a::r))::H)) (KF n H q R u f t m y lc i k (lc:Int) F T (r.length+1) (az (a::r))) (av _) (ai _ _) (aj _ _) (by
      refine Tr.ae wJ (fun h0=>Tr.ag rfl))
     exact h1
end
end Go.Eng
end
section
namespace Go.Eng
open Go.Proofs Go.Eng.Gall
def rH (q:Nat→Int) (lc:Nat) (F T:Int):Bool:=decide (0<(dB q F T lc).length) && decide (T-F+1<((dB q F T lc).length:Int))
def Ny:Option (Int×Int)→Int→Int→Bool
 | none,_,_=>true
 | some (f,t),F,T=>decide (F<f) || decide (T<t)
def EZ (q:Nat→Int) (lc:Nat) (F:Int) (b:Option (Int×Int)) (T:Int):Option (Int×Int):=if (Ny b F T && rH q lc F T)=true then some (F,T) else b
def x4 (q:Nat→Int) (lc:Nat) (F:Int) (b:Option (Int×Int)):Nat→Option (Int×Int)
 | 0=>b
 | k+1=>EZ q lc F (x4 q lc F b k) (q (2*k+1))
def Fi:Option (Int×Int)→Int→Bool
 | none,_=>false
 | some (f,_),F=>decide (f<F)
def kD (q:Nat→Int) (lc:Nat):Nat→Option (Int×Int)
 | 0=>none
 | i+1=>if Fi (kD q lc i) (q (2*i))=true then kD q lc i else x4 q lc (q (2*i)) (kD q lc i) lc
def iX (P:Int→Int→Prop):Option (Int×Int)→Prop
 | none=>∀ F T,¬ P F T
 | some (f,t)=>P f t∧∀ F T,P F T→f<F∨(f=F∧t≤T)
theorem iF {P Q:Int→Int→Prop} (h:∀ F T,P F T↔Q F T) {b:Option (Int×Int)}:iX P b↔iX Q b:=by
 have:P=Q:=funext fun F=>funext fun T=>propext (h F T);rw[this]
theorem Gv {q:Nat→Int} {lc:Nat} {F:Int} {b:Option (Int×Int)} (h:Fi b F=false):∀ k,Fi (x4 q lc F b k) F=false
 | 0=>h
 | k+1=>by
   unfold x4 EZ;split
   · exact decide_eq_false (Int.lt_irrefl _)
   · exact Gv h k
theorem HI {P:Int→Int→Prop} {q:Nat→Int} {lc:Nat} {F T:Int} {b:Option (Int×Int)} (hb:iX P b) (hg:Fi b F=false):iX (fun x y=>P x y∨(x=F∧y=T∧rH q lc F T=true)) (EZ q lc F b T):=by
 unfold EZ;by_cases ho:rH q lc F T=true
 · cases b with
   | none =>
     rw[if_pos (by rw[ho];rfl)];refine ⟨.inr ⟨rfl,rfl,ho⟩,?_⟩;rintro x y (h | ⟨rfl,rfl,_⟩)
     · exact absurd h (hb x y)
     · exact .inr ⟨rfl,Int.le_refl _⟩
   | some v =>
     obtain ⟨f,t⟩:=v;obtain ⟨h1,h2⟩:=hb;have hg:¬ f<F:=of_decide_eq_false hg;by_cases hc:F<f∨T<t
     · rw[if_pos (by rw[ho,Bool.and_true];show (decide (F<f) || decide (T<t))=true;simpa using hc)];refine ⟨.inr ⟨rfl,rfl,ho⟩,?_⟩;rintro x y (h | ⟨rfl,rfl,_⟩)
       · have:=h2 x y h;omega
       · exact .inr ⟨rfl,Int.le_refl _⟩
     · rw[if_neg (by rw[ho,Bool.and_true];show ¬ (decide (F<f) || decide (T<t))=true;simpa using hc)];refine ⟨.inl h1,?_⟩;rintro x y (h | ⟨rfl,rfl,_⟩)
       · exact h2 x y h
       · omega
 · rw[if_neg (by simp[ho])];exact (iF (fun x y=>⟨fun h=>.inl h,fun h=>h.elim id fun h=>absurd h.2.2 ho⟩)).1 hb
theorem yN {P:Int→Int→Prop} {q:Nat→Int} {lc:Nat} {F:Int} {b:Option (Int×Int)} (hb:iX P b) (hg:Fi b F=false):∀ k,iX (fun x y=>P x y∨(x=F∧∃ j,j<k∧y=q (2*j+1)∧rH q lc F y=true)) (x4 q lc F b k)
 | 0=>(iF (fun x y=>⟨fun h=>.inl h,fun h=>h.elim id fun ⟨_,j,h,_⟩=>absurd h (Nat.not_lt_zero j)⟩)).1 hb
 | k + 1=>by
   have:=HI (q:=q) (lc:=lc) (F:=F) (T:=q (2*k+1)) (b:=x4 q lc F b k) (yN (q:=q) (lc:=lc) hb hg k) (Gv (q:=q) (lc:=lc) hg k);refine (iF (fun x y=>?_)).1 this;constructor
   · rintro ((h | ⟨h1,j,h2,h3,h4⟩) | ⟨rfl,rfl,h3⟩)
     · exact .inl h
     · exact .inr ⟨h1,j,by omega,h3,h4⟩
     · exact .inr ⟨rfl,k,by omega,rfl,h3⟩
   · rintro (h | ⟨rfl,j,h2,rfl,h4⟩)
     · exact .inl (.inl h)
     · by_cases e:j=k
       · subst e;exact .inr ⟨rfl,rfl,h4⟩
       · exact .inl (.inr ⟨rfl,j,by omega,rfl,h4⟩)
theorem pG (q:Nat→Int) (lc:Nat):∀ i,iX (fun x y=>∃ j k,j<i∧k<lc∧x=q (2*j)∧y=q (2*k+1)∧rH q lc x y=true) (kD q lc i)∨∃ f t,kD q lc i=some (f,t)∧iX (fun x y=>∃ j k,j<i∧k<lc∧x=q (2*j)∧y=q (2*k+1)∧rH q lc x y=true) (some (f,t))
 | 0=>.inl fun F T ⟨j,_,h,_⟩=>absurd h (Nat.not_lt_zero j)
 | i + 1=>by
   have ih:iX (fun x y=>∃ j k,j<i∧k<lc∧x=q (2*j)∧y=q (2*k+1)∧rH q lc x y=true) (kD q lc i):=by
    rcases pG q lc i with h | ⟨f,t,h1,h2⟩
    · exact h
    · rw[h1];exact h2
   refine .inl ?_;unfold kD;by_cases hg:Fi (kD q lc i) (q (2*i))=true
   · rw[if_pos hg];generalize kD q lc i=b at *;cases b with
     | none=>cases hg
     | some v =>
       obtain ⟨f,t⟩:=v;have hg:f<q (2*i):=of_decide_eq_true hg;obtain ⟨⟨j,k,h1,h2⟩,h3⟩:=ih;refine ⟨⟨j,k,by omega,h2⟩,?_⟩;rintro F T ⟨j',k',a1,a2,rfl,rfl,a3⟩;by_cases e:j'=i
       · subst e;exact .inl hg
       · exact h3 _ _ ⟨j',k',by omega,a2,rfl,rfl,a3⟩
   · rw[if_neg hg];have hg:Fi (kD q lc i) (q (2*i))=false:=by simpa using hg
     refine (iF (fun x y=>?_)).1 (yN ih hg lc);constructor
     · rintro (⟨j,k,h1,h2⟩ | ⟨rfl,k,h1,rfl,h2⟩)
       · exact ⟨j,k,by omega,h2⟩
       · exact ⟨i,k,by omega,h1,rfl,rfl,h2⟩
     · rintro ⟨j,k,h1,h2,rfl,rfl,h3⟩;by_cases e:j=i
       · subst e;exact .inr ⟨rfl,k,h2,rfl,h3⟩
       · exact .inl ⟨j,k,by omega,h2,rfl,rfl,h3⟩
end Go.Eng
end
