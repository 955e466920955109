/- Gall: a right block: trees. -/
import Derived.Test.YtgphpjdchnfjlaaDoorV6Gahx18
set_option linter.unusedVariables false
set_option linter.unusedSimpArgs false
set_option maxRecDepth 100000
section
namespace Go.Eng
open Int (ofNat)
open Go.Proofs Go.Eng.Gall
noncomputable def kA (R:Row) (u:Bool) (U:Nat) (i:Int):aA:=[(0,.ptrT none R 0),(2,.ptr 0 0 0 0),(4,.ptr 0 1 0 0),(5,.ptr 0 2 0 0),(6,.bool u),(19,.int .i64 (ofNat U)),(20,.int .i64 i)]
noncomputable def gT (R:Row) (u:Bool) (U:Nat) (i k:Int):aA:=[(0,.ptrT none R 0),(2,.ptr 0 0 0 0),(4,.ptr 0 1 0 0),(5,.ptr 0 2 0 0),(6,.bool u),(7,.int .i64 i),(19,.int .i64 (ofNat U)),(20,.int .i64 i),(28,.int .i64 (ofNat U)),(29,.int .i64 k)]
noncomputable def fY (R:Row) (u:Bool) (U:Nat) (i k c:Int):aA:=[(0,.ptrT none R 0),(2,.ptr 0 0 0 0),(4,.ptr 0 1 0 0),(5,.ptr 0 2 0 0),(6,.bool u),(7,.int .i64 i),(9,.ptr 0 3 0 0),(19,.int .i64 (ofNat U)),(20,.int .i64 i),(28,.int .i64 (ofNat U)),(29,.int .i64 k),(46,.int .i64 (ofNat U)),(47,.int .i64 c)]
noncomputable def Li (q:Nat→Int) (f t:Int) (A:AV):List (Nat×an):=[(0,.row (.G [.int .i64 (ofNat 0),.int .i64 (ofNat 0),.nils])),(0,.row (.M [.arr .i64 q 20])),(0,.row (.G [.int .i64 f,.int .i64 t,A]))]
noncomputable def eT (q:Nat→Int) (f t:Int) (A:AV):bJ:=⟨false,Li q f t A⟩
noncomputable def yC (q:Nat→Int) (f t:Int) (A:AV) (F T:Int):bJ:=⟨false,Li q f t A++[(0,.row (.G [.int .i64 F,.int .i64 T,.nils]))]⟩
noncomputable def Bn (q:Nat→Int) (f t:Int) (A:AV) (F T:Int) (c:Nat) (y:Nat→Int):bJ:=⟨false,Li q f t A++[(0,.row (.G [.int .i64 F,.int .i64 T,.slc 0 4 0 0 1 c none])),(0,.row (.M [.arr .i64 y c]))]⟩
theorem J0 (n:Nat) (H:ab) (q:Nat→Int) (R:Row) (u:Bool) (f t:Int) (m:Nat) (y:Nat→Int) (U:Nat) (i k c F T:Int):aH (bO n 65 128) (il aJ n 0) aS aR (part Tryd.f65 [1,0,1,1,1,1,0,1,0,0,1,1,0,0,1,1,0,0,1,1,0,0,1,1,0,1,0,0]) (hints (fY R u U i k c)) (yC q f t .nils F T::H) =
 (fun (Z0:aD)=>((fun (Z1:bJ)=>Tr.ite (bw c (ofNat U)) (Tr.req (b8 c 10) (Tr.req (cu 0 0) (Tr.req (bR (aq 0 c 2) 20) (Tr.ite (cU F (q (aq 0 c 2))) (Tr.req (b8 c 10) (Tr.req (cu 0 0) (Tr.req (bR (ar (aq 0 c 2) 1) 20) (Tr.ite (cU (q (ar (aq 0 c 2) 1)) T) (Tr.req (ki (ofNat 0) 0) (Tr.req (ki (ofNat 0) (cg (ofNat 0))) (Tr.req (ig 0 1 8) (Tr.req (cu 0 0) (Tr.req (dO 1 1) (Tr.ok (Ex.normal,Z0,(bK [(0,an.row (Row.G [iI 0,iI 0,AV.nils])),(0,an.row (rM q 20)),(0,an.row (Row.G [AV.int .i64 f,AV.int .i64 t,AV.nils])),(0,an.row (Row.G [AV.int .i64 F,AV.int .i64 T,AV.slc 0 5 0 0 1 1 none])),(0,an.row (Row.I .i64 [c])),(0,an.row (rM (aI [c]) 1))])::H))))))) (Tr.ok (Ex.normal,Z0,Z1::H)))))) (Tr.ok (Ex.normal,Z0,Z1::H)))))) (Tr.ok (Ex.exit 4,[(0,AV.ptrT none R 0,none),(2,AV.ptr 0 0 0 0,none),(4,AV.ptr 0 1 0 0,none),(5,AV.ptr 0 2 0 0,none),(6,AV.bool u,none),(7,AV.int .i64 i,none),(9,AV.ptr 0 3 0 0,none),(19,iI U,none),(20,AV.int .i64 i,none),(28,iI U,none),(29,AV.int .i64 k,none),(46,iI U,none),(47,AV.int .i64 c,none),(48,AV.bool false,some 1)],Z1::H))) (bK [(0,an.row (Row.G [iI 0,iI 0,AV.nils])),(0,an.row (rM q 20)),(0,an.row (Row.G [AV.int .i64 f,AV.int .i64 t,AV.nils])),(0,an.row (Row.G [AV.int .i64 F,AV.int .i64 T,AV.nils]))]))) [(0,AV.ptrT none R 0,none),(2,AV.ptr 0 0 0 0,none),(4,AV.ptr 0 1 0 0,none),(5,AV.ptr 0 2 0 0,none),(6,AV.bool u,none),(7,AV.int .i64 i,none),(9,AV.ptr 0 3 0 0,none),(19,iI U,none),(20,AV.int .i64 i,none),(28,iI U,none),(29,AV.int .i64 k,none),(46,iI U,none),(47,AV.int .i64 (aQ .i64 c (ofNat 1)),none)]:=by kernel_rfl
theorem J1 (n:Nat) (H:ab) (q:Nat→Int) (R:Row) (u:Bool) (f t:Int) (m:Nat) (y:Nat→Int) (U:Nat) (i k c F T:Int) (g:Nat) (x:Nat→Int):aH (bO n 65 128) (il aJ n 0) aS aR (part Tryd.f65 [1,0,1,1,1,1,0,1,0,0,1,1,0,0,1,1,0,0,1,1,0,0,1,1,0,1,0,0]) (hints (fY R u U i k c)) (Bn q f t .nils F T g x::H) =
 (fun (Z0:aD)=>((fun (Z1:bJ)=>Tr.ite (bw c (ofNat U)) (Tr.req (b8 c 10) (Tr.req (cu 0 0) (Tr.req (bR (aq 0 c 2) 20) (Tr.ite (cU F (q (aq 0 c 2))) (Tr.req (b8 c 10) (Tr.req (cu 0 0) (Tr.req (bR (ar (aq 0 c 2) 1) 20) (Tr.ite (cU (q (ar (aq 0 c 2) 1)) T) (Tr.req (ki (ofNat g) g) (Tr.req (ki (ofNat g) (cg (ofNat g))) (Tr.req (ig (cg (ofNat g)) 1 8) (Tr.req (cu 0 0) (Tr.req (dO 1 1) (Tr.ite (bR (cg (ofNat g)) (ar (cg (ofNat g)) 1)) (Tr.req (cu 0 0) (Tr.req (dO (cg (ofNat g)) (cg (ofNat g))) (Tr.req (fF 0 (cg (ofNat g)) 0 g) (Tr.ok (Ex.normal,Z0,(bK [(0,an.row (Row.G [iI 0,iI 0,AV.nils])),(0,an.row (rM q 20)),(0,an.row (Row.G [AV.int .i64 f,AV.int .i64 t,AV.nils])),(0,an.row (Row.G [AV.int .i64 F,AV.int .i64 T,AV.slc 0 6 0 0 1 (ar (cg (ofNat g)) 1) none])),(0,an.row (rM x g)),(0,an.row (Row.I .i64 [c])),(0,an.row (rM (oz (qj x 0) (cg (ofNat g)) (aI [c])) (ar (cg (ofNat g)) 1)))])::H))))) (Tr.req (cu 0 0) (Tr.req (bR (ar 0 (cg (ofNat g))) g) (Tr.ok (Ex.normal,Z0,(bK [(0,an.row (Row.G [iI 0,iI 0,AV.nils])),(0,an.row (rM q 20)),(0,an.row (Row.G [AV.int .i64 f,AV.int .i64 t,AV.nils])),(0,an.row (Row.G [AV.int .i64 F,AV.int .i64 T,AV.slc 0 4 0 0 1 (ar (cg (ofNat g)) 1) (some (cg (ofNat g)))])),(0,an.row (rM (ft x (ar 0 (cg (ofNat g))) c) g)),(0,an.row (Row.I .i64 [c]))])::H)))))))))) (Tr.ok (Ex.normal,Z0,Z1::H)))))) (Tr.ok (Ex.normal,Z0,Z1::H)))))) (Tr.ok (Ex.exit 4,[(0,AV.ptrT none R 0,none),(2,AV.ptr 0 0 0 0,none),(4,AV.ptr 0 1 0 0,none),(5,AV.ptr 0 2 0 0,none),(6,AV.bool u,none),(7,AV.int .i64 i,none),(9,AV.ptr 0 3 0 0,none),(19,iI U,none),(20,AV.int .i64 i,none),(28,iI U,none),(29,AV.int .i64 k,none),(46,iI U,none),(47,AV.int .i64 c,none),(48,AV.bool false,some 1)],Z1::H))) (bK [(0,an.row (Row.G [iI 0,iI 0,AV.nils])),(0,an.row (rM q 20)),(0,an.row (Row.G [AV.int .i64 f,AV.int .i64 t,AV.nils])),(0,an.row (Row.G [AV.int .i64 F,AV.int .i64 T,AV.slc 0 4 0 0 1 g none])),(0,an.row (rM x g))]))) [(0,AV.ptrT none R 0,none),(2,AV.ptr 0 0 0 0,none),(4,AV.ptr 0 1 0 0,none),(5,AV.ptr 0 2 0 0,none),(6,AV.bool u,none),(7,AV.int .i64 i,none),(9,AV.ptr 0 3 0 0,none),(19,iI U,none),(20,AV.int .i64 i,none),(28,iI U,none),(29,AV.int .i64 k,none),(46,iI U,none),(47,AV.int .i64 (aQ .i64 c (ofNat 1)),none)]:=by kernel_rfl
theorem J2 (n:Nat) (H:ab) (q:Nat→Int) (R:Row) (u:Bool) (f t:Int) (m:Nat) (y:Nat→Int) (U:Nat) (i k c F T:Int):aH (bO n 65 128) (il aJ n 0) aS aR (part Tryd.f65 [1,0,1,1,1,1,0,1,0,0,1,1,0,0,1,1,0,0,1,1,0,0,1,1,0,1,0,0]) (hints (fY R u U i k c)) (yC q f t (bG m y false) F T::H) =
 (fun (Z0:aD)=>((fun (Z1:bJ)=>Tr.ite (bw c (ofNat U)) (Tr.req (b8 c 10) (Tr.req (cu 0 0) (Tr.req (bR (aq 0 c 2) 20) (Tr.ite (cU F (q (aq 0 c 2))) (Tr.req (b8 c 10) (Tr.req (cu 0 0) (Tr.req (bR (ar (aq 0 c 2) 1) 20) (Tr.ite (cU (q (ar (aq 0 c 2) 1)) T) (Tr.req (ki (ofNat 0) 0) (Tr.req (ki (ofNat 0) (cg (ofNat 0))) (Tr.req (ig 0 1 8) (Tr.req (cu 0 0) (Tr.req (dO 1 1) (Tr.ok (Ex.normal,Z0,(bK [(0,an.row (Row.G [iI 0,iI 0,AV.nils])),(0,an.row (rM q 20)),(0,an.row (Row.G [AV.int .i64 f,AV.int .i64 t,bG m y false])),(0,an.row (Row.G [AV.int .i64 F,AV.int .i64 T,AV.slc 0 5 0 0 1 1 none])),(0,an.row (Row.I .i64 [c])),(0,an.row (rM (aI [c]) 1))])::H))))))) (Tr.ok (Ex.normal,Z0,Z1::H)))))) (Tr.ok (Ex.normal,Z0,Z1::H)))))) (Tr.ok (Ex.exit 4,[(0,AV.ptrT none R 0,none),(2,AV.ptr 0 0 0 0,none),(4,AV.ptr 0 1 0 0,none),(5,AV.ptr 0 2 0 0,none),(6,AV.bool u,none),(7,AV.int .i64 i,none),(9,AV.ptr 0 3 0 0,none),(19,iI U,none),(20,AV.int .i64 i,none),(28,iI U,none),(29,AV.int .i64 k,none),(46,iI U,none),(47,AV.int .i64 c,none),(48,AV.bool false,some 1)],Z1::H))) (bK [(0,an.row (Row.G [iI 0,iI 0,AV.nils])),(0,an.row (rM q 20)),(0,an.row (Row.G [AV.int .i64 f,AV.int .i64 t,bG m y false])),(0,an.row (Row.G [AV.int .i64 F,AV.int .i64 T,AV.nils]))]))) [(0,AV.ptrT none R 0,none),(2,AV.ptr 0 0 0 0,none),(4,AV.ptr 0 1 0 0,none),(5,AV.ptr 0 2 0 0,none),(6,AV.bool u,none),(7,AV.int .i64 i,none),(9,AV.ptr 0 3 0 0,none),(19,iI U,none),(20,AV.int .i64 i,none),(28,iI U,none),(29,AV.int .i64 k,none),(46,iI U,none),(47,AV.int .i64 (aQ .i64 c (ofNat 1)),none)]:=by kernel_rfl
theorem J3 (n:Nat) (H:ab) (q:Nat→Int) (R:Row) (u:Bool) (f t:Int) (m:Nat) (y:Nat→Int) (U:Nat) (i k c F T:Int) (g:Nat) (x:Nat→Int):aH (bO n 65 128) (il aJ n 0) aS aR (part Tryd.f65 [1,0,1,1,1,1,0,1,0,0,1,1,0,0,1,1,0,0,1,1,0,0,1,1,0,1,0,0]) (hints (fY R u U i k c)) (Bn q f t (bG m y false) F T g x::H) =
 (fun (Z0:aD)=>((fun (Z1:bJ)=>Tr.ite (bw c (ofNat U)) (Tr.req (b8 c 10) (Tr.req (cu 0 0) (Tr.req (bR (aq 0 c 2) 20) (Tr.ite (cU F (q (aq 0 c 2))) (Tr.req (b8 c 10) (Tr.req (cu 0 0) (Tr.req (bR (ar (aq 0 c 2) 1) 20) (Tr.ite (cU (q (ar (aq 0 c 2) 1)) T) (Tr.req (ki (ofNat g) g) (Tr.req (ki (ofNat g) (cg (ofNat g))) (Tr.req (ig (cg (ofNat g)) 1 8) (Tr.req (cu 0 0) (Tr.req (dO 1 1) (Tr.ite (bR (cg (ofNat g)) (ar (cg (ofNat g)) 1)) (Tr.req (cu 0 0) (Tr.req (dO (cg (ofNat g)) (cg (ofNat g))) (Tr.req (fF 0 (cg (ofNat g)) 0 g) (Tr.ok (Ex.normal,Z0,(bK [(0,an.row (Row.G [iI 0,iI 0,AV.nils])),(0,an.row (rM q 20)),(0,an.row (Row.G [AV.int .i64 f,AV.int .i64 t,bG m y false])),(0,an.row (Row.G [AV.int .i64 F,AV.int .i64 T,AV.slc 0 6 0 0 1 (ar (cg (ofNat g)) 1) none])),(0,an.row (rM x g)),(0,an.row (Row.I .i64 [c])),(0,an.row (rM (oz (qj x 0) (cg (ofNat g)) (aI [c])) (ar (cg (ofNat g)) 1)))])::H))))) (Tr.req (cu 0 0) (Tr.req (bR (ar 0 (cg (ofNat g))) g) (Tr.ok (Ex.normal,Z0,(bK [(0,an.row (Row.G [iI 0,iI 0,AV.nils])),(0,an.row (rM q 20)),(0,an.row (Row.G [AV.int .i64 f,AV.int .i64 t,bG m y false])),(0,an.row (Row.G [AV.int .i64 F,AV.int .i64 T,AV.slc 0 4 0 0 1 (ar (cg (ofNat g)) 1) (some (cg (ofNat g)))])),(0,an.row (rM (ft x (ar 0 (cg (ofNat g))) c) g)),(0,an.row (Row.I .i64 [c]))])::H)))))))))) (Tr.ok (Ex.normal,Z0,Z1::H)))))) (Tr.ok (Ex.normal,Z0,Z1::H)))))) (Tr.ok (Ex.exit 4,[(0,AV.ptrT none R 0,none),(2,AV.ptr 0 0 0 0,none),(4,AV.ptr 0 1 0 0,none),(5,AV.ptr 0 2 0 0,none),(6,AV.bool u,none),(7,AV.int .i64 i,none),(9,AV.ptr 0 3 0 0,none),(19,iI U,none),(20,AV.int .i64 i,none),(28,iI U,none),(29,AV.int .i64 k,none),(46,iI U,none),(47,AV.int .i64 c,none),(48,AV.bool false,some 1)],Z1::H))) (bK [(0,an.row (Row.G [iI 0,iI 0,AV.nils])),(0,an.row (rM q 20)),(0,an.row (Row.G [AV.int .i64 f,AV.int .i64 t,bG m y false])),(0,an.row (Row.G [AV.int .i64 F,AV.int .i64 T,AV.slc 0 4 0 0 1 g none])),(0,an.row (rM x g))]))) [(0,AV.ptrT none R 0,none),(2,AV.ptr 0 0 0 0,none),(4,AV.ptr 0 1 0 0,none),(5,AV.ptr 0 2 0 0,none),(6,AV.bool u,none),(7,AV.int .i64 i,none),(9,AV.ptr 0 3 0 0,none),(19,iI U,none),(20,AV.int .i64 i,none),(28,iI U,none),(29,AV.int .i64 k,none),(46,iI U,none),(47,AV.int .i64 (aQ .i64 c (ofNat 1)),none)]:=by kernel_rfl
end Go.Eng
end
section
namespace Go.Eng
open Int (ofNat)
open Go.Proofs Go.Eng.Gall
theorem Og (n:Nat) (O:Int) (U:Nat) (Z:Nat→Int) (V:Nat) (J:Nat→Int) (W B:Nat→Int) (H:ab) (q:Nat→Int) (i k:Int) (f t:Int) (m:Nat) (y:Nat→Int):aH (bO n 65 128) (il aJ n 0) (cw aS 4 (fY (shR O U Z V J W B) false U i k (ofNat 0)) (yC q f t .nils (q (aq 0 i 2)) (q (ar (aq 0 k 2) 1))::H) (.ok (.normal,hints (fY (shR O U Z V J W B) false U i k (ofNat U)++[(48,.bool false)]),yC q f t .nils (q (aq 0 i 2)) (q (ar (aq 0 k 2) 1))::H))) aR (part Tryd.f65 [1,0,1,1,1,1,0,1,0,0,1,1,0,0,1,1,0,0]) (hints (gT (shR O U Z V J W B) false U i k)) (eT q f t .nils::H) =
 (fun (Z0:bJ)=>((fun (Z1:aD)=>((fun (Z2:aA)=>Tr.ite (bw k (ofNat U)) (Tr.req (b8 i 10) (Tr.req (cu 0 0) (Tr.req (bR (aq 0 i 2) 20) (Tr.req (b8 k 10) (Tr.req (cu 0 0) (Tr.req (bR (ar (aq 0 k 2) 1) 20) (Tr.req (bL (dO 0 0) (dO 0 1)) (Tr.reqP (Z2=Z2∧Z0::H=Z0::H) (Tr.ite false (Tr.ite (bw f (q (aq 0 i 2))) (Tr.ok (Ex.exit 1,[(0,shV O U Z V J W B,none),(2,AV.ptr 0 0 0 0,none),(4,AV.ptr 0 1 0 0,none),(5,AV.ptr 0 2 0 0,none),(6,AV.bool false,none),(7,AV.int .i64 i,none),(9,AV.ptr 0 3 0 0,none),(19,iI U,none),(20,AV.int .i64 i,none),(28,iI U,none),(29,AV.int .i64 k,none),(87,AV.bool true,some 1)],Z0::H)) (Tr.ite (bU false) (Tr.ok (Ex.normal,Z1,Z0::H)) (Tr.ite (bw (q (aq 0 i 2)) f) (Tr.ok (Ex.normal,Z1,Z0::H)) (Tr.ite (bw (q (ar (aq 0 k 2) 1)) t) (Tr.ok (Ex.normal,Z1,Z0::H)) (Tr.ok (Ex.normal,Z1,Z0::H)))))) (Tr.ite (bU false) (Tr.ok (Ex.normal,Z1,Z0::H)) (Tr.ite (bw (q (aq 0 i 2)) f) (Tr.ok (Ex.normal,Z1,Z0::H)) (Tr.ite (bw (q (ar (aq 0 k 2) 1)) t) (Tr.ok (Ex.normal,Z1,Z0::H)) (Tr.ok (Ex.normal,Z1,Z0::H)))))))))))))) (Tr.ok (Ex.exit 2,[(0,shV O U Z V J W B,none),(2,AV.ptr 0 0 0 0,none),(4,AV.ptr 0 1 0 0,none),(5,AV.ptr 0 2 0 0,none),(6,AV.bool false,none),(7,AV.int .i64 i,none),(19,iI U,none),(20,AV.int .i64 i,none),(28,iI U,none),(29,AV.int .i64 k,none),(30,AV.bool false,some 1)],(bK [(0,an.row (Row.G [iI 0,iI 0,AV.nils])),(0,an.row (rM q 20)),(0,an.row (Row.G [AV.int .i64 f,AV.int .i64 t,AV.nils]))])::H))) [(0,shV O U Z V J W B),(2,AV.ptr 0 0 0 0),(4,AV.ptr 0 1 0 0),(5,AV.ptr 0 2 0 0),(6,AV.bool false),(7,AV.int .i64 i),(9,AV.ptr 0 3 0 0),(19,iI U),(20,AV.int .i64 i),(28,iI U),(29,AV.int .i64 k),(46,iI U),(47,iI 0)])) [(0,shV O U Z V J W B,none),(2,AV.ptr 0 0 0 0,none),(4,AV.ptr 0 1 0 0,none),(5,AV.ptr 0 2 0 0,none),(6,AV.bool false,none),(7,AV.int .i64 i,none),(19,iI U,none),(20,AV.int .i64 i,none),(28,iI U,none),(29,AV.int .i64 (aQ .i64 k (ofNat 1)),none)])) (bK [(0,an.row (Row.G [iI 0,iI 0,AV.nils])),(0,an.row (rM q 20)),(0,an.row (Row.G [AV.int .i64 f,AV.int .i64 t,AV.nils])),(0,an.row (Row.G [AV.int .i64 (q (aq 0 i 2)),AV.int .i64 (q (ar (aq 0 k 2) 1)),AV.nils]))]):=by kernel_rfl
theorem Oh (n:Nat) (O:Int) (U:Nat) (Z:Nat→Int) (V:Nat) (J:Nat→Int) (W B:Nat→Int) (H:ab) (q:Nat→Int) (i k:Int) (f t:Int) (m:Nat) (y:Nat→Int) (g:Nat) (x:Nat→Int):aH (bO n 65 128) (il aJ n 0) (cw aS 4 (fY (shR O U Z V J W B) false U i k (ofNat 0)) (yC q f t .nils (q (aq 0 i 2)) (q (ar (aq 0 k 2) 1))::H) (.ok (.normal,hints (fY (shR O U Z V J W B) false U i k (ofNat U)++[(48,.bool false)]),Bn q f t .nils (q (aq 0 i 2)) (q (ar (aq 0 k 2) 1)) g x::H))) aR (part Tryd.f65 [1,0,1,1,1,1,0,1,0,0,1,1,0,0,1,1,0,0]) (hints (gT (shR O U Z V J W B) false U i k)) (eT q f t .nils::H) =
 (fun (Z0:bJ)=>((fun (Z1:aD)=>((fun (Z2:bJ)=>((fun (Z3:aD)=>((fun (Z4:aA)=>((fun (Z5:bJ)=>Tr.ite (bw k (ofNat U)) (Tr.req (b8 i 10) (Tr.req (cu 0 0) (Tr.req (bR (aq 0 i 2) 20) (Tr.req (b8 k 10) (Tr.req (cu 0 0) (Tr.req (bR (ar (aq 0 k 2) 1) 20) (Tr.req (bL (dO 0 0) (dO 0 1)) (Tr.reqP (Z4=Z4∧Z5::H=Z5::H) (Tr.ite false (Tr.ite (bw f (q (aq 0 i 2))) (Tr.ok (Ex.exit 1,[(0,shV O U Z V J W B,none),(2,AV.ptr 0 0 0 0,none),(4,AV.ptr 0 1 0 0,none),(5,AV.ptr 0 2 0 0,none),(6,AV.bool false,none),(7,AV.int .i64 i,none),(9,AV.ptr 0 3 0 0,none),(19,iI U,none),(20,AV.int .i64 i,none),(28,iI U,none),(29,AV.int .i64 k,none),(87,AV.bool true,some 1)],Z0::H)) (Tr.ite (bU false) (Tr.ite (bw (ofNat 0) (ofNat g)) (Tr.ite (bw (aQ .i64 (bH .i64 (q (ar (aq 0 k 2) 1)) (q (aq 0 i 2))) (ofNat 1)) (ofNat g)) (Tr.req (cu 0 0) (Tr.req (fF 0 g 0 g) (Tr.req (cu 0 0) (Tr.req (fF 0 g 0 g) (Tr.ok (Ex.normal,Z3,Z2::H)))))) (Tr.ok (Ex.normal,Z1,Z0::H))) (Tr.ok (Ex.normal,Z1,Z0::H))) (Tr.ite (bw (q (aq 0 i 2)) f) (Tr.ite (bw (ofNat 0) (ofNat g)) (Tr.ite (bw (aQ .i64 (bH .i64 (q (ar (aq 0 k 2) 1)) (q (aq 0 i 2))) (ofNat 1)) (ofNat g)) (Tr.req (cu 0 0) (Tr.req (fF 0 g 0 g) (Tr.req (cu 0 0) (Tr.req (fF 0 g 0 g) (Tr.ok (Ex.normal,Z3,Z2::H)))))) (Tr.ok (Ex.normal,Z1,Z0::H))) (Tr.ok (Ex.normal,Z1,Z0::H))) (Tr.ite (bw (q (ar (aq 0 k 2) 1)) t) (Tr.ite (bw (ofNat 0) (ofNat g)) (Tr.ite (bw (aQ .i64 (bH .i64 (q (ar (aq 0 k 2) 1)) (q (aq 0 i 2))) (ofNat 1)) (ofNat g)) (Tr.req (cu 0 0) (Tr.req (fF 0 g 0 g) (Tr.req (cu 0 0) (Tr.req (fF 0 g 0 g) (Tr.ok (Ex.normal,Z3,Z2::H)))))) (Tr.ok (Ex.normal,Z1,Z0::H))) (Tr.ok (Ex.normal,Z1,Z0::H))) (Tr.ok (Ex.normal,Z1,Z0::H)))))) (Tr.ite (bU false) (Tr.ite (bw (ofNat 0) (ofNat g)) (Tr.ite (bw (aQ .i64 (bH .i64 (q (ar (aq 0 k 2) 1)) (q (aq 0 i 2))) (ofNat 1)) (ofNat g)) (Tr.req (cu 0 0) (Tr.req (fF 0 g 0 g) (Tr.req (cu 0 0) (Tr.req (fF 0 g 0 g) (Tr.ok (Ex.normal,Z3,Z2::H)))))) (Tr.ok (Ex.normal,Z1,Z0::H))) (Tr.ok (Ex.normal,Z1,Z0::H))) (Tr.ite (bw (q (aq 0 i 2)) f) (Tr.ite (bw (ofNat 0) (ofNat g)) (Tr.ite (bw (aQ .i64 (bH .i64 (q (ar (aq 0 k 2) 1)) (q (aq 0 i 2))) (ofNat 1)) (ofNat g)) (Tr.req (cu 0 0) (Tr.req (fF 0 g 0 g) (Tr.req (cu 0 0) (Tr.req (fF 0 g 0 g) (Tr.ok (Ex.normal,Z3,Z2::H)))))) (Tr.ok (Ex.normal,Z1,Z0::H))) (Tr.ok (Ex.normal,Z1,Z0::H))) (Tr.ite (bw (q (ar (aq 0 k 2) 1)) t) (Tr.ite (bw (ofNat 0) (ofNat g)) (Tr.ite (bw (aQ .i64 (bH .i64 (q (ar (aq 0 k 2) 1)) (q (aq 0 i 2))) (ofNat 1)) (ofNat g)) (Tr.req (cu 0 0) (Tr.req (fF 0 g 0 g) (Tr.req (cu 0 0) (Tr.req (fF 0 g 0 g) (Tr.ok (Ex.normal,Z3,Z2::H)))))) (Tr.ok (Ex.normal,Z1,Z0::H))) (Tr.ok (Ex.normal,Z1,Z0::H))) (Tr.ok (Ex.normal,Z1,Z0::H)))))))))))))) (Tr.ok (Ex.exit 2,[(0,shV O U Z V J W B,none),(2,AV.ptr 0 0 0 0,none),(4,AV.ptr 0 1 0 0,none),(5,AV.ptr 0 2 0 0,none),(6,AV.bool false,none),(7,AV.int .i64 i,none),(19,iI U,none),(20,AV.int .i64 i,none),(28,iI U,none),(29,AV.int .i64 k,none),(30,AV.bool false,some 1)],(bK [(0,an.row (Row.G [iI 0,iI 0,AV.nils])),(0,an.row (rM q 20)),(0,an.row (Row.G [AV.int .i64 f,AV.int .i64 t,AV.nils]))])::H))) (bK [(0,an.row (Row.G [iI 0,iI 0,AV.nils])),(0,an.row (rM q 20)),(0,an.row (Row.G [AV.int .i64 f,AV.int .i64 t,AV.nils])),(0,an.row (Row.G [AV.int .i64 (q (aq 0 i 2)),AV.int .i64 (q (ar (aq 0 k 2) 1)),AV.nils]))]))) [(0,shV O U Z V J W B),(2,AV.ptr 0 0 0 0),(4,AV.ptr 0 1 0 0),(5,AV.ptr 0 2 0 0),(6,AV.bool false),(7,AV.int .i64 i),(9,AV.ptr 0 3 0 0),(19,iI U),(20,AV.int .i64 i),(28,iI U),(29,AV.int .i64 k),(46,iI U),(47,iI 0)])) [(0,shV O U Z V J W B,none),(2,AV.ptr 0 0 0 0,none),(4,AV.ptr 0 1 0 0,none),(5,AV.ptr 0 2 0 0,none),(6,AV.bool true,some 1),(7,AV.int .i64 i,none),(19,iI U,none),(20,AV.int .i64 i,none),(28,iI U,none),(29,AV.int .i64 (aQ .i64 k (ofNat 1)),none)])) (bK [(0,an.row (Row.G [iI 0,iI 0,AV.nils])),(0,an.row (rM q 20)),(0,an.row (Row.G [AV.int .i64 (q (aq 0 i 2)),AV.int .i64 (q (ar (aq 0 k 2) 1)),bG g (qj x 0) false])),(0,an.row (Row.G [AV.int .i64 (q (aq 0 i 2)),AV.int .i64 (q (ar (aq 0 k 2) 1)),bG g (qj x 0) false])),(0,an.dead)]))) [(0,shV O U Z V J W B,none),(2,AV.ptr 0 0 0 0,none),(4,AV.ptr 0 1 0 0,none),(5,AV.ptr 0 2 0 0,none),(6,AV.bool false,none),(7,AV.int .i64 i,none),(19,iI U,none),(20,AV.int .i64 i,none),(28,iI U,none),(29,AV.int .i64 (aQ .i64 k (ofNat 1)),none)])) (bK [(0,an.row (Row.G [iI 0,iI 0,AV.nils])),(0,an.row (rM q 20)),(0,an.row (Row.G [AV.int .i64 f,AV.int .i64 t,AV.nils])),(0,an.row (Row.G [AV.int .i64 (q (aq 0 i 2)),AV.int .i64 (q (ar (aq 0 k 2) 1)),AV.slc 0 4 0 0 1 g none])),(0,an.row (rM x g))]):=by kernel_rfl
theorem JQ (n:Nat) (O:Int) (U:Nat) (Z:Nat→Int) (V:Nat) (J:Nat→Int) (W B:Nat→Int) (H:ab) (q:Nat→Int) (i k:Int) (f t:Int) (m:Nat) (y:Nat→Int):aH (bO n 65 128) (il aJ n 0) (cw aS 4 (fY (shR O U Z V J W B) true U i k (ofNat 0)) (yC q f t (bG m y false) (q (aq 0 i 2)) (q (ar (aq 0 k 2) 1))::H) (.ok (.normal,hints (fY (shR O U Z V J W B) true U i k (ofNat U)++[(48,.bool false)]),yC q f t (bG m y false) (q (aq 0 i 2)) (q (ar (aq 0 k 2) 1))::H))) aR (part Tryd.f65 [1,0,1,1,1,1,0,1,0,0,1,1,0,0,1,1,0,0]) (hints (gT (shR O U Z V J W B) true U i k)) (eT q f t (bG m y false)::H) =
 (fun (Z0:bJ)=>((fun (Z1:aD)=>((fun (Z2:aA)=>Tr.ite (bw k (ofNat U)) (Tr.req (b8 i 10) (Tr.req (cu 0 0) (Tr.req (bR (aq 0 i 2) 20) (Tr.req (b8 k 10) (Tr.req (cu 0 0) (Tr.req (bR (ar (aq 0 k 2) 1) 20) (Tr.req (bL (dO 0 0) (dO 0 1)) (Tr.reqP (Z2=Z2∧Z0::H=Z0::H) (Tr.ite true (Tr.ite (bw f (q (aq 0 i 2))) (Tr.ok (Ex.exit 1,[(0,shV O U Z V J W B,none),(2,AV.ptr 0 0 0 0,none),(4,AV.ptr 0 1 0 0,none),(5,AV.ptr 0 2 0 0,none),(6,AV.bool true,none),(7,AV.int .i64 i,none),(9,AV.ptr 0 3 0 0,none),(19,iI U,none),(20,AV.int .i64 i,none),(28,iI U,none),(29,AV.int .i64 k,none),(87,AV.bool true,some 1)],Z0::H)) (Tr.ite (bU true) (Tr.ok (Ex.normal,Z1,Z0::H)) (Tr.ite (bw (q (aq 0 i 2)) f) (Tr.ok (Ex.normal,Z1,Z0::H)) (Tr.ite (bw (q (ar (aq 0 k 2) 1)) t) (Tr.ok (Ex.normal,Z1,Z0::H)) (Tr.ok (Ex.normal,Z1,Z0::H)))))) (Tr.ite (bU true) (Tr.ok (Ex.normal,Z1,Z0::H)) (Tr.ite (bw (q (aq 0 i 2)) f) (Tr.ok (Ex.normal,Z1,Z0::H)) (Tr.ite (bw (q (ar (aq 0 k 2) 1)) t) (Tr.ok (Ex.normal,Z1,Z0::H)) (Tr.ok (Ex.normal,Z1,Z0::H)))))))))))))) (Tr.ok (Ex.exit 2,[(0,shV O U Z V J W B,none),(2,AV.ptr 0 0 0 0,none),(4,AV.ptr 0 1 0 0,none),(5,AV.ptr 0 2 0 0,none),(6,AV.bool true,none),(7,AV.int .i64 i,none),(19,iI U,none),(20,AV.int .i64 i,none),(28,iI U,none),(29,AV.int .i64 k,none),(30,AV.bool false,some 1)],(bK [(0,an.row (Row.G [iI 0,iI 0,AV.nils])),(0,an.row (rM q 20)),(0,an.row (Row.G [AV.int .i64 f,AV.int .i64 t,bG m y false]))])::H))) [(0,shV O U Z V J W B),(2,AV.ptr 0 0 0 0),(4,AV.ptr 0 1 0 0),(5,AV.ptr 0 2 0 0),(6,AV.bool true),(7,AV.int .i64 i),(9,AV.ptr 0 3 0 0),(19,iI U),(20,AV.int .i64 i),(28,iI U),(29,AV.int .i64 k),(46,iI U),(47,iI 0)])) [(0,shV O U Z V J W B,none),(2,AV.ptr 0 0 0 0,none),(4,AV.ptr 0 1 0 0,none),(5,AV.ptr 0 2 0 0,none),(6,AV.bool true,none),(7,AV.int .i64 i,none),(19,iI U,none),(20,AV.int .i64 i,none),(28,iI U,none),(29,AV.int .i64 (aQ .i64 k (ofNat 1)),none)])) (bK [(0,an.row (Row.G [iI 0,iI 0,AV.nils])),(0,an.row (rM q 20)),(0,an.row (Row.G [AV.int .i64 f,AV.int .i64 t,bG m y false])),(0,an.row (Row.G [AV.int .i64 (q (aq 0 i 2)),AV.int .i64 (q (ar (aq 0 k 2) 1)),AV.nils]))]):=by kernel_rfl
theorem JR (n:Nat) (O:Int) (U:Nat) (Z:Nat→Int) (V:Nat) (J:Nat→Int) (W B:Nat→Int) (H:ab) (q:Nat→Int) (i k:Int) (f t:Int) (m:Nat) (y:Nat→Int) (g:Nat) (x:Nat→Int):aH (bO n 65 128) (il aJ n 0) (cw aS 4 (fY (shR O U Z V J W B) true U i k (ofNat 0)) (yC q f t (bG m y false) (q (aq 0 i 2)) (q (ar (aq 0 k 2) 1))::H) (.ok (.normal,hints (fY (shR O U Z V J W B) true U i k (ofNat U)++[(48,.bool false)]),Bn q f t (bG m y false) (q (aq 0 i 2)) (q (ar (aq 0 k 2) 1)) g x::H))) aR (part Tryd.f65 [1,0,1,1,1,1,0,1,0,0,1,1,0,0,1,1,0,0]) (hints (gT (shR O U Z V J W B) true U i k)) (eT q f t (bG m y false)::H) =
 (fun (Z0:bJ)=>((fun (Z1:aD)=>((fun (Z2:bJ)=>((fun (Z3:aD)=>((fun (Z4:aA)=>((fun (Z5:bJ)=>Tr.ite (bw k (ofNat U)) (Tr.req (b8 i 10) (Tr.req (cu 0 0) (Tr.req (bR (aq 0 i 2) 20) (Tr.req (b8 k 10) (Tr.req (cu 0 0) (Tr.req (bR (ar (aq 0 k 2) 1) 20) (Tr.req (bL (dO 0 0) (dO 0 1)) (Tr.reqP (Z4=Z4∧Z5::H=Z5::H) (Tr.ite true (Tr.ite (bw f (q (aq 0 i 2))) (Tr.ok (Ex.exit 1,[(0,shV O U Z V J W B,none),(2,AV.ptr 0 0 0 0,none),(4,AV.ptr 0 1 0 0,none),(5,AV.ptr 0 2 0 0,none),(6,AV.bool true,none),(7,AV.int .i64 i,none),(9,AV.ptr 0 3 0 0,none),(19,iI U,none),(20,AV.int .i64 i,none),(28,iI U,none),(29,AV.int .i64 k,none),(87,AV.bool true,some 1)],Z0::H)) (Tr.ite (bU true) (Tr.ite (bw (ofNat 0) (ofNat g)) (Tr.ite (bw (aQ .i64 (bH .i64 (q (ar (aq 0 k 2) 1)) (q (aq 0 i 2))) (ofNat 1)) (ofNat g)) (Tr.req (cu 0 0) (Tr.req (fF 0 g 0 g) (Tr.req (cu 0 0) (Tr.req (fF 0 g 0 g) (Tr.ok (Ex.normal,Z3,Z2::H)))))) (Tr.ok (Ex.normal,Z1,Z0::H))) (Tr.ok (Ex.normal,Z1,Z0::H))) (Tr.ite (bw (q (aq 0 i 2)) f) (Tr.ite (bw (ofNat 0) (ofNat g)) (Tr.ite (bw (aQ .i64 (bH .i64 (q (ar (aq 0 k 2) 1)) (q (aq 0 i 2))) (ofNat 1)) (ofNat g)) (Tr.req (cu 0 0) (Tr.req (fF 0 g 0 g) (Tr.req (cu 0 0) (Tr.req (fF 0 g 0 g) (Tr.ok (Ex.normal,Z3,Z2::H)))))) (Tr.ok (Ex.normal,Z1,Z0::H))) (Tr.ok (Ex.normal,Z1,Z0::H))) (Tr.ite (bw (q (ar (aq 0 k 2) 1)) t) (Tr.ite (bw (ofNat 0) (ofNat g)) (Tr.ite (bw (aQ .i64 (bH .i64 (q (ar (aq 0 k 2) 1)) (q (aq 0 i 2))) (ofNat 1)) (ofNat g)) (Tr.req (cu 0 0) (Tr.req (fF 0 g 0 g) (Tr.req (cu 0 0) (Tr.req (fF 0 g 0 g) (Tr.ok (Ex.normal,Z3,Z2::H)))))) (Tr.ok (Ex.normal,Z1,Z0::H))) (Tr.ok (Ex.normal,Z1,Z0::H))) (Tr.ok (Ex.normal,Z1,Z0::H)))))) (Tr.ite (bU true) (Tr.ite (bw (ofNat 0) (ofNat g)) (Tr.ite (bw (aQ .i64 (bH .i64 (q (ar (aq 0 k 2) 1)) (q (aq 0 i 2))) (ofNat 1)) (ofNat g)) (Tr.req (cu 0 0) (Tr.req (fF 0 g 0 g) (Tr.req (cu 0 0) (Tr.req (fF 0 g 0 g) (Tr.ok (Ex.normal,Z3,Z2::H)))))) (Tr.ok (Ex.normal,Z1,Z0::H))) (Tr.ok (Ex.normal,Z1,Z0::H))) (Tr.ite (bw (q (aq 0 i 2)) f) (Tr.ite (bw (ofNat 0) (ofNat g)) (Tr.ite (bw (aQ .i64 (bH .i64 (q (ar (aq 0 k 2) 1)) (q (aq 0 i 2))) (ofNat 1)) (ofNat g)) (Tr.req (cu 0 0) (Tr.req (fF 0 g 0 g) (Tr.req (cu 0 0) (Tr.req (fF 0 g 0 g) (Tr.ok (Ex.normal,Z3,Z2::H)))))) (Tr.ok (Ex.normal,Z1,Z0::H))) (Tr.ok (Ex.normal,Z1,Z0::H))) (Tr.ite (bw (q (ar (aq 0 k 2) 1)) t) (Tr.ite (bw (ofNat 0) (ofNat g)) (Tr.ite (bw (aQ .i64 (bH .i64 (q (ar (aq 0 k 2) 1)) (q (aq 0 i 2))) (ofNat 1)) (ofNat g)) (Tr.req (cu 0 0) (Tr.req (fF 0 g 0 g) (Tr.req (cu 0 0) (Tr.req (fF 0 g 0 g) (Tr.ok (Ex.normal,Z3,Z2::H)))))) (Tr.ok (Ex.normal,Z1,Z0::H))) (Tr.ok (Ex.normal,Z1,Z0::H))) (Tr.ok (Ex.normal,Z1,Z0::H)))))))))))))) (Tr.ok (Ex.exit 2,[(0,shV O U Z V J W B,none),(2,AV.ptr 0 0 0 0,none),(4,AV.ptr 0 1 0 0,none),(5,AV.ptr 0 2 0 0,none),(6,AV.bool true,none),(7,AV.int .i64 i,none),(19,iI U,none),(20,AV.int .i64 i,none),(28,iI U,none),(29,AV.int .i64 k,none),(30,AV.bool false,some 1)],(bK [(0,an.row (Row.G [iI 0,iI 0,AV.nils])),(0,an.row (rM q 20)),(0,an.row (Row.G [AV.int .i64 f,AV.int .i64 t,bG m y false]))])::H))) (bK [(0,an.row (Row.G [iI 0,iI 0,AV.nils])),(0,an.row (rM q 20)),(0,an.row (Row.G [AV.int .i64 f,AV.int .i64 t,bG m y false])),(0,an.row (Row.G [AV.int .i64 (q (aq 0 i 2)),AV.int .i64 (q (ar (aq 0 k 2) 1)),AV.nils]))]))) [(0,shV O U Z V J W B),(2,AV.ptr 0 0 0 0),(4,AV.ptr 0 1 0 0),(5,AV.ptr 0 2 0 0),(6,AV.bool true),(7,AV.int .i64 i),(9,AV.ptr 0 3 0 0),(19,iI U),(20,AV.int .i64 i),(28,iI U),(29,AV.int .i64 k),(46,iI U),(47,iI 0)])) [(0,shV O U Z V J W B,none),(2,AV.ptr 0 0 0 0,none),(4,AV.ptr 0 1 0 0,none),(5,AV.ptr 0 2 0 0,none),(6,AV.bool true,some 1),(7,AV.int .i64 i,none),(19,iI U,none),(20,AV.int .i64 i,none),(28,iI U,none),(29,AV.int .i64 (aQ .i64 k (ofNat 1)),none)])) (bK [(0,an.row (Row.G [iI 0,iI 0,AV.nils])),(0,an.row (rM q 20)),(0,an.row (Row.G [AV.int .i64 (q (aq 0 i 2)),AV.int .i64 (q (ar (aq 0 k 2) 1)),bG g (qj x 0) false])),(0,an.row (Row.G [AV.int .i64 (q (aq 0 i 2)),AV.int .i64 (q (ar (aq 0 k 2) 1)),bG g (qj x 0) false])),(0,an.dead)]))) [(0,shV O U Z V J W B,none),(2,AV.ptr 0 0 0 0,none),(4,AV.ptr 0 1 0 0,none),(5,AV.ptr 0 2 0 0,none),(6,AV.bool true,none),(7,AV.int .i64 i,none),(19,iI U,none),(20,AV.int .i64 i,none),(28,iI U,none),(29,AV.int .i64 (aQ .i64 k (ofNat 1)),none)])) (bK [(0,an.row (Row.G [iI 0,iI 0,AV.nils])),(0,an.row (rM q 20)),(0,an.row (Row.G [AV.int .i64 f,AV.int .i64 t,bG m y false])),(0,an.row (Row.G [AV.int .i64 (q (aq 0 i 2)),AV.int .i64 (q (ar (aq 0 k 2) 1)),AV.slc 0 4 0 0 1 g none])),(0,an.row (rM x g))]):=by kernel_rfl
end Go.Eng
end
section
namespace Go.Eng
open Go.Proofs Go.Eng.Gall
theorem u9:∀ b,(4,b) ∈ aE (part Tryd.f65 [1,0,1,1,1,1,0,1,0,0,1,1,0,0,1,1,0,0])→b=.loop (part Tryd.f65 [1,0,1,1,1,1,0,1,0,0,1,1,0,0,1,1,0,0,1,1,0,0,1,1,0,1,0,0]):=dK (by kernel_rfl)
def m9 (q:Nat→Int) (F T:Int) (c:Nat):Bool:=decide (F≤q (2*c)) && decide (q (2*c+1)≤T)
def cE (q:Nat→Int) (F T:Int):Nat→List Int
 | 0=>[]
 | c+1=>if m9 q F T c=true then cE q F T c++[(c:Int)] else cE q F T c
theorem jo (q:Nat→Int) (F T:Int):∀ j,(cE q F T j).length≤j
 | 0=>Nat.le_refl 0
 | j+1=>by
   have:=jo q F T j;unfold cE;split
   · rw[List.length_append,List.length_singleton];omega
   · omega
noncomputable def Ei (q:Nat→Int) (f t:Int) (A:AV) (F T:Int):List Int→bJ
 | []=>yC q f t A F T
 | a::r=>Bn q f t A F T (r.length+1) (aI (a::r))
section
variable (n:Nat) (H:ab) (q:Nat→Int) (R:Row) (u:Bool) (f t:Int) (m:Nat) (y:Nat→Int) (U:Nat) (i k F T:Int)
theorem OX (hl:U≤10) (c:Nat) (hc:c<U) (L:List Int) (hL:L.length≤1000) :
 ∃ x,exec (bO n 65 128) (part Tryd.f65 [1,0,1,1,1,1,0,1,0,0,1,1,0,0,1,1,0,0,1,1,0,0,1,1,0,1,0,0]) (fY R u U i k (c:Int)) (Ei q f t .nils F T L::H)=some x∧x.1=.normal∧tidy 4 x.2.1 x.2.2=(fY R u U i k ((c+1:Nat):Int),Ei q f t .nils F T (if m9 q F T c=true then L++[(c:Int)] else L)::H):=by
 have e1:aQ .i64 (c:Int) (Int.ofNat 1)=((c+1:Nat):Int):=eg wO
 have ei:aq 0 (c:Int) 2=2*c:=by rw[bP];omega
 cases L with
 | nil =>
   have T0:=J0 n H q R u f t 0 q U i k (c:Int) F T
   rw[e1,ei,aC] at T0
   refine av T0 (aw _) (aj _ _) (ai _ _) ?_
   refine Tr.ae (fun h0=>?_) wJ
   refine Tr.aa wG (Tr.aa wG (Tr.aa wG (Tr.ae (fun q1=>Tr.aa wG (Tr.aa wG (Tr.aa wG (Tr.ae (fun q2=>?_) (fun q2=>Tr.ag ?_))))) (fun q1=>Tr.ag ?_))))
   all_goals rw[a7] at q1
   · rw[a7] at q2
     rw[if_pos (by unfold m9;rw[q1,q2];rfl)]
     refine Tr.aa wG (Tr.aa wG (Tr.aa wG (Tr.aa wG (Tr.aa wG (Tr.ag ⟨rfl,rfl⟩)))))
   · rw[a7] at q2
     rw[if_neg (by unfold m9;rw[q1,q2];decide)];exact ⟨rfl,rfl⟩
   · rw[if_neg (by unfold m9;rw[q1];simp)];exact ⟨rfl,rfl⟩
 | cons a r =>
   simp only[List.length_cons] at hL
   have e2:=o5 (a::r) (c:Int)
   simp only[List.length_cons] at e2
   have e3:ar (r.length+1) 1=r.length+1+1:=by rw[aC]
   have e4:cg (Int.ofNat (r.length+1))=r.length+1:=by rw[jK];rfl
   have T0:=J1 n H q R u f t 0 q U i k (c:Int) F T (r.length+1) (aI (a::r))
   rw[e1,e4,e3,e2,ei,aC] at T0
   refine av T0 (aw _) (aj _ _) (ai _ _) ?_
   refine Tr.ae (fun h0=>?_) wJ
   refine Tr.aa wG (Tr.aa wG (Tr.aa wG (Tr.ae (fun q1=>Tr.aa wG (Tr.aa wG (Tr.aa wG (Tr.ae (fun q2=>?_) (fun q2=>Tr.ag ?_))))) (fun q1=>Tr.ag ?_))))
   all_goals rw[a7] at q1
   · rw[a7] at q2
     rw[if_pos (by unfold m9;rw[q1,q2];rfl)]
     have er:(r++[(c:Int)]).length=r.length+1:=by rw[List.length_append,List.length_singleton]
     have el:Ei q f t .nils F T (a::r++[(c:Int)])=Bn q f t .nils F T (r.length+1+1) (aI (a::r++[(c:Int)])):=by show Bn _ _ _ _ _ _ ((r++[(c:Int)]).length+1) (aI (a::(r++[(c:Int)])))=_;rw[er];rfl
     rw[el]
     generalize aI (a::r++[(c:Int)])=Y at *
     refine Tr.aa wG (Tr.aa wG (Tr.aa wG (Tr.aa wG (Tr.aa wG (Tr.ae (fun q4=>?_) wJ)))))
     exact Tr.aa wG (Tr.aa wG (Tr.aa wG (Tr.ag ⟨rfl,rfl⟩)))
   · rw[a7] at q2
     rw[if_neg (by unfold m9;rw[q1,q2];decide)];exact ⟨rfl,rfl⟩
   · rw[if_neg (by unfold m9;rw[q1];simp)];exact ⟨rfl,rfl⟩
theorem Rk (hl:U≤10):exec (bO n 65 128) (.block 4 (.loop (part Tryd.f65 [1,0,1,1,1,1,0,1,0,0,1,1,0,0,1,1,0,0,1,1,0,0,1,1,0,1,0,0]))) (fY R u U i k (Int.ofNat 0)) (yC q f t .nils F T::H)=some (.normal,fY R u U i k (U:Int)++[(48,.bool false)],Ei q f t .nils F T (cE q F T U)::H):=by
 refine fZ (n:=n) (f:=65) (nt:=128) (c:=part Tryd.f65 [1,0,1,1,1,1,0,1,0,0,1,1,0,0,1,1,0,0,1,1,0,0,1,1,0,1,0,0]) 4 (fun c=>fY R u U i k (c:Int)) (fun c=>Ei q f t .nils F T (cE q F T c)::H) U (fY R u U i k (U:Int)++[(48,.bool false)],Ei q f t .nils F T (cE q F T U)::H) wO (fun c hc=>?_) ?_
 · exact OX n H q R u f t U i k F T hl c hc (cE q F T c) (by have:=jo q F T c;omega)
 · generalize cE q F T U=L;cases L with
   | nil =>
     obtain ⟨x,h1,rfl⟩:=av (Q:=fun x=>x=(.exit 4,fY R u U i k (U:Int)++[(48,.bool false)],yC q f t .nils F T::H)) (J0 n H q R u f t 0 q U i k (U:Int) F T) (aw _) (aj _ _) (ai _ _) (by
      refine Tr.ae wJ (fun h0=>Tr.ag rfl))
     exact h1
   | cons a r =>
     obtain ⟨x,h1,rfl⟩:=av (Q:=fun x=>x=(.exit 4,fY R u U i k (U:Int)++[(48,.bool false)],Bn q f t .nils F T (r.length+1) (aI (a::r))::H)) (J1 n H q R u f t 0 q U i k (U:Int) F T (r.length+1) (aI (a::r))) (aw _) (aj _ _) (ai _ _) (by
      refine Tr.ae wJ (fun h0=>Tr.ag rfl))
     exact h1
theorem OY (hl:U≤10) (c:Nat) (hc:c<U) (L:List Int) (hL:L.length≤1000) :
 ∃ x,exec (bO n 65 128) (part Tryd.f65 [1,0,1,1,1,1,0,1,0,0,1,1,0,0,1,1,0,0,1,1,0,0,1,1,0,1,0,0]) (fY R u U i k (c:Int)) (Ei q f t (bG m y false) F T L::H)=some x∧x.1=.normal∧tidy 4 x.2.1 x.2.2=(fY R u U i k ((c+1:Nat):Int),Ei q f t (bG m y false) F T (if m9 q F T c=true then L++[(c:Int)] else L)::H):=by
 have e1:aQ .i64 (c:Int) (Int.ofNat 1)=((c+1:Nat):Int):=eg wO
 have ei:aq 0 (c:Int) 2=2*c:=by rw[bP];omega
 cases L with
 | nil =>
   have T0:=J2 n H q R u f t m y U i k (c:Int) F T
   rw[e1,ei,aC] at T0
   refine av T0 (aw _) (aj _ _) (ai _ _) ?_
   refine Tr.ae (fun h0=>?_) wJ
   refine Tr.aa wG (Tr.aa wG (Tr.aa wG (Tr.ae (fun q1=>Tr.aa wG (Tr.aa wG (Tr.aa wG (Tr.ae (fun q2=>?_) (fun q2=>Tr.ag ?_))))) (fun q1=>Tr.ag ?_))))
   all_goals rw[a7] at q1
   · rw[a7] at q2
     rw[if_pos (by unfold m9;rw[q1,q2];rfl)]
     refine Tr.aa wG (Tr.aa wG (Tr.aa wG (Tr.aa wG (Tr.aa wG (Tr.ag ⟨rfl,rfl⟩)))))
   · rw[a7] at q2
     rw[if_neg (by unfold m9;rw[q1,q2];decide)];exact ⟨rfl,rfl⟩
   · rw[if_neg (by unfold m9;rw[q1];simp)];exact ⟨rfl,rfl⟩
 | cons a r =>
   simp only[List.length_cons] at hL
   have e2:=o5 (a::r) (c:Int)
   simp only[List.length_cons] at e2
   have e3:ar (r.length+1) 1=r.length+1+1:=by rw[aC]
   have e4:cg (Int.ofNat (r.length+1))=r.length+1:=by rw[jK];rfl
   have T0:=J3 n H q R u f t m y U i k (c:Int) F T (r.length+1) (aI (a::r))
   rw[e1,e4,e3,e2,ei,aC] at T0
   refine av T0 (aw _) (aj _ _) (ai _ _) ?_
   refine Tr.ae (fun h0=>?_) wJ
   refine Tr.aa wG (Tr.aa wG (Tr.aa wG (Tr.ae (fun q1=>Tr.aa wG (Tr.aa wG (Tr.aa wG (Tr.ae (fun q2=>?_) (fun q2=>Tr.ag ?_))))) (fun q1=>Tr.ag ?_))))
   all_goals rw[a7] at q1
   · rw[a7] at q2
     rw[if_pos (by unfold m9;rw[q1,q2];rfl)]
     have er:(r++[(c:Int)]).length=r.length+1:=by rw[List.length_append,List.length_singleton]
     have el:Ei q f t (bG m y false) F T (a::r++[(c:Int)])=Bn q f t (bG m y false) F T (r.length+1+1) (aI (a::r++[(c:Int)])):=by show Bn _ _ _ _ _ _ ((r++[(c:Int)]).length+1) (aI (a::(r++[(c:Int)])))=_;rw[er];rfl
     rw[el]
     generalize aI (a::r++[(c:Int)])=Y at *
     refine Tr.aa wG (Tr.aa wG (Tr.aa wG (Tr.aa wG (Tr.aa wG (Tr.ae (fun q4=>?_) wJ)))))
     exact Tr.aa wG (Tr.aa wG (Tr.aa wG (Tr.ag ⟨rfl,rfl⟩)))
   · rw[a7] at q2
     rw[if_neg (by unfold m9;rw[q1,q2];decide)];exact ⟨rfl,rfl⟩
   · rw[if_neg (by unfold m9;rw[q1];simp)];exact ⟨rfl,rfl⟩
theorem Oo (hl:U≤10):exec (bO n 65 128) (.block 4 (.loop (part Tryd.f65 [1,0,1,1,1,1,0,1,0,0,1,1,0,0,1,1,0,0,1,1,0,0,1,1,0,1,0,0]))) (fY R u U i k (Int.ofNat 0)) (yC q f t (bG m y false) F T::H)=some (.normal,fY R u U i k (U:Int)++[(48,.bool false)],Ei q f t (bG m y false) F T (cE q F T U)::H):=by
 refine fZ (n:=n) (f:=65) (nt:=128) (c:=part Tryd.f65 [1,0,1,1,1,1,0,1,0,0,1,1,0,0,1,1,0,0,1,1,0,0,1,1,0,1,0,0]) 4 (fun c=>fY R u U i k (c:Int)) (fun c=>Ei q f t (bG m y false) F T (cE q F T c)::H) U (fY R u U i k (U:Int)++[(48,.bool false)],Ei q f t (bG m y false) F T (cE q F T U)::H) wO (fun c hc=>?_) ?_
 · exact OY n H q R u f t m y U i k F T hl c hc (cE q F T c) (by have:=jo q F T c;omega)
 · generalize cE q F T U=L;cases L with
   | nil =>
     obtain ⟨x,h1,rfl⟩:=av (Q:=fun x=>x=(.exit 4,fY R u U i k (U:Int)++[(48,.bool false)],yC q f t (bG m y false) F T::H)) (J2 n H q R u f t m y U i k (U:Int) F T) (aw _) (aj _ _) (ai _ _) (by
      refine Tr.ae wJ (fun h0=>Tr.ag rfl))
     exact h1
   | cons a r =>
     obtain ⟨x,h1,rfl⟩:=av (Q:=fun x=>x=(.exit 4,fY R u U i k (U:Int)++[(48,.bool false)],Bn q f t (bG m y false) F T (r.length+1) (aI (a::r))::H)) (J3 n H q R u f t m y U i k (U:Int) F T (r.length+1) (aI (a::r))) (aw _) (aj _ _) (ai _ _) (by
      refine Tr.ae wJ (fun h0=>Tr.ag rfl))
     exact h1
end
end Go.Eng
end
section
namespace Go.Eng
open Go.Proofs Go.Eng.Gall
def pB (q:Nat→Int) (U:Nat) (F T:Int):Bool:=decide (0<(cE q F T U).length) && decide (T-F+1<((cE q F T U).length:Int))
def M7:Option (Int×Int)→Int→Int→Bool
 | none,_,_=>true
 | some (f,t),F,T=>decide (F<f) || decide (T<t)
def EB (q:Nat→Int) (U:Nat) (F:Int) (b:Option (Int×Int)) (T:Int):Option (Int×Int):=if (M7 b F T && pB q U F T)=true then some (F,T) else b
def xz (q:Nat→Int) (U:Nat) (F:Int) (b:Option (Int×Int)):Nat→Option (Int×Int)
 | 0=>b
 | k+1=>EB q U F (xz q U F b k) (q (2*k+1))
def EL:Option (Int×Int)→Int→Bool
 | none,_=>false
 | some (f,_),F=>decide (f<F)
def lh (q:Nat→Int) (U:Nat):Nat→Option (Int×Int)
 | 0=>none
 | i+1=>if EL (lh q U i) (q (2*i))=true then lh q U i else xz q U (q (2*i)) (lh q U i) U
def dZ (P:Int→Int→Prop):Option (Int×Int)→Prop
 | none=>∀ F T,¬ P F T
 | some (f,t)=>P f t∧∀ F T,P F T→f<F∨(f=F∧t≤T)
theorem c8 {P Q:Int→Int→Prop} (h:∀ F T,P F T↔Q F T) {b:Option (Int×Int)}:dZ P b↔dZ Q b:=by
 have:P=Q:=funext fun F=>funext fun T=>propext (h F T);rw[this]
theorem F2 {q:Nat→Int} {U:Nat} {F:Int} {b:Option (Int×Int)} (h:EL b F=false):∀ k,EL (xz q U F b k) F=false
 | 0=>h
 | k+1=>by
   unfold xz EB;split
   · exact decide_eq_false (Int.lt_irrefl _)
   · exact F2 h k
theorem G4 {P:Int→Int→Prop} {q:Nat→Int} {U:Nat} {F T:Int} {b:Option (Int×Int)} (hb:dZ P b) (hg:EL b F=false):dZ (fun x y=>P x y∨(x=F∧y=T∧pB q U F T=true)) (EB q U F b T):=by
 unfold EB;by_cases ho:pB q U F T=true
 · cases b with
   | none =>
     rw[if_pos (by rw[ho];rfl)];refine ⟨.inr ⟨rfl,rfl,ho⟩,?_⟩;rintro x y (h | ⟨rfl,rfl,_⟩)
     · exact absurd h (hb x y)
     · exact .inr ⟨rfl,Int.le_refl _⟩
   | some v =>
     obtain ⟨f,t⟩:=v;obtain ⟨h1,h2⟩:=hb;have hg:¬ f<F:=of_decide_eq_false hg;by_cases hc:F<f∨T<t
     · rw[if_pos (by rw[ho,Bool.and_true];show (decide (F<f) || decide (T<t))=true;simpa using hc)];refine ⟨.inr ⟨rfl,rfl,ho⟩,?_⟩;rintro x y (h | ⟨rfl,rfl,_⟩)
       · have:=h2 x y h;omega
       · exact .inr ⟨rfl,Int.le_refl _⟩
     · rw[if_neg (by rw[ho,Bool.and_true];show ¬ (decide (F<f) || decide (T<t))=true;simpa using hc)];refine ⟨.inl h1,?_⟩;rintro x y (h | ⟨rfl,rfl,_⟩)
       · exact h2 x y h
       · omega
 · rw[if_neg (by simp[ho])];exact (c8 (fun x y=>⟨fun h=>.inl h,fun h=>h.elim id fun h=>absurd h.2.2 ho⟩)).1 hb
theorem ym {P:Int→Int→Prop} {q:Nat→Int} {U:Nat} {F:Int} {b:Option (Int×Int)} (hb:dZ P b) (hg:EL b F=false):∀ k,dZ (fun x y=>P x y∨(x=F∧∃ j,j<k∧y=q (2*j+1)∧pB q U F y=true)) (xz q U F b k)
 | 0=>(c8 (fun x y=>⟨fun h=>.inl h,fun h=>h.elim id fun ⟨_,j,h,_⟩=>absurd h (Nat.not_lt_zero j)⟩)).1 hb
 | k + 1=>by
   have:=G4 (q:=q) (U:=U) (F:=F) (T:=q (2*k+1)) (b:=xz q U F b k) (ym (q:=q) (U:=U) hb hg k) (F2 (q:=q) (U:=U) hg k);refine (c8 (fun x y=>?_)).1 this;constructor
   · rintro ((h | ⟨h1,j,h2,h3,h4⟩) | ⟨rfl,rfl,h3⟩)
     · exact .inl h
     · exact .inr ⟨h1,j,by omega,h3,h4⟩
     · exact .inr ⟨rfl,k,by omega,rfl,h3⟩
   · rintro (h | ⟨rfl,j,h2,rfl,h4⟩)
     · exact .inl (.inl h)
     · by_cases e:j=k
       · subst e;exact .inr ⟨rfl,rfl,h4⟩
       · exact .inl (.inr ⟨rfl,j,by omega,rfl,h4⟩)
theorem pd (q:Nat→Int) (U:Nat):∀ i,dZ (fun x y=>∃ j k,j<i∧k<U∧x=q (2*j)∧y=q (2*k+1)∧pB q U x y=true) (lh q U i)∨∃ f t,lh q U i=some (f,t)∧dZ (fun x y=>∃ j k,j<i∧k<U∧x=q (2*j)∧y=q (2*k+1)∧pB q U x y=true) (some (f,t))
 | 0=>.inl fun F T ⟨j,_,h,_⟩=>absurd h (Nat.not_lt_zero j)
 | i + 1=>by
   have ih:dZ (fun x y=>∃ j k,j<i∧k<U∧x=q (2*j)∧y=q (2*k+1)∧pB q U x y=true) (lh q U i):=by
    rcases pd q U i with h | ⟨f,t,h1,h2⟩
    · exact h
    · rw[h1];exact h2
   refine .inl ?_;unfold lh;by_cases hg:EL (lh q U i) (q (2*i))=true
   · rw[if_pos hg];generalize lh q U i=b at *;cases b with
     | none=>cases hg
     | some v =>
       obtain ⟨f,t⟩:=v;have hg:f<q (2*i):=of_decide_eq_true hg;obtain ⟨⟨j,k,h1,h2⟩,h3⟩:=ih;refine ⟨⟨j,k,by omega,h2⟩,?_⟩;rintro F T ⟨j',k',a1,a2,rfl,rfl,a3⟩;by_cases e:j'=i
       · subst e;exact .inl hg
       · exact h3 _ _ ⟨j',k',by omega,a2,rfl,rfl,a3⟩
   · rw[if_neg hg];have hg:EL (lh q U i) (q (2*i))=false:=by simpa using hg
     refine (c8 (fun x y=>?_)).1 (ym ih hg U);constructor
     · rintro (⟨j,k,h1,h2⟩ | ⟨rfl,k,h1,rfl,h2⟩)
       · exact ⟨j,k,by omega,h2⟩
       · exact ⟨i,k,by omega,h1,rfl,rfl,h2⟩
     · rintro ⟨j,k,h1,h2,rfl,rfl,h3⟩;by_cases e:j=i
       · subst e;exact .inr ⟨rfl,k,h2,rfl,h3⟩
       · exact .inl ⟨j,k,by omega,h2,rfl,rfl,h3⟩
end Go.Eng
end
section
namespace Go.Eng
open Go.Proofs Go.Eng.Gall
theorem mI (q:Nat→Int) (F T x:Int):∀ j,x ∈ cE q F T j↔∃ k,k<j∧m9 q F T k=true∧x=(k:Int)
 | 0=>by simp[cE]
 | j + 1=>by
   have ih:=mI q F T x j;unfold cE;split
   · rename_i h;rw[List.mem_append,List.mem_singleton,ih];constructor
     · rintro (⟨k,h1,h2,h3⟩ | h1)
       · exact ⟨k,by omega,h2,h3⟩
       · exact ⟨j,by omega,h,h1⟩
     · rintro ⟨k,h1,h2,h3⟩;by_cases e:k=j
       · subst e;exact .inr h3
       · exact .inl ⟨k,by omega,h2,h3⟩
   · rename_i h;rw[ih];constructor
     · rintro ⟨k,h1,h2,h3⟩;exact ⟨k,by omega,h2,h3⟩
     · rintro ⟨k,h1,h2,h3⟩;by_cases e:k=j
       · subst e;exact absurd h2 h
       · exact ⟨k,by omega,h2,h3⟩
theorem vv (q:Nat→Int) (F T:Int):∀ j,(cE q F T j).Nodup
 | 0=>List.nodup_nil
 | j + 1=>by
   have ih:=vv q F T j;unfold cE;split
   · rw[List.nodup_append];refine ⟨ih,by simp,?_⟩;intro a ha b hb e;rw[List.mem_singleton] at hb;obtain ⟨k,h1,_,h3⟩:=(mI q F T a j).1 ha;omega
   · exact ih
theorem dp {L:List Nat} (hn:L.Nodup) {M:List Int} (h:∀ x ∈ L,(x:Int) ∈ M):L.length≤M.length:=by
 have:=fT hn (M:=M.map Int.toNat) (fun x hx=>List.mem_map.2 ⟨(x:Int),h x hx,rfl⟩);rwa [List.length_map] at this
theorem nC (f:Nat→Int):∀ (L:List Nat),L≠[]→∃ a ∈ L,∀ b ∈ L,f a≤f b
 | [],h=>absurd rfl h
 | [a],_=>⟨a,by simp,by simp⟩
 | a::b::L,_=>by
   obtain ⟨c,hc,h⟩:=nC f (b::L) (by simp);by_cases e:f a≤f c
   · exact ⟨a,by simp,fun x hx=>by
      rcases List.mem_cons.1 hx with rfl | hx
      · exact Int.le_refl _
      · have:=h x hx;omega⟩
   · exact ⟨c,List.mem_cons_of_mem _ hc,fun x hx=>by
      rcases List.mem_cons.1 hx with rfl | hx
      · omega
      · exact h x hx⟩
theorem I5 {q:Nat→Int} {U:Nat} (h:lh q U U=none):Room U (fun c=>q (2*c)) (fun c=>q (2*c+1)):=by
 have hf:∀ F T,¬ ∃ j k,j<U∧k<U∧F=q (2*j)∧T=q (2*k+1)∧pB q U F T=true:=by
  rcases pd q U U with h1 | ⟨f,t,h1,_⟩
  · rw[h] at h1;exact h1
  · rw[h] at h1;cases h1
 intro s t L hn hne hL;obtain ⟨a,ha,ha2⟩:=nC (fun c=>q (2*c)) L hne;obtain ⟨b,hb,hb2⟩:=nC (fun c=>-q (2*c+1)) L hne;have h1:=hf (q (2*a)) (q (2*b+1));have hov:pB q U (q (2*a)) (q (2*b+1))=false:=by
  cases e:pB q U (q (2*a)) (q (2*b+1)) with
  | false=>rfl
  | true=>exact absurd ⟨a,b,(hL a ha).1,(hL b hb).1,rfl,rfl,e⟩ h1
 have hle:L.length≤(cE q (q (2*a)) (q (2*b+1)) U).length:=dp hn fun x hx=>by
  refine (mI _ _ _ _ _).2 ⟨x,(hL x hx).1,?_,rfl⟩;have e1:=ha2 x hx;have e2:=hb2 x hx;unfold m9;rw[Bool.and_eq_true,decide_eq_true_iff,decide_eq_true_iff];constructor
  · exact e1
  · have e2:-q (2*b+1)≤-q (2*x+1):=e2;omega
 have hpos:0<L.length:=List.length_pos_iff.2 hne;unfold pB at hov;rw[decide_eq_true (show 0<(cE q (q (2*a)) (q (2*b+1)) U).length by omega),Bool.true_and,decide_eq_false_iff_not] at hov;have e3:s≤q (2*a):=(hL a ha).2.1;have e4:q (2*b+1)≤t:=(hL b hb).2.2;omega
theorem mg {n:Nat} {ok:Nat→Nat→Nat→Bool}:∀ {k:Nat} {L:List Nat},L ∈ ro n ok k↔L.length=k∧∀ i (h:i<L.length),L[i]<n∧(mask (L.take i)).testBit L[i]=false∧ok i (mask (L.take i)) L[i]=true
 | 0,L=>by
   show L ∈ [[]]↔_;rw[List.mem_singleton];constructor
   · rintro rfl;exact ⟨rfl,fun i h=>absurd h (Nat.not_lt_zero i)⟩
   · rintro ⟨h,_⟩;exact List.eq_nil_of_length_eq_zero h
 | k + 1,L=>by
   show L ∈ (ro n ok k).flatMap (fun L=>(nx ok n k (mask L)).map fun c=>L++[c])↔_;rw[List.mem_flatMap];constructor
   · rintro ⟨M,hM,hx⟩;obtain ⟨c,hc,rfl⟩:=List.mem_map.1 hx;obtain ⟨h1,h2⟩:=mg.1 hM;obtain ⟨c1,c2,c3⟩:=ma.1 hc;refine ⟨by rw[List.length_append,h1];rfl,fun i hi=>?_⟩;by_cases e:i<M.length
     · rw[List.getElem_append_left e,List.take_append_of_le_length wO];exact h2 i e
     · have:i=M.length:=by rw[List.length_append,List.length_singleton] at hi;omega
       subst this;rw[List.getElem_append_right (Nat.le_refl _),List.take_left' rfl];simp only[Nat.sub_self,List.getElem_cons_zero];rw[h1];exact ⟨c1,c2,c3⟩
   · rintro ⟨h1,h2⟩;have hne:L≠[]:=by intro e;rw[e] at h1;cases h1
     have hd:L.dropLast++[L.getLast hne]=L:=List.dropLast_concat_getLast hne;have hdl:L.dropLast.length=k:=by rw[List.length_dropLast,h1];rfl
     have ht:∀ i,i≤k→L.dropLast.take i=L.take i:=fun i hi=>by
      rw[List.dropLast_eq_take,List.take_take,Nat.min_eq_left wO]
     refine ⟨L.dropLast,mg.2 ⟨hdl,fun i hi=>?_⟩,List.mem_map.2 ⟨L.getLast hne,?_,hd⟩⟩
     · rw[ht i wO,List.getElem_dropLast];exact h2 i wO
     · have:=h2 k wO;rw[ma,List.getLast_eq_getElem];have e:L.take k=L.dropLast:=by rw[List.dropLast_eq_take,h1];rfl
       rw[e] at this;simpa[h1] using this
end Go.Eng
end
