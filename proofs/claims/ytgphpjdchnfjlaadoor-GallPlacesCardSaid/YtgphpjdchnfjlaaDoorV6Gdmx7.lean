/- Gall: the reference's Count, Must, Places: trees. -/
import Derived.Test.YtgphpjdchnfjlaaDoorV6Gdjx5
import Derived.Test.YtgphpjdchnfjlaaDoorV6Gahx19
import Derived.Test.YtgphpjdchnfjlaaDoorV6Gbjx18
set_option linter.unusedVariables false
set_option linter.unusedSimpArgs false
set_option maxRecDepth 100000
section
namespace Go.Eng
open Int (ofNat)
open Go.Proofs Go.Eng.Gall
noncomputable def oO (c:Int) (o:AV) (j:Int):aC:=[(1,.int .i64 c),(2,.ptr 0 0 0 0),(6,o),(7,.int .i64 j)]
theorem Xy (n:Nat) (O:Int) (U:Nat) (Z:Nat→Int) (V:Nat) (J:Nat→Int) (H:ab) (M:Nat) (y:Nat→Int) (C:List AV→Prop):bg Tryd.prog (cd n) 100000 66 Tryd.f66 (KtG.kt 66) (il (lW aF 72 (fun x=>some (C x,cw M y true))) n 0) aR aQ [(a8 O U Z V J,none)] H =
 Tr.reqP (C [a8 O U Z V J,AV.int .i64 (Int.negSucc 0),AV.int .i64 (Int.negSucc 0),AV.int .i64 (Int.negSucc 0),AV.int .i64 (Int.negSucc 0)]) (Tr.req (c6 (ofNat 0) M) (Tr.req (cK 0 M) (Tr.ok ((AV.int .i64 (y 0),none),H)))):=by kernel_rfl
theorem Xm (n:Nat) (O:Int) (U:Nat) (Z:Nat→Int) (V:Nat) (J:Nat→Int) (H:ab) (e m:Int):bg Tryd.prog (cd n) 100000 35 Tryd.f35 (KtG.kt 35) (il (tX (tX aF 23 [a8 O U Z V J] (.int .i64 e)) 66 [a8 O U Z V J] (.int .i64 m)) n 0) aR aQ [(a8 O U Z V J,none)] H =
 Tr.reqP ([a8 O U Z V J]=[a8 O U Z V J]) (Tr.ite (bF (b9 e (ofNat 0))) (Tr.reqP ([a8 O U Z V J]=[a8 O U Z V J]) (Tr.ok ((AV.tup [iI 0,AV.int .i64 e],none),H))) (Tr.reqP ([a8 O U Z V J]=[a8 O U Z V J]) (Tr.ok ((AV.tup [AV.int .i64 m,iI 0],none),H)))):=by kernel_rfl
theorem S3 (n:Nat) (O:Int) (U:Nat) (Z:Nat→Int) (V:Nat) (J:Nat→Int) (H:ab) (e:Int):bg Tryd.prog (cd n) 100000 35 Tryd.f35 (KtG.kt 35) (il (tN (tX aF 23 [a8 O U Z V J] (.int .i64 e)) 66) n 0) aR aQ [(a8 O U Z V J,none)] H =
 Tr.reqP ([a8 O U Z V J]=[a8 O U Z V J]) (Tr.ite (bF (b9 e (ofNat 0))) (Tr.reqP ([a8 O U Z V J]=[a8 O U Z V J]) (Tr.ok ((AV.tup [iI 0,AV.int .i64 e],none),H))) Tr.bad):=by kernel_rfl
theorem Xk (n:Nat) (O:Int) (U:Nat) (Z:Nat→Int) (V:Nat) (J:Nat→Int) (H:ab) (a b e m:Int) (q:Bool) (M:Nat) (y:Nat→Int) (C C2:List AV→Prop):bg Tryd.prog (cd n) 100000 33 Tryd.f33 (KtG.kt 33) (il (lW (tX (lW (tX aF 51 [a8 O U Z V J,.int .i64 a] (.int .i64 e)) 52 (fun x=>some (C2 x,.bool q))) 66 [a8 O U Z V J] (.int .i64 m)) 72 (fun x=>some (C x,cw M y true))) n 0) aR aQ [(a8 O U Z V J,none),(.int .i64 a,none),(.int .i64 b,none)] H =
 (fun (Z0:List AV)=>Tr.reqP (Z0=Z0) (Tr.ite (bF (b9 e (ofNat 0))) (Tr.reqP (Z0=Z0) (Tr.ok ((AV.tup [AV.bool false,AV.int .i64 e],none),H))) (Tr.reqP (C2 [a8 O U Z V J,AV.int .i64 b]) (Tr.ite (bF q) (Tr.ok ((AV.tup [AV.bool false,iI 2],none),H)) (Tr.reqP ([a8 O U Z V J]=[a8 O U Z V J]) (Tr.ite (b9 m (ofNat 0)) (Tr.ok ((AV.tup [AV.bool false,iI 13],none),H)) (Tr.ite (bF (b9 a b)) (Tr.reqP (C [a8 O U Z V J,AV.int .i64 b,AV.int .i64 a,AV.int .i64 (Int.negSucc 0),AV.int .i64 (Int.negSucc 0)]) (Tr.req (c6 (ofNat 0) M) (Tr.req (cK 0 M) (Tr.ok ((AV.tup [AV.bool (b9 (y 0) (ofNat 0)),iI 0],none),H))))) (Tr.ok ((AV.tup [AV.bool false,iI 0],none),H))))))))) [a8 O U Z V J,AV.int .i64 a]:=by kernel_rfl
theorem S1 (n:Nat) (O:Int) (U:Nat) (Z:Nat→Int) (V:Nat) (J:Nat→Int) (H:ab) (a b e:Int) (q:Bool) (C2:List AV→Prop):bg Tryd.prog (cd n) 100000 33 Tryd.f33 (KtG.kt 33) (il (tN (tN (lW (tX aF 51 [a8 O U Z V J,.int .i64 a] (.int .i64 e)) 52 (fun x=>some (C2 x,.bool q))) 66) 72) n 0) aR aQ [(a8 O U Z V J,none),(.int .i64 a,none),(.int .i64 b,none)] H =
 (fun (Z0:List AV)=>Tr.reqP (Z0=Z0) (Tr.ite (bF (b9 e (ofNat 0))) (Tr.reqP (Z0=Z0) (Tr.ok ((AV.tup [AV.bool false,AV.int .i64 e],none),H))) (Tr.reqP (C2 [a8 O U Z V J,AV.int .i64 b]) (Tr.ite (bF q) (Tr.ok ((AV.tup [AV.bool false,iI 2],none),H)) Tr.bad)))) [a8 O U Z V J,AV.int .i64 a]:=by kernel_rfl
theorem SW (n:Nat) (O:Int) (U:Nat) (Z:Nat→Int) (V:Nat) (J:Nat→Int) (H:ab) (c e:Int):bg Tryd.prog (cd n) 100000 31 Tryd.f31 (KtG.kt 31) (il (tN (tX aF 51 [a8 O U Z V J,.int .i64 c] (.int .i64 e)) 66) n 0) (gf aR 0) aQ [(a8 O U Z V J,none),(.int .i64 c,none)] H =
 (fun (Z0:List AV)=>Tr.reqP (Z0=Z0) (Tr.ite (bF (b9 e (ofNat 0))) (Tr.reqP (Z0=Z0) (Tr.ok ((AV.tup [AV.nils,AV.int .i64 e],none),H))) Tr.bad)) [a8 O U Z V J,AV.int .i64 c]:=by kernel_rfl
theorem SX (n:Nat) (O:Int) (U:Nat) (Z:Nat→Int) (V:Nat) (J:Nat→Int) (H:ab) (c:Int):bg Tryd.prog (cd n) 100000 31 Tryd.f31 (KtG.kt 31) (il (tX (tX aF 51 [a8 O U Z V J,.int .i64 c] (.int .i64 (ofNat 0))) 66 [a8 O U Z V J] (.int .i64 (ofNat 0))) n 0) (gf aR 0) aQ [(a8 O U Z V J,none),(.int .i64 c,none)] H =
 (fun (Z0:List AV)=>Tr.reqP (Z0=Z0) (Tr.ite (bF (b9 (ofNat 0) (ofNat 0))) (Tr.reqP (Z0=Z0) (Tr.ok ((AV.tup [AV.nils,iI 0],none),H))) (Tr.reqP ([a8 O U Z V J]=[a8 O U Z V J]) (Tr.ite (b9 (ofNat 0) (ofNat 0)) (Tr.ok ((AV.tup [AV.nils,iI 13],none),H)) Tr.bad)))) [a8 O U Z V J,AV.int .i64 c]:=by kernel_rfl
theorem SV (n:Nat) (O:Int) (U:Nat) (Z:Nat→Int) (V:Nat) (J:Nat→Int) (H:ab) (c e m:Int) (v k:Nat) (y:Nat→Int):bg Tryd.prog (cd n) 100000 31 Tryd.f31 (KtG.kt 31) (il (tX (tX aF 51 [a8 O U Z V J,.int .i64 c] (.int .i64 e)) 66 [a8 O U Z V J] (.int .i64 m)) n 0) (cV aR 0 (oO c .nils (ofNat 0)) (dz O U Z V J::H) (.ok (.normal,hints (oO c (.slc 0 1 v 0 1 k none) (ofNat U)++[(22,.bool false)]),IH (.G [.int .i64 O,slA 4 U Z,slA 2 V J]) v k y::H))) aQ [(a8 O U Z V J,none),(.int .i64 c,none)] H =
 (fun (Z0:List AV)=>Tr.reqP (Z0=Z0) (Tr.ite (bF (b9 e (ofNat 0))) (Tr.reqP (Z0=Z0) (Tr.ok ((AV.tup [AV.nils,AV.int .i64 e],none),H))) (Tr.reqP ([a8 O U Z V J]=[a8 O U Z V J]) (Tr.ite (b9 m (ofNat 0)) (Tr.ok ((AV.tup [AV.nils,iI 13],none),H)) (Tr.reqP ([(1,AV.int .i64 c),(2,AV.ptr 0 0 0 0),(6,AV.nils),(7,iI 0)]=[(1,AV.int .i64 c),(2,AV.ptr 0 0 0 0),(6,AV.nils),(7,iI 0)]∧(bz [(0,dk O U Z V J)])::H=(bz [(0,dk O U Z V J)])::H) (Tr.req (cg v v) (Tr.req (eD 0 k 0 k) (Tr.ok ((AV.tup [cw k (rJ y 0) false,iI 0],none),H))))))))) [a8 O U Z V J,AV.int .i64 c]:=by kernel_rfl
theorem SI (n:Nat) (O:Int) (U:Nat) (Z:Nat→Int) (V:Nat) (J:Nat→Int) (H:ab) (c j:Int) (M:Nat) (w:Nat→Int) (C:List AV→Prop):aS (bQ n 31 37) (il (lW aF 72 (fun x=>some (C x,cw M w true))) n 0) aR aQ (part Tryd.f31 [1,1,1,1,0,1,0,0]) (hints (oO c .nils j)) (dz O U Z V J::H) =
 Tr.ite (bM j (ofNat U)) (Tr.reqP (C [a8 O U Z V J,AV.int .i64 (Int.negSucc 0),AV.int .i64 (Int.negSucc 0),AV.int .i64 c,AV.int .i64 j]) (Tr.req (c6 (ofNat 0) M) (Tr.req (cK 0 M) (Tr.ite (bM (ofNat 0) (w 0)) (Tr.req (ji 0 1 8) (Tr.req (cg 0 0) (Tr.req (fp 1 1) (Tr.ok (Ex.normal,[(1,AV.int .i64 c,none),(2,AV.ptr 0 0 0 0,none),(6,AV.slc 0 2 0 0 1 1 none,none),(7,AV.int .i64 (bm .i64 j (ofNat 1)),none)],(bz [(0,dk O U Z V J),(0,an.row (Row.I .i64 [j])),(0,an.row (rM (aI [j]) 1))])::H))))) (Tr.ok (Ex.normal,[(1,AV.int .i64 c,none),(2,AV.ptr 0 0 0 0,none),(6,AV.nils,none),(7,AV.int .i64 (bm .i64 j (ofNat 1)),none)],(bz [(0,dk O U Z V J)])::H)))))) (Tr.ok (Ex.exit 0,[(1,AV.int .i64 c,none),(2,AV.ptr 0 0 0 0,none),(6,AV.nils,none),(7,AV.int .i64 j,none),(22,AV.bool false,some 1)],(bz [(0,dk O U Z V J)])::H)):=by kernel_rfl
theorem SJ (n:Nat) (O:Int) (U:Nat) (Z:Nat→Int) (V:Nat) (J:Nat→Int) (H:ab) (c j:Int) (M:Nat) (w:Nat→Int) (C:List AV→Prop) (v k:Nat) (y:Nat→Int):aS (bQ n 31 37) (il (lW aF 72 (fun x=>some (C x,cw M w true))) n 0) aR aQ (part Tryd.f31 [1,1,1,1,0,1,0,0]) (hints (oO c (.slc 0 1 v 0 1 k none) j)) (IH (.G [.int .i64 O,slA 4 U Z,slA 2 V J]) v k y::H) =
 Tr.ite (bM j (ofNat U)) (Tr.reqP (C [a8 O U Z V J,AV.int .i64 (Int.negSucc 0),AV.int .i64 (Int.negSucc 0),AV.int .i64 c,AV.int .i64 j]) (Tr.req (c6 (ofNat 0) M) (Tr.req (cK 0 M) (Tr.ite (bM (ofNat 0) (w 0)) (Tr.req (ji k 1 8) (Tr.req (cg 0 0) (Tr.req (fp 1 1) (Tr.req (cg v v) (Tr.req (cg (au 0 k) k) (Tr.ok (Ex.normal,[(1,AV.int .i64 c,none),(2,AV.ptr 0 0 0 0,none),(6,AV.slc 0 1 (Nat.succ v) 0 1 (au k 1) none,none),(7,AV.int .i64 (bm .i64 j (ofNat 1)),none)],(bz [(0,dk O U Z V J),(Nat.succ v,an.row (rM (rV (rJ y 0) k (aI [j])) (au k 1))),(0,an.row (Row.I .i64 [j]))])::H))))))) (Tr.ok (Ex.normal,[(1,AV.int .i64 c,none),(2,AV.ptr 0 0 0 0,none),(6,AV.slc 0 1 v 0 1 k none,none),(7,AV.int .i64 (bm .i64 j (ofNat 1)),none)],(bz [(0,dk O U Z V J),(v,an.row (rM y k))])::H)))))) (Tr.ok (Ex.exit 0,[(1,AV.int .i64 c,none),(2,AV.ptr 0 0 0 0,none),(6,AV.slc 0 1 v 0 1 k none,none),(7,AV.int .i64 j,none),(22,AV.bool false,some 1)],(bz [(0,dk O U Z V J),(v,an.row (rM y k))])::H)):=by kernel_rfl
theorem Pd (n:Nat) (O:Int) (U:Nat) (Z:Nat→Int) (V:Nat) (J:Nat→Int) (H:ab) (c j:Int):aS (bQ n 31 37) (il aF n 0) aR aQ (part Tryd.f31 [1,1,1,1,0,1,0,0]) (hints (oO c .nils j)) (dz O U Z V J::H) =
 Tr.ite (bM j (ofNat U)) Tr.bad (Tr.ok (Ex.exit 0,[(1,AV.int .i64 c,none),(2,AV.ptr 0 0 0 0,none),(6,AV.nils,none),(7,AV.int .i64 j,none),(22,AV.bool false,some 1)],(bz [(0,dk O U Z V J)])::H)):=by kernel_rfl
theorem Pe (n:Nat) (O:Int) (U:Nat) (Z:Nat→Int) (V:Nat) (J:Nat→Int) (H:ab) (c j:Int) (v k:Nat) (y:Nat→Int):aS (bQ n 31 37) (il aF n 0) aR aQ (part Tryd.f31 [1,1,1,1,0,1,0,0]) (hints (oO c (.slc 0 1 v 0 1 k none) j)) (IH (.G [.int .i64 O,slA 4 U Z,slA 2 V J]) v k y::H) =
 Tr.ite (bM j (ofNat U)) Tr.bad (Tr.ok (Ex.exit 0,[(1,AV.int .i64 c,none),(2,AV.ptr 0 0 0 0,none),(6,AV.slc 0 1 v 0 1 k none,none),(7,AV.int .i64 j,none),(22,AV.bool false,some 1)],(bz [(0,dk O U Z V J),(v,an.row (rM y k))])::H)):=by kernel_rfl
end Go.Eng
end
section
namespace Go.Eng
open Go.Proofs Go.Eng.Gall
theorem To (n i:Nat) (e:Bool) (G:ab):bg Tryd.prog (cd n) 100000 89 Tryd.f89 (KtG.kt 89) (il aF n 0) (cV aR 0 (kd (Int.ofNat 0)) (av::G) (.ite e (.ok (.ret,[(4,.int .i64 (i:Int),none)],av::G)) (.ok (.normal,hints (kd (Int.ofNat 2)++[(9,.bool false)]),av::G)))) aQ [(nb 3,none),(jr 1,none)] G =
 (fun (Z0:aC)=>Tr.reqP (Z0=Z0∧av::G=av::G) (Tr.ite e (Tr.ok ((iI i,none),G)) (Tr.ok ((AV.int .i64 (Int.negSucc 0),some 1),G)))) [(0,AV.slc 4 1 0 0 1 2 (some 2)),(1,AV.fn (Fn.func 80) [] [AV.ptr 2 0 0 0]),(7,iI 2),(8,iI 0)]:=by kernel_rfl
theorem S9 (n:Nat) (O:Int) (U:Nat) (Z:Nat→Int) (V:Nat) (J:Nat→Int) (G:ab) (e:Int) (q:Bool):bg Tryd.prog (cd n) 100000 49 Tryd.f49 (KtG.kt 49) (il (tN (oo (tX aF 22 [a8 O U Z V J] (.int .i64 e)) 67 [nb 2,jr 0] (dz O U Z V J::G) (.ok (.bool q,dz O U Z V J::G))) 62) n 0) aR aQ [(a8 O U Z V J,none),(nb 1,none)] G =
 Tr.reqP ([a8 O U Z V J]=[a8 O U Z V J]) (Tr.ite (bF (b9 e (Int.ofNat 0))) (Tr.ok ((AV.tup [AV.nilp,AV.int .i64 e],none),G)) (Tr.reqP ([AV.slc 2 1 0 0 1 2 (some 2),AV.fn (Fn.func 80) [] [AV.ptr 0 0 0 0]]=[AV.slc 2 1 0 0 1 2 (some 2),AV.fn (Fn.func 80) [] [AV.ptr 0 0 0 0]]∧(bz [(0,dk O U Z V J)])::G=(bz [(0,dk O U Z V J)])::G) (Tr.ite q (Tr.ok ((AV.tup [AV.nilp,iI 2],none),G)) Tr.bad))):=by kernel_rfl
theorem Th (n:Nat) (O:Int) (U:Nat) (Z:Nat→Int) (V:Nat) (J:Nat→Int) (G:ab) (e:Int):bg Tryd.prog (cd n) 100000 69 Tryd.f69 (KtG.kt 69) (il (tN (oo aF 49 [a8 O U Z V J,nb 1] (dz O U Z V J::G) (.ok (.tup [.nilp,.int .i64 e],dz O U Z V J::G))) 65) n 0) aR aQ [(a8 O U Z V J,none),(nb 0,none)] G =
 Tr.reqP ([a8 O U Z V J,AV.slc 1 1 0 0 1 2 (some 2)]=[a8 O U Z V J,AV.slc 1 1 0 0 1 2 (some 2)]∧(bz [(0,dk O U Z V J)])::G=(bz [(0,dk O U Z V J)])::G) (Tr.ite (bF (b9 e (Int.ofNat 0))) (Tr.ok ((AV.tup [AV.nilp,AV.int .i64 e],none),G)) Tr.bad):=by kernel_rfl
theorem SZ (n:Nat) (O:Int) (U:Nat) (Z:Nat→Int) (V:Nat) (J:Nat→Int) (H:ab) (a b e:Int):bg Tryd.prog (cd n) 100000 32 Tryd.f32 (KtG.kt 32) (il (tN (tN (oo aF 69 [a8 O U Z V J,nb 0] (df (.G [.int .i64 O,slA 4 U Z,slA 2 V J]) a b::H) (.ok (.tup [.nilp,.int .i64 e],df (.G [.int .i64 O,slA 4 U Z,slA 2 V J]) a b::H))) 63) 65) n 0) aR aQ [(a8 O U Z V J,none),(.int .i64 a,none),(.int .i64 b,none)] H =
 Tr.reqP ([a8 O U Z V J,AV.slc 0 1 0 0 1 2 (some 2)]=[a8 O U Z V J,AV.slc 0 1 0 0 1 2 (some 2)]∧(bz [(0,dk O U Z V J),(0,an.row (Row.I .i64 [a,b]))])::H=(bz [(0,dk O U Z V J),(0,an.row (Row.I .i64 [a,b]))])::H) (Tr.ite (bF (b9 e (Int.ofNat 0))) (Tr.ok ((AV.tup [AV.bool false,AV.int .i64 e],none),H)) (Tr.ite (b9 a b) (Tr.ok ((AV.tup [AV.bool false,AV.int .i64 e],none),H)) Tr.bad)):=by kernel_rfl
theorem Xp (n:Nat) (O:Int) (U:Nat) (Z:Nat→Int) (V:Nat) (J:Nat→Int) (H:ab) (x:Int):bg Tryd.prog (cd n) 100000 52 Tryd.f52 (KtG.kt 52) (il aF n 0) aR aQ [(a8 O U Z V J,none),(.int .i64 x,none)] H =
 Tr.ite (dp (Int.ofNat 0) x) (Tr.ok ((AV.bool (bM x (Int.ofNat U)),none),H)) (Tr.ok ((AV.bool false,some 1),H)):=by kernel_rfl
end Go.Eng
end
section
namespace Go.Eng
open Go.Proofs Go.Eng.Gall Go.Eng.Q
section
variable {n:Nat} {W XQ:Nat→Int} {b d:Nat→Nat}
end
section
variable {O:Int} {U:Nat} {Z X:Nat→Int} {V:Nat} {J Y:Nat→Int}
end
end Go.Eng
end
section
namespace Go.Eng
open Go.Proofs Go.Eng.Gall Go.Eng.Q
section
variable {O:Int} {U:Nat} {Z:Nat→Int} {V:Nat} {J:Nat→Int}
theorem wN (h0:cu O U Z V J=0) {c:Nat} (hc:c<U):(cZ J c V).testBit c=false:=by
 obtain ⟨h1,h2,h3,h4,h5,h6⟩:=jM h0;cases h:(cZ J c V).testBit c
 · rfl
 · have:=CK (w:=fun _=>0) h6 hc hc h;omega
theorem wQ (h0:cu O U Z V J=0) {one two co pl:Int} {d:Nat→Nat} (hd:∀ b c,b<U→c<U→b≠c→((d c).testBit b=true↔(cZ J c V).testBit b=true∨((b:Int)=one∧(c:Int)=two))) (hs:∀ c,c<U→(d c).testBit c=false) (hl:∀ c,c<U→d c<2 ^ U) {k X c:Nat} (hc:c<U) (hX:X<2 ^ U):nY O U Z V J one two co pl k X c=true↔okW (c9 O U Z) (bI d) k X c=true∧¬ ((c:Int)=co∧0≤pl∧¬ (k:Int)=pl):=by
 obtain ⟨h1,h2,h3,h4,h5,h6⟩:=jM h0;have hp:2 ^ U≤2 ^ 10:=Nat.pow_le_pow_right (by decide) h1.2;have hp2:(2:Nat) ^ 10<2 ^ 62:=by decide
 have hdc:=hl c hc;rw[wP wO wO];unfold nY vR;rw[Int.toNat_natCast,Bool.and_eq_true,Bool.and_eq_true,Bool.and_eq_true,decide_eq_true_iff,decide_eq_true_iff,F0];have e1:(!(decide ((c:Int)=co) && (decide (0≤pl) && !decide ((k:Int)=pl))))=true↔¬ ((c:Int)=co∧0≤pl∧¬ (k:Int)=pl):=by
  rw[Bool.not_eq_true',← Bool.not_eq_true,Bool.and_eq_true,Bool.and_eq_true,decide_eq_true_iff,decide_eq_true_iff,Bool.not_eq_true',decide_eq_false_iff_not]
 have e2:(∀ b,b<U→Au V J one two X c b=false)↔∀ a,(d c).testBit a=true→X.testBit a=true:=by
  constructor
  · intro h a ha;have hal:a<U:=by
     by_cases q:a<U
     · exact q
     · rw[Nat.testBit_lt_two_pow (Nat.lt_of_lt_of_le hdc (Nat.pow_le_pow_right (by decide) wO))] at ha;cases ha
    have hne:a≠c:=by rintro rfl;rw[hs a hc] at ha;cases ha
    cases hx:X.testBit a
    · exfalso;have:=h a hal;unfold Au at this;rw[hx,decide_eq_false hne,De h5] at this;simp only[Bool.not_false,Bool.true_and] at this;rw[Bool.or_eq_false_iff] at this;rcases (hd a c hal hc hne).1 ha with q | ⟨q1,q2⟩
      · rw[this.1] at q;cases q
      · have t2:=this.2;rw[decide_eq_true q1,decide_eq_true q2] at t2;cases t2
    · rfl
  · intro h b hb;unfold Au;cases hx:X.testBit b
    · by_cases hne:b=c
      · rw[decide_eq_true hne];rfl
      · have hn:¬ (d c).testBit b=true:=fun q=>by rw[h b q] at hx;cases hx
        rw[hd b c hb hc hne] at hn;rw[decide_eq_false hne,De h5];simp only[Bool.not_false,Bool.true_and];rw[Bool.or_eq_false_iff];refine ⟨by rw[← Bool.not_eq_true];exact fun q=>hn (.inl q),?_⟩;rw[← Bool.not_eq_true,Bool.and_eq_true,decide_eq_true_iff,decide_eq_true_iff];exact fun q=>hn (.inr q)
    · rfl
 rw[e1,e2];constructor
 · rintro ⟨⟨⟨a1,a2⟩,a3⟩,a4⟩;exact ⟨⟨a4,a1,a2⟩,a3⟩
 · rintro ⟨⟨a4,a1,a2⟩,a3⟩;exact ⟨⟨⟨a1,a2⟩,a3⟩,a4⟩
theorem BA (h0:cu O U Z V J=0) {one two co pl:Int} {d:Nat→Nat} (hd:∀ b c,b<U→c<U→b≠c→((d c).testBit b=true↔(cZ J c V).testBit b=true∨((b:Int)=one∧(c:Int)=two))) (hs:∀ c,c<U→(d c).testBit c=false) (hl:∀ c,c<U→d c<2 ^ U) (L:List Nat):L ∈ ro U (nY O U Z V J one two co pl) U↔L ∈ ro U (okW (c9 O U Z) (bI d)) U∧∀ i (h:i<L.length),¬ ((L[i]:Int)=co∧0≤pl∧¬ (i:Int)=pl):=by
 have hm:∀ {ok:Nat→Nat→Nat→Bool},L ∈ ro U ok U→∀ i,mask (L.take i)<2 ^ U:=fun h i=>by
  obtain ⟨h1,h2,h3⟩:=ln h;exact wE (List.Nodup.sublist (List.take_sublist i L) h2) fun x hx=>h3 x (List.mem_of_mem_take hx)
 constructor
 · intro h;have hm:=hm h;obtain ⟨g1,g2⟩:=mA.1 h;refine ⟨mA.2 ⟨g1,fun i hi=>⟨(g2 i hi).1,(g2 i hi).2.1,((wQ h0 hd hs hl (g2 i hi).1 (hm i)).1 (g2 i hi).2.2).1⟩⟩,fun i hi=>((wQ h0 hd hs hl (g2 i hi).1 (hm i)).1 (g2 i hi).2.2).2⟩
 · rintro ⟨h,hr⟩;have hm:=hm h;obtain ⟨g1,g2⟩:=mA.1 h;exact mA.2 ⟨g1,fun i hi=>⟨(g2 i hi).1,(g2 i hi).2.1,(wQ h0 hd hs hl (g2 i hi).1 (hm i)).2 ⟨(g2 i hi).2.2,hr i hi⟩⟩⟩
theorem Nf {ok:Nat→Nat→Nat→Bool}:zW U ok 0 0=((ro U ok U).length:Int):=by
 unfold zW;rw[if_pos ⟨Nat.le_refl 0,Nat.two_pow_pos U⟩,JO]
theorem IJ (h0:cu O U Z V J=0):zW U (nY O U Z V J (Int.negSucc 0) (Int.negSucc 0) (Int.negSucc 0) (Int.negSucc 0)) 0 0=cntF U (c9 O U Z) (ia V J):=by
 obtain ⟨h1,h2,h3,h4,h5,h6⟩:=jM h0;rw[Nf];unfold cntF;congr 1;refine Gi (mB _ _ _) (mB _ _ _) fun L=>?_;rw[BA h0 (d:=fun c=>cZ J c V) (fun b c _ _ _=>⟨.inl,fun h=>h.elim id fun h=>by have:=h.1;omega⟩) (fun c hc=>wN h0 hc) (fun c _=>nu J c U V fun i hi=>(h5 i hi).1)];exact ⟨fun h=>h.1,fun h=>⟨h,fun i hi q=>by have:=q.2.1;omega⟩⟩
theorem GN (h0:cu O U Z V J=0) {c k:Nat} (hc:c<U) (hk:k<U):0<zW U (nY O U Z V J (Int.negSucc 0) (Int.negSucc 0) (c:Int) (k:Int)) 0 0↔qI U (fun c=>cZ J c V) (c9 O U Z) c k=true:=by
 obtain ⟨h1,h2,h3,h4,h5,h6⟩:=jM h0;rw[Bx (zn O U Z V J h1.2 h3 h4 h5 h6) uh hc hk,Nf];have key:∀ L,L ∈ ro U (nY O U Z V J (Int.negSucc 0) (Int.negSucc 0) (c:Int) (k:Int)) U↔L ∈ ro U (okW (c9 O U Z) (bI fun c=>cZ J c V)) U∧L.idxOf c=k:=fun L=>by
  rw[BA h0 (d:=fun c=>cZ J c V) (fun b c _ _ _=>⟨.inl,fun h=>h.elim id fun h=>by have:=h.1;omega⟩) (fun c hc=>wN h0 hc) (fun c _=>nu J c U V fun i hi=>(h5 i hi).1)];constructor
  · rintro ⟨h,hr⟩;refine ⟨h,?_⟩;obtain ⟨g1,g2,g3⟩:=ln h;obtain ⟨hi,e⟩:=gm (fk g2 g1 g3 hc);by_cases q:L.idxOf c=k
    · exact q
    · exact absurd ⟨by rw[e],by omega,by omega⟩ (hr _ hi)
  · rintro ⟨h,hr⟩;refine ⟨h,fun i hi q=>?_⟩;obtain ⟨g1,g2,g3⟩:=ln h;have e:L[i]=c:=by have:=q.1;omega
    have:=Ga g2 hi;rw[e] at this;have:=q.2.2;omega
 constructor
 · intro h;have hpos:0<(ro U (nY O U Z V J (Int.negSucc 0) (Int.negSucc 0) (c:Int) (k:Int)) U).length:=by omega
   obtain ⟨L,hL⟩:=List.exists_mem_of_length_pos hpos;exact ⟨L,(key L).1 hL⟩
 · rintro ⟨L,hL⟩;have:=List.length_pos_of_mem ((key L).2 hL);omega
theorem I9 (h0:cu O U Z V J=0) {a b:Nat} (ha:a<U) (hb:b<U) (hab:a≠b):zW U (nY O U Z V J (b:Int) (a:Int) (Int.negSucc 0) (Int.negSucc 0)) 0 0=Nr O U Z V J b a:=by
 obtain ⟨h1,h2,h3,h4,h5,h6⟩:=jM h0;rw[Nf];unfold Nr cntF;congr 1;refine Gi (mB _ _ _) (mB _ _ _) fun L=>?_;rw [BA h0 (d:=oC (fun c=>cZ J c V) a b) (fun x c _ _ _=>by
  rw[Fg,Bool.or_eq_true,Bool.and_eq_true,decide_eq_true_iff,decide_eq_true_iff];constructor
  · rintro (q | ⟨q1,q2⟩)
    · exact .inl q
    · exact .inr ⟨by omega,by omega⟩
  · rintro (q | ⟨q1,q2⟩)
    · exact .inl q
    · exact .inr ⟨by omega,by omega⟩) (fun c hc=>by
  rw[Fg,wN h0 hc,Bool.false_or,Bool.and_eq_false_iff];by_cases e:c=a
  · exact .inr (decide_eq_false wO)
  · exact .inl (decide_eq_false e)) (fun c _=>B9 U V J a b h5 hb c)]
 exact ⟨fun h=>h.1,fun h=>⟨h,fun i hi q=>by have:=q.2.1;omega⟩⟩
end
end Go.Eng
end
section
namespace Go.Eng
open Int (ofNat)
open Go.Proofs Go.Eng.Gall
noncomputable def Bi (O:Int) (U:Nat) (Z:Nat→Int) (V:Nat) (J:Nat→Int) (c:Int):bG:=gr (0,.row (.G [.int .i64 O,slA 4 U Z,slA 2 V J])) (0,.row (.I .i64 [c])) (0,.row (.G [.nils])) (0,.row (.I .i64 [ofNat 0])) c
noncomputable def sq (R:Row):aC:=[(3,.ptr 0 1 0 0),(4,.ptr 0 2 0 0),(5,.ptr 0 3 0 0),(6,.ptr 0 5 0 0),(8,.ptr 0 6 0 0),(25,Le 0 R)]
noncomputable def vY (r0 R:Row) (c:Int) (D A:AV):List (Nat×an):=[(0,.row r0),(0,.row (.I .i64 [c])),(0,.row (.G [D])),(0,.row (.I .i64 [ofNat 0])),(0,.row (.I .i64 [c])),(0,.row (.G [.ptrT none R 0])),(0,.row (.G [A]))]
noncomputable def Bf (r0 R:Row) (c:Int) (k:Nat×an):bG:=⟨false,vY r0 R c .nils .nils++[k]⟩
noncomputable def EL (r0 R:Row) (c:Int) (k:Nat×an) (v m:Nat) (y:Nat→Int):bG:=⟨false,vY r0 R c .nils (.slc 0 8 v 0 1 m none)++[k,(v,.row (.M [.arr .i64 y m]))]⟩
noncomputable def OC (r0 R:Row) (c:Int) (k:Nat×an) (x:Int):bG:=⟨false,vY r0 R c (.slc 0 8 0 0 1 1 (some 1)) .nils++[k,(0,.row (.I .i64 [x]))]⟩
noncomputable def FQ (k:Int):aC:=[(3,.ptr 2 1 0 0),(4,.ptr 2 2 0 0),(5,.ptr 2 3 0 0),(6,.ptr 2 5 0 0),(8,.ptr 2 6 0 0),(9,.int .i64 k)]
noncomputable def lC (U:Nat) (j:Int):aC:=[(0,.yld 1 7),(9,.int .i64 (ofNat U)),(10,.int .i64 j)]
theorem MX (n:Nat) (U:Nat) (j:Int) (G G':ab) (q:Bool):aS (bQ n 90 18) (PY (il aF n 0) 1 7 [.int .i64 j] (av::G) (.ok (.bool q,av::G'))) aR aQ (part Tryd.f90 [1,0,0]) (hints (lC U j)) (av::G) =
 Tr.ite (bM j (ofNat U)) (Tr.reqP ([AV.int .i64 j]=[AV.int .i64 j]∧av::G=av::G) (Tr.ite (bF q) (Tr.ok (Ex.ret,[(0,AV.yld 1 7,none),(9,iI U,none),(10,AV.int .i64 j,none),(16,AV.bool true,some 1)],av::G')) (Tr.ok (Ex.normal,[(0,AV.yld 1 7,none),(9,iI U,none),(10,AV.int .i64 (bm .i64 j (ofNat 1)),none)],av::G')))) (Tr.ok (Ex.exit 0,[(0,AV.yld 1 7,none),(9,iI U,none),(10,AV.int .i64 j,none),(11,AV.bool false,some 1)],av::G)):=by kernel_rfl
theorem SO (n:Nat) (U:Nat) (j:Int) (G:ab):aS (bQ n 90 18) (il aF n 0) aR aQ (part Tryd.f90 [1,0,0]) (hints (lC U j)) (av::G) =
 Tr.ite (bM j (ofNat U)) Tr.bad (Tr.ok (Ex.exit 0,[(0,AV.yld 1 7,none),(9,iI U,none),(10,AV.int .i64 j,none),(11,AV.bool false,some 1)],av::G)):=by kernel_rfl
theorem Tq (n:Nat) (O:Int) (U:Nat) (Z:Nat→Int) (V:Nat) (J:Nat→Int) (W B:Nat→Int) (G G':ab):bg Tryd.prog (cd n) 100000 90 Tryd.f90 (KtG.kt 90) (il aF n 0) (cV aR 0 (lC U (ofNat 0)) (av::G) (.ok (.normal,hints (lC U (ofNat U)++[(11,.bool false)]),av::G'))) aQ [(.yld 0 7,none),(.ptrT (some 0) (.G [shV O U Z V J W B]) 0,none)] G =
 Tr.reqP ([(0,AV.yld 1 7),(9,iI U),(10,iI 0)]=[(0,AV.yld 1 7),(9,iI U),(10,iI 0)]∧av::G=av::G) (Tr.ok ((AV.tup [],none),G')):=by kernel_rfl
theorem Ts (n:Nat) (O:Int) (U:Nat) (Z:Nat→Int) (V:Nat) (J:Nat→Int) (W B:Nat→Int) (G G':ab) (k:Int):bg Tryd.prog (cd n) 100000 90 Tryd.f90 (KtG.kt 90) (il aF n 0) (cV aR 0 (lC U (ofNat 0)) (av::G) (.ok (.ret,hints (lC U k++[(16,.bool true)]),av::G'))) aQ [(.yld 0 7,none),(.ptrT (some 0) (.G [shV O U Z V J W B]) 0,none)] G =
 Tr.reqP ([(0,AV.yld 1 7),(9,iI U),(10,iI 0)]=[(0,AV.yld 1 7),(9,iI U),(10,iI 0)]∧av::G=av::G) (Tr.ok ((AV.tup [],none),G')):=by kernel_rfl
theorem MT (n:Nat) (R:Row) (L:bG) (H:ab) (k:Int):aS (jx n 30 60 2 7) (il aF n 0) aR aQ (part Tryd.f30 [1,1,1,1,0,1,0,0]) (hints [(3,.ptr 2 1 0 0),(4,.ptr 2 2 0 0),(5,.ptr 2 3 0 0),(6,.ptr 2 5 0 0),(8,.ptr 2 6 0 0),(25,Le 2 R),(26,.int .i64 k)]) (av::av::L::H) =
 Tr.ok (Ex.normal,[(3,AV.ptr 2 1 0 0,none),(4,AV.ptr 2 2 0 0,none),(5,AV.ptr 2 3 0 0,none),(6,AV.ptr 2 5 0 0,none),(8,AV.ptr 2 6 0 0,none),(9,AV.int .i64 k,none)],av::av::L::H):=by kernel_rfl
theorem Pc (n:Nat) (O:Int) (U:Nat) (Z:Nat→Int) (V:Nat) (J:Nat→Int) (W B:Nat→Int) (H:ab) (r0:Row) (k c:Int) (K:Nat×an) (s q:Bool) (f t:Int):aS (jx n 30 60 2 7) (il (oo (oo aF 71 [.ptr 0 0 0 0,.int .i64 c,.int .i64 k] (⟨false,[(0,.row (shR O U Z V J W B))]⟩::av::Bf r0 (shR O U Z V J W B) c K::H) (.ok (.bool s,⟨false,[(0,.row (shR O U Z V J W B))]⟩::av::Bf r0 (shR O U Z V J W B) c K::H))) 65 [.ptr 0 0 0 0] (⟨false,[(0,.row (shR O U Z V J (dc (dc W (cq (aw 3 c 2) 3) k) (cq (au (aw 3 c 2) 1) 3) k) B)),(0,.row (.I .i64 [k,k]))]⟩::av::Bf r0 (shR O U Z V J W B) c K::H) (.ok (.tup [.agg (.G [.int .i64 f,.int .i64 t,.undef]),.bool q],⟨false,[(0,.row (shR O U Z V J (dc (dc W (cq (aw 3 c 2) 3) k) (cq (au (aw 3 c 2) 1) 3) k) B)),(0,.row (.I .i64 [k,k]))]⟩::av::Bf r0 (shR O U Z V J W B) c K::H))) n 0) aR aQ (part Tryd.f30 [1,1,1,1,0,1,0,1]) (hints (FQ k)) (av::av::Bf r0 (shR O U Z V J W B) c K::H) =
 (fun (Z0:bG)=>((fun (Z1:Nat×an)=>((fun (Z2:Nat×an)=>((fun (Z3:Nat×an)=>Tr.reqP ([AV.ptr 0 0 0 0,AV.int .i64 c,AV.int .i64 k]=[AV.ptr 0 0 0 0,AV.int .i64 c,AV.int .i64 k]∧(bz [Z3])::av::Z0::H=(bz [Z3])::av::Z0::H) (Tr.ite (bF s) (Tr.ok (Ex.normal,[(3,AV.ptr 2 1 0 0,none),(4,AV.ptr 2 2 0 0,none),(5,AV.ptr 2 3 0 0,none),(8,AV.ptr 2 6 0 0,none),(9,AV.int .i64 k,none),(10,AV.ptr 0 0 0 0,none),(33,AV.bool true,some 1)],(bz [Z3])::av::Z0::H)) (Tr.req (c6 c 10) (Tr.req (cg 0 0) (Tr.req (eD (aw 3 c 2) 1 3 20) (Tr.req (eD (au (aw 3 c 2) 1) 1 3 20) (Tr.ite (bV (b9 (W (cq (aw 3 c 2) 3)) k) (b9 (W (cq (au (aw 3 c 2) 1) 3)) k)) (Tr.ok (Ex.ret,[],(bz [Z3,Z2,(0,an.dead)])::av::(bz [(0,an.row r0),(0,an.row (Row.I .i64 [c])),(0,an.row (Row.G [AV.slc 0 8 0 0 1 1 (some 1)])),(0,an.row (Row.I .i64 [ofNat 0])),(0,an.row (Row.I .i64 [c])),(0,an.row (Row.G [shV O U Z V J W B])),(0,an.row (Row.G [AV.nils])),K,(0,an.row (Row.I .i64 [k]))])::H)) (Tr.req (c6 c 10) (Tr.req (cg 0 0) (Tr.req (eD (aw 3 c 2) 1 3 20) (Tr.req (eD (au (aw 3 c 2) 1) 1 3 20) (Tr.reqP ([AV.ptr 0 0 0 0]=[AV.ptr 0 0 0 0]∧(bz [Z1,Z2])::av::Z0::H=(bz [Z1,Z2])::av::Z0::H) (Tr.ite (bF q) (Tr.req (ji 0 1 8) (Tr.req (cg 0 0) (Tr.req (fp 1 1) (Tr.ok (Ex.normal,[],(bz [Z1,Z2,(0,an.row (Row.G [AV.int .i64 f,AV.int .i64 t,AV.undef])),(0,an.row (Row.I .i64 [k])),(0,an.dead)])::av::(bz [(0,an.row r0),(0,an.row (Row.I .i64 [c])),(0,an.row (Row.G [AV.nils])),(0,an.row (Row.I .i64 [ofNat 0])),(0,an.row (Row.I .i64 [c])),(0,an.row (Row.G [shV O U Z V J W B])),(0,an.row (Row.G [AV.slc 0 8 0 0 1 1 none])),K,(0,an.row (rM (aI [k]) 1))])::H))))) (Tr.ok (Ex.normal,[(8,AV.ptr 2 6 0 0,none),(9,AV.int .i64 k,none),(54,AV.bool false,some 1)],(bz [Z1,Z2,(0,an.row (Row.G [AV.int .i64 f,AV.int .i64 t,AV.undef]))])::av::Z0::H))))))))))))))) (0,an.row (shR O U Z V J W B)))) (0,an.row (Row.I .i64 [k,k])))) (0,an.row (shR O U Z V J (dc (dc W (cq (aw 3 c 2) 3) k) (cq (au (aw 3 c 2) 1) 3) k) B)))) (bz [(0,an.row r0),(0,an.row (Row.I .i64 [c])),(0,an.row (Row.G [AV.nils])),(0,an.row (Row.I .i64 [ofNat 0])),(0,an.row (Row.I .i64 [c])),(0,an.row (Row.G [shV O U Z V J W B])),(0,an.row (Row.G [AV.nils])),K]):=by kernel_rfl
theorem SH (n:Nat) (O:Int) (U:Nat) (Z:Nat→Int) (V:Nat) (J:Nat→Int) (W B:Nat→Int) (H:ab) (r0:Row) (k c:Int) (K:Nat×an) (s q:Bool) (f t:Int) (v m:Nat) (y:Nat→Int):aS (jx n 30 60 2 7) (il (oo (oo aF 71 [.ptr 0 0 0 0,.int .i64 c,.int .i64 k] (⟨false,[(0,.row (shR O U Z V J W B))]⟩::av::EL r0 (shR O U Z V J W B) c K v m y::H) (.ok (.bool s,⟨false,[(0,.row (shR O U Z V J W B))]⟩::av::EL r0 (shR O U Z V J W B) c K v m y::H))) 65 [.ptr 0 0 0 0] (⟨false,[(0,.row (shR O U Z V J (dc (dc W (cq (aw 3 c 2) 3) k) (cq (au (aw 3 c 2) 1) 3) k) B)),(0,.row (.I .i64 [k,k]))]⟩::av::EL r0 (shR O U Z V J W B) c K v m y::H) (.ok (.tup [.agg (.G [.int .i64 f,.int .i64 t,.undef]),.bool q],⟨false,[(0,.row (shR O U Z V J (dc (dc W (cq (aw 3 c 2) 3) k) (cq (au (aw 3 c 2) 1) 3) k) B)),(0,.row (.I .i64 [k,k]))]⟩::av::EL r0 (shR O U Z V J W B) c K v m y::H))) n 0) aR aQ (part Tryd.f30 [1,1,1,1,0,1,0,1]) (hints (FQ k)) (av::av::EL r0 (shR O U Z V J W B) c K v m y::H) =
 (fun (Z0:bG)=>((fun (Z1:Nat×an)=>((fun (Z2:Nat×an)=>((fun (Z3:Nat×an)=>Tr.reqP ([AV.ptr 0 0 0 0,AV.int .i64 c,AV.int .i64 k]=[AV.ptr 0 0 0 0,AV.int .i64 c,AV.int .i64 k]∧(bz [Z3])::av::Z0::H=(bz [Z3])::av::Z0::H) (Tr.ite (bF s) (Tr.ok (Ex.normal,[(3,AV.ptr 2 1 0 0,none),(4,AV.ptr 2 2 0 0,none),(5,AV.ptr 2 3 0 0,none),(8,AV.ptr 2 6 0 0,none),(9,AV.int .i64 k,none),(10,AV.ptr 0 0 0 0,none),(33,AV.bool true,some 1)],(bz [Z3])::av::Z0::H)) (Tr.req (c6 c 10) (Tr.req (cg 0 0) (Tr.req (eD (aw 3 c 2) 1 3 20) (Tr.req (eD (au (aw 3 c 2) 1) 1 3 20) (Tr.ite (bV (b9 (W (cq (aw 3 c 2) 3)) k) (b9 (W (cq (au (aw 3 c 2) 1) 3)) k)) (Tr.ok (Ex.ret,[],(bz [Z3,Z2,(0,an.dead)])::av::(bz [(0,an.row r0),(0,an.row (Row.I .i64 [c])),(0,an.row (Row.G [AV.slc 0 9 0 0 1 1 (some 1)])),(0,an.row (Row.I .i64 [ofNat 0])),(0,an.row (Row.I .i64 [c])),(0,an.row (Row.G [shV O U Z V J W B])),(0,an.row (Row.G [AV.slc 0 8 v 0 1 m none])),K,(v,an.row (rM y m)),(0,an.row (Row.I .i64 [k]))])::H)) (Tr.req (c6 c 10) (Tr.req (cg 0 0) (Tr.req (eD (aw 3 c 2) 1 3 20) (Tr.req (eD (au (aw 3 c 2) 1) 1 3 20) (Tr.reqP ([AV.ptr 0 0 0 0]=[AV.ptr 0 0 0 0]∧(bz [Z1,Z2])::av::Z0::H=(bz [Z1,Z2])::av::Z0::H) (Tr.ite (bF q) (Tr.req (ji m 1 8) (Tr.req (cg 0 0) (Tr.req (fp 1 1) (Tr.req (cg v v) (Tr.req (cg (au 0 m) m) (Tr.ok (Ex.normal,[],(bz [Z1,Z2,(0,an.row (Row.G [AV.int .i64 f,AV.int .i64 t,AV.undef])),(0,an.row (Row.I .i64 [k]))])::av::(bz [(0,an.row r0),(0,an.row (Row.I .i64 [c])),(0,an.row (Row.G [AV.nils])),(0,an.row (Row.I .i64 [ofNat 0])),(0,an.row (Row.I .i64 [c])),(0,an.row (Row.G [shV O U Z V J W B])),(0,an.row (Row.G [AV.slc 0 8 (Nat.succ v) 0 1 (au m 1) none])),K,(Nat.succ v,an.row (rM (rV (rJ y 0) m (aI [k])) (au m 1)))])::H))))))) (Tr.ok (Ex.normal,[(8,AV.ptr 2 6 0 0,none),(9,AV.int .i64 k,none),(54,AV.bool false,some 1)],(bz [Z1,Z2,(0,an.row (Row.G [AV.int .i64 f,AV.int .i64 t,AV.undef]))])::av::Z0::H))))))))))))))) (0,an.row (shR O U Z V J W B)))) (0,an.row (Row.I .i64 [k,k])))) (0,an.row (shR O U Z V J (dc (dc W (cq (aw 3 c 2) 3) k) (cq (au (aw 3 c 2) 1) 3) k) B)))) (bz [(0,an.row r0),(0,an.row (Row.I .i64 [c])),(0,an.row (Row.G [AV.nils])),(0,an.row (Row.I .i64 [ofNat 0])),(0,an.row (Row.I .i64 [c])),(0,an.row (Row.G [shV O U Z V J W B])),(0,an.row (Row.G [AV.slc 0 8 v 0 1 m none])),K,(v,an.row (rM y m))]):=by kernel_rfl
theorem Tm (n:Nat) (O:Int) (U:Nat) (Z:Nat→Int) (V:Nat) (J:Nat→Int) (W B:Nat→Int) (c k:Int) (G:ab) (bs:List (Nat×an)):bg Tryd.prog (cd n) 100000 71 Tryd.f71 (KtG.kt 71) (il aF n 0) aR aQ [(.ptr 0 0 0 0,none),(.int .i64 c,none),(.int .i64 k,none)] (⟨false,(0,.row (shR O U Z V J W B))::bs⟩::G) =
 Tr.req (c6 c 10) (Tr.req (cg 0 0) (Tr.req (eD (aw 3 c 2) 1 3 20) (Tr.req (eD (au (aw 3 c 2) 1) 1 3 20) (Tr.ite (dp (W (cq (aw 3 c 2) 3)) k) (Tr.ok ((AV.bool (dp k (W (cq (au (aw 3 c 2) 1) 3))),none),(bz ((0,an.row (shR O U Z V J W B))::bs))::G)) (Tr.ok ((AV.bool false,some 1),(bz ((0,an.row (shR O U Z V J W B))::bs))::G)))))):=by kernel_rfl
theorem SS (n:Nat) (O:Int) (U:Nat) (Z:Nat→Int) (V:Nat) (J:Nat→Int) (W B:Nat→Int) (H:ab) (c:Int) (v m:Nat) (y:Nat→Int):bg Tryd.prog (cd n) 100000 30 Tryd.f30 (KtG.kt 30) (il (oo (tX aF 70 [shV O U Z V J W B] (Le 0 (shR O U Z V J W B))) 69 [a8 O U Z V J,sc 0] (Bi O U Z V J c::H) (.ok (.tup [shV O U Z V J W B,.int .i64 (ofNat 0)],Bi O U Z V J c::H))) n 0) aR (MD aQ (fun _=>true) (sq (shR O U Z V J W B)) (⟨false,vY (.G [.int .i64 O,slA 4 U Z,slA 2 V J]) (shR O U Z V J W B) c .nils .nils⟩::H) (.ok (.normal,hints (sq (shR O U Z V J W B)),EL (.G [.int .i64 O,slA 4 U Z,slA 2 V J]) (shR O U Z V J W B) c (0,.dead) v m y::H))) [(a8 O U Z V J,none),(.int .i64 c,none)] H =
 (fun (Z0:bG)=>((fun (Z1:aC)=>((fun (Z2:bG)=>Tr.reqP ([a8 O U Z V J,AV.slc 0 4 0 0 1 1 (some 1)]=[a8 O U Z V J,AV.slc 0 4 0 0 1 1 (some 1)]∧Z2::H=Z2::H) (Tr.ite (bF (b9 (ofNat 0) (ofNat 0))) (Tr.ok ((AV.tup [AV.nils,iI 0],none),H)) (Tr.reqP ([shV O U Z V J W B]=[shV O U Z V J W B]) (Tr.reqP (Z1=Z1∧Z0::H=Z0::H) (Tr.req (cg v v) (Tr.req (eD 0 m 0 m) (Tr.ok ((AV.tup [cw m (rJ y 0) false,iI 0],none),H)))))))) (bz [(0,dk O U Z V J),(0,an.row (Row.I .i64 [c])),(0,an.row (Row.G [AV.nils])),(0,an.row (Row.I .i64 [ofNat 0])),(0,an.row (Row.I .i64 [c]))]))) [(3,AV.ptr 0 1 0 0),(4,AV.ptr 0 2 0 0),(5,AV.ptr 0 3 0 0),(6,AV.ptr 0 5 0 0),(8,AV.ptr 0 6 0 0),(25,AV.fn (Fn.func 90) [] [AV.ptrT (some 0) (Row.G [shV O U Z V J W B]) 0])])) (bz [(0,dk O U Z V J),(0,an.row (Row.I .i64 [c])),(0,an.row (Row.G [AV.nils])),(0,an.row (Row.I .i64 [ofNat 0])),(0,an.row (Row.I .i64 [c])),(0,an.row (Row.G [shV O U Z V J W B])),(0,an.row (Row.G [AV.nils]))]):=by kernel_rfl
theorem SU (n:Nat) (O:Int) (U:Nat) (Z:Nat→Int) (V:Nat) (J:Nat→Int) (W B:Nat→Int) (H:ab) (c:Int) (x:Int):bg Tryd.prog (cd n) 100000 30 Tryd.f30 (KtG.kt 30) (il (oo (tX aF 70 [shV O U Z V J W B] (Le 0 (shR O U Z V J W B))) 69 [a8 O U Z V J,sc 0] (Bi O U Z V J c::H) (.ok (.tup [shV O U Z V J W B,.int .i64 (ofNat 0)],Bi O U Z V J c::H))) n 0) aR (MD aQ (fun _=>true) (sq (shR O U Z V J W B)) (⟨false,vY (.G [.int .i64 O,slA 4 U Z,slA 2 V J]) (shR O U Z V J W B) c .nils .nils⟩::H) (.ok (.ret,hints (sq (shR O U Z V J W B)),OC (.G [.int .i64 O,slA 4 U Z,slA 2 V J]) (shR O U Z V J W B) c (0,.dead) x::H))) [(a8 O U Z V J,none),(.int .i64 c,none)] H =
 (fun (Z0:bG)=>((fun (Z1:aC)=>((fun (Z2:bG)=>Tr.reqP ([a8 O U Z V J,AV.slc 0 4 0 0 1 1 (some 1)]=[a8 O U Z V J,AV.slc 0 4 0 0 1 1 (some 1)]∧Z2::H=Z2::H) (Tr.ite (bF (b9 (ofNat 0) (ofNat 0))) (Tr.ok ((AV.tup [AV.nils,iI 0],none),H)) (Tr.reqP ([shV O U Z V J W B]=[shV O U Z V J W B]) (Tr.reqP (Z1=Z1∧Z0::H=Z0::H) (Tr.req (cg 0 0) (Tr.ok ((AV.tup [AV.slcT none (Row.I .i64 [x]) 1 1 (cg 1 1),iI 0],none),H))))))) (bz [(0,dk O U Z V J),(0,an.row (Row.I .i64 [c])),(0,an.row (Row.G [AV.nils])),(0,an.row (Row.I .i64 [ofNat 0])),(0,an.row (Row.I .i64 [c]))]))) [(3,AV.ptr 0 1 0 0),(4,AV.ptr 0 2 0 0),(5,AV.ptr 0 3 0 0),(6,AV.ptr 0 5 0 0),(8,AV.ptr 0 6 0 0),(25,AV.fn (Fn.func 90) [] [AV.ptrT (some 0) (Row.G [shV O U Z V J W B]) 0])])) (bz [(0,dk O U Z V J),(0,an.row (Row.I .i64 [c])),(0,an.row (Row.G [AV.nils])),(0,an.row (Row.I .i64 [ofNat 0])),(0,an.row (Row.I .i64 [c])),(0,an.row (Row.G [shV O U Z V J W B])),(0,an.row (Row.G [AV.nils]))]):=by kernel_rfl
theorem PH (n:Nat) (O:Int) (U:Nat) (Z:Nat→Int) (V:Nat) (J:Nat→Int) (H:ab) (c e:Int):bg Tryd.prog (cd n) 100000 30 Tryd.f30 (KtG.kt 30) (il (oo (tN aF 70) 69 [a8 O U Z V J,sc 0] (Bi O U Z V J c::H) (.ok (.tup [.nilp,.int .i64 e],Bi O U Z V J c::H))) n 0) aR aQ [(a8 O U Z V J,none),(.int .i64 c,none)] H =
 (fun (Z0:bG)=>Tr.reqP ([a8 O U Z V J,AV.slc 0 4 0 0 1 1 (some 1)]=[a8 O U Z V J,AV.slc 0 4 0 0 1 1 (some 1)]∧Z0::H=Z0::H) (Tr.ite (bF (b9 e (ofNat 0))) (Tr.ok ((AV.tup [AV.nils,AV.int .i64 e],none),H)) Tr.bad)) (bz [(0,dk O U Z V J),(0,an.row (Row.I .i64 [c])),(0,an.row (Row.G [AV.nils])),(0,an.row (Row.I .i64 [ofNat 0])),(0,an.row (Row.I .i64 [c]))]):=by kernel_rfl
end Go.Eng
end
section
namespace Go.Eng
open Go.Proofs Go.Eng.Gall
theorem wk {f:FuncId} {fn:Func} {n:Nat} (h30:f=30∨f=38) (hf:Tryd.prog.funcs[f]?=some fn) (hb:fn.body.isSome=true) {args:List HV} (hle:Nat.ble args.length fn.ntmps=true) {H:ab} {callR:bt} {bl:eV} {rg:om} {T:Tr (HV×ab)}
 (e:bg Tryd.prog (cd n) 100000 f fn (KtG.kt f) callR bl rg args H=T) (hC:callR.Ok (cd n)) (hB:bl.Ok (bQ n f fn.ntmps) (bA fn)) (hR:rg.Ok (bQ n f fn.ntmps) (bA fn)) {v:AV} {H':ab} (h:T.all fun y=>Eh y.1.1=v∧y.2=H'):cd (n+1) (.fn f) (lJ args) H=some (v,H'):=by
 obtain ⟨y,h1,h2,h3⟩:=h
 have:=xf (P:=Tryd.prog) (KT:=KtG.kt) (fu:=100000) (f:=f) (call:=cd n) (fn:=fn) hf hb hle hC hB hR (by rw[e];exact h1)
 refine nh ?_
 have e2:jf (cd n) f (lJ args) H=Mo (od Tryd.prog KtG.kt 100000 f (cd n) (lJ args) H):=by rcases h30 with rfl | rfl<;>rfl
 rw[e2,this]
 show some (Eh y.1.1,y.2)=_
 rw[h2,h3]
section
variable (n:Nat) (O:Int) (U:Nat) (Z:Nat→Int) (V:Nat) (J:Nat→Int) (H:ab)
end
end Go.Eng
end
section
namespace Go.Eng
open Go.Proofs Go.Eng.Gall
theorem ND:∀ b,(0,b) ∈ aP (bA Tryd.f90)→b=.loop (part Tryd.f90 [1,0,0]):=eN (by kernel_rfl)
noncomputable def qD:Code:=part Tryd.f30 [1,1,1,1,0,1,0,0]
noncomputable def yn:Code:=part Tryd.f30 [1,1,1,1,0,1,0,1]
theorem W8:dX (bA Tryd.f30)=[(.tmp 25,#[26],qD,yn)]:=by kernel_rfl
noncomputable def cX (R:Row):jY:={ state:=.ready,pending:=none,fn:=30,nt:=60,fr:=sq R,params:=[26],assign:=qD,body:=yn }
noncomputable def Kd (r0 R:Row) (c:Int) (K:Nat×an):List Nat→bG
 | []=>Bf r0 R c K
 | p::r=>EL r0 R c K r.length (r.length+1) (aI (pA (p::r)))
section
variable (n:Nat) (O:Int) (U:Nat) (Z:Nat→Int) (V:Nat) (J:Nat→Int) (W:Nat→Int) (g:Nat→Nat) (H:ab) (r0:Row)
theorem NH (B:Nat→Int) (c k:Nat) (G:ab) (bs:List (Nat×an)) (hc:c<10):cd (n+1) (.fn 71) [.ptr 0 0 0 0,.int .i64 (c:Int),.int .i64 (k:Int)] (⟨false,(0,.row (shR O U Z V J W B))::bs⟩::G)=some (.bool (vR W (c:Int) (k:Int)),⟨false,(0,.row (shR O U Z V J W B))::bs⟩::G):=by
 have T:=Tm n O U Z V J W B (c:Int) (k:Int) G bs;have e2:cq (aw 3 (c:Int) 2) 3=2*c:=by rw[bJ,dD];omega
 have e3:cq (au (aw 3 (c:Int) 2) 1) 3=2*c+1:=by rw[bJ,aM,dD];omega
 have ej:aw 3 (c:Int) 2=3+c*2:=by rw[bJ];omega
 rw[e2,e3,ej] at T;refine bj (n:=n) Tryd.func71 rfl rfl rfl T (ay _) (aj _ _) (ak _ _) ?_;rw[O7];refine Tr.aa wG (Tr.aa wG (Tr.aa wG (Tr.aa wG (Tr.af (fun q=>Tr.ag ⟨?_,rfl⟩) (fun q=>Tr.ag ⟨?_,rfl⟩)))))
 · rw[q];rfl
 · rw[q];rfl
noncomputable def Da (c k:Nat):List Nat:=(List.range k).filter fun j=>qI U g W c j
theorem Dc (c k:Nat):Da U W g c (k+1)=if qI U g W c k=true then Da U W g c k++[k] else Da U W g c k:=by
 unfold Da;rw[List.range_succ,List.filter_append];by_cases h:qI U g W c k=true
 · rw[if_pos h,List.filter_cons_of_pos (by simpa using h)];rfl
 · rw[if_neg h,List.filter_cons_of_neg (by simpa using h)];simp
theorem Db (c k:Nat):(Da U W g c k).length≤k:=by
 unfold Da;have:=List.length_filter_le (fun j=>qI U g W c j) (List.range k);rwa [List.length_range] at this
theorem O0 (hS:gH U W g) (c k:Nat) (hc:c<U) (hk:k<U) (hw:¬ (W (2*c)=(k:Int)∧W (2*c+1)=(k:Int))) :
 cd (n+5) (.round 1 7) [.int .i64 (k:Int)] (av::Kd r0 (shR O U Z V J W (bI g)) c (0,.loop (cX (shR O U Z V J W (bI g)))) (Da U W g c k)::H)=some (.bool true,av::Kd r0 (shR O U Z V J W (bI g)) c (0,.loop (cX (shR O U Z V J W (bI g)))) (Da U W g c (k+1))::H):=by
 have hlc:=hS.len
 have h71:=fun (L:bG)=>NH (n+3) O U Z V J W (bI g) c k (av::L::H) [] wO
 have h65:=fun (L:bG)=>Kn n O U Z V J (uy W c k) g (⟨false,[(0,.row (shR O U Z V J (uy W c k) (bI g))),(0,.row (.I .i64 [(k:Int),(k:Int)]))]⟩::av::L::H) 0 rfl (FN hS hc hk)
 have e2:cq (aw 3 (c:Int) 2) 3=2*c:=by rw[bJ,dD];omega
 have e3:cq (au (aw 3 (c:Int) 2) 1) 3=2*c+1:=by rw[bJ,aM,dD];omega
 have ej:aw 3 (c:Int) 2=3+c*2:=by rw[bJ];omega
 have ew:bV (b9 (W (2*c)) (k:Int)) (b9 (W (2*c+1)) (k:Int))=false:=by
  rw[bZ,aE,aE,Bool.and_eq_false_iff];by_cases q:W (2*c)=(k:Int)
  · right;exact beq_false_of_ne fun h=>hw ⟨q,h⟩
  · left;exact beq_false_of_ne q
 have hpb:qI U g W c k=(vR W (c:Int) (k:Int) && IZ U g (uy W c k)):=rfl
 rw[Dc,hpb]
 have hlen:=Db U W g c k
 generalize Da U W g c k=P at *
 generalize vR W (c:Int) (k:Int)=s at *
 generalize IZ U g (uy W c k)=q at *
 have e1:=mS (pA P) (k:Int)
 cases P with
 | nil =>
   obtain ⟨f,t,h65⟩:=h65 (Bf r0 (shR O U Z V J W (bI g)) c (0,.loop { cX (shR O U Z V J W (bI g)) with state:=.busy }))
   have h1:exec (jx (n+4) 30 60 2 7) qD [(3,.ptr 2 1 0 0),(4,.ptr 2 2 0 0),(5,.ptr 2 3 0 0),(6,.ptr 2 5 0 0),(8,.ptr 2 6 0 0),(25,Le 2 (shR O U Z V J W (bI g))),(26,.int .i64 (k:Int))] (av::av::Bf r0 (shR O U Z V J W (bI g)) c (0,.loop (cX (shR O U Z V J W (bI g))))::H)=some (.normal,FQ k,av::av::Bf r0 (shR O U Z V J W (bI g)) c (0,.loop (cX (shR O U Z V J W (bI g))))::H) :=
    jN (MT (n+4) _ _ H (k:Int)) (ay _) (aj _ _) (ak _ _) (Tr.ag rfl)
   have T:=Pc (n+4) O U Z V J W (bI g) H r0 (k:Int) (c:Int) (0,.loop { cX (shR O U Z V J W (bI g)) with state:=.busy }) s (!q) f t
   rw[e2,e3,AR,ew,ej] at T
   obtain ⟨y,h2,h3⟩:=pK (Q:=fun y=>y.1=.normal∧∃ lv,y.2.2=lv::av::Kd r0 (shR O U Z V J W (bI g)) c (0,.loop { cX (shR O U Z V J W (bI g)) with state:=.busy }) (if (s && q)=true then []++[k] else [])::H) T (bo _ _ (cj (cj (aN _) (fun x hy=>by rw[← Tr.ae hy];exact h71 _)) (fun x hy=>by rw[← Tr.ae hy];exact h65))) (aj _ _) (ak _ _) (by
    clear T h1 h71 h65;generalize cX (shR O U Z V J W (bI g))=L at *;refine Tr.ai ⟨rfl,rfl⟩ ?_;cases s with
    | false=>exact Tr.af (fun _=>Tr.ag ⟨rfl,_,rfl⟩) (fun h=>by simp[ar] at h)
    | true =>
      refine Tr.af (fun h=>by simp[ar] at h) (fun _=>?_);refine Tr.aa wG (Tr.aa wG (Tr.aa wG (Tr.aa wG (Tr.af (fun h=>by cases h) (fun _=>Tr.aa wG (Tr.aa wG (Tr.aa wG (Tr.aa wG (Tr.ai ⟨rfl,rfl⟩ ?_)))))))));cases q with
      | true =>
        refine Tr.af (fun _=>?_) (fun h=>by simp[ar] at h);exact Tr.aa wG (Tr.aa wG (Tr.aa wG (Tr.ag ⟨rfl,_,rfl⟩)))
      | false=>exact Tr.af (fun h=>by simp[ar] at h) (fun _=>Tr.ag ⟨rfl,_,rfl⟩))
   obtain ⟨ey,fy,hy⟩:=y
   obtain ⟨h3,lv,h4⟩:=h3
   dsimp only at h3 h4
   subst h3 h4
   refine ze (l:=cX (shR O U Z V J W (bI g))) (l2:={ cX (shR O U Z V J W (bI g)) with state:=.busy }) rfl rfl rfl rfl h1 h2 ?_ ?_
   · split<;>rfl
   · split<;>rfl
 | cons x r =>
   have e5:au (r.length+1) 1=r.length+1+1:=by rw[aM]
   have e4:(r++[k]).length=r.length+1:=by simp
   have e1':rV (rJ (aI (pA (x::r))) 0) (r.length+1) (aI [(k:Int)])=aI (pA (x::r++[k])):=by
    have:(pA (x::r)).length=r.length+1:=by simp[pA]
    rw[this] at e1;rw[e1];simp[pA]
   have eL:∀ K,Kd r0 (shR O U Z V J W (bI g)) c K (x::r++[k])=EL r0 (shR O U Z V J W (bI g)) c K (r.length+1) (r.length+1+1) (aI (pA (x::r++[k]))):=fun K=>by
    show EL _ _ _ _ (r++[k]).length ((r++[k]).length+1) (aI (pA (x::(r++[k]))))=_;rw[e4];rfl
   simp only[List.length_cons] at hlen
   obtain ⟨f,t,h65⟩:=h65 (EL r0 (shR O U Z V J W (bI g)) c (0,.loop { cX (shR O U Z V J W (bI g)) with state:=.busy }) r.length (r.length+1) (aI (pA (x::r))))
   have h1:exec (jx (n+4) 30 60 2 7) qD [(3,.ptr 2 1 0 0),(4,.ptr 2 2 0 0),(5,.ptr 2 3 0 0),(6,.ptr 2 5 0 0),(8,.ptr 2 6 0 0),(25,Le 2 (shR O U Z V J W (bI g))),(26,.int .i64 (k:Int))] (av::av::EL r0 (shR O U Z V J W (bI g)) c (0,.loop (cX (shR O U Z V J W (bI g)))) r.length (r.length+1) (aI (pA (x::r)))::H)=some (.normal,FQ k,av::av::EL r0 (shR O U Z V J W (bI g)) c (0,.loop (cX (shR O U Z V J W (bI g)))) r.length (r.length+1) (aI (pA (x::r)))::H) :=
    jN (MT (n+4) _ _ H (k:Int)) (ay _) (aj _ _) (ak _ _) (Tr.ag rfl)
   have T:=SH (n+4) O U Z V J W (bI g) H r0 (k:Int) (c:Int) (0,.loop { cX (shR O U Z V J W (bI g)) with state:=.busy }) s (!q) f t r.length (r.length+1) (aI (pA (x::r)))
   rw[e2,e3,AR,ew,ej,e1',e5] at T
   obtain ⟨y,h2,h3⟩:=pK (Q:=fun y=>y.1=.normal∧∃ lv,y.2.2=lv::av::Kd r0 (shR O U Z V J W (bI g)) c (0,.loop { cX (shR O U Z V J W (bI g)) with state:=.busy }) (if (s && q)=true then x::r++[k] else x::r)::H) T (bo _ _ (cj (cj (aN _) (fun x hy=>by rw[← Tr.ae hy];exact h71 _)) (fun x hy=>by rw[← Tr.ae hy];exact h65))) (aj _ _) (ak _ _) (by
    clear T h1 h71 h65;generalize cX (shR O U Z V J W (bI g))=L at *;refine Tr.ai ⟨rfl,rfl⟩ ?_;cases s with
    | false=>exact Tr.af (fun _=>Tr.ag ⟨rfl,_,rfl⟩) (fun h=>by simp[ar] at h)
    | true =>
      refine Tr.af (fun h=>by simp[ar] at h) (fun _=>?_);refine Tr.aa wG (Tr.aa wG (Tr.aa wG (Tr.aa wG (Tr.af (fun h=>by cases h) (fun _=>Tr.aa wG (Tr.aa wG (Tr.aa wG (Tr.aa wG (Tr.ai ⟨rfl,rfl⟩ ?_)))))))));cases q with
      | true =>
        refine Tr.af (fun _=>?_) (fun h=>by simp[ar] at h);refine Tr.aa wG (Tr.aa wG (Tr.aa wG ?_));refine Tr.aa wG (Tr.aa (by simp (disch:=omega) only[nV,nW]<;>omega) (Tr.ag ⟨rfl,?_⟩));show ∃ lv,_=lv::av::Kd r0 (shR O U Z V J W (bI g)) c _ (x::r++[k])::H;rw[eL];exact ⟨_,rfl⟩
      | false=>exact Tr.af (fun h=>by simp[ar] at h) (fun _=>Tr.ag ⟨rfl,_,rfl⟩))
   obtain ⟨ey,fy,hy⟩:=y
   obtain ⟨h3,lv,h4⟩:=h3
   dsimp only at h3 h4
   subst h3 h4
   refine ze (l:=cX (shR O U Z V J W (bI g))) (l2:={ cX (shR O U Z V J W (bI g)) with state:=.busy }) rfl rfl rfl rfl h1 h2 ?_ ?_
   · split<;>rfl
   · split<;>rfl
end
end Go.Eng
end
