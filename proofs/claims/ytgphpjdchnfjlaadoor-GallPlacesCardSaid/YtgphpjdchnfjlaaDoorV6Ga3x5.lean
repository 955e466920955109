/- Gall: CheckList: its loop over the pairs; trees. -/
import Derived.Test.YtgphpjdchnfjlaaDoorV6GaKx6
import Derived.Test.YtgphpjdchnfjlaaDoorV6Gp2x6
import Derived.Test.YtgphpjdchnfjlaaDoorV6EngRoSx4
set_option linter.unusedVariables false
set_option linter.unusedSimpArgs false
set_option maxRecDepth 100000
section
namespace Go.Eng
open Int (ofNat)
open Go.Proofs
noncomputable def gB (e:Bool) (C:List AV→Prop):List AV→Option (Prop×AV):=fun x=>some (C x,.bool e)
noncomputable def Gl (O:Int) (U:Nat) (Z:Nat→Int) (V:Nat) (J:Nat→Int):bG:=⟨false,[(0,.row (.G [.int .i64 O,slA 4 U Z,slA 2 V J])),(0,.row (.I .i64 [bX .i64 (ofNat U) (ofNat 1)])),(0,.row (.I .i64 [O]))]⟩
noncomputable def MN (m:Nat) (z:Nat→Int) (full:Bool):AV:=.slcT none (.M [.arr .i64 z (cG m 2)]) 2 m full
noncomputable def No (a b:Int):AV:=.agg (.I .i64 [a,b])
noncomputable def Ke (a b:Int):bG:=⟨false,[(0,.row (.I .i64 [a,b]))]⟩
noncomputable def D0 (m:Nat) (z:Nat→Int) (full:Bool) (j:Int):aC:=[(0,MN m z full),(3,.ptr 0 0 0 0),(7,.int .i64 (ofNat m)),(8,.int .i64 j)]
noncomputable def AX (U V:Nat) (J:Nat→Int) (j:Int):aC:=[(1,.ptr 0 0 0 0),(4,.int .i64 (bX .i64 (ofNat U) 1)),(35,slA 2 V J),(36,.int .i64 (ofNat V)),(37,.int .i64 j)]
theorem t22 (n:Nat) (O:Int) (U:Nat) (Z:Nat→Int) (V:Nat) (J:Nat→Int) (H:ab) (j:Int) (e:Bool) (C:List AV→Prop):aS (bQ (n+10) 22 69) (il (ng (lW aF 61 (gB e C)) 59 gW) (n+10) 0) aR aQ (part Tryd.f22 [1,1,1,1,0,1,0,0]) (hints (AX U V J j)) (Gl O U Z V J::H) =
 (fun (Z0:bG)=>Tr.ite (bM j (ofNat V)) (Tr.req (c6 j V) (Tr.req (cK (aw 0 j 2) (cG V 2)) (Tr.req (cK (au (aw 0 j 2) 1) (cG V 2)) (Tr.req (c6 (ofNat 0) 2) (Tr.req (c6 (ofNat 1) 2) (Tr.ite (b9 (J (aw 0 j 2)) (J (au (aw 0 j 2) 1))) (Tr.ok (Ex.ret,[(2,iI 2,some 1)],(bz [(0,dk O U Z V J),(0,an.row (Row.I .i64 [bX .i64 (ofNat U) (ofNat 1)])),(0,an.row (Row.I .i64 [O])),(0,an.row (Row.I .i64 [J (aw 0 j 2),J (au (aw 0 j 2) 1)])),(0,an.dead)])::H)) (Tr.req (c6 (ofNat 0) 2) (Tr.req (c6 (ofNat 1) 2) (Tr.ite (bF (bV (bV (dp (ofNat 0) (J (aw 0 j 2))) (dp (J (aw 0 j 2)) (bX .i64 (ofNat U) (ofNat 1)))) (bV (bV (dp (ofNat 0) (J (au (aw 0 j 2) 1))) (dp (J (au (aw 0 j 2) 1)) (bX .i64 (ofNat U) (ofNat 1)))) true))) (Tr.ok (Ex.ret,[(2,iI 2,some 1)],Z0::H)) (Tr.req (kH j V) (Tr.req (fp (au (cG 0 2) (cG (bY j) 2)) (cG V 2)) (Tr.reqP (C [AV.slcT none (rM J (cG (bY j) 2)) 2 (bY j) (bV false (cg (bY j) V)),AV.agg (Row.I .i64 [J (aw 0 j 2),J (au (aw 0 j 2) 1)])]) (Tr.ite e (Tr.ok (Ex.ret,[(2,iI 2,some 1)],Z0::H)) (Tr.ok (Ex.normal,[(1,AV.ptr 0 0 0 0,none),(4,AV.int .i64 (bX .i64 (ofNat U) (ofNat 1)),none),(35,slA 2 V J,none),(36,iI V,none),(37,AV.int .i64 (bm .i64 j (ofNat 1)),none)],Z0::H))))))))))))))) (Tr.ok (Ex.exit 1,[(1,AV.ptr 0 0 0 0,none),(4,AV.int .i64 (bX .i64 (ofNat U) (ofNat 1)),none),(35,slA 2 V J,none),(36,iI V,none),(37,AV.int .i64 j,none),(38,AV.bool false,some 1)],(bz [(0,dk O U Z V J),(0,an.row (Row.I .i64 [bX .i64 (ofNat U) (ofNat 1)])),(0,an.row (Row.I .i64 [O]))])::H))) (bz [(0,dk O U Z V J),(0,an.row (Row.I .i64 [bX .i64 (ofNat U) (ofNat 1)])),(0,an.row (Row.I .i64 [O])),(0,an.row (Row.I .i64 [J (aw 0 j 2),J (au (aw 0 j 2) 1)])),(0,an.row (Row.I .i64 [J (aw 0 j 2),J (au (aw 0 j 2) 1)]))]):=by kernel_rfl
theorem Xi (n:Nat) (O:Int) (U:Nat) (Z:Nat→Int) (V:Nat) (J:Nat→Int) (H:ab) (lvR:bG) (e1 e2 e3:Bool) (C1 C2 C3:List AV→Prop) (S:AV):bg Tryd.prog (cd (n+10)) 100000 22 Tryd.f22 (KtG.kt 22) (il (lW (lW (ng (lW aF 60 (gB e1 C1)) 59 gW) 62 (fun x=>some (C2 x,S))) 63 (gB e2 C3)) (n+10) 0) (cV aR 1 (AX U V J (ofNat 0)) (Gl O U Z V J::H) (.ite e3 (.ok (.ret,[(2,.int .i64 2,none)],lvR::H)) (.ok (.normal,hints (AX U V J (ofNat V)++[(38,.bool false)]),Gl O U Z V J::H)))) aQ [(a8 O U Z V J,none)] H =
 (fun (Z0:bG)=>((fun (Z1:aC)=>Tr.ite (bF (bV (bV (dp (ofNat 0) (bX .i64 (ofNat U) (ofNat 1))) (dp (bX .i64 (ofNat U) (ofNat 1)) (ofNat 9))) true)) (Tr.ok ((iI 6,some 1),H)) (Tr.ite (bM (ofNat 40) (ofNat V)) (Tr.ok ((iI 6,some 1),H)) (Tr.ite (bF (bV (bV (dp (ofNat 1) O) (dp O (ofNat 100))) true)) (Tr.ok ((iI 3,some 1),H)) (Tr.reqP (C1 [slA 4 U Z,AV.fn (Fn.func 58) [] []]) (Tr.ite e1 (Tr.ok ((iI 3,some 1),H)) (Tr.reqP (Z1=Z1∧Z0::H=Z0::H) (Tr.ite e3 (Tr.ok ((iI 2,none),H)) (Tr.reqP (C2 [a8 O U Z V J]) (Tr.reqP (C3 [S]) (Tr.ite e2 (Tr.ok ((iI 16,some 1),H)) (Tr.ok ((iI 0,some 1),H)))))))))))) [(1,AV.ptr 0 0 0 0),(4,AV.int .i64 (bX .i64 (ofNat U) (ofNat 1))),(35,slA 2 V J),(36,iI V),(37,iI 0)])) (bz [(0,dk O U Z V J),(0,an.row (Row.I .i64 [bX .i64 (ofNat U) (ofNat 1)])),(0,an.row (Row.I .i64 [O]))]):=by kernel_rfl
theorem t86 (n:Nat) (m:Nat) (z:Nat→Int) (full:Bool) (a b:Int) (H:ab) (j:Int):aS (bQ n 86 19) (il aF n 0) aR aQ (part Tryd.f86 [1,0,1,0,0]) (hints (D0 m z full j)) (Ke a b::H) =
 Tr.ite (bM j (ofNat m)) (Tr.req (c6 j m) (Tr.req (cK (aw 0 j 2) (cG m 2)) (Tr.req (cK (au (aw 0 j 2) 1) (cG m 2)) (Tr.ite (bV (b9 a (z (aw 0 j 2))) (b9 b (z (au (aw 0 j 2) 1)))) (Tr.ok (Ex.ret,[(4,AV.int .i64 j,none)],(bz [(0,an.row (Row.I .i64 [a,b]))])::H)) (Tr.ok (Ex.normal,[(0,AV.slcT none (rM z (cG m 2)) 2 m full,none),(3,AV.ptr 0 0 0 0,none),(7,iI m,none),(8,AV.int .i64 (bm .i64 j (ofNat 1)),none)],(bz [(0,an.row (Row.I .i64 [a,b]))])::H)))))) (Tr.ok (Ex.exit 0,[(0,AV.slcT none (rM z (cG m 2)) 2 m full,none),(3,AV.ptr 0 0 0 0,none),(7,iI m,none),(8,AV.int .i64 j,none),(9,AV.bool false,some 1)],(bz [(0,an.row (Row.I .i64 [a,b]))])::H)):=by kernel_rfl
theorem XG (n:Nat) (m:Nat) (z:Nat→Int) (full:Bool) (a b:Int) (H:ab) (i:Int) (e:Bool):bg Tryd.prog (cd n) 100000 86 Tryd.f86 (KtG.kt 86) (il aF n 0) (cV aR 0 (D0 m z full 0) (Ke a b::H) (.ite e (.ok (.ret,[(4,.int .i64 i,none)],Ke a b::H)) (.ok (.normal,hints (D0 m z full (ofNat m)++[(9,.bool false)]),Ke a b::H)))) aQ [(MN m z full,none),(No a b,none)] H =
 (fun (Z0:aC)=>Tr.reqP (Z0=Z0∧(bz [(0,an.row (Row.I .i64 [a,b]))])::H=(bz [(0,an.row (Row.I .i64 [a,b]))])::H) (Tr.ite e (Tr.ok ((AV.int .i64 i,none),H)) (Tr.ok ((AV.int .i64 (Int.negSucc 0),some 1),H)))) [(0,AV.slcT none (rM z (cG m 2)) 2 m full),(3,AV.ptr 0 0 0 0),(7,iI m),(8,iI 0)]:=by kernel_rfl
theorem Xv (n:Nat) (m:Nat) (z:Nat→Int) (full:Bool) (a b:Int) (H:ab) (i:Int):bg Tryd.prog (cd n) 100000 61 Tryd.f61 (KtG.kt 61) (il (tX aF 86 [MN m z full,No a b] (.int .i64 i)) n 0) aR aQ [(MN m z full,none),(No a b,none)] H =
 Tr.reqP ([AV.slcT none (rM z (cG m 2)) 2 m full,AV.agg (Row.I .i64 [a,b])]=[AV.slcT none (rM z (cG m 2)) 2 m full,AV.agg (Row.I .i64 [a,b])]) (Tr.ok ((AV.bool (dp (ofNat 0) i),none),H)):=by kernel_rfl
end Go.Eng
end
section
namespace Go.Eng
open Int (ofNat)
open Go.Proofs
noncomputable def xB (O:Int) (U:Nat) (Z:Nat→Int) (V:Nat) (J:Nat→Int) (W B:Nat→Int):bG:=⟨false,[(0,.row (.G [.int .i64 O,slA 4 U Z,slA 2 V J])),(0,.row (shR O U Z V J W B))]⟩
noncomputable def wm (U:Nat) (Z:Nat→Int) (j:Int):aC:=[(1,.ptr 0 0 0 0),(3,.ptr 0 1 0 0),(12,slA 4 U Z),(13,.int .i64 (ofNat U)),(14,.int .i64 j)]
noncomputable def wq (V:Nat) (J:Nat→Int) (j:Int):aC:=[(3,.ptr 0 1 0 0),(56,slA 2 V J),(57,.int .i64 (ofNat V)),(58,.int .i64 j)]
theorem t62 (n:Nat) (O:Int) (U:Nat) (Z:Nat→Int) (V:Nat) (J:Nat→Int) (W B:Nat→Int) (H:ab) (j:Int):aS (bQ (n+1) 62 78) (il aF n 1) aR aQ (part Tryd.f62 [1,1,0,1,0,0]) (hints (wm U Z j)) (xB O U Z V J W B::H) =
 Tr.ite (bM j (ofNat U)) (Tr.req (c6 j U) (Tr.req (cK (aw 0 j 4) (cG U 4)) (Tr.req (cK (au (aw 0 j 4) 1) (cG U 4)) (Tr.req (cK (au (aw 0 j 4) 2) (cG U 4)) (Tr.req (cK (au (aw 0 j 4) 3) (cG U 4)) (Tr.req (bF (b9 O (ofNat 0))) (Tr.req (bF (b9 O (ofNat 0))) (Tr.req (bF (b9 O (ofNat 0))) (Tr.req (bF (b9 O (ofNat 0))) (Tr.req (bF (b9 O (ofNat 0))) (Tr.req (bF (b9 O (ofNat 0))) (Tr.req (c6 j 10) (Tr.req (cg 0 0) (Tr.req (eD (aw 3 j 2) 1 3 20) (Tr.req (eD (au (aw 3 j 2) 1) 1 3 20) (Tr.req (bV (fp 0 0) (fp 0 1)) (Tr.ok (Ex.normal,[(1,AV.ptr 0 0 0 0,none),(3,AV.ptr 0 1 0 0,none),(12,slA 4 U Z,none),(13,iI U,none),(14,AV.int .i64 (bm .i64 j (ofNat 1)),none)],(bz [(0,dk O U Z V J),(0,an.row (shR O U Z V J (dc (dc W (cq (aw 3 j 2) 3) (uM (ofNat 0) (Gu IntKind.i64 (yU IntKind.i64 (bX .i64 (bX .i64 (Z (au (aw 0 j 4) 3)) (Z (au (aw 0 j 4) 1))) (qY IntKind.i64 (bm .i64 (qY IntKind.i64 (bX .i64 (Z (au (aw 0 j 4) 3)) (Z (au (aw 0 j 4) 1))) O) O) O)) O)))) (cq (au (aw 3 j 2) 1) 3) (yD (bX .i64 (ofNat U) (ofNat 1)) (yU IntKind.i64 (bX .i64 (bX .i64 (Z (aw 0 j 4)) (Z (au (aw 0 j 4) 2))) (qY IntKind.i64 (bm .i64 (qY IntKind.i64 (bX .i64 (Z (aw 0 j 4)) (Z (au (aw 0 j 4) 2))) O) O) O)) O))) B)),(0,an.row (Row.I .i64 [Z (aw 0 j 4),Z (au (aw 0 j 4) 1),Z (au (aw 0 j 4) 2),Z (au (aw 0 j 4) 3)]))])::H)))))))))))))))))) (Tr.ok (Ex.exit 0,[(1,AV.ptr 0 0 0 0,none),(3,AV.ptr 0 1 0 0,none),(12,slA 4 U Z,none),(13,iI U,none),(14,AV.int .i64 j,none),(15,AV.bool false,some 1)],(bz [(0,dk O U Z V J),(0,an.row (shR O U Z V J W B))])::H)):=by kernel_rfl
theorem Uw (n:Nat) (O:Int) (U:Nat) (Z:Nat→Int) (V:Nat) (J:Nat→Int) (W B:Nat→Int) (H:ab) (j:Int):aS (bQ (n+1) 62 78) (il aF n 1) aR aQ (part Tryd.f62 [1,1,1,1,0,1,0,0]) (hints (wq V J j)) (xB O U Z V J W B::H) =
 Tr.ite (bM j (ofNat V)) (Tr.req (c6 j V) (Tr.req (cK (aw 0 j 2) (cG V 2)) (Tr.req (cK (au (aw 0 j 2) 1) (cG V 2)) (Tr.req (c6 (ofNat 1) 2) (Tr.req (c6 (J (au (aw 0 j 2) 1)) 10) (Tr.req (cg 0 0) (Tr.req (eD (aw 23 (J (au (aw 0 j 2) 1)) 1) 1 23 10) (Tr.req (c6 (ofNat 0) 2) (Tr.req (dp (ofNat 0) (J (aw 0 j 2))) (Tr.req (c6 (J (au (aw 0 j 2) 1)) 10) (Tr.req (cg 0 0) (Tr.req (eD (aw 23 (J (au (aw 0 j 2) 1)) 1) 1 23 10) (Tr.req (bV (fp 0 0) (fp 0 1)) (Tr.ok (Ex.normal,[(3,AV.ptr 0 1 0 0,none),(56,slA 2 V J,none),(57,iI V,none),(58,AV.int .i64 (bm .i64 j (ofNat 1)),none)],(bz [(0,dk O U Z V J),(0,an.row (shR O U Z V J W (dc B (cq (aw 23 (J (au (aw 0 j 2) 1)) 1) 23) (qd IntKind.u64 (B (cq (aw 23 (J (au (aw 0 j 2) 1)) 1) 23)) (cI IntKind.u64 (ofNat 1) (J (aw 0 j 2))))))),(0,an.row (Row.I .i64 [J (aw 0 j 2),J (au (aw 0 j 2) 1)]))])::H))))))))))))))) (Tr.ok (Ex.exit 2,[(3,AV.ptr 0 1 0 0,none),(56,slA 2 V J,none),(57,iI V,none),(58,AV.int .i64 j,none),(59,AV.bool false,some 1)],(bz [(0,dk O U Z V J),(0,an.row (shR O U Z V J W B))])::H)):=by kernel_rfl
theorem Xw (n:Nat) (O:Int) (U:Nat) (Z:Nat→Int) (V:Nat) (J:Nat→Int) (W B B':Nat→Int) (H:ab):bg Tryd.prog (cd (n+6)) 100000 62 Tryd.f62 (KtG.kt 62) (il aF (n+6) 0) (cV (cV aR 0 (wm U Z (ofNat 0)) (xB O U Z V J (fun _=>ofNat 0) (fun _=>ofNat 0)::H) (.ok (.normal,hints (wm U Z (ofNat U)++[(15,.bool false)]),xB O U Z V J W (fun _=>ofNat 0)::H))) 2 (wq V J (ofNat 0)) (xB O U Z V J W B::H) (.ok (.normal,hints (wq V J (ofNat V)++[(59,.bool false)]),xB O U Z V J W B'::H))) aQ [(a8 O U Z V J,none)] H =
 (fun (Z0:bG)=>((fun (Z1:aC)=>Tr.reqP (Z1=Z1∧Z0::H=Z0::H) (Tr.req (cK 0 10) (Tr.req (cg 0 0) (Tr.reqP ([(3,AV.ptr 0 1 0 0),(56,slA 2 V J),(57,iI V),(58,iI 0)]=[(3,AV.ptr 0 1 0 0),(56,slA 2 V J),(57,iI V),(58,iI 0)]∧(bz [(0,dk O U Z V J),(0,an.row (shR O U Z V J W (fun x=>ofNat 0)))])::H=(bz [(0,dk O U Z V J),(0,an.row (shR O U Z V J W B))])::H) (Tr.ok ((AV.ptrT (some 0) (shR O U Z V J W B') 0,none),H)))))) [(1,AV.ptr 0 0 0 0),(3,AV.ptr 0 1 0 0),(12,slA 4 U Z),(13,iI U),(14,iI 0)])) (bz [(0,dk O U Z V J),(0,an.row (shR O U Z V J (fun x=>ofNat 0) (fun x=>ofNat 0)))]):=by kernel_rfl
end Go.Eng
end
section
namespace Go.Eng
open Int (ofNat)
open Go.Proofs
theorem Im {a b:Int} (hb:0<b):(a.tmod b+b).tmod b=a % b:=by
 have h0:-b<a.tmod b:=by
  by_cases h:0≤a
  · have:=Int.tmod_nonneg b h;omega
  · have e:a.tmod b=-((-a).tmod b):=by rw[Int.neg_tmod];omega
    have:=Int.tmod_lt_of_pos (-a) hb;omega
 rw[Int.tmod_eq_emod_of_nonneg wO,Int.add_emod_right];have e:a.tmod b=a-b*(a.tdiv b):=by have:=Int.mul_tdiv_add_tmod a b;omega
 rw[e,Int.sub_mul_emod_self_left]
theorem J1 {a b:Int} (hb:1≤b) (hb2:b≤1000) (h1:-1000000≤a) (h2:a≤1000000):yU .i64 (bX .i64 a (qY .i64 (bm .i64 (qY .i64 a b) b) b)) b=a / b:=by
 have hm0:-b<a.tmod b∧a.tmod b<b:=by
  constructor
  · by_cases h:0≤a
    · have:=Int.tmod_nonneg b h;omega
    · have e:a.tmod b=-((-a).tmod b):=by rw[Int.neg_tmod];omega
      have:=Int.tmod_lt_of_pos (-a) (show 0<b by omega);omega
  · exact Int.tmod_lt_of_pos a wO
 have e1:bm .i64 (qY .i64 a b) b=a.tmod b+b:=by rw[fM,rH,iy wO wO]
 rw[w7,e1,rH,Im wO,ep];have h3:=Int.emod_nonneg a (show b≠0 by omega);have h4:=Int.emod_lt_of_pos a (show 0<b by omega);have e3:IntKind.i64.wrap (a-a % b)=a-a % b:=iy wO wO;rw[e3];have e:a-a % b=b*(a / b):=by have:=Int.mul_ediv_add_emod a b;omega
 have e2:(b*(a / b)).tdiv b=a / b:=Int.mul_tdiv_cancel_left _ wO;rw[e,e2];have h5:a / b≤1000000:=Int.le_trans (Int.ediv_le_ediv wO h2) (Int.ediv_le_self b (by decide));have h6:-2000001≤a / b:=by
  have h7:=Int.mul_ediv_add_emod a b;apply Classical.byContradiction;intro hc;have h8:b*(a / b)≤1*(a / b):=Int.mul_le_mul_of_nonpos_right hb wO;omega
 exact iy wO wO
def c9 (O:Int) (U:Nat) (Z:Nat→Int) (i:Nat):Int:=if i<2*U then (if i % 2=0 then max 0 (-((Z (i / 2*4+3)-Z (i / 2*4+1)) / O)) else min ((U:Int)-1) ((Z (i / 2*4)-Z (i / 2*4+2)) / O)) else 0
def EG (O:Int) (U:Nat) (Z:Nat→Int) (j i:Nat):Int:=if i<2*j then c9 O U Z i else 0
theorem PN (O:Int) (U:Nat) (Z:Nat→Int):EG O U Z 0=fun _=>ofNat 0:=by funext i;unfold EG;rw[if_neg wO];rfl
theorem JK (O:Int) (U:Nat) (Z:Nat→Int):EG O U Z U=c9 O U Z:=by
 funext i;unfold EG;by_cases h:i<2*U
 · rw[if_pos h]
 · rw[if_neg h];unfold c9;rw[if_neg h]
theorem JL {O:Int} {U:Nat} {Z:Nat→Int} {j:Nat} {v0 v1:Int} (h0:v0=c9 O U Z (2*j)) (h1:v1=c9 O U Z (2*j+1)):dc (dc (EG O U Z j) (2*j) v0) (2*j+1) v1=EG O U Z (j+1):=by
 rw[gh,gh];funext i;unfold EG;by_cases e:i=2*j+1
 · rw[if_pos e,if_pos wO,e,h1]
 · rw[if_neg e];show (if i=2*j then v0 else if i<2*j then c9 O U Z i else 0)=_;by_cases e2:i=2*j
   · rw[if_pos e2,if_pos wO,e2,h0]
   · rw[if_neg e2];by_cases e3:i<2*j
     · rw[if_pos e3,if_pos wO]
     · rw[if_neg e3,if_neg wO]
def cZ (J:Nat→Int) (c:Nat):Nat→Nat
 | 0=>0
 | j+1=>if J (j*2+1)=(c:Int) then cZ J c j ||| 2 ^ (J (j*2)).toNat else cZ J c j
def ia (V:Nat) (J:Nat→Int) (c:Nat):Int:=(cZ J c V:Int)
theorem mJ (J:Nat→Int) (c a:Nat):∀ j,(∀ i,i<j→0≤J (i*2))→((cZ J c j).testBit a=true↔∃ i,i<j∧J (i*2)=(a:Int)∧J (i*2+1)=(c:Int))
 | 0,_=>by
   constructor
   · intro h;simp[cZ] at h
   · rintro ⟨i,h,_⟩;omega
 | j + 1,h0=>by
   have ih:=mJ J c a j (fun i hi=>h0 i wO);have hj:=h0 j wO;unfold cZ;split
   · rename_i hc;rw[Nat.testBit_or,Bool.or_eq_true,ih,Nat.testBit_two_pow,decide_eq_true_iff];constructor
     · rintro (⟨i,a1,a2⟩ | h)
       · exact ⟨i,by omega,a2⟩
       · exact ⟨j,by omega,by omega,hc⟩
     · rintro ⟨i,a1,a2,a3⟩;by_cases e:i=j
       · subst e;exact .inr wO
       · exact .inl ⟨i,by omega,a2,a3⟩
   · rename_i hc;rw[ih];constructor
     · rintro ⟨i,a1,a2⟩;exact ⟨i,by omega,a2⟩
     · rintro ⟨i,a1,a2,a3⟩;refine ⟨i,?_,a2,a3⟩;by_cases e:i=j
       · subst e;exact absurd a3 hc
       · omega
theorem nu (J:Nat→Int) (c n:Nat):∀ j,(∀ i,i<j→0≤J (i*2)∧J (i*2)<n)→cZ J c j<2 ^ n:=fun j h=>by
 apply Nat.lt_pow_two_of_testBit;intro i hi;cases hb:(cZ J c j).testBit i with
 | false=>rfl
 | true =>
   obtain ⟨k,k1,k2,k3⟩:=(mJ J c i j (fun i hi=>(h i hi).1)).1 hb;have:=h k k1;omega
def qQ (U:Nat) (Z:Nat→Int):Prop:=∀ j,j<U→js Z j=false
def gI (U V:Nat) (J:Nat→Int):Prop:=∀ j,j<V→(0≤J (j*2)∧J (j*2)<U)∧0≤J (j*2+1)∧J (j*2+1)<U
theorem M8 {U:Nat} {Z:Nat→Int} (h:qQ U Z) {j:Nat} (hj:j<U):0≤Z (j*4)∧Z (j*4)≤Z (j*4+1)∧Z (j*4+1)≤1000∧0≤Z (j*4+2)∧Z (j*4+2)≤Z (j*4+3)∧Z (j*4+3)≤1000:=by
 have:=h j hj;unfold js at this;simp at this;omega
theorem UE:∀ b,(0,b) ∈ aP (bA Tryd.f62)→b=.loop (part Tryd.f62 [1,1,0,1,0,0]):=eN (by kernel_rfl)
theorem P5:∀ b,(2,b) ∈ aP (bA Tryd.f62)→b=.loop (part Tryd.f62 [1,1,1,1,0,1,0,0]):=eN (by kernel_rfl)
theorem PX {x y:Nat} (hx:x<2 ^ 63) (hy:y<2 ^ 63):qd .u64 (x:Int) (y:Int)=((x ||| y:Nat):Int):=by
 rw[tu];show IntKind.u64.wrap ((BitVec.ofInt 64 (x:Int) ||| BitVec.ofInt 64 (y:Int)).toNat:Nat)=_;have h1:x ||| y<2 ^ 63:=Nat.or_lt_two_pow hx hy;have bv:∀ x:Nat,BitVec.ofInt 64 (x:Int)=BitVec.ofNat 64 x:=fun x=>by apply BitVec.eq_of_toInt_eq;simp
 rw[bv,bv,BitVec.toNat_or,BitVec.toNat_ofNat,BitVec.toNat_ofNat,Nat.mod_eq_of_lt wO,Nat.mod_eq_of_lt wO];exact Go.IntWalk.u64_in _ wO
theorem BF {i:Nat} (hi:i<62):cI .u64 (ofNat 1) (i:Int)=((2 ^ i:Nat):Int):=by
 rw[rK];show IntKind.u64.wrap (1*2 ^ min i 64)=_;have:(2:Nat) ^ i≤2 ^ 62:=Nat.pow_le_pow_right (by decide) wO;rw[Nat.min_eq_left wO,Int.one_mul,show (2:Int) ^ i=((2 ^ i:Nat):Int) from by rw[Int.natCast_pow];rfl];generalize (2:Nat) ^ i=P at *;exact Go.IntWalk.u64_in _ wO
section
variable (n:Nat) (O:Int) (U:Nat) (Z:Nat→Int) (V:Nat) (J:Nat→Int) (H:ab)
theorem WI (hl:U≤10) (hd:1≤O∧O≤100) (hv:qQ U Z) (B:Nat→Int):exec (bQ (n+6) 62 78) (.block 0 (.loop (part Tryd.f62 [1,1,0,1,0,0]))) (wm U Z (ofNat 0)) (xB O U Z V J (EG O U Z 0) B::H)=some (.normal,wm U Z (ofNat U)++[(15,.bool false)],xB O U Z V J (EG O U Z U) B::H):=by
 refine ig (n:=n+6) (f:=62) (nt:=78) (c:=part Tryd.f62 [1,1,0,1,0,0]) 0 (fun j=>wm U Z (j:Int)) (fun j=>xB O U Z V J (EG O U Z j) B::H) U (_,_) wO (fun j hj=>?_) ?_
 · obtain ⟨v1,v2,v3,v4,v5,v6⟩:=M8 hv hj;have ej:bm .i64 (j:Int) (ofNat 1)=((j+1:Nat):Int):=eX wO;have ei:aw 0 (j:Int) 4=j*4:=by rw[bJ];omega
   have es:cq (aw 3 (j:Int) 2) 3=2*j:=by rw[bJ,dD];omega
   have es1:cq (au (aw 3 (j:Int) 2) 1) 3=2*j+1:=by rw[bJ,aM,dD];omega
   have T:=t62 (n+5) O U Z V J (EG O U Z j) B H (j:Int);rw[ei,aM (j*4),aM (j*4),aM (j*4),ej,es,es1] at T;have s1:bX .i64 (Z (j*4+3)) (Z (j*4+1))=Z (j*4+3)-Z (j*4+1):=by rw[ep];exact iy wO wO
   have s2:bX .i64 (Z (j*4)) (Z (j*4+2))=Z (j*4)-Z (j*4+2):=by rw[ep];exact iy wO wO
   have s3:bX .i64 (ofNat U) (ofNat 1)=(U:Int)-1:=by rw[ep];exact iy (by show -9223372036854775808≤(U:Int)-1;omega) (by show (U:Int)-1≤_;omega)
   rw[s1,s2,s3,J1 hd.1 wO wO wO,J1 hd.1 wO wO wO] at T;have q1:-1000001≤(Z (j*4+3)-Z (j*4+1)) / O∧(Z (j*4+3)-Z (j*4+1)) / O≤1000:=by
    constructor
    · have h7:=Int.mul_ediv_add_emod (Z (j*4+3)-Z (j*4+1)) O;have h4:=Int.emod_lt_of_pos (Z (j*4+3)-Z (j*4+1)) (show 0<O by omega);apply Classical.byContradiction;intro hc;have h8:O*((Z (j*4+3)-Z (j*4+1)) / O)≤1*((Z (j*4+3)-Z (j*4+1)) / O):=Int.mul_le_mul_of_nonpos_right hd.1 wO;omega
    · exact Int.le_trans (Int.ediv_le_ediv wO (by omega:Z (j*4+3)-Z (j*4+1)≤1000)) (Int.ediv_le_self O (by decide))
   have n1:Gu .i64 ((Z (j*4+3)-Z (j*4+1)) / O)=-((Z (j*4+3)-Z (j*4+1)) / O):=by rw[CR,iy wO wO];omega
   rw[n1,JL (U:=U) (Z:=Z) (O:=O) (j:=j) (by
    unfold c9;rw[if_pos wO,if_pos wO,ry,show 2*j / 2=j by omega];show (if _ > (0:Int) then _ else (0:Int))=_;omega) (by
    unfold c9;rw[if_pos wO,if_neg wO,rz,show (2*j+1) / 2=j by omega];omega)] at T
   refine aB T (ff (n+5) 1) (aj _ _) (ak _ _) ?_;have hdn:bF (b9 O (ofNat 0))=true:=by rw[ar,aE];show (!(O == 0))=true;simp;omega
   refine Tr.af (fun h0=>?_) wJ;refine Tr.aa wG (Tr.aa wG (Tr.aa wG (Tr.aa wG (Tr.aa wG (Tr.aa hdn (Tr.aa hdn (Tr.aa hdn (Tr.aa hdn (Tr.aa hdn (Tr.aa hdn (Tr.aa wG (Tr.aa wG (Tr.aa wG (Tr.aa wG (Tr.aa wG ?_)))))))))))))));exact Tr.ag ⟨rfl,rfl⟩
 · obtain ⟨x,h1,rfl⟩:=aB (Q:=fun x=>x=(.exit 0,wm U Z (ofNat U)++[(15,.bool false)],xB O U Z V J (EG O U Z U) B::H)) (t62 (n+5) O U Z V J (EG O U Z U) B H (ofNat U)) (ff (n+5) 1) (aj _ _) (ak _ _) (by
    refine Tr.af wJ (fun h0=>Tr.ag rfl))
   exact h1
theorem NF (J:Nat→Int):ia 0 J=fun _=>ofNat 0:=rfl
theorem Fe {J:Nat→Int} {j:Nat} (h1:0≤J (j*2+1)) (h2:0≤J (j*2)) (h3:J (j*2)<60) (hs:∀ i,i<j→0≤J (i*2)∧J (i*2)<(60:Nat)):dc (ia j J) (J (j*2+1)).toNat (qd .u64 (ia j J (J (j*2+1)).toNat) (cI .u64 (ofNat 1) (J (j*2))))=ia (j+1) J:=by
 have hlt:=nu J (J (j*2+1)).toNat 60 j hs;have e1:cI .u64 (ofNat 1) (J (j*2))=((2 ^ (J (j*2)).toNat:Nat):Int):=by
  have:=BF (i:=(J (j*2)).toNat) wO;rw[Int.toNat_of_nonneg h2] at this;exact this
 have hp:(2:Nat) ^ (J (j*2)).toNat<2 ^ 62:=Nat.pow_lt_pow_right (by decide) wO;rw[e1];unfold ia;rw[PX (Nat.lt_of_lt_of_le hlt (Nat.pow_le_pow_right (by decide) (by decide))) (Nat.lt_of_lt_of_le hp (Nat.pow_le_pow_right (by decide) (by decide))),gh];funext c;show (if c=(J (j*2+1)).toNat then _ else (cZ J c j:Int))=((cZ J c (j+1):Nat):Int);have e2:cZ J c (j+1)=if J (j*2+1)=(c:Int) then cZ J c j ||| 2 ^ (J (j*2)).toNat else cZ J c j:=rfl
 rw[e2];by_cases e:c=(J (j*2+1)).toNat
 · rw[if_pos e,if_pos wO,e]
 · rw[if_neg e,if_neg wO]
theorem Rn (hl:U≤10) (hb:V≤1000) (hp:gI U V J) (W:Nat→Int):exec (bQ (n+6) 62 78) (.block 2 (.loop (part Tryd.f62 [1,1,1,1,0,1,0,0]))) (wq V J (ofNat 0)) (xB O U Z V J W (ia 0 J)::H)=some (.normal,wq V J (ofNat V)++[(59,.bool false)],xB O U Z V J W (ia V J)::H):=by
 refine ig (n:=n+6) (f:=62) (nt:=78) (c:=part Tryd.f62 [1,1,1,1,0,1,0,0]) 2 (fun j=>wq V J (j:Int)) (fun j=>xB O U Z V J W (ia j J)::H) V (_,_) wO (fun j hj=>?_) ?_
 · obtain ⟨⟨v1,v2⟩,v3,v4⟩:=hp j hj;have ej:bm .i64 (j:Int) (ofNat 1)=((j+1:Nat):Int):=eX wO;have ei:aw 0 (j:Int) 2=j*2:=by rw[bJ];omega
   have es:cq (aw 23 (J (j*2+1)) 1) 23=(J (j*2+1)).toNat:=by rw[bJ,dD];omega
   have T:=Uw (n+5) O U Z V J W (ia j J) H (j:Int);rw[ei,aM (j*2),ej,es,Fe v3 v1 wO (fun i hi=>by have:=hp i wO;omega)] at T;refine aB T (ff (n+5) 1) (aj _ _) (ak _ _) ?_;refine Tr.af (fun h0=>?_) wJ;refine Tr.aa wG (Tr.aa wG (Tr.aa wG (Tr.aa wG (Tr.aa wG (Tr.aa wG (Tr.aa wG (Tr.aa wG (Tr.aa wG (Tr.aa wG (Tr.aa wG (Tr.aa wG (Tr.aa wG ?_))))))))))));exact Tr.ag ⟨rfl,rfl⟩
 · obtain ⟨x,h1,rfl⟩:=aB (Q:=fun x=>x=(.exit 2,wq V J (ofNat V)++[(59,.bool false)],xB O U Z V J W (ia V J)::H)) (Uw (n+5) O U Z V J W (ia V J) H (ofNat V)) (ff (n+5) 1) (aj _ _) (ak _ _) (by
    refine Tr.af wJ (fun h0=>Tr.ag rfl))
   exact h1
noncomputable def HD (O:Int) (U:Nat) (Z:Nat→Int) (V:Nat) (J:Nat→Int):AV:=shV O U Z V J (c9 O U Z) (ia V J)
theorem PS (hl:U≤10) (hb:V≤1000) (hd:1≤O∧O≤100) (hv:qQ U Z) (hp:gI U V J):cd (n+7) (.fn 62) [a8 O U Z V J] H=some (HD O U Z V J,H):=by
 refine nh ?_;have hx:=WI n O U Z V J H hl hd hv (fun _=>ofNat 0);rw[PN,JK] at hx;have hk:=Rn n O U Z V J H hl hb hp (c9 O U Z);rw[NF] at hk;obtain ⟨y,h1,h2,h3⟩:Tr.all (bg Tryd.prog (cd (n+6)) 100000 62 Tryd.f62 (KtG.kt 62) (il aF (n+6) 0) (cV (cV aR 0 (wm U Z (ofNat 0)) (xB O U Z V J (fun _=>ofNat 0) (fun _=>ofNat 0)::H) (.ok (.normal,hints (wm U Z (ofNat U)++[(15,.bool false)]),xB O U Z V J (c9 O U Z) (fun _=>ofNat 0)::H))) 2 (wq V J (ofNat 0)) (xB O U Z V J (c9 O U Z) (fun _=>ofNat 0)::H) (.ok (.normal,hints (wq V J (ofNat V)++[(59,.bool false)]),xB O U Z V J (c9 O U Z) (ia V J)::H))) aQ [(a8 O U Z V J,none)] H) (fun y=>y.1.1=.ptrT (some 0) (shR O U Z V J (c9 O U Z) (ia V J)) 0∧y.2=H):=by
  rw[Xw n O U Z V J (c9 O U Z) (fun _=>ofNat 0) (ia V J) H];exact Tr.ai ⟨rfl,rfl⟩ (Tr.aa wG (Tr.aa wG (Tr.ai ⟨rfl,rfl⟩ (Tr.ag ⟨rfl,rfl⟩))))
 have:=xf (P:=Tryd.prog) (KT:=KtG.kt) (fu:=100000) (f:=62) (call:=cd (n+6)) (fn:=Tryd.f62) Tryd.func62 rfl (args:=[(a8 O U Z V J,none)]) (H:=H) rfl (ay _) (aZ (aZ (aj _ _) UE (fun x h=>by rw[← Tr.ae h];simp only[eB.st,aL];exact hx)) P5 (fun x h=>by rw[← Tr.ae h];simp only[eB.st,aL];exact hk)) (ak _ _) h1;rw[h2,h3] at this;have e:jf (cd (n+6)) 62 [a8 O U Z V J] H=P0 (od Tryd.prog KtG.kt 100000 62 (cd (n+6)) (lJ [(a8 O U Z V J,none)]) H):=by
  show (match Gall.uQ (cd (n+6)) 62 [a8 O U Z V J] H with
   | some x=>some x
   | none=>wV [⟨15,[],.bool true⟩] (cd (n+6)) 62 [a8 O U Z V J] H)=_
  have e2:Gall.uQ (cd (n+6)) 62 [a8 O U Z V J] H=P0 (od Tryd.prog KtG.kt 100000 62 (cd (n+6)) [a8 O U Z V J] H):=rfl;rw[e2];rw[this];have e3:od Tryd.prog KtG.kt 100000 62 (cd (n+6)) [a8 O U Z V J] H=_:=this;rw[e3];rfl
 rw[e,this];rfl
end
end Go.Eng
end
section
namespace Go.Eng
open Int (ofNat)
open Go.Proofs
noncomputable def oP (A:AV) (x:Int):aC:=[(0,A),(3,.int .u64 x)]
noncomputable def AU (A:AV) (U:Nat) (x f c:Int):aC:=[(0,A),(3,.int .u64 x),(4,.int .u64 f),(21,.int .i64 (ofNat U)),(22,.int .i64 c)]
theorem t63 (n:Nat) (O:Int) (U:Nat) (Z:Nat→Int) (V:Nat) (J:Nat→Int) (W B:Nat→Int) (H:ab) (x f c:Int):aS (bQ n 63 51) (il aF n 0) aR aQ (part Tryd.f63 [1,1,1,0,0,0,1,0,1,0,1,0,0]) (hints (AU (shV O U Z V J W B) U x f c)) (av::H) =
 (fun (Z0:aH)=>Tr.ite (bM c (ofNat U)) (Tr.req (dp (ofNat 0) c) (Tr.ite (bF (b9 (lQ IntKind.u64 x (cI IntKind.u64 (ofNat 1) c)) (ofNat 0))) (Tr.req (c6 c 10) (Tr.req (eD (aw 23 c 1) 1 23 10) (Tr.ite (b9 (lQ IntKind.u64 (B (cq (aw 23 c 1) 23)) x) (ofNat 0)) (Tr.req (dp (ofNat 0) c) (Tr.ok (Ex.normal,[(0,shV O U Z V J W B,none),(3,AV.int IntKind.u64 x,none),(4,AV.int IntKind.u64 (qd IntKind.u64 f (cI IntKind.u64 (ofNat 1) c)),none),(21,iI U,none),(22,AV.int .i64 (bm .i64 c (ofNat 1)),none)],av::H))) (Tr.ok (Ex.normal,Z0,av::H))))) (Tr.ok (Ex.normal,Z0,av::H)))) (Tr.ok (Ex.exit 2,[(0,shV O U Z V J W B,none),(3,AV.int IntKind.u64 x,none),(4,AV.int IntKind.u64 f,none),(21,iI U,none),(22,AV.int .i64 c,none),(23,AV.bool false,some 1)],av::H))) [(0,shV O U Z V J W B,none),(3,AV.int IntKind.u64 x,none),(4,AV.int IntKind.u64 f,none),(21,iI U,none),(22,AV.int .i64 (bm .i64 c (ofNat 1)),none)]:=by kernel_rfl
theorem Xd (n:Nat) (O:Int) (U:Nat) (Z:Nat→Int) (V:Nat) (J:Nat→Int) (W B:Nat→Int) (H:ab) (x f:Int):aS (bQ n 63 51) (il aF n 0) (cV aR 2 (AU (shV O U Z V J W B) U x (ofNat 0) (ofNat 0)) (av::H) (.ok (.normal,hints (AU (shV O U Z V J W B) U x f (ofNat U)++[(23,.bool false)]),av::H))) aQ (part Tryd.f63 [1,1,1,0,0,0]) (hints (oP (shV O U Z V J W B) x)) (av::H) =
 (fun (Z0:aC)=>Tr.ite (bF (b9 x (ofNat 0))) (Tr.reqP (Z0=Z0∧av::H=av::H) (Tr.ite (b9 f (ofNat 0)) (Tr.ok (Ex.ret,[(2,AV.bool true,some 1)],av::H)) (Tr.ok (Ex.normal,[(0,shV O U Z V J W B,none),(3,AV.int IntKind.u64 (HM IntKind.u64 x f),none)],av::H)))) (Tr.ok (Ex.exit 0,[(0,shV O U Z V J W B,none),(3,AV.int IntKind.u64 x,none),(15,AV.bool false,some 1)],av::H))) [(0,shV O U Z V J W B),(3,AV.int IntKind.u64 x),(4,AV.int IntKind.u64 (ofNat 0)),(21,iI U),(22,iI 0)]:=by kernel_rfl
theorem Xx (n:Nat) (O:Int) (U:Nat) (Z:Nat→Int) (V:Nat) (J:Nat→Int) (W B:Nat→Int) (H:ab) (e:Bool) (x:Int):bg Tryd.prog (cd (n+1)) 100000 63 Tryd.f63 (KtG.kt 63) (il aF n 1) (cV aR 0 (oP (shV O U Z V J W B) (bX .u64 (cI .u64 (ofNat 1) (ofNat U)) (ofNat 1))) (av::H) (.ite e (.ok (.ret,[(2,.bool true,none)],av::H)) (.ok (.normal,hints (oP (shV O U Z V J W B) x++[(15,.bool false)]),av::H)))) aQ [(shV O U Z V J W B,none)] H =
 (fun (Z0:aC)=>Tr.ite (lP B (fun x=>ofNat 0) 10) (Tr.ok ((AV.bool false,some 1),H)) (Tr.req (dp (ofNat 0) (ofNat U)) (Tr.reqP (Z0=Z0∧av::H=av::H) (Tr.ite e (Tr.ok ((AV.bool true,none),H)) (Tr.ok ((AV.bool false,some 1),H)))))) [(0,shV O U Z V J W B),(3,AV.int IntKind.u64 (bX IntKind.u64 (cI IntKind.u64 (ofNat 1) (ofNat U)) (ofNat 1)))]:=by kernel_rfl
end Go.Eng
end
section
namespace Go.Eng
open Int (ofNat)
open Go.Proofs Go.Eng.Gall
theorem SB {n f nt:Nat} {c:Code} (id:Nat) (F:Nat→aC) (G:Nat→ab) (N:Nat) (Y:aC×ab) (hN:N<99999)
 (hs:∀ j,j<N→∃ x,exec (bQ n f nt) c (F j) (G j)=some x∧(x.1=.normal∧tidy (aW (G 0)) x.2.1 x.2.2=(F (j+1),G (j+1))))
 (he:exec (bQ n f nt) c (F N) (G N)=some (.ret,Y)):exec (bQ n f nt) (.block id (.loop c)) (F 0) (G 0)=some (.ret,Y):=by
 have key:=iN (body:=exec (bQ n f nt) c) (n:=aW (G 0)) F G N (fun _=>false) (fun j=>(.ret,Y))
  (fun j hj hp=>by
    obtain ⟨x,h1,h2,h3⟩:=hs j hj;obtain ⟨e,f1,g1⟩:=x;simp only at h2;subst h2;exact ⟨_,_,h1,h3⟩)
  (fun j hj hp=>by cases hp)
  (by exact ⟨he,by simp⟩) N 0 100000 wO wO
 exact cJ (fun id' h=>by cases h) key
theorem Uj {x y:Nat} (hx:x<2 ^ 62) (hy:y<2 ^ 62):∃ z:Nat,HM .u64 (x:Int) (y:Int)=(z:Int)∧∀ i,z.testBit i=(x.testBit i && !y.testBit i):=by
 refine ⟨(BitVec.ofNat 64 x &&& ~~~BitVec.ofNat 64 y).toNat,?_,fun i=>?_⟩
 · rw[rU];show IntKind.u64.wrap ((BitVec.ofInt 64 (x:Int) &&& ~~~BitVec.ofInt 64 (y:Int)).toNat:Nat)=_;rw[Q.H6,Q.H6];exact Q.jI (BitVec.isLt _)
 · rw[BitVec.testBit_toNat,BitVec.getLsbD_and,BitVec.getLsbD_not,BitVec.getLsbD_ofNat,BitVec.getLsbD_ofNat];by_cases hi:i<64
   · simp[hi]
   · have:x.testBit i=false:=Nat.testBit_lt_two_pow (Nat.lt_of_lt_of_le hx (Nat.pow_le_pow_right (by decide) wO));simp[hi,this]
theorem uX (z y:Nat→Int):∀ n,allEq z y n=true↔∀ j,j<n→z j=y j
 | 0=>⟨fun _ j hj=>by omega,fun _=>rfl⟩
 | n + 1=>by
   rw[allEq,Bool.and_eq_true,uX z y n,beq_iff_eq];constructor
   · rintro ⟨h1,h2⟩ j hj;by_cases e:j=n
     · subst e;exact h2
     · exact h1 j wO
   · intro h;exact ⟨fun j hj=>h j wO,h n wO⟩
theorem uY {z y:Nat→Int} {n:Nat} (h:lP z y n=true):∀ j,j<n→z j=y j:=by
 rw[uZ] at h;exact (uX z y n).1 h
theorem UF:∀ b,(0,b) ∈ aP (bA Tryd.f63)→b=.loop (part Tryd.f63 [1,1,1,0,0,0]):=eN (by kernel_rfl)
theorem P6:∀ b,(2,b) ∈ aP (part Tryd.f63 [1,1,1,0,0,0])→b=.loop (part Tryd.f63 [1,1,1,0,0,0,1,0,1,0,1,0,0]):=eN (by kernel_rfl)
def bI (b:Nat→Nat) (c:Nat):Int:=(b c:Int)
section
variable (n:Nat) (O:Int) (U:Nat) (Z:Nat→Int) (V:Nat) (J:Nat→Int) (W:Nat→Int) (b:Nat→Nat) (H:ab)
theorem s7 (p:Nat→Bool) {j:Nat} (hj:j≤10):mk p j<2 ^ 62:=Nat.lt_of_lt_of_le (OJ p j) (Nat.pow_le_pow_right (by decide) wO)
def pz (U:Nat) (b:Nat→Nat) (t c:Nat):Bool:=bL U b t c && !bL U b (t+1) c
theorem WJ (hl:U≤10) (hb:∀ c,c<U→b c<2 ^ 62) (t:Nat):exec (bQ n 63 51) (.block 2 (.loop (part Tryd.f63 [1,1,1,0,0,0,1,0,1,0,1,0,0]))) (AU (shV O U Z V J W (bI b)) U (mk (bL U b t) U:Nat) (ofNat 0) (ofNat 0)) (av::H) =
 some (.normal,AU (shV O U Z V J W (bI b)) U (mk (bL U b t) U:Nat) (mk (pz U b t) U:Nat) (ofNat U)++[(23,.bool false)],av::H):=by
 refine ig (n:=n) (f:=63) (nt:=51) (c:=part Tryd.f63 [1,1,1,0,0,0,1,0,1,0,1,0,0]) 2 (fun c=>AU (shV O U Z V J W (bI b)) U (mk (bL U b t) U:Nat) (mk (pz U b t) c:Nat) (c:Int)) (fun _=>av::H) U (_,_) wO (fun c hc=>?_) ?_
 · have ec:bm .i64 (ofNat c) (ofNat 1)=((c+1:Nat):Int):=eX wO
   have es:cq (aw 23 (ofNat c) 1) 23=c:=by rw[bJ,dD];show 23+c*1-23=c;omega
   have T:=t63 n O U Z V J W (bI b) H (mk (bL U b t) U:Nat) (mk (pz U b t) c:Nat) (ofNat c)
   have h1:=Q.Fm (X:=mk (bL U b t) U) (c:=c) (s7 _ hl) wO
   rw[im,decide_eq_true hc,Bool.true_and] at h1
   have h2:b9 (lQ .u64 (bI b c) ((mk (bL U b t) U:Nat):Int)) (ofNat 0)=!bL U b (t+1) c:=by
    unfold bI;rw[Q.Lq (Nat.lt_trans (hb c hc) (by decide)) (Nat.lt_trans (s7 _ hl) (by decide)),aE];have:=I4 (n:=U) (b:=b) (t:=t) hc;cases e:bL U b (t+1) c with
    | true =>
      have hne:b c &&& mk (bL U b t) U≠0:=fun h=>by rw[this.2 h] at e;cases e
      show (((b c &&& mk (bL U b t) U:Nat):Int) == 0)=false;rw[beq_eq_false_iff_ne];omega
    | false =>
      show (((b c &&& mk (bL U b t) U:Nat):Int) == 0)=true;rw[this.1 e];rfl
   have h3:bL U b t c=true→bL U b (t+1) c=false→qd .u64 ((mk (pz U b t) c:Nat):Int) (cI .u64 (ofNat 1) (ofNat c))=((mk (pz U b t) (c+1):Nat):Int):=fun q1 q2=>by
    rw[Q.Fo (s7 _ wO) wO (by rw[im];simp)];have:pz U b t c=true:=by unfold pz;rw[q1,q2];rfl
    show _=(((if pz U b t c=true then mk (pz U b t) c+2 ^ c else mk (pz U b t) c):Nat):Int);rw[if_pos this]
   have h4:pz U b t c=false→mk (pz U b t) (c+1)=mk (pz U b t) c:=fun q=>by
    show (if pz U b t c=true then mk (pz U b t) c+2 ^ c else mk (pz U b t) c)=_;rw[if_neg (by rw[q];decide)]
   rw[es,h1,h2,ec] at T
   refine aB T (ay n) (aj _ _) (ak _ _) ?_
   refine Tr.af (fun h0=>?_) wJ
   refine Tr.aa wG (Tr.af (fun q1=>?_) (fun q1=>?_))
   · rw[ar] at q1
     refine Tr.aa wG (Tr.aa wG (Tr.af (fun q2=>?_) (fun q2=>?_)))
     · refine Tr.aa wG (Tr.ag ⟨rfl,?_⟩)
       rw[h3 (by simpa using q1) (by simpa using q2)];rfl
     · refine Tr.ag ⟨rfl,?_⟩
       rw[h4 (by unfold pz;rw[show bL U b (t+1) c=true by simpa using q2];simp)];rfl
   · rw[ar] at q1
     refine Tr.ag ⟨rfl,?_⟩
     rw[h4 (by unfold pz;rw[show bL U b t c=false by simpa using q1];rfl)];rfl
 · obtain ⟨x,h1,rfl⟩:=aB (Q:=fun x=>x=(.exit 2,AU (shV O U Z V J W (bI b)) U (mk (bL U b t) U:Nat) (mk (pz U b t) U:Nat) (ofNat U)++[(23,.bool false)],av::H)) (t63 n O U Z V J W (bI b) H (mk (bL U b t) U:Nat) (mk (pz U b t) U:Nat) (ofNat U)) (ay n) (aj _ _) (ak _ _) (by
    refine Tr.af wJ (fun h0=>Tr.ag rfl))
   exact h1
theorem Uv (hl:U≤10) (hb:∀ c,c<U→b c<2 ^ 62) (t:Nat):exec (bQ n 63 51) (part Tryd.f63 [1,1,1,0,0,0]) (oP (shV O U Z V J W (bI b)) (mk (bL U b t) U:Nat)) (av::H) =
 some (if mk (bL U b t) U=0 then (.exit 0,oP (shV O U Z V J W (bI b)) (mk (bL U b t) U:Nat)++[(15,.bool false)],av::H) else if mk (pz U b t) U=0 then (.ret,[(2,.bool true)],av::H) else (.normal,oP (shV O U Z V J W (bI b)) (mk (bL U b (t+1)) U:Nat),av::H)):=by
 obtain ⟨z,e,hz⟩:=Uj (s7 (bL U b t) hl) (s7 (pz U b t) hl)
 have hz2:z=mk (bL U b (t+1)) U:=by
  apply Nat.eq_of_testBit_eq;intro i;rw[hz,im,im,im];unfold pz;by_cases hi:i<U
  · rw[decide_eq_true hi];cases e1:bL U b (t+1) i with
    | true=>rw[wR e1];rfl
    | false=>cases bL U b t i<;>rfl
  · rw[decide_eq_false hi];rfl
 rw[hz2] at e
 have T:=Xd n O U Z V J W (bI b) H (mk (bL U b t) U:Nat) (mk (pz U b t) U:Nat)
 rw[e] at T
 obtain ⟨x,h1,rfl⟩:=aB (Q:=fun x=>x=(if mk (bL U b t) U=0 then (.exit 0,oP (shV O U Z V J W (bI b)) (mk (bL U b t) U:Nat)++[(15,.bool false)],av::H) else if mk (pz U b t) U=0 then (.ret,[(2,.bool true)],av::H) else (.normal,oP (shV O U Z V J W (bI b)) (mk (bL U b (t+1)) U:Nat),av::H))) T (ay n) (aZ (aj _ _) P6 (fun x h=>by rw[← Tr.ae h];simp only[eB.st,aL];exact WJ n O U Z V J W b H hl hb t)) (ak _ _) (by
  refine Tr.af (fun q=>?_) (fun q=>?_)
  · rw[ar,aE] at q;have q:¬ mk (bL U b t) U=0:=fun h=>by rw[h] at q;exact absurd q (by decide)
    rw[if_neg q];refine Tr.ai ⟨rfl,rfl⟩ (Tr.af (fun r=>?_) (fun r=>?_))
    · rw[aE,beq_iff_eq] at r;rw[if_pos (by have:((mk (pz U b t) U:Nat):Int)=0:=r;omega)];exact Tr.ag rfl
    · rw[aE,beq_eq_false_iff_ne] at r;rw[if_neg (fun h=>r (by rw[h];rfl))];exact Tr.ag rfl
  · rw[ar,aE] at q;have q:mk (bL U b t) U=0:=by
     have q:(((mk (bL U b t) U:Nat):Int) == 0)=true:=by simpa using q
     rw[beq_iff_eq] at q;omega
    rw[if_pos q];exact Tr.ag rfl)
 exact h1
theorem Um (hl:U≤10) (hb:∀ c,c<U→b c<2 ^ 62):cd (n+2) (.fn 63) [shV O U Z V J W (bI b)] H=some (.bool (iK U b),H):=by
 have e0:bX .u64 (cI .u64 (ofNat 1) (ofNat U)) (ofNat 1)=((mk (bL U b 0) U:Nat):Int):=by
  have h1:=Nat.two_pow_pos U;have h2:2 ^ U≤2 ^ 10:=Nat.pow_le_pow_right (by decide) hl;have h3:mk (bL U b 0) U=2 ^ U-1:=Mi U;rw[Q.BF wO,ep,h3];show IntKind.u64.wrap (((2 ^ U:Nat):Int)-1)=_;rw[show ((2 ^ U:Nat):Int)-1=((2 ^ U-1:Nat):Int) by omega];exact Q.jI wO
 obtain ⟨T,hT,hgo,hend⟩:=Lw (n:=U) (b:=b);have hrd:∀ t,t<T→∃ x,exec (bQ (n+1) 63 51) (part Tryd.f63 [1,1,1,0,0,0]) (oP (shV O U Z V J W (bI b)) (mk (bL U b t) U:Nat)) (av::H)=some x∧(x.1=.normal∧tidy 0 x.2.1 x.2.2=(oP (shV O U Z V J W (bI b)) (mk (bL U b (t+1)) U:Nat),av::H)):=fun t ht=>by
  obtain ⟨⟨c,hc⟩,d,d1,d2⟩:=hgo t ht;have r:=Uv (n+1) O U Z V J W b H hl hb t;rw[if_neg (fun h=>by have:=mk_zero.1 h c (mr hc);rw[hc] at this;cases this),if_neg (fun h=>by have:=mk_zero.1 h d (mr d1);unfold pz at this;rw[d1,d2] at this;cases this)] at r;exact ⟨_,r,rfl,rfl⟩
 have hB:∃ e x,(e=iK U b)∧exec (bQ (n+1) 63 51) (.block 0 (.loop (part Tryd.f63 [1,1,1,0,0,0]))) (oP (shV O U Z V J W (bI b)) (mk (bL U b 0) U:Nat)) (av::H)=some (cond e (.ret,[(2,.bool true)],av::H) (.normal,oP (shV O U Z V J W (bI b)) x++[(15,.bool false)],av::H)):=by
  have rT:=Uv (n+1) O U Z V J W b H hl hb T;rcases hend with ⟨h1,h2⟩ | ⟨⟨c,hc⟩,h1,h2⟩
  · rw[if_pos (mk_zero.2 fun c _=>h1 c)] at rT;exact ⟨false,(mk (bL U b T) U:Nat),h2.symm,ig (n:=n+1) (f:=63) (nt:=51) 0 (fun t=>oP (shV O U Z V J W (bI b)) (mk (bL U b t) U:Nat)) (fun _=>av::H) T (_,_) wO hrd rT⟩
  · rw[if_neg (fun h=>by have:=mk_zero.1 h c (mr hc);rw[hc] at this;cases this),if_pos (mk_zero.2 fun d _=>by
     unfold pz;cases e:bL U b T d with
     | false=>rfl
     | true=>rw[h1 d e];rfl)] at rT
    exact ⟨true,0,h2.symm,SB (n:=n+1) (f:=63) (nt:=51) 0 (fun t=>oP (shV O U Z V J W (bI b)) (mk (bL U b t) U:Nat)) (fun _=>av::H) T (_,_) wO hrd rT⟩
 obtain ⟨e,x,he,hx⟩:=hB;have XO:=Xx n O U Z V J W (bI b) H e x;rw[e0] at XO;refine rj (n:=n+1) Tryd.func63 rfl (fun _ _=>rfl) rfl XO (ff n 1) (aZ (aj _ _) UF (fun y h=>eO h hx)) (ak _ _) ?_;refine Tr.af (fun q=>Tr.ag ⟨?_,rfl⟩) (fun q=>Tr.aa ?_ (Tr.ai ⟨rfl,rfl⟩ (Tr.af (fun r=>Tr.ag ⟨by rw[← he,r],rfl⟩) (fun r=>Tr.ag ⟨by rw[← he,r],rfl⟩))))
 · have q0:∀ c,c<10→b c=0:=fun c hc=>by
    have:=uY q c hc;have:((b c:Nat):Int)=0:=this;omega
   have:iK U b=false:=by
    cases e1:iK U b with
    | false=>rfl
    | true =>
      unfold iK at e1;obtain ⟨c,h1,h2⟩:=List.any_eq_true.1 e1;have hc:=List.mem_range.1 h1;obtain ⟨m,rfl⟩:∃ m,U=m+1:=⟨U-1,by omega⟩
      obtain ⟨_,a,_,a2⟩:=ga.1 h2;rw[q0 c wO] at a2;simp at a2
   rw[this]
 · rw[bh];exact decide_eq_true (by show (0:Int)≤(U:Int);omega)
end
end Go.Eng
end
