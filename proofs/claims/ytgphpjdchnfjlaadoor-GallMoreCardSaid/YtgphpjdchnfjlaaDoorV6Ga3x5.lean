/- Gall: CheckList: its loop over the pairs; trees. -/
import Derived.Test.YtgphpjdchnfjlaaDoorV6GaKx6
import Derived.Test.YtgphpjdchnfjlaaDoorV6Gp2x6
import Derived.Test.YtgphpjdchnfjlaaDoorV6EngRoSx4
set_option linter.unusedVariables false
set_option linter.unusedSimpArgs false
set_option maxRecDepth 100000
section
namespace Go.Eng
open Int (ofNat)
open Go.Proofs
noncomputable def gB (e:Bool) (C:List AV→Prop):List AV→Option (Prop×AV):=fun x=>some (C x,.bool e)
noncomputable def Gq (O:Int) (U:Nat) (Z:Nat→Int) (V:Nat) (J:Nat→Int):bK:=⟨false,[(0,.row (.G [.int .i64 O,slA 4 U Z,slA 2 V J])),(0,.row (.I .i64 [cq .i64 (ofNat U) (ofNat 1)])),(0,.row (.I .i64 [O]))]⟩
noncomputable def MT (m:Nat) (z:Nat→Int) (full:Bool):AV:=.slcT none (.M [.arr .i64 z (aC m 2)]) 2 m full
noncomputable def Nq (a b:Int):AV:=.agg (.I .i64 [a,b])
noncomputable def Kh (a b:Int):bK:=⟨false,[(0,.row (.I .i64 [a,b]))]⟩
noncomputable def D6 (m:Nat) (z:Nat→Int) (full:Bool) (j:Int):aE:=[(0,MT m z full),(3,.ptr 0 0 0 0),(7,.int .i64 (ofNat m)),(8,.int .i64 j)]
noncomputable def A1 (U V:Nat) (J:Nat→Int) (j:Int):aE:=[(1,.ptr 0 0 0 0),(4,.int .i64 (cq .i64 (ofNat U) 1)),(35,slA 2 V J),(36,.int .i64 (ofNat V)),(37,.int .i64 j)]
theorem t22 (n:Nat) (O:Int) (U:Nat) (Z:Nat→Int) (V:Nat) (J:Nat→Int) (H:aa) (j:Int) (e:Bool) (C:List AV→Prop):aJ (bP (n+10) 22 69) (il (nK (iz aM 61 (gB e C)) 59 gW) (n+10) 0) aV aR (part Tryd.f22 [1,1,1,1,0,1,0,0]) (hints (A1 U V J j)) (Gq O U Z V J::H) =
 (fun (Z0:bK)=>Tr.ite (bQ j (ofNat V)) (Tr.req (bL j V) (Tr.req (bt (au 0 j 2) (aC V 2)) (Tr.req (bt (ah (au 0 j 2) 1) (aC V 2)) (Tr.req (bL (ofNat 0) 2) (Tr.req (bL (ofNat 1) 2) (Tr.ite (c7 (J (au 0 j 2)) (J (ah (au 0 j 2) 1))) (Tr.ok (Ex.ret,[(2,iI 2,some 1)],(bO [(0,fT O U Z V J),(0,ao.row (Row.I .i64 [cq .i64 (ofNat U) (ofNat 1)])),(0,ao.row (Row.I .i64 [O])),(0,ao.row (Row.I .i64 [J (au 0 j 2),J (ah (au 0 j 2) 1)])),(0,ao.dead)])::H)) (Tr.req (bL (ofNat 0) 2) (Tr.req (bL (ofNat 1) 2) (Tr.ite (bD (bC (bC (dS (ofNat 0) (J (au 0 j 2))) (dS (J (au 0 j 2)) (cq .i64 (ofNat U) (ofNat 1)))) (bC (bC (dS (ofNat 0) (J (ah (au 0 j 2) 1))) (dS (J (ah (au 0 j 2) 1)) (cq .i64 (ofNat U) (ofNat 1)))) true))) (Tr.ok (Ex.ret,[(2,iI 2,some 1)],Z0::H)) (Tr.req (kS j V) (Tr.req (bH (ah (aC 0 2) (aC (cg j) 2)) (aC V 2)) (Tr.reqP (C [AV.slcT none (rM J (aC (cg j) 2)) 2 (cg j) (bC false (aU (cg j) V)),AV.agg (Row.I .i64 [J (au 0 j 2),J (ah (au 0 j 2) 1)])]) (Tr.ite e (Tr.ok (Ex.ret,[(2,iI 2,some 1)],Z0::H)) (Tr.ok (Ex.normal,[(1,AV.ptr 0 0 0 0,none),(4,AV.int .i64 (cq .i64 (ofNat U) (ofNat 1)),none),(35,slA 2 V J,none),(36,iI V,none),(37,AV.int .i64 (bh .i64 j (ofNat 1)),none)],Z0::H))))))))))))))) (Tr.ok (Ex.exit 1,[(1,AV.ptr 0 0 0 0,none),(4,AV.int .i64 (cq .i64 (ofNat U) (ofNat 1)),none),(35,slA 2 V J,none),(36,iI V,none),(37,AV.int .i64 j,none),(38,AV.bool false,some 1)],(bO [(0,fT O U Z V J),(0,ao.row (Row.I .i64 [cq .i64 (ofNat U) (ofNat 1)])),(0,ao.row (Row.I .i64 [O]))])::H))) (bO [(0,fT O U Z V J),(0,ao.row (Row.I .i64 [cq .i64 (ofNat U) (ofNat 1)])),(0,ao.row (Row.I .i64 [O])),(0,ao.row (Row.I .i64 [J (au 0 j 2),J (ah (au 0 j 2) 1)])),(0,ao.row (Row.I .i64 [J (au 0 j 2),J (ah (au 0 j 2) 1)]))]):=by kernel_rfl
theorem WY (n:Nat) (O:Int) (U:Nat) (Z:Nat→Int) (V:Nat) (J:Nat→Int) (H:aa) (lvR:bK) (e1 e2 e3:Bool) (C1 C2 C3:List AV→Prop) (S:AV):bz Tryd.prog (cd (n+10)) 100000 22 Tryd.f22 (KtG.kt 22) (il (iz (iz (nK (iz aM 60 (gB e1 C1)) 59 gW) 62 (fun x=>some (C2 x,S))) 63 (gB e2 C3)) (n+10) 0) (c9 aV 1 (A1 U V J (ofNat 0)) (Gq O U Z V J::H) (.ite e3 (.ok (.ret,[(2,.int .i64 2,none)],lvR::H)) (.ok (.normal,hints (A1 U V J (ofNat V)++[(38,.bool false)]),Gq O U Z V J::H)))) aR [(bX O U Z V J,none)] H =
 (fun (Z0:bK)=>((fun (Z1:aE)=>Tr.ite (bD (bC (bC (dS (ofNat 0) (cq .i64 (ofNat U) (ofNat 1))) (dS (cq .i64 (ofNat U) (ofNat 1)) (ofNat 9))) true)) (Tr.ok ((iI 6,some 1),H)) (Tr.ite (bQ (ofNat 40) (ofNat V)) (Tr.ok ((iI 6,some 1),H)) (Tr.ite (bD (bC (bC (dS (ofNat 1) O) (dS O (ofNat 100))) true)) (Tr.ok ((iI 3,some 1),H)) (Tr.reqP (C1 [slA 4 U Z,AV.fn (Fn.func 58) [] []]) (Tr.ite e1 (Tr.ok ((iI 3,some 1),H)) (Tr.reqP (Z1=Z1∧Z0::H=Z0::H) (Tr.ite e3 (Tr.ok ((iI 2,none),H)) (Tr.reqP (C2 [bX O U Z V J]) (Tr.reqP (C3 [S]) (Tr.ite e2 (Tr.ok ((iI 16,some 1),H)) (Tr.ok ((iI 0,some 1),H)))))))))))) [(1,AV.ptr 0 0 0 0),(4,AV.int .i64 (cq .i64 (ofNat U) (ofNat 1))),(35,slA 2 V J),(36,iI V),(37,iI 0)])) (bO [(0,fT O U Z V J),(0,ao.row (Row.I .i64 [cq .i64 (ofNat U) (ofNat 1)])),(0,ao.row (Row.I .i64 [O]))]):=by kernel_rfl
theorem t86 (n:Nat) (m:Nat) (z:Nat→Int) (full:Bool) (a b:Int) (H:aa) (j:Int):aJ (bP n 86 19) (il aM n 0) aV aR (part Tryd.f86 [1,0,1,0,0]) (hints (D6 m z full j)) (Kh a b::H) =
 Tr.ite (bQ j (ofNat m)) (Tr.req (bL j m) (Tr.req (bt (au 0 j 2) (aC m 2)) (Tr.req (bt (ah (au 0 j 2) 1) (aC m 2)) (Tr.ite (bC (c7 a (z (au 0 j 2))) (c7 b (z (ah (au 0 j 2) 1)))) (Tr.ok (Ex.ret,[(4,AV.int .i64 j,none)],(bO [(0,ao.row (Row.I .i64 [a,b]))])::H)) (Tr.ok (Ex.normal,[(0,AV.slcT none (rM z (aC m 2)) 2 m full,none),(3,AV.ptr 0 0 0 0,none),(7,iI m,none),(8,AV.int .i64 (bh .i64 j (ofNat 1)),none)],(bO [(0,ao.row (Row.I .i64 [a,b]))])::H)))))) (Tr.ok (Ex.exit 0,[(0,AV.slcT none (rM z (aC m 2)) 2 m full,none),(3,AV.ptr 0 0 0 0,none),(7,iI m,none),(8,AV.int .i64 j,none),(9,AV.bool false,some 1)],(bO [(0,ao.row (Row.I .i64 [a,b]))])::H)):=by kernel_rfl
theorem Xh (n:Nat) (m:Nat) (z:Nat→Int) (full:Bool) (a b:Int) (H:aa) (i:Int) (e:Bool):bz Tryd.prog (cd n) 100000 86 Tryd.f86 (KtG.kt 86) (il aM n 0) (c9 aV 0 (D6 m z full 0) (Kh a b::H) (.ite e (.ok (.ret,[(4,.int .i64 i,none)],Kh a b::H)) (.ok (.normal,hints (D6 m z full (ofNat m)++[(9,.bool false)]),Kh a b::H)))) aR [(MT m z full,none),(Nq a b,none)] H =
 (fun (Z0:aE)=>Tr.reqP (Z0=Z0∧(bO [(0,ao.row (Row.I .i64 [a,b]))])::H=(bO [(0,ao.row (Row.I .i64 [a,b]))])::H) (Tr.ite e (Tr.ok ((AV.int .i64 i,none),H)) (Tr.ok ((AV.int .i64 (Int.negSucc 0),some 1),H)))) [(0,AV.slcT none (rM z (aC m 2)) 2 m full),(3,AV.ptr 0 0 0 0),(7,iI m),(8,iI 0)]:=by kernel_rfl
theorem W5 (n:Nat) (m:Nat) (z:Nat→Int) (full:Bool) (a b:Int) (H:aa) (i:Int):bz Tryd.prog (cd n) 100000 61 Tryd.f61 (KtG.kt 61) (il (tX aM 86 [MT m z full,Nq a b] (.int .i64 i)) n 0) aV aR [(MT m z full,none),(Nq a b,none)] H =
 Tr.reqP ([AV.slcT none (rM z (aC m 2)) 2 m full,AV.agg (Row.I .i64 [a,b])]=[AV.slcT none (rM z (aC m 2)) 2 m full,AV.agg (Row.I .i64 [a,b])]) (Tr.ok ((AV.bool (dS (ofNat 0) i),none),H)):=by kernel_rfl
end Go.Eng
end
section
namespace Go.Eng
open Int (ofNat)
open Go.Proofs
noncomputable def xN (O:Int) (U:Nat) (Z:Nat→Int) (V:Nat) (J:Nat→Int) (W B:Nat→Int):bK:=⟨false,[(0,.row (.G [.int .i64 O,slA 4 U Z,slA 2 V J])),(0,.row (shR O U Z V J W B))]⟩
noncomputable def wK (U:Nat) (Z:Nat→Int) (j:Int):aE:=[(1,.ptr 0 0 0 0),(3,.ptr 0 1 0 0),(12,slA 4 U Z),(13,.int .i64 (ofNat U)),(14,.int .i64 j)]
noncomputable def wM (V:Nat) (J:Nat→Int) (j:Int):aE:=[(3,.ptr 0 1 0 0),(56,slA 2 V J),(57,.int .i64 (ofNat V)),(58,.int .i64 j)]
theorem t62 (n:Nat) (O:Int) (U:Nat) (Z:Nat→Int) (V:Nat) (J:Nat→Int) (W B:Nat→Int) (H:aa) (j:Int):aJ (bP (n+1) 62 78) (il aM n 1) aV aR (part Tryd.f62 [1,1,0,1,0,0]) (hints (wK U Z j)) (xN O U Z V J W B::H) =
 Tr.ite (bQ j (ofNat U)) (Tr.req (bL j U) (Tr.req (bt (au 0 j 4) (aC U 4)) (Tr.req (bt (ah (au 0 j 4) 1) (aC U 4)) (Tr.req (bt (ah (au 0 j 4) 2) (aC U 4)) (Tr.req (bt (ah (au 0 j 4) 3) (aC U 4)) (Tr.req (bD (c7 O (ofNat 0))) (Tr.req (bD (c7 O (ofNat 0))) (Tr.req (bD (c7 O (ofNat 0))) (Tr.req (bD (c7 O (ofNat 0))) (Tr.req (bD (c7 O (ofNat 0))) (Tr.req (bD (c7 O (ofNat 0))) (Tr.req (bL j 10) (Tr.req (aU 0 0) (Tr.req (dX (au 3 j 2) 1 3 20) (Tr.req (dX (ah (au 3 j 2) 1) 1 3 20) (Tr.req (bC (bH 0 0) (bH 0 1)) (Tr.ok (Ex.normal,[(1,AV.ptr 0 0 0 0,none),(3,AV.ptr 0 1 0 0,none),(12,slA 4 U Z,none),(13,iI U,none),(14,AV.int .i64 (bh .i64 j (ofNat 1)),none)],(bO [(0,fT O U Z V J),(0,ao.row (shR O U Z V J (cu (cu W (dx (au 3 j 2) 3) (mL (ofNat 0) (Gy IntKind.i64 (Ev IntKind.i64 (cq .i64 (cq .i64 (Z (ah (au 0 j 4) 3)) (Z (ah (au 0 j 4) 1))) (ay IntKind.i64 (bh .i64 (ay IntKind.i64 (cq .i64 (Z (ah (au 0 j 4) 3)) (Z (ah (au 0 j 4) 1))) O) O) O)) O)))) (dx (ah (au 3 j 2) 1) 3) (fY (cq .i64 (ofNat U) (ofNat 1)) (Ev IntKind.i64 (cq .i64 (cq .i64 (Z (au 0 j 4)) (Z (ah (au 0 j 4) 2))) (ay IntKind.i64 (bh .i64 (ay IntKind.i64 (cq .i64 (Z (au 0 j 4)) (Z (ah (au 0 j 4) 2))) O) O) O)) O))) B)),(0,ao.row (Row.I .i64 [Z (au 0 j 4),Z (ah (au 0 j 4) 1),Z (ah (au 0 j 4) 2),Z (ah (au 0 j 4) 3)]))])::H)))))))))))))))))) (Tr.ok (Ex.exit 0,[(1,AV.ptr 0 0 0 0,none),(3,AV.ptr 0 1 0 0,none),(12,slA 4 U Z,none),(13,iI U,none),(14,AV.int .i64 j,none),(15,AV.bool false,some 1)],(bO [(0,fT O U Z V J),(0,ao.row (shR O U Z V J W B))])::H)):=by kernel_rfl
theorem Ub (n:Nat) (O:Int) (U:Nat) (Z:Nat→Int) (V:Nat) (J:Nat→Int) (W B:Nat→Int) (H:aa) (j:Int):aJ (bP (n+1) 62 78) (il aM n 1) aV aR (part Tryd.f62 [1,1,1,1,0,1,0,0]) (hints (wM V J j)) (xN O U Z V J W B::H) =
 Tr.ite (bQ j (ofNat V)) (Tr.req (bL j V) (Tr.req (bt (au 0 j 2) (aC V 2)) (Tr.req (bt (ah (au 0 j 2) 1) (aC V 2)) (Tr.req (bL (ofNat 1) 2) (Tr.req (bL (J (ah (au 0 j 2) 1)) 10) (Tr.req (aU 0 0) (Tr.req (dX (au 23 (J (ah (au 0 j 2) 1)) 1) 1 23 10) (Tr.req (bL (ofNat 0) 2) (Tr.req (dS (ofNat 0) (J (au 0 j 2))) (Tr.req (bL (J (ah (au 0 j 2) 1)) 10) (Tr.req (aU 0 0) (Tr.req (dX (au 23 (J (ah (au 0 j 2) 1)) 1) 1 23 10) (Tr.req (bC (bH 0 0) (bH 0 1)) (Tr.ok (Ex.normal,[(3,AV.ptr 0 1 0 0,none),(56,slA 2 V J,none),(57,iI V,none),(58,AV.int .i64 (bh .i64 j (ofNat 1)),none)],(bO [(0,fT O U Z V J),(0,ao.row (shR O U Z V J W (cu B (dx (au 23 (J (ah (au 0 j 2) 1)) 1) 23) (r8 IntKind.u64 (B (dx (au 23 (J (ah (au 0 j 2) 1)) 1) 23)) (ep IntKind.u64 (ofNat 1) (J (au 0 j 2))))))),(0,ao.row (Row.I .i64 [J (au 0 j 2),J (ah (au 0 j 2) 1)]))])::H))))))))))))))) (Tr.ok (Ex.exit 2,[(3,AV.ptr 0 1 0 0,none),(56,slA 2 V J,none),(57,iI V,none),(58,AV.int .i64 j,none),(59,AV.bool false,some 1)],(bO [(0,fT O U Z V J),(0,ao.row (shR O U Z V J W B))])::H)):=by kernel_rfl
theorem W6 (n:Nat) (O:Int) (U:Nat) (Z:Nat→Int) (V:Nat) (J:Nat→Int) (W B B':Nat→Int) (H:aa):bz Tryd.prog (cd (n+6)) 100000 62 Tryd.f62 (KtG.kt 62) (il aM (n+6) 0) (c9 (c9 aV 0 (wK U Z (ofNat 0)) (xN O U Z V J (fun _=>ofNat 0) (fun _=>ofNat 0)::H) (.ok (.normal,hints (wK U Z (ofNat U)++[(15,.bool false)]),xN O U Z V J W (fun _=>ofNat 0)::H))) 2 (wM V J (ofNat 0)) (xN O U Z V J W B::H) (.ok (.normal,hints (wM V J (ofNat V)++[(59,.bool false)]),xN O U Z V J W B'::H))) aR [(bX O U Z V J,none)] H =
 (fun (Z0:bK)=>((fun (Z1:aE)=>Tr.reqP (Z1=Z1∧Z0::H=Z0::H) (Tr.req (bt 0 10) (Tr.req (aU 0 0) (Tr.reqP ([(3,AV.ptr 0 1 0 0),(56,slA 2 V J),(57,iI V),(58,iI 0)]=[(3,AV.ptr 0 1 0 0),(56,slA 2 V J),(57,iI V),(58,iI 0)]∧(bO [(0,fT O U Z V J),(0,ao.row (shR O U Z V J W (fun x=>ofNat 0)))])::H=(bO [(0,fT O U Z V J),(0,ao.row (shR O U Z V J W B))])::H) (Tr.ok ((AV.ptrT (some 0) (shR O U Z V J W B') 0,none),H)))))) [(1,AV.ptr 0 0 0 0),(3,AV.ptr 0 1 0 0),(12,slA 4 U Z),(13,iI U),(14,iI 0)])) (bO [(0,fT O U Z V J),(0,ao.row (shR O U Z V J (fun x=>ofNat 0) (fun x=>ofNat 0)))]):=by kernel_rfl
end Go.Eng
end
section
namespace Go.Eng
open Int (ofNat)
open Go.Proofs
theorem Is {a b:Int} (hb:0<b):(a.tmod b+b).tmod b=a % b:=by
 have h0:-b<a.tmod b:=by
  by_cases h:0≤a
  · have:=Int.tmod_nonneg b h;omega
  · have e:a.tmod b=-((-a).tmod b):=by rw[Int.neg_tmod];omega
    have:=Int.tmod_lt_of_pos (-a) hb;omega
 rw[Int.tmod_eq_emod_of_nonneg wO,Int.add_emod_right];have e:a.tmod b=a-b*(a.tdiv b):=by have:=Int.mul_tdiv_add_tmod a b;omega
 rw[e,Int.sub_mul_emod_self_left]
theorem J5 {a b:Int} (hb:1≤b) (hb2:b≤1000) (h1:-1000000≤a) (h2:a≤1000000):Ev .i64 (cq .i64 a (ay .i64 (bh .i64 (ay .i64 a b) b) b)) b=a / b:=by
 have hm0:-b<a.tmod b∧a.tmod b<b:=by
  constructor
  · by_cases h:0≤a
    · have:=Int.tmod_nonneg b h;omega
    · have e:a.tmod b=-((-a).tmod b):=by rw[Int.neg_tmod];omega
      have:=Int.tmod_lt_of_pos (-a) (show 0<b by omega);omega
  · exact Int.tmod_lt_of_pos a wO
 have e1:bh .i64 (ay .i64 a b) b=a.tmod b+b:=by rw[fM,pN,jT wO wO]
 rw[Dj,e1,pN,Is wO,eB];have h3:=Int.emod_nonneg a (show b≠0 by omega);have h4:=Int.emod_lt_of_pos a (show 0<b by omega);have e3:IntKind.i64.wrap (a-a % b)=a-a % b:=jT wO wO;rw[e3];have e:a-a % b=b*(a / b):=by have:=Int.mul_ediv_add_emod a b;omega
 have e2:(b*(a / b)).tdiv b=a / b:=Int.mul_tdiv_cancel_left _ wO;rw[e,e2];have h5:a / b≤1000000:=Int.le_trans (Int.ediv_le_ediv wO h2) (Int.ediv_le_self b (by decide));have h6:-2000001≤a / b:=by
  have h7:=Int.mul_ediv_add_emod a b;apply Classical.byContradiction;intro hc;have h8:b*(a / b)≤1*(a / b):=Int.mul_le_mul_of_nonpos_right hb wO;omega
 exact jT wO wO
def ev (O:Int) (U:Nat) (Z:Nat→Int) (i:Nat):Int:=if i<2*U then (if i % 2=0 then max 0 (-((Z (i / 2*4+3)-Z (i / 2*4+1)) / O)) else min ((U:Int)-1) ((Z (i / 2*4)-Z (i / 2*4+2)) / O)) else 0
def EO (O:Int) (U:Nat) (Z:Nat→Int) (j i:Nat):Int:=if i<2*j then ev O U Z i else 0
theorem PS (O:Int) (U:Nat) (Z:Nat→Int):EO O U Z 0=fun _=>ofNat 0:=by funext i;unfold EO;rw[if_neg wO];rfl
theorem JP (O:Int) (U:Nat) (Z:Nat→Int):EO O U Z U=ev O U Z:=by
 funext i;unfold EO;by_cases h:i<2*U
 · rw[if_pos h]
 · rw[if_neg h];unfold ev;rw[if_neg h]
theorem JQ {O:Int} {U:Nat} {Z:Nat→Int} {j:Nat} {v0 v1:Int} (h0:v0=ev O U Z (2*j)) (h1:v1=ev O U Z (2*j+1)):cu (cu (EO O U Z j) (2*j) v0) (2*j+1) v1=EO O U Z (j+1):=by
 rw[iP,iP];funext i;unfold EO;by_cases e:i=2*j+1
 · rw[if_pos e,if_pos wO,e,h1]
 · rw[if_neg e];show (if i=2*j then v0 else if i<2*j then ev O U Z i else 0)=_;by_cases e2:i=2*j
   · rw[if_pos e2,if_pos wO,e2,h0]
   · rw[if_neg e2];by_cases e3:i<2*j
     · rw[if_pos e3,if_pos wO]
     · rw[if_neg e3,if_neg wO]
def gf (J:Nat→Int) (c:Nat):Nat→Nat
 | 0=>0
 | j+1=>if J (j*2+1)=(c:Int) then gf J c j ||| 2 ^ (J (j*2)).toNat else gf J c j
def gH (V:Nat) (J:Nat→Int) (c:Nat):Int:=(gf J c V:Int)
theorem m4 (J:Nat→Int) (c a:Nat):∀ j,(∀ i,i<j→0≤J (i*2))→((gf J c j).testBit a=true↔∃ i,i<j∧J (i*2)=(a:Int)∧J (i*2+1)=(c:Int))
 | 0,_=>by
   constructor
   · intro h;simp[gf] at h
   · rintro ⟨i,h,_⟩;omega
 | j + 1,h0=>by
   have ih:=m4 J c a j (fun i hi=>h0 i wO);have hj:=h0 j wO;unfold gf;split
   · rename_i hc;rw[Nat.testBit_or,Bool.or_eq_true,ih,Nat.testBit_two_pow,decide_eq_true_iff];constructor
     · rintro (⟨i,a1,a2⟩ | h)
       · exact ⟨i,by omega,a2⟩
       · exact ⟨j,by omega,by omega,hc⟩
     · rintro ⟨i,a1,a2,a3⟩;by_cases e:i=j
       · subst e;exact .inr wO
       · exact .inl ⟨i,by omega,a2,a3⟩
   · rename_i hc;rw[ih];constructor
     · rintro ⟨i,a1,a2⟩;exact ⟨i,by omega,a2⟩
     · rintro ⟨i,a1,a2,a3⟩;refine ⟨i,?_,a2,a3⟩;by_cases e:i=j
       · subst e;exact absurd a3 hc
       · omega
theorem kR (J:Nat→Int) (c n:Nat):∀ j,(∀ i,i<j→0≤J (i*2)∧J (i*2)<n)→gf J c j<2 ^ n:=fun j h=>by
 apply Nat.lt_pow_two_of_testBit;intro i hi;cases hb:(gf J c j).testBit i with
 | false=>rfl
 | true =>
   obtain ⟨k,k1,k2,k3⟩:=(m4 J c i j (fun i hi=>(h i hi).1)).1 hb;have:=h k k1;omega
def uN (U:Nat) (Z:Nat→Int):Prop:=∀ j,j<U→jA Z j=false
def fB (U V:Nat) (J:Nat→Int):Prop:=∀ j,j<V→(0≤J (j*2)∧J (j*2)<U)∧0≤J (j*2+1)∧J (j*2+1)<U
theorem JO {U:Nat} {Z:Nat→Int} (h:uN U Z) {j:Nat} (hj:j<U):0≤Z (j*4)∧Z (j*4)≤Z (j*4+1)∧Z (j*4+1)≤1000∧0≤Z (j*4+2)∧Z (j*4+2)≤Z (j*4+3)∧Z (j*4+3)≤1000:=by
 have:=h j hj;unfold jA at this;simp at this;omega
theorem Uh:∀ b,(0,b) ∈ aO (a7 Tryd.f62)→b=.loop (part Tryd.f62 [1,1,0,1,0,0]):=eP (by kernel_rfl)
theorem Qc:∀ b,(2,b) ∈ aO (a7 Tryd.f62)→b=.loop (part Tryd.f62 [1,1,1,1,0,1,0,0]):=eP (by kernel_rfl)
theorem P1 {x y:Nat} (hx:x<2 ^ 63) (hy:y<2 ^ 63):r8 .u64 (x:Int) (y:Int)=((x ||| y:Nat):Int):=by
 rw[tM];show IntKind.u64.wrap ((BitVec.ofInt 64 (x:Int) ||| BitVec.ofInt 64 (y:Int)).toNat:Nat)=_;have h1:x ||| y<2 ^ 63:=Nat.or_lt_two_pow hx hy;have bv:∀ x:Nat,BitVec.ofInt 64 (x:Int)=BitVec.ofNat 64 x:=fun x=>by apply BitVec.eq_of_toInt_eq;simp
 rw[bv,bv,BitVec.toNat_or,BitVec.toNat_ofNat,BitVec.toNat_ofNat,Nat.mod_eq_of_lt wO,Nat.mod_eq_of_lt wO];exact Go.IntWalk.u64_in _ wO
theorem BH {i:Nat} (hi:i<62):ep .u64 (ofNat 1) (i:Int)=((2 ^ i:Nat):Int):=by
 rw[xz];show IntKind.u64.wrap (1*2 ^ min i 64)=_;have:(2:Nat) ^ i≤2 ^ 62:=Nat.pow_le_pow_right (by decide) wO;rw[Nat.min_eq_left wO,Int.one_mul,show (2:Int) ^ i=((2 ^ i:Nat):Int) from by rw[Int.natCast_pow];rfl];generalize (2:Nat) ^ i=P at *;exact Go.IntWalk.u64_in _ wO
section
variable (n:Nat) (O:Int) (U:Nat) (Z:Nat→Int) (V:Nat) (J:Nat→Int) (H:aa)
theorem Wm (hl:U≤10) (hd:1≤O∧O≤100) (hv:uN U Z) (B:Nat→Int):exec (bP (n+6) 62 78) (.block 0 (.loop (part Tryd.f62 [1,1,0,1,0,0]))) (wK U Z (ofNat 0)) (xN O U Z V J (EO O U Z 0) B::H)=some (.normal,wK U Z (ofNat U)++[(15,.bool false)],xN O U Z V J (EO O U Z U) B::H):=by
 refine jY (n:=n+6) (f:=62) (nt:=78) (c:=part Tryd.f62 [1,1,0,1,0,0]) 0 (fun j=>wK U Z (j:Int)) (fun j=>xN O U Z V J (EO O U Z j) B::H) U (_,_) wO (fun j hj=>?_) ?_
 · obtain ⟨v1,v2,v3,v4,v5,v6⟩:=JO hv hj;have ej:bh .i64 (j:Int) (ofNat 1)=((j+1:Nat):Int):=fI wO;have ei:au 0 (j:Int) 4=j*4:=by rw[bN];omega
   have es:dx (au 3 (j:Int) 2) 3=2*j:=by rw[bN,dq];omega
   have es1:dx (ah (au 3 (j:Int) 2) 1) 3=2*j+1:=by rw[bN,aF,dq];omega
   have T:=t62 (n+5) O U Z V J (EO O U Z j) B H (j:Int);rw[ei,aF (j*4),aF (j*4),aF (j*4),ej,es,es1] at T;have s1:cq .i64 (Z (j*4+3)) (Z (j*4+1))=Z (j*4+3)-Z (j*4+1):=by rw[eB];exact jT wO wO
   have s2:cq .i64 (Z (j*4)) (Z (j*4+2))=Z (j*4)-Z (j*4+2):=by rw[eB];exact jT wO wO
   have s3:cq .i64 (ofNat U) (ofNat 1)=(U:Int)-1:=by rw[eB];exact jT (by show -9223372036854775808≤(U:Int)-1;omega) (by show (U:Int)-1≤_;omega)
   rw[s1,s2,s3,J5 hd.1 wO wO wO,J5 hd.1 wO wO wO] at T;have q1:-1000001≤(Z (j*4+3)-Z (j*4+1)) / O∧(Z (j*4+3)-Z (j*4+1)) / O≤1000:=by
    constructor
    · have h7:=Int.mul_ediv_add_emod (Z (j*4+3)-Z (j*4+1)) O;have h4:=Int.emod_lt_of_pos (Z (j*4+3)-Z (j*4+1)) (show 0<O by omega);apply Classical.byContradiction;intro hc;have h8:O*((Z (j*4+3)-Z (j*4+1)) / O)≤1*((Z (j*4+3)-Z (j*4+1)) / O):=Int.mul_le_mul_of_nonpos_right hd.1 wO;omega
    · exact Int.le_trans (Int.ediv_le_ediv wO (by omega:Z (j*4+3)-Z (j*4+1)≤1000)) (Int.ediv_le_self O (by decide))
   have n1:Gy .i64 ((Z (j*4+3)-Z (j*4+1)) / O)=-((Z (j*4+3)-Z (j*4+1)) / O):=by rw[CX,jT wO wO];omega
   rw[n1,JQ (U:=U) (Z:=Z) (O:=O) (j:=j) (by
    unfold ev;rw[if_pos wO,if_pos wO,pE,show 2*j / 2=j by omega];show (if _ > (0:Int) then _ else (0:Int))=_;omega) (by
    unfold ev;rw[if_pos wO,if_neg wO,pF,show (2*j+1) / 2=j by omega];omega)] at T
   refine aI T (iA (n+5) 1) (aj _ _) (ak _ _) ?_;have hdn:bD (c7 O (ofNat 0))=true:=by rw[aW,bA];show (!(O == 0))=true;simp;omega
   refine Tr.af (fun h0=>?_) wJ;refine Tr.ae wG (Tr.ae wG (Tr.ae wG (Tr.ae wG (Tr.ae wG (Tr.ae hdn (Tr.ae hdn (Tr.ae hdn (Tr.ae hdn (Tr.ae hdn (Tr.ae hdn (Tr.ae wG (Tr.ae wG (Tr.ae wG (Tr.ae wG (Tr.ae wG ?_)))))))))))))));exact Tr.ai ⟨rfl,rfl⟩
 · obtain ⟨x,h1,rfl⟩:=aI (Q:=fun x=>x=(.exit 0,wK U Z (ofNat U)++[(15,.bool false)],xN O U Z V J (EO O U Z U) B::H)) (t62 (n+5) O U Z V J (EO O U Z U) B H (ofNat U)) (iA (n+5) 1) (aj _ _) (ak _ _) (by
    refine Tr.af wJ (fun h0=>Tr.ai rfl))
   exact h1
theorem NK (J:Nat→Int):gH 0 J=fun _=>ofNat 0:=rfl
theorem Fg {J:Nat→Int} {j:Nat} (h1:0≤J (j*2+1)) (h2:0≤J (j*2)) (h3:J (j*2)<60) (hs:∀ i,i<j→0≤J (i*2)∧J (i*2)<(60:Nat)):cu (gH j J) (J (j*2+1)).toNat (r8 .u64 (gH j J (J (j*2+1)).toNat) (ep .u64 (ofNat 1) (J (j*2))))=gH (j+1) J:=by
 have hlt:=kR J (J (j*2+1)).toNat 60 j hs;have e1:ep .u64 (ofNat 1) (J (j*2))=((2 ^ (J (j*2)).toNat:Nat):Int):=by
  have:=BH (i:=(J (j*2)).toNat) wO;rw[Int.toNat_of_nonneg h2] at this;exact this
 have hp:(2:Nat) ^ (J (j*2)).toNat<2 ^ 62:=Nat.pow_lt_pow_right (by decide) wO;rw[e1];unfold gH;rw[P1 (Nat.lt_of_lt_of_le hlt (Nat.pow_le_pow_right (by decide) (by decide))) (Nat.lt_of_lt_of_le hp (Nat.pow_le_pow_right (by decide) (by decide))),iP];funext c;show (if c=(J (j*2+1)).toNat then _ else (gf J c j:Int))=((gf J c (j+1):Nat):Int);have e2:gf J c (j+1)=if J (j*2+1)=(c:Int) then gf J c j ||| 2 ^ (J (j*2)).toNat else gf J c j:=rfl
 rw[e2];by_cases e:c=(J (j*2+1)).toNat
 · rw[if_pos e,if_pos wO,e]
 · rw[if_neg e,if_neg wO]
theorem Rf (hl:U≤10) (hb:V≤1000) (hp:fB U V J) (W:Nat→Int):exec (bP (n+6) 62 78) (.block 2 (.loop (part Tryd.f62 [1,1,1,1,0,1,0,0]))) (wM V J (ofNat 0)) (xN O U Z V J W (gH 0 J)::H)=some (.normal,wM V J (ofNat V)++[(59,.bool false)],xN O U Z V J W (gH V J)::H):=by
 refine jY (n:=n+6) (f:=62) (nt:=78) (c:=part Tryd.f62 [1,1,1,1,0,1,0,0]) 2 (fun j=>wM V J (j:Int)) (fun j=>xN O U Z V J W (gH j J)::H) V (_,_) wO (fun j hj=>?_) ?_
 · obtain ⟨⟨v1,v2⟩,v3,v4⟩:=hp j hj;have ej:bh .i64 (j:Int) (ofNat 1)=((j+1:Nat):Int):=fI wO;have ei:au 0 (j:Int) 2=j*2:=by rw[bN];omega
   have es:dx (au 23 (J (j*2+1)) 1) 23=(J (j*2+1)).toNat:=by rw[bN,dq];omega
   have T:=Ub (n+5) O U Z V J W (gH j J) H (j:Int);rw[ei,aF (j*2),ej,es,Fg v3 v1 wO (fun i hi=>by have:=hp i wO;omega)] at T;refine aI T (iA (n+5) 1) (aj _ _) (ak _ _) ?_;refine Tr.af (fun h0=>?_) wJ;refine Tr.ae wG (Tr.ae wG (Tr.ae wG (Tr.ae wG (Tr.ae wG (Tr.ae wG (Tr.ae wG (Tr.ae wG (Tr.ae wG (Tr.ae wG (Tr.ae wG (Tr.ae wG (Tr.ae wG ?_))))))))))));exact Tr.ai ⟨rfl,rfl⟩
 · obtain ⟨x,h1,rfl⟩:=aI (Q:=fun x=>x=(.exit 2,wM V J (ofNat V)++[(59,.bool false)],xN O U Z V J W (gH V J)::H)) (Ub (n+5) O U Z V J W (gH V J) H (ofNat V)) (iA (n+5) 1) (aj _ _) (ak _ _) (by
    refine Tr.af wJ (fun h0=>Tr.ai rfl))
   exact h1
noncomputable def Nr (O:Int) (U:Nat) (Z:Nat→Int) (V:Nat) (J:Nat→Int):AV:=shV O U Z V J (ev O U Z) (gH V J)
theorem TX (hl:U≤10) (hb:V≤1000) (hd:1≤O∧O≤100) (hv:uN U Z) (hp:fB U V J):cd (n+7) (.fn 62) [bX O U Z V J] H=some (Nr O U Z V J,H):=by
 refine oZ ?_;have hx:=Wm n O U Z V J H hl hd hv (fun _=>ofNat 0);rw[PS,JP] at hx;have hk:=Rf n O U Z V J H hl hb hp (ev O U Z);rw[NK] at hk;obtain ⟨y,h1,h2,h3⟩:Tr.all (bz Tryd.prog (cd (n+6)) 100000 62 Tryd.f62 (KtG.kt 62) (il aM (n+6) 0) (c9 (c9 aV 0 (wK U Z (ofNat 0)) (xN O U Z V J (fun _=>ofNat 0) (fun _=>ofNat 0)::H) (.ok (.normal,hints (wK U Z (ofNat U)++[(15,.bool false)]),xN O U Z V J (ev O U Z) (fun _=>ofNat 0)::H))) 2 (wM V J (ofNat 0)) (xN O U Z V J (ev O U Z) (fun _=>ofNat 0)::H) (.ok (.normal,hints (wM V J (ofNat V)++[(59,.bool false)]),xN O U Z V J (ev O U Z) (gH V J)::H))) aR [(bX O U Z V J,none)] H) (fun y=>y.1.1=.ptrT (some 0) (shR O U Z V J (ev O U Z) (gH V J)) 0∧y.2=H):=by
  rw[W6 n O U Z V J (ev O U Z) (fun _=>ofNat 0) (gH V J) H];exact Tr.an ⟨rfl,rfl⟩ (Tr.ae wG (Tr.ae wG (Tr.an ⟨rfl,rfl⟩ (Tr.ai ⟨rfl,rfl⟩))))
 have:=xt (P:=Tryd.prog) (KT:=KtG.kt) (fu:=100000) (f:=62) (call:=cd (n+6)) (fn:=Tryd.f62) Tryd.func62 rfl (args:=[(bX O U Z V J,none)]) (H:=H) rfl (aA _) (bf (bf (aj _ _) Uh (fun x h=>by rw[← Tr.ab h];simp only[eD.st,aP];exact hx)) Qc (fun x h=>by rw[← Tr.ab h];simp only[eD.st,aP];exact hk)) (ak _ _) h1;rw[h2,h3] at this;have e:ia (cd (n+6)) 62 [bX O U Z V J] H=P2 (oL Tryd.prog KtG.kt 100000 62 (cd (n+6)) (jW [(bX O U Z V J,none)]) H):=by
  show (match Gall.vh (cd (n+6)) 62 [bX O U Z V J] H with
   | some x=>some x
   | none=>tP [⟨15,[],.bool true⟩] (cd (n+6)) 62 [bX O U Z V J] H)=_
  have e2:Gall.vh (cd (n+6)) 62 [bX O U Z V J] H=P2 (oL Tryd.prog KtG.kt 100000 62 (cd (n+6)) [bX O U Z V J] H):=rfl;rw[e2];rw[this];have e3:oL Tryd.prog KtG.kt 100000 62 (cd (n+6)) [bX O U Z V J] H=_:=this;rw[e3];rfl
 rw[e,this];rfl
end
end Go.Eng
end
section
namespace Go.Eng
open Int (ofNat)
open Go.Proofs
noncomputable def pj (A:AV) (x:Int):aE:=[(0,A),(3,.int .u64 x)]
noncomputable def A0 (A:AV) (U:Nat) (x f c:Int):aE:=[(0,A),(3,.int .u64 x),(4,.int .u64 f),(21,.int .i64 (ofNat U)),(22,.int .i64 c)]
theorem t63 (n:Nat) (O:Int) (U:Nat) (Z:Nat→Int) (V:Nat) (J:Nat→Int) (W B:Nat→Int) (H:aa) (x f c:Int):aJ (bP n 63 51) (il aM n 0) aV aR (part Tryd.f63 [1,1,1,0,0,0,1,0,1,0,1,0,0]) (hints (A0 (shV O U Z V J W B) U x f c)) (aw::H) =
 (fun (Z0:aG)=>Tr.ite (bQ c (ofNat U)) (Tr.req (dS (ofNat 0) c) (Tr.ite (bD (c7 (ny IntKind.u64 x (ep IntKind.u64 (ofNat 1) c)) (ofNat 0))) (Tr.req (bL c 10) (Tr.req (dX (au 23 c 1) 1 23 10) (Tr.ite (c7 (ny IntKind.u64 (B (dx (au 23 c 1) 23)) x) (ofNat 0)) (Tr.req (dS (ofNat 0) c) (Tr.ok (Ex.normal,[(0,shV O U Z V J W B,none),(3,AV.int IntKind.u64 x,none),(4,AV.int IntKind.u64 (r8 IntKind.u64 f (ep IntKind.u64 (ofNat 1) c)),none),(21,iI U,none),(22,AV.int .i64 (bh .i64 c (ofNat 1)),none)],aw::H))) (Tr.ok (Ex.normal,Z0,aw::H))))) (Tr.ok (Ex.normal,Z0,aw::H)))) (Tr.ok (Ex.exit 2,[(0,shV O U Z V J W B,none),(3,AV.int IntKind.u64 x,none),(4,AV.int IntKind.u64 f,none),(21,iI U,none),(22,AV.int .i64 c,none),(23,AV.bool false,some 1)],aw::H))) [(0,shV O U Z V J W B,none),(3,AV.int IntKind.u64 x,none),(4,AV.int IntKind.u64 f,none),(21,iI U,none),(22,AV.int .i64 (bh .i64 c (ofNat 1)),none)]:=by kernel_rfl
theorem WT (n:Nat) (O:Int) (U:Nat) (Z:Nat→Int) (V:Nat) (J:Nat→Int) (W B:Nat→Int) (H:aa) (x f:Int):aJ (bP n 63 51) (il aM n 0) (c9 aV 2 (A0 (shV O U Z V J W B) U x (ofNat 0) (ofNat 0)) (aw::H) (.ok (.normal,hints (A0 (shV O U Z V J W B) U x f (ofNat U)++[(23,.bool false)]),aw::H))) aR (part Tryd.f63 [1,1,1,0,0,0]) (hints (pj (shV O U Z V J W B) x)) (aw::H) =
 (fun (Z0:aE)=>Tr.ite (bD (c7 x (ofNat 0))) (Tr.reqP (Z0=Z0∧aw::H=aw::H) (Tr.ite (c7 f (ofNat 0)) (Tr.ok (Ex.ret,[(2,AV.bool true,some 1)],aw::H)) (Tr.ok (Ex.normal,[(0,shV O U Z V J W B,none),(3,AV.int IntKind.u64 (AB IntKind.u64 x f),none)],aw::H)))) (Tr.ok (Ex.exit 0,[(0,shV O U Z V J W B,none),(3,AV.int IntKind.u64 x,none),(15,AV.bool false,some 1)],aw::H))) [(0,shV O U Z V J W B),(3,AV.int IntKind.u64 x),(4,AV.int IntKind.u64 (ofNat 0)),(21,iI U),(22,iI 0)]:=by kernel_rfl
theorem W7 (n:Nat) (O:Int) (U:Nat) (Z:Nat→Int) (V:Nat) (J:Nat→Int) (W B:Nat→Int) (H:aa) (e:Bool) (x:Int):bz Tryd.prog (cd (n+1)) 100000 63 Tryd.f63 (KtG.kt 63) (il aM n 1) (c9 aV 0 (pj (shV O U Z V J W B) (cq .u64 (ep .u64 (ofNat 1) (ofNat U)) (ofNat 1))) (aw::H) (.ite e (.ok (.ret,[(2,.bool true,none)],aw::H)) (.ok (.normal,hints (pj (shV O U Z V J W B) x++[(15,.bool false)]),aw::H)))) aR [(shV O U Z V J W B,none)] H =
 (fun (Z0:aE)=>Tr.ite (mc B (fun x=>ofNat 0) 10) (Tr.ok ((AV.bool false,some 1),H)) (Tr.req (dS (ofNat 0) (ofNat U)) (Tr.reqP (Z0=Z0∧aw::H=aw::H) (Tr.ite e (Tr.ok ((AV.bool true,none),H)) (Tr.ok ((AV.bool false,some 1),H)))))) [(0,shV O U Z V J W B),(3,AV.int IntKind.u64 (cq IntKind.u64 (ep IntKind.u64 (ofNat 1) (ofNat U)) (ofNat 1)))]:=by kernel_rfl
end Go.Eng
end
section
namespace Go.Eng
open Int (ofNat)
open Go.Proofs Go.Eng.Gall
theorem Sr {n f nt:Nat} {c:Code} (id:Nat) (F:Nat→aE) (G:Nat→aa) (N:Nat) (Y:aE×aa) (hN:N<99999)
 (hs:∀ j,j<N→∃ x,exec (bP n f nt) c (F j) (G j)=some x∧(x.1=.normal∧tidy (aX (G 0)) x.2.1 x.2.2=(F (j+1),G (j+1))))
 (he:exec (bP n f nt) c (F N) (G N)=some (.ret,Y)):exec (bP n f nt) (.block id (.loop c)) (F 0) (G 0)=some (.ret,Y):=by
 have key:=iU (body:=exec (bP n f nt) c) (n:=aX (G 0)) F G N (fun _=>false) (fun j=>(.ret,Y))
  (fun j hj hp=>by
    obtain ⟨x,h1,h2,h3⟩:=hs j hj;obtain ⟨e,f1,g1⟩:=x;simp only at h2;subst h2;exact ⟨_,_,h1,h3⟩)
  (fun j hj hp=>by cases hp)
  (by exact ⟨he,by simp⟩) N 0 100000 wO wO
 exact dp (fun id' h=>by cases h) key
theorem P8 {x y:Nat} (hx:x<2 ^ 62) (hy:y<2 ^ 62):∃ z:Nat,AB .u64 (x:Int) (y:Int)=(z:Int)∧∀ i,z.testBit i=(x.testBit i && !y.testBit i):=by
 refine ⟨(BitVec.ofNat 64 x &&& ~~~BitVec.ofNat 64 y).toNat,?_,fun i=>?_⟩
 · rw[sj];show IntKind.u64.wrap ((BitVec.ofInt 64 (x:Int) &&& ~~~BitVec.ofInt 64 (y:Int)).toNat:Nat)=_;rw[Q.LA,Q.LA];exact Q.jR (BitVec.isLt _)
 · rw[BitVec.testBit_toNat,BitVec.getLsbD_and,BitVec.getLsbD_not,BitVec.getLsbD_ofNat,BitVec.getLsbD_ofNat];by_cases hi:i<64
   · simp[hi]
   · have:x.testBit i=false:=Nat.testBit_lt_two_pow (Nat.lt_of_lt_of_le hx (Nat.pow_le_pow_right (by decide) wO));simp[hi,this]
theorem vo (z y:Nat→Int):∀ n,allEq z y n=true↔∀ j,j<n→z j=y j
 | 0=>⟨fun _ j hj=>by omega,fun _=>rfl⟩
 | n + 1=>by
   rw[allEq,Bool.and_eq_true,vo z y n,beq_iff_eq];constructor
   · rintro ⟨h1,h2⟩ j hj;by_cases e:j=n
     · subst e;exact h2
     · exact h1 j wO
   · intro h;exact ⟨fun j hj=>h j wO,h n wO⟩
theorem vp {z y:Nat→Int} {n:Nat} (h:mc z y n=true):∀ j,j<n→z j=y j:=by
 rw[vq] at h;exact (vo z y n).1 h
theorem Ui:∀ b,(0,b) ∈ aO (a7 Tryd.f63)→b=.loop (part Tryd.f63 [1,1,1,0,0,0]):=eP (by kernel_rfl)
theorem Qd:∀ b,(2,b) ∈ aO (part Tryd.f63 [1,1,1,0,0,0])→b=.loop (part Tryd.f63 [1,1,1,0,0,0,1,0,1,0,1,0,0]):=eP (by kernel_rfl)
def bI (b:Nat→Nat) (c:Nat):Int:=(b c:Int)
section
variable (n:Nat) (O:Int) (U:Nat) (Z:Nat→Int) (V:Nat) (J:Nat→Int) (W:Nat→Int) (b:Nat→Nat) (H:aa)
theorem tv (p:Nat→Bool) {j:Nat} (hj:j≤10):mk p j<2 ^ 62:=Nat.lt_of_lt_of_le (OQ p j) (Nat.pow_le_pow_right (by decide) wO)
def pX (U:Nat) (b:Nat→Nat) (t c:Nat):Bool:=bS U b t c && !bS U b (t+1) c
theorem Wn (hl:U≤10) (hb:∀ c,c<U→b c<2 ^ 62) (t:Nat):exec (bP n 63 51) (.block 2 (.loop (part Tryd.f63 [1,1,1,0,0,0,1,0,1,0,1,0,0]))) (A0 (shV O U Z V J W (bI b)) U (mk (bS U b t) U:Nat) (ofNat 0) (ofNat 0)) (aw::H) =
 some (.normal,A0 (shV O U Z V J W (bI b)) U (mk (bS U b t) U:Nat) (mk (pX U b t) U:Nat) (ofNat U)++[(23,.bool false)],aw::H):=by
 refine jY (n:=n) (f:=63) (nt:=51) (c:=part Tryd.f63 [1,1,1,0,0,0,1,0,1,0,1,0,0]) 2 (fun c=>A0 (shV O U Z V J W (bI b)) U (mk (bS U b t) U:Nat) (mk (pX U b t) c:Nat) (c:Int)) (fun _=>aw::H) U (_,_) wO (fun c hc=>?_) ?_
 · have ec:bh .i64 (ofNat c) (ofNat 1)=((c+1:Nat):Int):=fI wO
   have es:dx (au 23 (ofNat c) 1) 23=c:=by rw[bN,dq];show 23+c*1-23=c;omega
   have T:=t63 n O U Z V J W (bI b) H (mk (bS U b t) U:Nat) (mk (pX U b t) c:Nat) (ofNat c)
   have h1:=Q.AK (X:=mk (bS U b t) U) (c:=c) (tv _ hl) wO
   rw[iu,decide_eq_true hc,Bool.true_and] at h1
   have h2:c7 (ny .u64 (bI b c) ((mk (bS U b t) U:Nat):Int)) (ofNat 0)=!bS U b (t+1) c:=by
    unfold bI;rw[Q.Ls (Nat.lt_trans (hb c hc) (by decide)) (Nat.lt_trans (tv _ hl) (by decide)),bA];have:=I6 (n:=U) (b:=b) (t:=t) hc;cases e:bS U b (t+1) c with
    | true =>
      have hne:b c &&& mk (bS U b t) U≠0:=fun h=>by rw[this.2 h] at e;cases e
      show (((b c &&& mk (bS U b t) U:Nat):Int) == 0)=false;rw[beq_eq_false_iff_ne];omega
    | false =>
      show (((b c &&& mk (bS U b t) U:Nat):Int) == 0)=true;rw[this.1 e];rfl
   have h3:bS U b t c=true→bS U b (t+1) c=false→r8 .u64 ((mk (pX U b t) c:Nat):Int) (ep .u64 (ofNat 1) (ofNat c))=((mk (pX U b t) (c+1):Nat):Int):=fun q1 q2=>by
    rw[Q.AL (tv _ wO) wO (by rw[iu];simp)];have:pX U b t c=true:=by unfold pX;rw[q1,q2];rfl
    show _=(((if pX U b t c=true then mk (pX U b t) c+2 ^ c else mk (pX U b t) c):Nat):Int);rw[if_pos this]
   have h4:pX U b t c=false→mk (pX U b t) (c+1)=mk (pX U b t) c:=fun q=>by
    show (if pX U b t c=true then mk (pX U b t) c+2 ^ c else mk (pX U b t) c)=_;rw[if_neg (by rw[q];decide)]
   rw[es,h1,h2,ec] at T
   refine aI T (aA n) (aj _ _) (ak _ _) ?_
   refine Tr.af (fun h0=>?_) wJ
   refine Tr.ae wG (Tr.af (fun q1=>?_) (fun q1=>?_))
   · rw[aW] at q1
     refine Tr.ae wG (Tr.ae wG (Tr.af (fun q2=>?_) (fun q2=>?_)))
     · refine Tr.ae wG (Tr.ai ⟨rfl,?_⟩)
       rw[h3 (by simpa using q1) (by simpa using q2)];rfl
     · refine Tr.ai ⟨rfl,?_⟩
       rw[h4 (by unfold pX;rw[show bS U b (t+1) c=true by simpa using q2];simp)];rfl
   · rw[aW] at q1
     refine Tr.ai ⟨rfl,?_⟩
     rw[h4 (by unfold pX;rw[show bS U b t c=false by simpa using q1];rfl)];rfl
 · obtain ⟨x,h1,rfl⟩:=aI (Q:=fun x=>x=(.exit 2,A0 (shV O U Z V J W (bI b)) U (mk (bS U b t) U:Nat) (mk (pX U b t) U:Nat) (ofNat U)++[(23,.bool false)],aw::H)) (t63 n O U Z V J W (bI b) H (mk (bS U b t) U:Nat) (mk (pX U b t) U:Nat) (ofNat U)) (aA n) (aj _ _) (ak _ _) (by
    refine Tr.af wJ (fun h0=>Tr.ai rfl))
   exact h1
theorem Ua (hl:U≤10) (hb:∀ c,c<U→b c<2 ^ 62) (t:Nat):exec (bP n 63 51) (part Tryd.f63 [1,1,1,0,0,0]) (pj (shV O U Z V J W (bI b)) (mk (bS U b t) U:Nat)) (aw::H) =
 some (if mk (bS U b t) U=0 then (.exit 0,pj (shV O U Z V J W (bI b)) (mk (bS U b t) U:Nat)++[(15,.bool false)],aw::H) else if mk (pX U b t) U=0 then (.ret,[(2,.bool true)],aw::H) else (.normal,pj (shV O U Z V J W (bI b)) (mk (bS U b (t+1)) U:Nat),aw::H)):=by
 obtain ⟨z,e,hz⟩:=P8 (tv (bS U b t) hl) (tv (pX U b t) hl)
 have hz2:z=mk (bS U b (t+1)) U:=by
  apply Nat.eq_of_testBit_eq;intro i;rw[hz,iu,iu,iu];unfold pX;by_cases hi:i<U
  · rw[decide_eq_true hi];cases e1:bS U b (t+1) i with
    | true=>rw[xe e1];rfl
    | false=>cases bS U b t i<;>rfl
  · rw[decide_eq_false hi];rfl
 rw[hz2] at e
 have T:=WT n O U Z V J W (bI b) H (mk (bS U b t) U:Nat) (mk (pX U b t) U:Nat)
 rw[e] at T
 obtain ⟨x,h1,rfl⟩:=aI (Q:=fun x=>x=(if mk (bS U b t) U=0 then (.exit 0,pj (shV O U Z V J W (bI b)) (mk (bS U b t) U:Nat)++[(15,.bool false)],aw::H) else if mk (pX U b t) U=0 then (.ret,[(2,.bool true)],aw::H) else (.normal,pj (shV O U Z V J W (bI b)) (mk (bS U b (t+1)) U:Nat),aw::H))) T (aA n) (bf (aj _ _) Qd (fun x h=>by rw[← Tr.ab h];simp only[eD.st,aP];exact Wn n O U Z V J W b H hl hb t)) (ak _ _) (by
  refine Tr.af (fun q=>?_) (fun q=>?_)
  · rw[aW,bA] at q;have q:¬ mk (bS U b t) U=0:=fun h=>by rw[h] at q;exact absurd q (by decide)
    rw[if_neg q];refine Tr.an ⟨rfl,rfl⟩ (Tr.af (fun r=>?_) (fun r=>?_))
    · rw[bA,beq_iff_eq] at r;rw[if_pos (by have:((mk (pX U b t) U:Nat):Int)=0:=r;omega)];exact Tr.ai rfl
    · rw[bA,beq_eq_false_iff_ne] at r;rw[if_neg (fun h=>r (by rw[h];rfl))];exact Tr.ai rfl
  · rw[aW,bA] at q;have q:mk (bS U b t) U=0:=by
     have q:(((mk (bS U b t) U:Nat):Int) == 0)=true:=by simpa using q
     rw[beq_iff_eq] at q;omega
    rw[if_pos q];exact Tr.ai rfl)
 exact h1
theorem Ux (hl:U≤10) (hb:∀ c,c<U→b c<2 ^ 62):cd (n+2) (.fn 63) [shV O U Z V J W (bI b)] H=some (.bool (l6 U b),H):=by
 have e0:cq .u64 (ep .u64 (ofNat 1) (ofNat U)) (ofNat 1)=((mk (bS U b 0) U:Nat):Int):=by
  have h1:=Nat.two_pow_pos U;have h2:2 ^ U≤2 ^ 10:=Nat.pow_le_pow_right (by decide) hl;have h3:mk (bS U b 0) U=2 ^ U-1:=Mp U;rw[Q.BH wO,eB,h3];show IntKind.u64.wrap (((2 ^ U:Nat):Int)-1)=_;rw[show ((2 ^ U:Nat):Int)-1=((2 ^ U-1:Nat):Int) by omega];exact Q.jR wO
 obtain ⟨T,hT,hgo,hend⟩:=Lx (n:=U) (b:=b);have hrd:∀ t,t<T→∃ x,exec (bP (n+1) 63 51) (part Tryd.f63 [1,1,1,0,0,0]) (pj (shV O U Z V J W (bI b)) (mk (bS U b t) U:Nat)) (aw::H)=some x∧(x.1=.normal∧tidy 0 x.2.1 x.2.2=(pj (shV O U Z V J W (bI b)) (mk (bS U b (t+1)) U:Nat),aw::H)):=fun t ht=>by
  obtain ⟨⟨c,hc⟩,d,d1,d2⟩:=hgo t ht;have r:=Ua (n+1) O U Z V J W b H hl hb t;rw[if_neg (fun h=>by have:=mk_zero.1 h c (nT hc);rw[hc] at this;cases this),if_neg (fun h=>by have:=mk_zero.1 h d (nT d1);unfold pX at this;rw[d1,d2] at this;cases this)] at r;exact ⟨_,r,rfl,rfl⟩
 have hB:∃ e x,(e=l6 U b)∧exec (bP (n+1) 63 51) (.block 0 (.loop (part Tryd.f63 [1,1,1,0,0,0]))) (pj (shV O U Z V J W (bI b)) (mk (bS U b 0) U:Nat)) (aw::H)=some (cond e (.ret,[(2,.bool true)],aw::H) (.normal,pj (shV O U Z V J W (bI b)) x++[(15,.bool false)],aw::H)):=by
  have rT:=Ua (n+1) O U Z V J W b H hl hb T;rcases hend with ⟨h1,h2⟩ | ⟨⟨c,hc⟩,h1,h2⟩
  · rw[if_pos (mk_zero.2 fun c _=>h1 c)] at rT;exact ⟨false,(mk (bS U b T) U:Nat),h2.symm,jY (n:=n+1) (f:=63) (nt:=51) 0 (fun t=>pj (shV O U Z V J W (bI b)) (mk (bS U b t) U:Nat)) (fun _=>aw::H) T (_,_) wO hrd rT⟩
  · rw[if_neg (fun h=>by have:=mk_zero.1 h c (nT hc);rw[hc] at this;cases this),if_pos (mk_zero.2 fun d _=>by
     unfold pX;cases e:bS U b T d with
     | false=>rfl
     | true=>rw[h1 d e];rfl)] at rT
    exact ⟨true,0,h2.symm,Sr (n:=n+1) (f:=63) (nt:=51) 0 (fun t=>pj (shV O U Z V J W (bI b)) (mk (bS U b t) U:Nat)) (fun _=>aw::H) T (_,_) wO hrd rT⟩
 obtain ⟨e,x,he,hx⟩:=hB;have Xt:=W7 n O U Z V J W (bI b) H e x;rw[e0] at Xt;refine ph (n:=n+1) Tryd.func63 rfl (fun _ _=>rfl) rfl Xt (iA n 1) (bf (aj _ _) Ui (fun y h=>dQ h hx)) (ak _ _) ?_;refine Tr.af (fun q=>Tr.ai ⟨?_,rfl⟩) (fun q=>Tr.ae ?_ (Tr.an ⟨rfl,rfl⟩ (Tr.af (fun r=>Tr.ai ⟨by rw[← he,r],rfl⟩) (fun r=>Tr.ai ⟨by rw[← he,r],rfl⟩))))
 · have q0:∀ c,c<10→b c=0:=fun c hc=>by
    have:=vp q c hc;have:((b c:Nat):Int)=0:=this;omega
   have:l6 U b=false:=by
    cases e1:l6 U b with
    | false=>rfl
    | true =>
      unfold l6 at e1;obtain ⟨c,h1,h2⟩:=List.any_eq_true.1 e1;have hc:=List.mem_range.1 h1;obtain ⟨m,rfl⟩:∃ m,U=m+1:=⟨U-1,by omega⟩
      obtain ⟨_,a,_,a2⟩:=gw.1 h2;rw[q0 c wO] at a2;simp at a2
   rw[this]
 · rw[br];exact decide_eq_true (by show (0:Int)≤(U:Int);omega)
end
end Go.Eng
end
