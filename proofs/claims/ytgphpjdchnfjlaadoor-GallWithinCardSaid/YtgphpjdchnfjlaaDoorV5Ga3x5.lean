/- Gall: CheckList: its loop over the pairs; trees. -/
import Derived.Test.YtgphpjdchnfjlaaDoorV5GaKx6
import Derived.Test.YtgphpjdchnfjlaaDoorV5Gp2x6
import Derived.Test.YtgphpjdchnfjlaaDoorV5EngRoSx4
set_option linter.unusedVariables false
set_option linter.unusedSimpArgs false
set_option maxRecDepth 100000
section
namespace Go.Eng
open Int (ofNat)
open Go.Proofs
noncomputable def gB (e:Bool) (C:List AV→Prop):List AV→Option (Prop×AV):=fun x=>some (C x,.bool e)
noncomputable def GO (O:Int) (U:Nat) (Z:Nat→Int) (V:Nat) (J:Nat→Int):bC:=⟨false,[(0,.row (.G [.int .i64 O,slA 4 U Z,slA 2 V J])),(0,.row (.I .i64 [bL .i64 (ofNat U) (ofNat 1)])),(0,.row (.I .i64 [O]))]⟩
noncomputable def Nt (m:Nat) (z:Nat→Int) (full:Bool):AV:=.slcT none (.M [.arr .i64 z (cr m 2)]) 2 m full
noncomputable def NX (a b:Int):AV:=.agg (.I .i64 [a,b])
noncomputable def KH (a b:Int):bC:=⟨false,[(0,.row (.I .i64 [a,b]))]⟩
noncomputable def Eu (m:Nat) (z:Nat→Int) (full:Bool) (j:Int):aD:=[(0,Nt m z full),(3,.ptr 0 0 0 0),(7,.int .i64 (ofNat m)),(8,.int .i64 j)]
noncomputable def Bv (U V:Nat) (J:Nat→Int) (j:Int):aD:=[(1,.ptr 0 0 0 0),(4,.int .i64 (bL .i64 (ofNat U) 1)),(35,slA 2 V J),(36,.int .i64 (ofNat V)),(37,.int .i64 j)]
theorem t22 (n:Nat) (O:Int) (U:Nat) (Z:Nat→Int) (V:Nat) (J:Nat→Int) (H:aa) (j:Int) (e:Bool) (C:List AV→Prop):aF (bJ (n+10) 22 69) (il (nJ (mc aC 61 (gB e C)) 59 gW) (n+10) 0) aK aJ (part Tryd.f22 [1,1,1,1,0,1,0,0]) (hints (Bv U V J j)) (GO O U Z V J::H) =
 (fun (Z0:bC)=>Tr.ite (bF j (ofNat V)) (Tr.req (cu j V) (Tr.req (bX (aq 0 j 2) (cr V 2)) (Tr.req (bX (au (aq 0 j 2) 1) (cr V 2)) (Tr.req (cu (ofNat 0) 2) (Tr.req (cu (ofNat 1) 2) (Tr.ite (cq (J (aq 0 j 2)) (J (au (aq 0 j 2) 1))) (Tr.ok (Ex.ret,[(2,iI 2,some 1)],(bm [(0,dc O U Z V J),(0,al.row (Row.I .i64 [bL .i64 (ofNat U) (ofNat 1)])),(0,al.row (Row.I .i64 [O])),(0,al.row (Row.I .i64 [J (aq 0 j 2),J (au (aq 0 j 2) 1)])),(0,al.dead)])::H)) (Tr.req (cu (ofNat 0) 2) (Tr.req (cu (ofNat 1) 2) (Tr.ite (bf (bT (bT (di (ofNat 0) (J (aq 0 j 2))) (di (J (aq 0 j 2)) (bL .i64 (ofNat U) (ofNat 1)))) (bT (bT (di (ofNat 0) (J (au (aq 0 j 2) 1))) (di (J (au (aq 0 j 2) 1)) (bL .i64 (ofNat U) (ofNat 1)))) true))) (Tr.ok (Ex.ret,[(2,iI 2,some 1)],Z0::H)) (Tr.req (kT j V) (Tr.req (dW (au (cr 0 2) (cr (b8 j) 2)) (cr V 2)) (Tr.reqP (C [AV.slcT none (rM J (cr (b8 j) 2)) 2 (b8 j) (bT false (cH (b8 j) V)),AV.agg (Row.I .i64 [J (aq 0 j 2),J (au (aq 0 j 2) 1)])]) (Tr.ite e (Tr.ok (Ex.ret,[(2,iI 2,some 1)],Z0::H)) (Tr.ok (Ex.normal,[(1,AV.ptr 0 0 0 0,none),(4,AV.int .i64 (bL .i64 (ofNat U) (ofNat 1)),none),(35,slA 2 V J,none),(36,iI V,none),(37,AV.int .i64 (bj .i64 j (ofNat 1)),none)],Z0::H))))))))))))))) (Tr.ok (Ex.exit 1,[(1,AV.ptr 0 0 0 0,none),(4,AV.int .i64 (bL .i64 (ofNat U) (ofNat 1)),none),(35,slA 2 V J,none),(36,iI V,none),(37,AV.int .i64 j,none),(38,AV.bool false,some 1)],(bm [(0,dc O U Z V J),(0,al.row (Row.I .i64 [bL .i64 (ofNat U) (ofNat 1)])),(0,al.row (Row.I .i64 [O]))])::H))) (bm [(0,dc O U Z V J),(0,al.row (Row.I .i64 [bL .i64 (ofNat U) (ofNat 1)])),(0,al.row (Row.I .i64 [O])),(0,al.row (Row.I .i64 [J (aq 0 j 2),J (au (aq 0 j 2) 1)])),(0,al.row (Row.I .i64 [J (aq 0 j 2),J (au (aq 0 j 2) 1)]))]):=by kernel_rfl
theorem Yt (n:Nat) (O:Int) (U:Nat) (Z:Nat→Int) (V:Nat) (J:Nat→Int) (H:aa) (lvR:bC) (e1 e2 e3:Bool) (C1 C2 C3:List AV→Prop) (S:AV):aZ Tryd.prog (cd (n+10)) 100000 22 Tryd.f22 (KtG.kt 22) (il (mc (mc (nJ (mc aC 60 (gB e1 C1)) 59 gW) 62 (fun x=>some (C2 x,S))) 63 (gB e2 C3)) (n+10) 0) (cE aK 1 (Bv U V J (ofNat 0)) (GO O U Z V J::H) (.ite e3 (.ok (.ret,[(2,.int .i64 2,none)],lvR::H)) (.ok (.normal,hints (Bv U V J (ofNat V)++[(38,.bool false)]),GO O U Z V J::H)))) aJ [(bt O U Z V J,none)] H =
 (fun (Z0:bC)=>((fun (Z1:aD)=>Tr.ite (bf (bT (bT (di (ofNat 0) (bL .i64 (ofNat U) (ofNat 1))) (di (bL .i64 (ofNat U) (ofNat 1)) (ofNat 9))) true)) (Tr.ok ((iI 6,some 1),H)) (Tr.ite (bF (ofNat 40) (ofNat V)) (Tr.ok ((iI 6,some 1),H)) (Tr.ite (bf (bT (bT (di (ofNat 1) O) (di O (ofNat 100))) true)) (Tr.ok ((iI 3,some 1),H)) (Tr.reqP (C1 [slA 4 U Z,AV.fn (Fn.func 58) [] []]) (Tr.ite e1 (Tr.ok ((iI 3,some 1),H)) (Tr.reqP (Z1=Z1∧Z0::H=Z0::H) (Tr.ite e3 (Tr.ok ((iI 2,none),H)) (Tr.reqP (C2 [bt O U Z V J]) (Tr.reqP (C3 [S]) (Tr.ite e2 (Tr.ok ((iI 16,some 1),H)) (Tr.ok ((iI 0,some 1),H)))))))))))) [(1,AV.ptr 0 0 0 0),(4,AV.int .i64 (bL .i64 (ofNat U) (ofNat 1))),(35,slA 2 V J),(36,iI V),(37,iI 0)])) (bm [(0,dc O U Z V J),(0,al.row (Row.I .i64 [bL .i64 (ofNat U) (ofNat 1)])),(0,al.row (Row.I .i64 [O]))]):=by kernel_rfl
theorem t86 (n:Nat) (m:Nat) (z:Nat→Int) (full:Bool) (a b:Int) (H:aa) (j:Int):aF (bJ n 86 19) (il aC n 0) aK aJ (part Tryd.f86 [1,0,1,0,0]) (hints (Eu m z full j)) (KH a b::H) =
 Tr.ite (bF j (ofNat m)) (Tr.req (cu j m) (Tr.req (bX (aq 0 j 2) (cr m 2)) (Tr.req (bX (au (aq 0 j 2) 1) (cr m 2)) (Tr.ite (bT (cq a (z (aq 0 j 2))) (cq b (z (au (aq 0 j 2) 1)))) (Tr.ok (Ex.ret,[(4,AV.int .i64 j,none)],(bm [(0,al.row (Row.I .i64 [a,b]))])::H)) (Tr.ok (Ex.normal,[(0,AV.slcT none (rM z (cr m 2)) 2 m full,none),(3,AV.ptr 0 0 0 0,none),(7,iI m,none),(8,AV.int .i64 (bj .i64 j (ofNat 1)),none)],(bm [(0,al.row (Row.I .i64 [a,b]))])::H)))))) (Tr.ok (Ex.exit 0,[(0,AV.slcT none (rM z (cr m 2)) 2 m full,none),(3,AV.ptr 0 0 0 0,none),(7,iI m,none),(8,AV.int .i64 j,none),(9,AV.bool false,some 1)],(bm [(0,al.row (Row.I .i64 [a,b]))])::H)):=by kernel_rfl
theorem YV (n:Nat) (m:Nat) (z:Nat→Int) (full:Bool) (a b:Int) (H:aa) (i:Int) (e:Bool):aZ Tryd.prog (cd n) 100000 86 Tryd.f86 (KtG.kt 86) (il aC n 0) (cE aK 0 (Eu m z full 0) (KH a b::H) (.ite e (.ok (.ret,[(4,.int .i64 i,none)],KH a b::H)) (.ok (.normal,hints (Eu m z full (ofNat m)++[(9,.bool false)]),KH a b::H)))) aJ [(Nt m z full,none),(NX a b,none)] H =
 (fun (Z0:aD)=>Tr.reqP (Z0=Z0∧(bm [(0,al.row (Row.I .i64 [a,b]))])::H=(bm [(0,al.row (Row.I .i64 [a,b]))])::H) (Tr.ite e (Tr.ok ((AV.int .i64 i,none),H)) (Tr.ok ((AV.int .i64 (Int.negSucc 0),some 1),H)))) [(0,AV.slcT none (rM z (cr m 2)) 2 m full),(3,AV.ptr 0 0 0 0),(7,iI m),(8,iI 0)]:=by kernel_rfl
theorem YC (n:Nat) (m:Nat) (z:Nat→Int) (full:Bool) (a b:Int) (H:aa) (i:Int):aZ Tryd.prog (cd n) 100000 61 Tryd.f61 (KtG.kt 61) (il (tX aC 86 [Nt m z full,NX a b] (.int .i64 i)) n 0) aK aJ [(Nt m z full,none),(NX a b,none)] H =
 Tr.reqP ([AV.slcT none (rM z (cr m 2)) 2 m full,AV.agg (Row.I .i64 [a,b])]=[AV.slcT none (rM z (cr m 2)) 2 m full,AV.agg (Row.I .i64 [a,b])]) (Tr.ok ((AV.bool (di (ofNat 0) i),none),H)):=by kernel_rfl
end Go.Eng
end
section
namespace Go.Eng
open Int (ofNat)
open Go.Proofs
noncomputable def yb (O:Int) (U:Nat) (Z:Nat→Int) (V:Nat) (J:Nat→Int) (W B:Nat→Int):bC:=⟨false,[(0,.row (.G [.int .i64 O,slA 4 U Z,slA 2 V J])),(0,.row (shR O U Z V J W B))]⟩
noncomputable def xa (U:Nat) (Z:Nat→Int) (j:Int):aD:=[(1,.ptr 0 0 0 0),(3,.ptr 0 1 0 0),(12,slA 4 U Z),(13,.int .i64 (ofNat U)),(14,.int .i64 j)]
noncomputable def xe (V:Nat) (J:Nat→Int) (j:Int):aD:=[(3,.ptr 0 1 0 0),(56,slA 2 V J),(57,.int .i64 (ofNat V)),(58,.int .i64 j)]
theorem t62 (n:Nat) (O:Int) (U:Nat) (Z:Nat→Int) (V:Nat) (J:Nat→Int) (W B:Nat→Int) (H:aa) (j:Int):aF (bJ (n+1) 62 78) (il aC n 1) aK aJ (part Tryd.f62 [1,1,0,1,0,0]) (hints (xa U Z j)) (yb O U Z V J W B::H) =
 Tr.ite (bF j (ofNat U)) (Tr.req (cu j U) (Tr.req (bX (aq 0 j 4) (cr U 4)) (Tr.req (bX (au (aq 0 j 4) 1) (cr U 4)) (Tr.req (bX (au (aq 0 j 4) 2) (cr U 4)) (Tr.req (bX (au (aq 0 j 4) 3) (cr U 4)) (Tr.req (bf (cq O (ofNat 0))) (Tr.req (bf (cq O (ofNat 0))) (Tr.req (bf (cq O (ofNat 0))) (Tr.req (bf (cq O (ofNat 0))) (Tr.req (bf (cq O (ofNat 0))) (Tr.req (bf (cq O (ofNat 0))) (Tr.req (cu j 10) (Tr.req (cH 0 0) (Tr.req (dP (aq 3 j 2) 1 3 20) (Tr.req (dP (au (aq 3 j 2) 1) 1 3 20) (Tr.req (bT (dW 0 0) (dW 0 1)) (Tr.ok (Ex.normal,[(1,AV.ptr 0 0 0 0,none),(3,AV.ptr 0 1 0 0,none),(12,slA 4 U Z,none),(13,iI U,none),(14,AV.int .i64 (bj .i64 j (ofNat 1)),none)],(bm [(0,dc O U Z V J),(0,al.row (shR O U Z V J (dh (dh W (bQ (aq 3 j 2) 3) (vp (ofNat 0) (GX IntKind.i64 (ET IntKind.i64 (bL .i64 (bL .i64 (Z (au (aq 0 j 4) 3)) (Z (au (aq 0 j 4) 1))) (iT IntKind.i64 (bj .i64 (iT IntKind.i64 (bL .i64 (Z (au (aq 0 j 4) 3)) (Z (au (aq 0 j 4) 1))) O) O) O)) O)))) (bQ (au (aq 3 j 2) 1) 3) (zp (bL .i64 (ofNat U) (ofNat 1)) (ET IntKind.i64 (bL .i64 (bL .i64 (Z (aq 0 j 4)) (Z (au (aq 0 j 4) 2))) (iT IntKind.i64 (bj .i64 (iT IntKind.i64 (bL .i64 (Z (aq 0 j 4)) (Z (au (aq 0 j 4) 2))) O) O) O)) O))) B)),(0,al.row (Row.I .i64 [Z (aq 0 j 4),Z (au (aq 0 j 4) 1),Z (au (aq 0 j 4) 2),Z (au (aq 0 j 4) 3)]))])::H)))))))))))))))))) (Tr.ok (Ex.exit 0,[(1,AV.ptr 0 0 0 0,none),(3,AV.ptr 0 1 0 0,none),(12,slA 4 U Z,none),(13,iI U,none),(14,AV.int .i64 j,none),(15,AV.bool false,some 1)],(bm [(0,dc O U Z V J),(0,al.row (shR O U Z V J W B))])::H)):=by kernel_rfl
theorem Vz (n:Nat) (O:Int) (U:Nat) (Z:Nat→Int) (V:Nat) (J:Nat→Int) (W B:Nat→Int) (H:aa) (j:Int):aF (bJ (n+1) 62 78) (il aC n 1) aK aJ (part Tryd.f62 [1,1,1,1,0,1,0,0]) (hints (xe V J j)) (yb O U Z V J W B::H) =
 Tr.ite (bF j (ofNat V)) (Tr.req (cu j V) (Tr.req (bX (aq 0 j 2) (cr V 2)) (Tr.req (bX (au (aq 0 j 2) 1) (cr V 2)) (Tr.req (cu (ofNat 1) 2) (Tr.req (cu (J (au (aq 0 j 2) 1)) 10) (Tr.req (cH 0 0) (Tr.req (dP (aq 23 (J (au (aq 0 j 2) 1)) 1) 1 23 10) (Tr.req (cu (ofNat 0) 2) (Tr.req (di (ofNat 0) (J (aq 0 j 2))) (Tr.req (cu (J (au (aq 0 j 2) 1)) 10) (Tr.req (cH 0 0) (Tr.req (dP (aq 23 (J (au (aq 0 j 2) 1)) 1) 1 23 10) (Tr.req (bT (dW 0 0) (dW 0 1)) (Tr.ok (Ex.normal,[(3,AV.ptr 0 1 0 0,none),(56,slA 2 V J,none),(57,iI V,none),(58,AV.int .i64 (bj .i64 j (ofNat 1)),none)],(bm [(0,dc O U Z V J),(0,al.row (shR O U Z V J W (dh B (bQ (aq 23 (J (au (aq 0 j 2) 1)) 1) 23) (sf IntKind.u64 (B (bQ (aq 23 (J (au (aq 0 j 2) 1)) 1) 23)) (eC IntKind.u64 (ofNat 1) (J (aq 0 j 2))))))),(0,al.row (Row.I .i64 [J (aq 0 j 2),J (au (aq 0 j 2) 1)]))])::H))))))))))))))) (Tr.ok (Ex.exit 2,[(3,AV.ptr 0 1 0 0,none),(56,slA 2 V J,none),(57,iI V,none),(58,AV.int .i64 j,none),(59,AV.bool false,some 1)],(bm [(0,dc O U Z V J),(0,al.row (shR O U Z V J W B))])::H)):=by kernel_rfl
theorem YD (n:Nat) (O:Int) (U:Nat) (Z:Nat→Int) (V:Nat) (J:Nat→Int) (W B B':Nat→Int) (H:aa):aZ Tryd.prog (cd (n+6)) 100000 62 Tryd.f62 (KtG.kt 62) (il aC (n+6) 0) (cE (cE aK 0 (xa U Z (ofNat 0)) (yb O U Z V J (fun _=>ofNat 0) (fun _=>ofNat 0)::H) (.ok (.normal,hints (xa U Z (ofNat U)++[(15,.bool false)]),yb O U Z V J W (fun _=>ofNat 0)::H))) 2 (xe V J (ofNat 0)) (yb O U Z V J W B::H) (.ok (.normal,hints (xe V J (ofNat V)++[(59,.bool false)]),yb O U Z V J W B'::H))) aJ [(bt O U Z V J,none)] H =
 (fun (Z0:bC)=>((fun (Z1:aD)=>Tr.reqP (Z1=Z1∧Z0::H=Z0::H) (Tr.req (bX 0 10) (Tr.req (cH 0 0) (Tr.reqP ([(3,AV.ptr 0 1 0 0),(56,slA 2 V J),(57,iI V),(58,iI 0)]=[(3,AV.ptr 0 1 0 0),(56,slA 2 V J),(57,iI V),(58,iI 0)]∧(bm [(0,dc O U Z V J),(0,al.row (shR O U Z V J W (fun x=>ofNat 0)))])::H=(bm [(0,dc O U Z V J),(0,al.row (shR O U Z V J W B))])::H) (Tr.ok ((AV.ptrT (some 0) (shR O U Z V J W B') 0,none),H)))))) [(1,AV.ptr 0 0 0 0),(3,AV.ptr 0 1 0 0),(12,slA 4 U Z),(13,iI U),(14,iI 0)])) (bm [(0,dc O U Z V J),(0,al.row (shR O U Z V J (fun x=>ofNat 0) (fun x=>ofNat 0)))]):=by kernel_rfl
end Go.Eng
end
section
namespace Go.Eng
open Int (ofNat)
open Go.Proofs
theorem IT {a b:Int} (hb:0<b):(a.tmod b+b).tmod b=a % b:=by
 have h0:-b<a.tmod b:=by
  by_cases h:0≤a
  · have:=Int.tmod_nonneg b h;omega
  · have e:a.tmod b=-((-a).tmod b):=by rw[Int.neg_tmod];omega
    have:=Int.tmod_lt_of_pos (-a) hb;omega
 rw[Int.tmod_eq_emod_of_nonneg wO,Int.add_emod_right];have e:a.tmod b=a-b*(a.tdiv b):=by have:=Int.mul_tdiv_add_tmod a b;omega
 rw[e,Int.sub_mul_emod_self_left]
theorem Kt {a b:Int} (hb:1≤b) (hb2:b≤1000) (h1:-1000000≤a) (h2:a≤1000000):ET .i64 (bL .i64 a (iT .i64 (bj .i64 (iT .i64 a b) b) b)) b=a / b:=by
 have hm0:-b<a.tmod b∧a.tmod b<b:=by
  constructor
  · by_cases h:0≤a
    · have:=Int.tmod_nonneg b h;omega
    · have e:a.tmod b=-((-a).tmod b):=by rw[Int.neg_tmod];omega
      have:=Int.tmod_lt_of_pos (-a) (show 0<b by omega);omega
  · exact Int.tmod_lt_of_pos a wO
 have e1:bj .i64 (iT .i64 a b) b=a.tmod b+b:=by rw[fT,pN,iB wO wO]
 rw[DI,e1,pN,IT wO,eJ];have h3:=Int.emod_nonneg a (show b≠0 by omega);have h4:=Int.emod_lt_of_pos a (show 0<b by omega);have e3:IntKind.i64.wrap (a-a % b)=a-a % b:=iB wO wO;rw[e3];have e:a-a % b=b*(a / b):=by have:=Int.mul_ediv_add_emod a b;omega
 have e2:(b*(a / b)).tdiv b=a / b:=Int.mul_tdiv_cancel_left _ wO;rw[e,e2];have h5:a / b≤1000000:=Int.le_trans (Int.ediv_le_ediv wO h2) (Int.ediv_le_self b (by decide));have h6:-2000001≤a / b:=by
  have h7:=Int.mul_ediv_add_emod a b;apply Classical.byContradiction;intro hc;have h8:b*(a / b)≤1*(a / b):=Int.mul_le_mul_of_nonpos_right hb wO;omega
 exact iB wO wO
def bR (O:Int) (U:Nat) (Z:Nat→Int) (i:Nat):Int:=if i<2*U then (if i % 2=0 then max 0 (-((Z (i / 2*4+3)-Z (i / 2*4+1)) / O)) else min ((U:Int)-1) ((Z (i / 2*4)-Z (i / 2*4+2)) / O)) else 0
def Fp (O:Int) (U:Nat) (Z:Nat→Int) (j i:Nat):Int:=if i<2*j then bR O U Z i else 0
theorem QD (O:Int) (U:Nat) (Z:Nat→Int):Fp O U Z 0=fun _=>ofNat 0:=by funext i;unfold Fp;rw[if_neg wO];rfl
theorem Ka (O:Int) (U:Nat) (Z:Nat→Int):Fp O U Z U=bR O U Z:=by
 funext i;unfold Fp;by_cases h:i<2*U
 · rw[if_pos h]
 · rw[if_neg h];unfold bR;rw[if_neg h]
theorem Kb {O:Int} {U:Nat} {Z:Nat→Int} {j:Nat} {v0 v1:Int} (h0:v0=bR O U Z (2*j)) (h1:v1=bR O U Z (2*j+1)):dh (dh (Fp O U Z j) (2*j) v0) (2*j+1) v1=Fp O U Z (j+1):=by
 rw[hJ,hJ];funext i;unfold Fp;by_cases e:i=2*j+1
 · rw[if_pos e,if_pos wO,e,h1]
 · rw[if_neg e];show (if i=2*j then v0 else if i<2*j then bR O U Z i else 0)=_;by_cases e2:i=2*j
   · rw[if_pos e2,if_pos wO,e2,h0]
   · rw[if_neg e2];by_cases e3:i<2*j
     · rw[if_pos e3,if_pos wO]
     · rw[if_neg e3,if_neg wO]
def dq (J:Nat→Int) (c:Nat):Nat→Nat
 | 0=>0
 | j+1=>if J (j*2+1)=(c:Int) then dq J c j ||| 2 ^ (J (j*2)).toNat else dq J c j
def gv (V:Nat) (J:Nat→Int) (c:Nat):Int:=(dq J c V:Int)
theorem m7 (J:Nat→Int) (c a:Nat):∀ j,(∀ i,i<j→0≤J (i*2))→((dq J c j).testBit a=true↔∃ i,i<j∧J (i*2)=(a:Int)∧J (i*2+1)=(c:Int))
 | 0,_=>by
   constructor
   · intro h;simp[dq] at h
   · rintro ⟨i,h,_⟩;omega
 | j + 1,h0=>by
   have ih:=m7 J c a j (fun i hi=>h0 i wO);have hj:=h0 j wO;unfold dq;split
   · rename_i hc;rw[Nat.testBit_or,Bool.or_eq_true,ih,Nat.testBit_two_pow,decide_eq_true_iff];constructor
     · rintro (⟨i,a1,a2⟩ | h)
       · exact ⟨i,by omega,a2⟩
       · exact ⟨j,by omega,by omega,hc⟩
     · rintro ⟨i,a1,a2,a3⟩;by_cases e:i=j
       · subst e;exact .inr wO
       · exact .inl ⟨i,by omega,a2,a3⟩
   · rename_i hc;rw[ih];constructor
     · rintro ⟨i,a1,a2⟩;exact ⟨i,by omega,a2⟩
     · rintro ⟨i,a1,a2,a3⟩;refine ⟨i,?_,a2,a3⟩;by_cases e:i=j
       · subst e;exact absurd a3 hc
       · omega
theorem qc (J:Nat→Int) (c n:Nat):∀ j,(∀ i,i<j→0≤J (i*2)∧J (i*2)<n)→dq J c j<2 ^ n:=fun j h=>by
 apply Nat.lt_pow_two_of_testBit;intro i hi;cases hb:(dq J c j).testBit i with
 | false=>rfl
 | true =>
   obtain ⟨k,k1,k2,k3⟩:=(m7 J c i j (fun i hi=>(h i hi).1)).1 hb;have:=h k k1;omega
def wH (U:Nat) (Z:Nat→Int):Prop:=∀ j,j<U→jC Z j=false
def iL (U V:Nat) (J:Nat→Int):Prop:=∀ j,j<V→(0≤J (j*2)∧J (j*2)<U)∧0≤J (j*2+1)∧J (j*2+1)<U
theorem H5 {U:Nat} {Z:Nat→Int} (h:wH U Z) {j:Nat} (hj:j<U):0≤Z (j*4)∧Z (j*4)≤Z (j*4+1)∧Z (j*4+1)≤1000∧0≤Z (j*4+2)∧Z (j*4+2)≤Z (j*4+3)∧Z (j*4+3)≤1000:=by
 have:=h j hj;unfold jC at this;simp at this;omega
theorem VI:∀ b,(0,b) ∈ aI (aW Tryd.f62)→b=.loop (part Tryd.f62 [1,1,0,1,0,0]):=dJ (by kernel_rfl)
theorem Q0:∀ b,(2,b) ∈ aI (aW Tryd.f62)→b=.loop (part Tryd.f62 [1,1,1,1,0,1,0,0]):=dJ (by kernel_rfl)
theorem QP {x y:Nat} (hx:x<2 ^ 63) (hy:y<2 ^ 63):sf .u64 (x:Int) (y:Int)=((x ||| y:Nat):Int):=by
 rw[tW];show IntKind.u64.wrap ((BitVec.ofInt 64 (x:Int) ||| BitVec.ofInt 64 (y:Int)).toNat:Nat)=_;have h1:x ||| y<2 ^ 63:=Nat.or_lt_two_pow hx hy;have bv:∀ x:Nat,BitVec.ofInt 64 (x:Int)=BitVec.ofNat 64 x:=fun x=>by apply BitVec.eq_of_toInt_eq;simp
 rw[bv,bv,BitVec.toNat_or,BitVec.toNat_ofNat,BitVec.toNat_ofNat,Nat.mod_eq_of_lt wO,Nat.mod_eq_of_lt wO];exact Go.IntWalk.u64_in _ wO
theorem B9 {i:Nat} (hi:i<62):eC .u64 (ofNat 1) (i:Int)=((2 ^ i:Nat):Int):=by
 rw[xU];show IntKind.u64.wrap (1*2 ^ min i 64)=_;have:(2:Nat) ^ i≤2 ^ 62:=Nat.pow_le_pow_right (by decide) wO;rw[Nat.min_eq_left wO,Int.one_mul,show (2:Int) ^ i=((2 ^ i:Nat):Int) from by rw[Int.natCast_pow];rfl];generalize (2:Nat) ^ i=P at *;exact Go.IntWalk.u64_in _ wO
section
variable (n:Nat) (O:Int) (U:Nat) (Z:Nat→Int) (V:Nat) (J:Nat→Int) (H:aa)
theorem XQ (hl:U≤10) (hd:1≤O∧O≤100) (hv:wH U Z) (B:Nat→Int):exec (bJ (n+6) 62 78) (.block 0 (.loop (part Tryd.f62 [1,1,0,1,0,0]))) (xa U Z (ofNat 0)) (yb O U Z V J (Fp O U Z 0) B::H)=some (.normal,xa U Z (ofNat U)++[(15,.bool false)],yb O U Z V J (Fp O U Z U) B::H):=by
 refine jh (n:=n+6) (f:=62) (nt:=78) (c:=part Tryd.f62 [1,1,0,1,0,0]) 0 (fun j=>xa U Z (j:Int)) (fun j=>yb O U Z V J (Fp O U Z j) B::H) U (_,_) wO (fun j hj=>?_) ?_
 · obtain ⟨v1,v2,v3,v4,v5,v6⟩:=H5 hv hj;have ej:bj .i64 (j:Int) (ofNat 1)=((j+1:Nat):Int):=dO wO;have ei:aq 0 (j:Int) 4=j*4:=by rw[bo];omega
   have es:bQ (aq 3 (j:Int) 2) 3=2*j:=by rw[bo,cw];omega
   have es1:bQ (au (aq 3 (j:Int) 2) 1) 3=2*j+1:=by rw[bo,aH,cw];omega
   have T:=t62 (n+5) O U Z V J (Fp O U Z j) B H (j:Int);rw[ei,aH (j*4),aH (j*4),aH (j*4),ej,es,es1] at T;have s1:bL .i64 (Z (j*4+3)) (Z (j*4+1))=Z (j*4+3)-Z (j*4+1):=by rw[eJ];exact iB wO wO
   have s2:bL .i64 (Z (j*4)) (Z (j*4+2))=Z (j*4)-Z (j*4+2):=by rw[eJ];exact iB wO wO
   have s3:bL .i64 (ofNat U) (ofNat 1)=(U:Int)-1:=by rw[eJ];exact iB (by show -9223372036854775808≤(U:Int)-1;omega) (by show (U:Int)-1≤_;omega)
   rw[s1,s2,s3,Kt hd.1 wO wO wO,Kt hd.1 wO wO wO] at T;have q1:-1000001≤(Z (j*4+3)-Z (j*4+1)) / O∧(Z (j*4+3)-Z (j*4+1)) / O≤1000:=by
    constructor
    · have h7:=Int.mul_ediv_add_emod (Z (j*4+3)-Z (j*4+1)) O;have h4:=Int.emod_lt_of_pos (Z (j*4+3)-Z (j*4+1)) (show 0<O by omega);apply Classical.byContradiction;intro hc;have h8:O*((Z (j*4+3)-Z (j*4+1)) / O)≤1*((Z (j*4+3)-Z (j*4+1)) / O):=Int.mul_le_mul_of_nonpos_right hd.1 wO;omega
    · exact Int.le_trans (Int.ediv_le_ediv wO (by omega:Z (j*4+3)-Z (j*4+1)≤1000)) (Int.ediv_le_self O (by decide))
   have n1:GX .i64 ((Z (j*4+3)-Z (j*4+1)) / O)=-((Z (j*4+3)-Z (j*4+1)) / O):=by rw[Dn,iB wO wO];omega
   rw[n1,Kb (U:=U) (Z:=Z) (O:=O) (j:=j) (by
    unfold bR;rw[if_pos wO,if_pos wO,r7,show 2*j / 2=j by omega];show (if _ > (0:Int) then _ else (0:Int))=_;omega) (by
    unfold bR;rw[if_pos wO,if_neg wO,r8,show (2*j+1) / 2=j by omega];omega)] at T
   refine aA T (dT (n+5) 1) (ah _ _) (aj _ _) ?_;have hdn:bf (cq O (ofNat 0))=true:=by rw[av,aQ];show (!(O == 0))=true;simp;omega
   refine Tr.ae (fun h0=>?_) wJ;refine Tr.ab wG (Tr.ab wG (Tr.ab wG (Tr.ab wG (Tr.ab wG (Tr.ab hdn (Tr.ab hdn (Tr.ab hdn (Tr.ab hdn (Tr.ab hdn (Tr.ab hdn (Tr.ab wG (Tr.ab wG (Tr.ab wG (Tr.ab wG (Tr.ab wG ?_)))))))))))))));exact Tr.ag ⟨rfl,rfl⟩
 · obtain ⟨x,h1,rfl⟩:=aA (Q:=fun x=>x=(.exit 0,xa U Z (ofNat U)++[(15,.bool false)],yb O U Z V J (Fp O U Z U) B::H)) (t62 (n+5) O U Z V J (Fp O U Z U) B H (ofNat U)) (dT (n+5) 1) (ah _ _) (aj _ _) (by
    refine Tr.ae wJ (fun h0=>Tr.ag rfl))
   exact h1
theorem Oi (J:Nat→Int):gv 0 J=fun _=>ofNat 0:=rfl
theorem FJ {J:Nat→Int} {j:Nat} (h1:0≤J (j*2+1)) (h2:0≤J (j*2)) (h3:J (j*2)<60) (hs:∀ i,i<j→0≤J (i*2)∧J (i*2)<(60:Nat)):dh (gv j J) (J (j*2+1)).toNat (sf .u64 (gv j J (J (j*2+1)).toNat) (eC .u64 (ofNat 1) (J (j*2))))=gv (j+1) J:=by
 have hlt:=qc J (J (j*2+1)).toNat 60 j hs;have e1:eC .u64 (ofNat 1) (J (j*2))=((2 ^ (J (j*2)).toNat:Nat):Int):=by
  have:=B9 (i:=(J (j*2)).toNat) wO;rw[Int.toNat_of_nonneg h2] at this;exact this
 have hp:(2:Nat) ^ (J (j*2)).toNat<2 ^ 62:=Nat.pow_lt_pow_right (by decide) wO;rw[e1];unfold gv;rw[QP (Nat.lt_of_lt_of_le hlt (Nat.pow_le_pow_right (by decide) (by decide))) (Nat.lt_of_lt_of_le hp (Nat.pow_le_pow_right (by decide) (by decide))),hJ];funext c;show (if c=(J (j*2+1)).toNat then _ else (dq J c j:Int))=((dq J c (j+1):Nat):Int);have e2:dq J c (j+1)=if J (j*2+1)=(c:Int) then dq J c j ||| 2 ^ (J (j*2)).toNat else dq J c j:=rfl
 rw[e2];by_cases e:c=(J (j*2+1)).toNat
 · rw[if_pos e,if_pos wO,e]
 · rw[if_neg e,if_neg wO]
theorem Sb (hl:U≤10) (hb:V≤1000) (hp:iL U V J) (W:Nat→Int):exec (bJ (n+6) 62 78) (.block 2 (.loop (part Tryd.f62 [1,1,1,1,0,1,0,0]))) (xe V J (ofNat 0)) (yb O U Z V J W (gv 0 J)::H)=some (.normal,xe V J (ofNat V)++[(59,.bool false)],yb O U Z V J W (gv V J)::H):=by
 refine jh (n:=n+6) (f:=62) (nt:=78) (c:=part Tryd.f62 [1,1,1,1,0,1,0,0]) 2 (fun j=>xe V J (j:Int)) (fun j=>yb O U Z V J W (gv j J)::H) V (_,_) wO (fun j hj=>?_) ?_
 · obtain ⟨⟨v1,v2⟩,v3,v4⟩:=hp j hj;have ej:bj .i64 (j:Int) (ofNat 1)=((j+1:Nat):Int):=dO wO;have ei:aq 0 (j:Int) 2=j*2:=by rw[bo];omega
   have es:bQ (aq 23 (J (j*2+1)) 1) 23=(J (j*2+1)).toNat:=by rw[bo,cw];omega
   have T:=Vz (n+5) O U Z V J W (gv j J) H (j:Int);rw[ei,aH (j*2),ej,es,FJ v3 v1 wO (fun i hi=>by have:=hp i wO;omega)] at T;refine aA T (dT (n+5) 1) (ah _ _) (aj _ _) ?_;refine Tr.ae (fun h0=>?_) wJ;refine Tr.ab wG (Tr.ab wG (Tr.ab wG (Tr.ab wG (Tr.ab wG (Tr.ab wG (Tr.ab wG (Tr.ab wG (Tr.ab wG (Tr.ab wG (Tr.ab wG (Tr.ab wG (Tr.ab wG ?_))))))))))));exact Tr.ag ⟨rfl,rfl⟩
 · obtain ⟨x,h1,rfl⟩:=aA (Q:=fun x=>x=(.exit 2,xe V J (ofNat V)++[(59,.bool false)],yb O U Z V J W (gv V J)::H)) (Vz (n+5) O U Z V J W (gv V J) H (ofNat V)) (dT (n+5) 1) (ah _ _) (aj _ _) (by
    refine Tr.ae wJ (fun h0=>Tr.ag rfl))
   exact h1
noncomputable def KU (O:Int) (U:Nat) (Z:Nat→Int) (V:Nat) (J:Nat→Int):AV:=shV O U Z V J (bR O U Z) (gv V J)
theorem QF (hl:U≤10) (hb:V≤1000) (hd:1≤O∧O≤100) (hv:wH U Z) (hp:iL U V J):cd (n+7) (.fn 62) [bt O U Z V J] H=some (KU O U Z V J,H):=by
 refine oZ ?_;have hx:=XQ n O U Z V J H hl hd hv (fun _=>ofNat 0);rw[QD,Ka] at hx;have hk:=Sb n O U Z V J H hl hb hp (bR O U Z);rw[Oi] at hk;obtain ⟨y,h1,h2,h3⟩:Tr.all (aZ Tryd.prog (cd (n+6)) 100000 62 Tryd.f62 (KtG.kt 62) (il aC (n+6) 0) (cE (cE aK 0 (xa U Z (ofNat 0)) (yb O U Z V J (fun _=>ofNat 0) (fun _=>ofNat 0)::H) (.ok (.normal,hints (xa U Z (ofNat U)++[(15,.bool false)]),yb O U Z V J (bR O U Z) (fun _=>ofNat 0)::H))) 2 (xe V J (ofNat 0)) (yb O U Z V J (bR O U Z) (fun _=>ofNat 0)::H) (.ok (.normal,hints (xe V J (ofNat V)++[(59,.bool false)]),yb O U Z V J (bR O U Z) (gv V J)::H))) aJ [(bt O U Z V J,none)] H) (fun y=>y.1.1=.ptrT (some 0) (shR O U Z V J (bR O U Z) (gv V J)) 0∧y.2=H):=by
  rw[YD n O U Z V J (bR O U Z) (fun _=>ofNat 0) (gv V J) H];exact Tr.ak ⟨rfl,rfl⟩ (Tr.ab wG (Tr.ab wG (Tr.ak ⟨rfl,rfl⟩ (Tr.ag ⟨rfl,rfl⟩))))
 have:=xO (P:=Tryd.prog) (KT:=KtG.kt) (fu:=100000) (f:=62) (call:=cd (n+6)) (fn:=Tryd.f62) Tryd.func62 rfl (args:=[(bt O U Z V J,none)]) (H:=H) rfl (aw _) (aU (aU (ah _ _) VI (fun x h=>by rw[← Tr.af h];simp only[ev.st,aN];exact hx)) Q0 (fun x h=>by rw[← Tr.af h];simp only[ev.st,aN];exact hk)) (aj _ _) h1;rw[h2,h3] at this;have e:gL (cd (n+6)) 62 [bt O U Z V J] H=QQ (oL Tryd.prog KtG.kt 100000 62 (cd (n+6)) (jY [(bt O U Z V J,none)]) H):=by
  show (match Gall.vu (cd (n+6)) 62 [bt O U Z V J] H with
   | some x=>some x
   | none=>tY [⟨15,[],.bool true⟩] (cd (n+6)) 62 [bt O U Z V J] H)=_
  have e2:Gall.vu (cd (n+6)) 62 [bt O U Z V J] H=QQ (oL Tryd.prog KtG.kt 100000 62 (cd (n+6)) [bt O U Z V J] H):=rfl;rw[e2];rw[this];have e3:oL Tryd.prog KtG.kt 100000 62 (cd (n+6)) [bt O U Z V J] H=_:=this;rw[e3];rfl
 rw[e,this];rfl
end
end Go.Eng
end
section
namespace Go.Eng
open Int (ofNat)
open Go.Proofs
noncomputable def pn (A:AV) (x:Int):aD:=[(0,A),(3,.int .u64 x)]
noncomputable def Bt (A:AV) (U:Nat) (x f c:Int):aD:=[(0,A),(3,.int .u64 x),(4,.int .u64 f),(21,.int .i64 (ofNat U)),(22,.int .i64 c)]
theorem t63 (n:Nat) (O:Int) (U:Nat) (Z:Nat→Int) (V:Nat) (J:Nat→Int) (W B:Nat→Int) (H:aa) (x f c:Int):aF (bJ n 63 51) (il aC n 0) aK aJ (part Tryd.f63 [1,1,1,0,0,0,1,0,1,0,1,0,0]) (hints (Bt (shV O U Z V J W B) U x f c)) (ao::H) =
 (fun (Z0:aT)=>Tr.ite (bF c (ofNat U)) (Tr.req (di (ofNat 0) c) (Tr.ite (bf (cq (mj IntKind.u64 x (eC IntKind.u64 (ofNat 1) c)) (ofNat 0))) (Tr.req (cu c 10) (Tr.req (dP (aq 23 c 1) 1 23 10) (Tr.ite (cq (mj IntKind.u64 (B (bQ (aq 23 c 1) 23)) x) (ofNat 0)) (Tr.req (di (ofNat 0) c) (Tr.ok (Ex.normal,[(0,shV O U Z V J W B,none),(3,AV.int IntKind.u64 x,none),(4,AV.int IntKind.u64 (sf IntKind.u64 f (eC IntKind.u64 (ofNat 1) c)),none),(21,iI U,none),(22,AV.int .i64 (bj .i64 c (ofNat 1)),none)],ao::H))) (Tr.ok (Ex.normal,Z0,ao::H))))) (Tr.ok (Ex.normal,Z0,ao::H)))) (Tr.ok (Ex.exit 2,[(0,shV O U Z V J W B,none),(3,AV.int IntKind.u64 x,none),(4,AV.int IntKind.u64 f,none),(21,iI U,none),(22,AV.int .i64 c,none),(23,AV.bool false,some 1)],ao::H))) [(0,shV O U Z V J W B,none),(3,AV.int IntKind.u64 x,none),(4,AV.int IntKind.u64 f,none),(21,iI U,none),(22,AV.int .i64 (bj .i64 c (ofNat 1)),none)]:=by kernel_rfl
theorem Yl (n:Nat) (O:Int) (U:Nat) (Z:Nat→Int) (V:Nat) (J:Nat→Int) (W B:Nat→Int) (H:aa) (x f:Int):aF (bJ n 63 51) (il aC n 0) (cE aK 2 (Bt (shV O U Z V J W B) U x (ofNat 0) (ofNat 0)) (ao::H) (.ok (.normal,hints (Bt (shV O U Z V J W B) U x f (ofNat U)++[(23,.bool false)]),ao::H))) aJ (part Tryd.f63 [1,1,1,0,0,0]) (hints (pn (shV O U Z V J W B) x)) (ao::H) =
 (fun (Z0:aD)=>Tr.ite (bf (cq x (ofNat 0))) (Tr.reqP (Z0=Z0∧ao::H=ao::H) (Tr.ite (cq f (ofNat 0)) (Tr.ok (Ex.ret,[(2,AV.bool true,some 1)],ao::H)) (Tr.ok (Ex.normal,[(0,shV O U Z V J W B,none),(3,AV.int IntKind.u64 (A3 IntKind.u64 x f),none)],ao::H)))) (Tr.ok (Ex.exit 0,[(0,shV O U Z V J W B,none),(3,AV.int IntKind.u64 x,none),(15,AV.bool false,some 1)],ao::H))) [(0,shV O U Z V J W B),(3,AV.int IntKind.u64 x),(4,AV.int IntKind.u64 (ofNat 0)),(21,iI U),(22,iI 0)]:=by kernel_rfl
theorem YE (n:Nat) (O:Int) (U:Nat) (Z:Nat→Int) (V:Nat) (J:Nat→Int) (W B:Nat→Int) (H:aa) (e:Bool) (x:Int):aZ Tryd.prog (cd (n+1)) 100000 63 Tryd.f63 (KtG.kt 63) (il aC n 1) (cE aK 0 (pn (shV O U Z V J W B) (bL .u64 (eC .u64 (ofNat 1) (ofNat U)) (ofNat 1))) (ao::H) (.ite e (.ok (.ret,[(2,.bool true,none)],ao::H)) (.ok (.normal,hints (pn (shV O U Z V J W B) x++[(15,.bool false)]),ao::H)))) aJ [(shV O U Z V J W B,none)] H =
 (fun (Z0:aD)=>Tr.ite (mi B (fun x=>ofNat 0) 10) (Tr.ok ((AV.bool false,some 1),H)) (Tr.req (di (ofNat 0) (ofNat U)) (Tr.reqP (Z0=Z0∧ao::H=ao::H) (Tr.ite e (Tr.ok ((AV.bool true,none),H)) (Tr.ok ((AV.bool false,some 1),H)))))) [(0,shV O U Z V J W B),(3,AV.int IntKind.u64 (bL IntKind.u64 (eC IntKind.u64 (ofNat 1) (ofNat U)) (ofNat 1)))]:=by kernel_rfl
end Go.Eng
end
section
namespace Go.Eng
open Int (ofNat)
open Go.Proofs Go.Eng.Gall
theorem Tv {n f nt:Nat} {c:Code} (id:Nat) (F:Nat→aD) (G:Nat→aa) (N:Nat) (Y:aD×aa) (hN:N<99999)
 (hs:∀ j,j<N→∃ x,exec (bJ n f nt) c (F j) (G j)=some x∧(x.1=.normal∧tidy (a6 (G 0)) x.2.1 x.2.2=(F (j+1),G (j+1))))
 (he:exec (bJ n f nt) c (F N) (G N)=some (.ret,Y)):exec (bJ n f nt) (.block id (.loop c)) (F 0) (G 0)=some (.ret,Y):=by
 have key:=jb (body:=exec (bJ n f nt) c) (n:=a6 (G 0)) F G N (fun _=>false) (fun j=>(.ret,Y))
  (fun j hj hp=>by
    obtain ⟨x,h1,h2,h3⟩:=hs j hj;obtain ⟨e,f1,g1⟩:=x;simp only at h2;subst h2;exact ⟨_,_,h1,h3⟩)
  (fun j hj hp=>by cases hp)
  (by exact ⟨he,by simp⟩) N 0 100000 wO wO
 exact cU (fun id' h=>by cases h) key
theorem QU {x y:Nat} (hx:x<2 ^ 62) (hy:y<2 ^ 62):∃ z:Nat,A3 .u64 (x:Int) (y:Int)=(z:Int)∧∀ i,z.testBit i=(x.testBit i && !y.testBit i):=by
 refine ⟨(BitVec.ofNat 64 x &&& ~~~BitVec.ofNat 64 y).toNat,?_,fun i=>?_⟩
 · rw[so];show IntKind.u64.wrap ((BitVec.ofInt 64 (x:Int) &&& ~~~BitVec.ofInt 64 (y:Int)).toNat:Nat)=_;rw[Q.LZ,Q.LZ];exact Q.jT (BitVec.isLt _)
 · rw[BitVec.testBit_toNat,BitVec.getLsbD_and,BitVec.getLsbD_not,BitVec.getLsbD_ofNat,BitVec.getLsbD_ofNat];by_cases hi:i<64
   · simp[hi]
   · have:x.testBit i=false:=Nat.testBit_lt_two_pow (Nat.lt_of_lt_of_le hx (Nat.pow_le_pow_right (by decide) wO));simp[hi,this]
theorem vE (z y:Nat→Int):∀ n,allEq z y n=true↔∀ j,j<n→z j=y j
 | 0=>⟨fun _ j hj=>by omega,fun _=>rfl⟩
 | n + 1=>by
   rw[allEq,Bool.and_eq_true,vE z y n,beq_iff_eq];constructor
   · rintro ⟨h1,h2⟩ j hj;by_cases e:j=n
     · subst e;exact h2
     · exact h1 j wO
   · intro h;exact ⟨fun j hj=>h j wO,h n wO⟩
theorem vF {z y:Nat→Int} {n:Nat} (h:mi z y n=true):∀ j,j<n→z j=y j:=by
 rw[vG] at h;exact (vE z y n).1 h
theorem VJ:∀ b,(0,b) ∈ aI (aW Tryd.f63)→b=.loop (part Tryd.f63 [1,1,1,0,0,0]):=dJ (by kernel_rfl)
theorem Q1:∀ b,(2,b) ∈ aI (part Tryd.f63 [1,1,1,0,0,0])→b=.loop (part Tryd.f63 [1,1,1,0,0,0,1,0,1,0,1,0,0]):=dJ (by kernel_rfl)
def bI (b:Nat→Nat) (c:Nat):Int:=(b c:Int)
section
variable (n:Nat) (O:Int) (U:Nat) (Z:Nat→Int) (V:Nat) (J:Nat→Int) (W:Nat→Int) (b:Nat→Nat) (H:aa)
theorem tD (p:Nat→Bool) {j:Nat} (hj:j≤10):mk p j<2 ^ 62:=Nat.lt_of_lt_of_le (Pr p j) (Nat.pow_le_pow_right (by decide) wO)
def pZ (U:Nat) (b:Nat→Nat) (t c:Nat):Bool:=bP U b t c && !bP U b (t+1) c
theorem XR (hl:U≤10) (hb:∀ c,c<U→b c<2 ^ 62) (t:Nat):exec (bJ n 63 51) (.block 2 (.loop (part Tryd.f63 [1,1,1,0,0,0,1,0,1,0,1,0,0]))) (Bt (shV O U Z V J W (bI b)) U (mk (bP U b t) U:Nat) (ofNat 0) (ofNat 0)) (ao::H) =
 some (.normal,Bt (shV O U Z V J W (bI b)) U (mk (bP U b t) U:Nat) (mk (pZ U b t) U:Nat) (ofNat U)++[(23,.bool false)],ao::H):=by
 refine jh (n:=n) (f:=63) (nt:=51) (c:=part Tryd.f63 [1,1,1,0,0,0,1,0,1,0,1,0,0]) 2 (fun c=>Bt (shV O U Z V J W (bI b)) U (mk (bP U b t) U:Nat) (mk (pZ U b t) c:Nat) (c:Int)) (fun _=>ao::H) U (_,_) wO (fun c hc=>?_) ?_
 · have ec:bj .i64 (ofNat c) (ofNat 1)=((c+1:Nat):Int):=dO wO
   have es:bQ (aq 23 (ofNat c) 1) 23=c:=by rw[bo,cw];show 23+c*1-23=c;omega
   have T:=t63 n O U Z V J W (bI b) H (mk (bP U b t) U:Nat) (mk (pZ U b t) c:Nat) (ofNat c)
   have h1:=Q.Bb (X:=mk (bP U b t) U) (c:=c) (tD _ hl) wO
   rw[iH,decide_eq_true hc,Bool.true_and] at h1
   have h2:cq (mj .u64 (bI b c) ((mk (bP U b t) U:Nat):Int)) (ofNat 0)=!bP U b (t+1) c:=by
    unfold bI;rw[Q.LS (Nat.lt_trans (hb c hc) (by decide)) (Nat.lt_trans (tD _ hl) (by decide)),aQ];have:=Ju (n:=U) (b:=b) (t:=t) hc;cases e:bP U b (t+1) c with
    | true =>
      have hne:b c &&& mk (bP U b t) U≠0:=fun h=>by rw[this.2 h] at e;cases e
      show (((b c &&& mk (bP U b t) U:Nat):Int) == 0)=false;rw[beq_eq_false_iff_ne];omega
    | false =>
      show (((b c &&& mk (bP U b t) U:Nat):Int) == 0)=true;rw[this.1 e];rfl
   have h3:bP U b t c=true→bP U b (t+1) c=false→sf .u64 ((mk (pZ U b t) c:Nat):Int) (eC .u64 (ofNat 1) (ofNat c))=((mk (pZ U b t) (c+1):Nat):Int):=fun q1 q2=>by
    rw[Q.Bc (tD _ wO) wO (by rw[iH];simp)];have:pZ U b t c=true:=by unfold pZ;rw[q1,q2];rfl
    show _=(((if pZ U b t c=true then mk (pZ U b t) c+2 ^ c else mk (pZ U b t) c):Nat):Int);rw[if_pos this]
   have h4:pZ U b t c=false→mk (pZ U b t) (c+1)=mk (pZ U b t) c:=fun q=>by
    show (if pZ U b t c=true then mk (pZ U b t) c+2 ^ c else mk (pZ U b t) c)=_;rw[if_neg (by rw[q];decide)]
   rw[es,h1,h2,ec] at T
   refine aA T (aw n) (ah _ _) (aj _ _) ?_
   refine Tr.ae (fun h0=>?_) wJ
   refine Tr.ab wG (Tr.ae (fun q1=>?_) (fun q1=>?_))
   · rw[av] at q1
     refine Tr.ab wG (Tr.ab wG (Tr.ae (fun q2=>?_) (fun q2=>?_)))
     · refine Tr.ab wG (Tr.ag ⟨rfl,?_⟩)
       rw[h3 (by simpa using q1) (by simpa using q2)];rfl
     · refine Tr.ag ⟨rfl,?_⟩
       rw[h4 (by unfold pZ;rw[show bP U b (t+1) c=true by simpa using q2];simp)];rfl
   · rw[av] at q1
     refine Tr.ag ⟨rfl,?_⟩
     rw[h4 (by unfold pZ;rw[show bP U b t c=false by simpa using q1];rfl)];rfl
 · obtain ⟨x,h1,rfl⟩:=aA (Q:=fun x=>x=(.exit 2,Bt (shV O U Z V J W (bI b)) U (mk (bP U b t) U:Nat) (mk (pZ U b t) U:Nat) (ofNat U)++[(23,.bool false)],ao::H)) (t63 n O U Z V J W (bI b) H (mk (bP U b t) U:Nat) (mk (pZ U b t) U:Nat) (ofNat U)) (aw n) (ah _ _) (aj _ _) (by
    refine Tr.ae wJ (fun h0=>Tr.ag rfl))
   exact h1
theorem Vy (hl:U≤10) (hb:∀ c,c<U→b c<2 ^ 62) (t:Nat):exec (bJ n 63 51) (part Tryd.f63 [1,1,1,0,0,0]) (pn (shV O U Z V J W (bI b)) (mk (bP U b t) U:Nat)) (ao::H) =
 some (if mk (bP U b t) U=0 then (.exit 0,pn (shV O U Z V J W (bI b)) (mk (bP U b t) U:Nat)++[(15,.bool false)],ao::H) else if mk (pZ U b t) U=0 then (.ret,[(2,.bool true)],ao::H) else (.normal,pn (shV O U Z V J W (bI b)) (mk (bP U b (t+1)) U:Nat),ao::H)):=by
 obtain ⟨z,e,hz⟩:=QU (tD (bP U b t) hl) (tD (pZ U b t) hl)
 have hz2:z=mk (bP U b (t+1)) U:=by
  apply Nat.eq_of_testBit_eq;intro i;rw[hz,iH,iH,iH];unfold pZ;by_cases hi:i<U
  · rw[decide_eq_true hi];cases e1:bP U b (t+1) i with
    | true=>rw[xA e1];rfl
    | false=>cases bP U b t i<;>rfl
  · rw[decide_eq_false hi];rfl
 rw[hz2] at e
 have T:=Yl n O U Z V J W (bI b) H (mk (bP U b t) U:Nat) (mk (pZ U b t) U:Nat)
 rw[e] at T
 obtain ⟨x,h1,rfl⟩:=aA (Q:=fun x=>x=(if mk (bP U b t) U=0 then (.exit 0,pn (shV O U Z V J W (bI b)) (mk (bP U b t) U:Nat)++[(15,.bool false)],ao::H) else if mk (pZ U b t) U=0 then (.ret,[(2,.bool true)],ao::H) else (.normal,pn (shV O U Z V J W (bI b)) (mk (bP U b (t+1)) U:Nat),ao::H))) T (aw n) (aU (ah _ _) Q1 (fun x h=>by rw[← Tr.af h];simp only[ev.st,aN];exact XR n O U Z V J W b H hl hb t)) (aj _ _) (by
  refine Tr.ae (fun q=>?_) (fun q=>?_)
  · rw[av,aQ] at q;have q:¬ mk (bP U b t) U=0:=fun h=>by rw[h] at q;exact absurd q (by decide)
    rw[if_neg q];refine Tr.ak ⟨rfl,rfl⟩ (Tr.ae (fun r=>?_) (fun r=>?_))
    · rw[aQ,beq_iff_eq] at r;rw[if_pos (by have:((mk (pZ U b t) U:Nat):Int)=0:=r;omega)];exact Tr.ag rfl
    · rw[aQ,beq_eq_false_iff_ne] at r;rw[if_neg (fun h=>r (by rw[h];rfl))];exact Tr.ag rfl
  · rw[av,aQ] at q;have q:mk (bP U b t) U=0:=by
     have q:(((mk (bP U b t) U:Nat):Int) == 0)=true:=by simpa using q
     rw[beq_iff_eq] at q;omega
    rw[if_pos q];exact Tr.ag rfl)
 exact h1
theorem V3 (hl:U≤10) (hb:∀ c,c<U→b c<2 ^ 62):cd (n+2) (.fn 63) [shV O U Z V J W (bI b)] H=some (.bool (ma U b),H):=by
 have e0:bL .u64 (eC .u64 (ofNat 1) (ofNat U)) (ofNat 1)=((mk (bP U b 0) U:Nat):Int):=by
  have h1:=Nat.two_pow_pos U;have h2:2 ^ U≤2 ^ 10:=Nat.pow_le_pow_right (by decide) hl;have h3:mk (bP U b 0) U=2 ^ U-1:=MO U;rw[Q.B9 wO,eJ,h3];show IntKind.u64.wrap (((2 ^ U:Nat):Int)-1)=_;rw[show ((2 ^ U:Nat):Int)-1=((2 ^ U-1:Nat):Int) by omega];exact Q.jT wO
 obtain ⟨T,hT,hgo,hend⟩:=LX (n:=U) (b:=b);have hrd:∀ t,t<T→∃ x,exec (bJ (n+1) 63 51) (part Tryd.f63 [1,1,1,0,0,0]) (pn (shV O U Z V J W (bI b)) (mk (bP U b t) U:Nat)) (ao::H)=some x∧(x.1=.normal∧tidy 0 x.2.1 x.2.2=(pn (shV O U Z V J W (bI b)) (mk (bP U b (t+1)) U:Nat),ao::H)):=fun t ht=>by
  obtain ⟨⟨c,hc⟩,d,d1,d2⟩:=hgo t ht;have r:=Vy (n+1) O U Z V J W b H hl hb t;rw[if_neg (fun h=>by have:=mk_zero.1 h c (nS hc);rw[hc] at this;cases this),if_neg (fun h=>by have:=mk_zero.1 h d (nS d1);unfold pZ at this;rw[d1,d2] at this;cases this)] at r;exact ⟨_,r,rfl,rfl⟩
 have hB:∃ e x,(e=ma U b)∧exec (bJ (n+1) 63 51) (.block 0 (.loop (part Tryd.f63 [1,1,1,0,0,0]))) (pn (shV O U Z V J W (bI b)) (mk (bP U b 0) U:Nat)) (ao::H)=some (cond e (.ret,[(2,.bool true)],ao::H) (.normal,pn (shV O U Z V J W (bI b)) x++[(15,.bool false)],ao::H)):=by
  have rT:=Vy (n+1) O U Z V J W b H hl hb T;rcases hend with ⟨h1,h2⟩ | ⟨⟨c,hc⟩,h1,h2⟩
  · rw[if_pos (mk_zero.2 fun c _=>h1 c)] at rT;exact ⟨false,(mk (bP U b T) U:Nat),h2.symm,jh (n:=n+1) (f:=63) (nt:=51) 0 (fun t=>pn (shV O U Z V J W (bI b)) (mk (bP U b t) U:Nat)) (fun _=>ao::H) T (_,_) wO hrd rT⟩
  · rw[if_neg (fun h=>by have:=mk_zero.1 h c (nS hc);rw[hc] at this;cases this),if_pos (mk_zero.2 fun d _=>by
     unfold pZ;cases e:bP U b T d with
     | false=>rfl
     | true=>rw[h1 d e];rfl)] at rT
    exact ⟨true,0,h2.symm,Tv (n:=n+1) (f:=63) (nt:=51) 0 (fun t=>pn (shV O U Z V J W (bI b)) (mk (bP U b t) U:Nat)) (fun _=>ao::H) T (_,_) wO hrd rT⟩
 obtain ⟨e,x,he,hx⟩:=hB;have Y9:=YE n O U Z V J W (bI b) H e x;rw[e0] at Y9;refine pj (n:=n+1) Tryd.func63 rfl (fun _ _=>rfl) rfl Y9 (dT n 1) (aU (ah _ _) VJ (fun y h=>cK h hx)) (aj _ _) ?_;refine Tr.ae (fun q=>Tr.ag ⟨?_,rfl⟩) (fun q=>Tr.ab ?_ (Tr.ak ⟨rfl,rfl⟩ (Tr.ae (fun r=>Tr.ag ⟨by rw[← he,r],rfl⟩) (fun r=>Tr.ag ⟨by rw[← he,r],rfl⟩))))
 · have q0:∀ c,c<10→b c=0:=fun c hc=>by
    have:=vF q c hc;have:((b c:Nat):Int)=0:=this;omega
   have:ma U b=false:=by
    cases e1:ma U b with
    | false=>rfl
    | true =>
      unfold ma at e1;obtain ⟨c,h1,h2⟩:=List.any_eq_true.1 e1;have hc:=List.mem_range.1 h1;obtain ⟨m,rfl⟩:∃ m,U=m+1:=⟨U-1,by omega⟩
      obtain ⟨_,a,_,a2⟩:=gK.1 h2;rw[q0 c wO] at a2;simp at a2
   rw[this]
 · rw[bk];exact decide_eq_true (by show (0:Int)≤(U:Int);omega)
end
end Go.Eng
end
