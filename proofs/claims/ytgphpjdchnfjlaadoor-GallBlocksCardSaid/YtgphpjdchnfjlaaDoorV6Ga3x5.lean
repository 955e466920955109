/- Gall: CheckList: its loop over the pairs; trees. -/
import Derived.Test.YtgphpjdchnfjlaaDoorV6GaKx6
import Derived.Test.YtgphpjdchnfjlaaDoorV6Gp2x6
import Derived.Test.YtgphpjdchnfjlaaDoorV6EngRoSx4
set_option linter.unusedVariables false
set_option linter.unusedSimpArgs false
set_option maxRecDepth 100000
section
namespace Go.Eng
open Int (ofNat)
open Go.Proofs
noncomputable def gB (e:Bool) (C:List AV→Prop):List AV→Option (Prop×AV):=fun x=>some (C x,.bool e)
noncomputable def Ga (O:Int) (U:Nat) (Z:Nat→Int) (V:Nat) (J:Nat→Int):bJ:=⟨false,[(0,.row (.G [.int .i64 O,slA 4 U Z,slA 2 V J])),(0,.row (.I .i64 [bH .i64 (ofNat U) (ofNat 1)])),(0,.row (.I .i64 [O]))]⟩
noncomputable def MB (m:Nat) (z:Nat→Int) (full:Bool):AV:=.slcT none (.M [.arr .i64 z (bD m 2)]) 2 m full
noncomputable def Nf (a b:Int):AV:=.agg (.I .i64 [a,b])
noncomputable def JV (a b:Int):bJ:=⟨false,[(0,.row (.I .i64 [a,b]))]⟩
noncomputable def D0 (m:Nat) (z:Nat→Int) (full:Bool) (j:Int):aA:=[(0,MB m z full),(3,.ptr 0 0 0 0),(7,.int .i64 (ofNat m)),(8,.int .i64 j)]
noncomputable def A1 (U V:Nat) (J:Nat→Int) (j:Int):aA:=[(1,.ptr 0 0 0 0),(4,.int .i64 (bH .i64 (ofNat U) 1)),(35,slA 2 V J),(36,.int .i64 (ofNat V)),(37,.int .i64 j)]
theorem t22 (n:Nat) (O:Int) (U:Nat) (Z:Nat→Int) (V:Nat) (J:Nat→Int) (H:ab) (j:Int) (e:Bool) (C:List AV→Prop):aH (bO (n+10) 22 69) (il (kZ (ng aJ 61 (gB e C)) 59 gW) (n+10) 0) aS aR (part Tryd.f22 [1,1,1,1,0,1,0,0]) (hints (A1 U V J j)) (Ga O U Z V J::H) =
 (fun (Z0:bJ)=>Tr.ite (bw j (ofNat V)) (Tr.req (b8 j V) (Tr.req (bR (aq 0 j 2) (bD V 2)) (Tr.req (bR (ar (aq 0 j 2) 1) (bD V 2)) (Tr.req (b8 (ofNat 0) 2) (Tr.req (b8 (ofNat 1) 2) (Tr.ite (cK (J (aq 0 j 2)) (J (ar (aq 0 j 2) 1))) (Tr.ok (Ex.ret,[(2,iI 2,some 1)],(bK [(0,cW O U Z V J),(0,an.row (Row.I .i64 [bH .i64 (ofNat U) (ofNat 1)])),(0,an.row (Row.I .i64 [O])),(0,an.row (Row.I .i64 [J (aq 0 j 2),J (ar (aq 0 j 2) 1)])),(0,an.dead)])::H)) (Tr.req (b8 (ofNat 0) 2) (Tr.req (b8 (ofNat 1) 2) (Tr.ite (bU (bL (bL (cU (ofNat 0) (J (aq 0 j 2))) (cU (J (aq 0 j 2)) (bH .i64 (ofNat U) (ofNat 1)))) (bL (bL (cU (ofNat 0) (J (ar (aq 0 j 2) 1))) (cU (J (ar (aq 0 j 2) 1)) (bH .i64 (ofNat U) (ofNat 1)))) true))) (Tr.ok (Ex.ret,[(2,iI 2,some 1)],Z0::H)) (Tr.req (ki j V) (Tr.req (dO (ar (bD 0 2) (bD (cg j) 2)) (bD V 2)) (Tr.reqP (C [AV.slcT none (rM J (bD (cg j) 2)) 2 (cg j) (bL false (cu (cg j) V)),AV.agg (Row.I .i64 [J (aq 0 j 2),J (ar (aq 0 j 2) 1)])]) (Tr.ite e (Tr.ok (Ex.ret,[(2,iI 2,some 1)],Z0::H)) (Tr.ok (Ex.normal,[(1,AV.ptr 0 0 0 0,none),(4,AV.int .i64 (bH .i64 (ofNat U) (ofNat 1)),none),(35,slA 2 V J,none),(36,iI V,none),(37,AV.int .i64 (aQ .i64 j (ofNat 1)),none)],Z0::H))))))))))))))) (Tr.ok (Ex.exit 1,[(1,AV.ptr 0 0 0 0,none),(4,AV.int .i64 (bH .i64 (ofNat U) (ofNat 1)),none),(35,slA 2 V J,none),(36,iI V,none),(37,AV.int .i64 j,none),(38,AV.bool false,some 1)],(bK [(0,cW O U Z V J),(0,an.row (Row.I .i64 [bH .i64 (ofNat U) (ofNat 1)])),(0,an.row (Row.I .i64 [O]))])::H))) (bK [(0,cW O U Z V J),(0,an.row (Row.I .i64 [bH .i64 (ofNat U) (ofNat 1)])),(0,an.row (Row.I .i64 [O])),(0,an.row (Row.I .i64 [J (aq 0 j 2),J (ar (aq 0 j 2) 1)])),(0,an.row (Row.I .i64 [J (aq 0 j 2),J (ar (aq 0 j 2) 1)]))]):=by kernel_rfl
theorem W8 (n:Nat) (O:Int) (U:Nat) (Z:Nat→Int) (V:Nat) (J:Nat→Int) (H:ab) (lvR:bJ) (e1 e2 e3:Bool) (C1 C2 C3:List AV→Prop) (S:AV):bu Tryd.prog (cd (n+10)) 100000 22 Tryd.f22 (KtG.kt 22) (il (ng (ng (kZ (ng aJ 60 (gB e1 C1)) 59 gW) 62 (fun x=>some (C2 x,S))) 63 (gB e2 C3)) (n+10) 0) (cw aS 1 (A1 U V J (ofNat 0)) (Ga O U Z V J::H) (.ite e3 (.ok (.ret,[(2,.int .i64 2,none)],lvR::H)) (.ok (.normal,hints (A1 U V J (ofNat V)++[(38,.bool false)]),Ga O U Z V J::H)))) aR [(bk O U Z V J,none)] H =
 (fun (Z0:bJ)=>((fun (Z1:aA)=>Tr.ite (bU (bL (bL (cU (ofNat 0) (bH .i64 (ofNat U) (ofNat 1))) (cU (bH .i64 (ofNat U) (ofNat 1)) (ofNat 9))) true)) (Tr.ok ((iI 6,some 1),H)) (Tr.ite (bw (ofNat 40) (ofNat V)) (Tr.ok ((iI 6,some 1),H)) (Tr.ite (bU (bL (bL (cU (ofNat 1) O) (cU O (ofNat 100))) true)) (Tr.ok ((iI 3,some 1),H)) (Tr.reqP (C1 [slA 4 U Z,AV.fn (Fn.func 58) [] []]) (Tr.ite e1 (Tr.ok ((iI 3,some 1),H)) (Tr.reqP (Z1=Z1∧Z0::H=Z0::H) (Tr.ite e3 (Tr.ok ((iI 2,none),H)) (Tr.reqP (C2 [bk O U Z V J]) (Tr.reqP (C3 [S]) (Tr.ite e2 (Tr.ok ((iI 16,some 1),H)) (Tr.ok ((iI 0,some 1),H)))))))))))) [(1,AV.ptr 0 0 0 0),(4,AV.int .i64 (bH .i64 (ofNat U) (ofNat 1))),(35,slA 2 V J),(36,iI V),(37,iI 0)])) (bK [(0,cW O U Z V J),(0,an.row (Row.I .i64 [bH .i64 (ofNat U) (ofNat 1)])),(0,an.row (Row.I .i64 [O]))]):=by kernel_rfl
theorem t86 (n:Nat) (m:Nat) (z:Nat→Int) (full:Bool) (a b:Int) (H:ab) (j:Int):aH (bO n 86 19) (il aJ n 0) aS aR (part Tryd.f86 [1,0,1,0,0]) (hints (D0 m z full j)) (JV a b::H) =
 Tr.ite (bw j (ofNat m)) (Tr.req (b8 j m) (Tr.req (bR (aq 0 j 2) (bD m 2)) (Tr.req (bR (ar (aq 0 j 2) 1) (bD m 2)) (Tr.ite (bL (cK a (z (aq 0 j 2))) (cK b (z (ar (aq 0 j 2) 1)))) (Tr.ok (Ex.ret,[(4,AV.int .i64 j,none)],(bK [(0,an.row (Row.I .i64 [a,b]))])::H)) (Tr.ok (Ex.normal,[(0,AV.slcT none (rM z (bD m 2)) 2 m full,none),(3,AV.ptr 0 0 0 0,none),(7,iI m,none),(8,AV.int .i64 (aQ .i64 j (ofNat 1)),none)],(bK [(0,an.row (Row.I .i64 [a,b]))])::H)))))) (Tr.ok (Ex.exit 0,[(0,AV.slcT none (rM z (bD m 2)) 2 m full,none),(3,AV.ptr 0 0 0 0,none),(7,iI m,none),(8,AV.int .i64 j,none),(9,AV.bool false,some 1)],(bK [(0,an.row (Row.I .i64 [a,b]))])::H)):=by kernel_rfl
theorem Xz (n:Nat) (m:Nat) (z:Nat→Int) (full:Bool) (a b:Int) (H:ab) (i:Int) (e:Bool):bu Tryd.prog (cd n) 100000 86 Tryd.f86 (KtG.kt 86) (il aJ n 0) (cw aS 0 (D0 m z full 0) (JV a b::H) (.ite e (.ok (.ret,[(4,.int .i64 i,none)],JV a b::H)) (.ok (.normal,hints (D0 m z full (ofNat m)++[(9,.bool false)]),JV a b::H)))) aR [(MB m z full,none),(Nf a b,none)] H =
 (fun (Z0:aA)=>Tr.reqP (Z0=Z0∧(bK [(0,an.row (Row.I .i64 [a,b]))])::H=(bK [(0,an.row (Row.I .i64 [a,b]))])::H) (Tr.ite e (Tr.ok ((AV.int .i64 i,none),H)) (Tr.ok ((AV.int .i64 (Int.negSucc 0),some 1),H)))) [(0,AV.slcT none (rM z (bD m 2)) 2 m full),(3,AV.ptr 0 0 0 0),(7,iI m),(8,iI 0)]:=by kernel_rfl
theorem Xm (n:Nat) (m:Nat) (z:Nat→Int) (full:Bool) (a b:Int) (H:ab) (i:Int):bu Tryd.prog (cd n) 100000 61 Tryd.f61 (KtG.kt 61) (il (tX aJ 86 [MB m z full,Nf a b] (.int .i64 i)) n 0) aS aR [(MB m z full,none),(Nf a b,none)] H =
 Tr.reqP ([AV.slcT none (rM z (bD m 2)) 2 m full,AV.agg (Row.I .i64 [a,b])]=[AV.slcT none (rM z (bD m 2)) 2 m full,AV.agg (Row.I .i64 [a,b])]) (Tr.ok ((AV.bool (cU (ofNat 0) i),none),H)):=by kernel_rfl
end Go.Eng
end
section
namespace Go.Eng
open Int (ofNat)
open Go.Proofs
noncomputable def xE (O:Int) (U:Nat) (Z:Nat→Int) (V:Nat) (J:Nat→Int) (W B:Nat→Int):bJ:=⟨false,[(0,.row (.G [.int .i64 O,slA 4 U Z,slA 2 V J])),(0,.row (shR O U Z V J W B))]⟩
noncomputable def wq (U:Nat) (Z:Nat→Int) (j:Int):aA:=[(1,.ptr 0 0 0 0),(3,.ptr 0 1 0 0),(12,slA 4 U Z),(13,.int .i64 (ofNat U)),(14,.int .i64 j)]
noncomputable def wv (V:Nat) (J:Nat→Int) (j:Int):aA:=[(3,.ptr 0 1 0 0),(56,slA 2 V J),(57,.int .i64 (ofNat V)),(58,.int .i64 j)]
theorem t62 (n:Nat) (O:Int) (U:Nat) (Z:Nat→Int) (V:Nat) (J:Nat→Int) (W B:Nat→Int) (H:ab) (j:Int):aH (bO (n+1) 62 78) (il aJ n 1) aS aR (part Tryd.f62 [1,1,0,1,0,0]) (hints (wq U Z j)) (xE O U Z V J W B::H) =
 Tr.ite (bw j (ofNat U)) (Tr.req (b8 j U) (Tr.req (bR (aq 0 j 4) (bD U 4)) (Tr.req (bR (ar (aq 0 j 4) 1) (bD U 4)) (Tr.req (bR (ar (aq 0 j 4) 2) (bD U 4)) (Tr.req (bR (ar (aq 0 j 4) 3) (bD U 4)) (Tr.req (bU (cK O (ofNat 0))) (Tr.req (bU (cK O (ofNat 0))) (Tr.req (bU (cK O (ofNat 0))) (Tr.req (bU (cK O (ofNat 0))) (Tr.req (bU (cK O (ofNat 0))) (Tr.req (bU (cK O (ofNat 0))) (Tr.req (b8 j 10) (Tr.req (cu 0 0) (Tr.req (fF (aq 3 j 2) 1 3 20) (Tr.req (fF (ar (aq 3 j 2) 1) 1 3 20) (Tr.req (bL (dO 0 0) (dO 0 1)) (Tr.ok (Ex.normal,[(1,AV.ptr 0 0 0 0,none),(3,AV.ptr 0 1 0 0,none),(12,slA 4 U Z,none),(13,iI U,none),(14,AV.int .i64 (aQ .i64 j (ofNat 1)),none)],(bK [(0,cW O U Z V J),(0,an.row (shR O U Z V J (ft (ft W (jh (aq 3 j 2) 3) (nb (ofNat 0) (Bq IntKind.i64 (ra IntKind.i64 (bH .i64 (bH .i64 (Z (ar (aq 0 j 4) 3)) (Z (ar (aq 0 j 4) 1))) (rb IntKind.i64 (aQ .i64 (rb IntKind.i64 (bH .i64 (Z (ar (aq 0 j 4) 3)) (Z (ar (aq 0 j 4) 1))) O) O) O)) O)))) (jh (ar (aq 3 j 2) 1) 3) (qY (bH .i64 (ofNat U) (ofNat 1)) (ra IntKind.i64 (bH .i64 (bH .i64 (Z (aq 0 j 4)) (Z (ar (aq 0 j 4) 2))) (rb IntKind.i64 (aQ .i64 (rb IntKind.i64 (bH .i64 (Z (aq 0 j 4)) (Z (ar (aq 0 j 4) 2))) O) O) O)) O))) B)),(0,an.row (Row.I .i64 [Z (aq 0 j 4),Z (ar (aq 0 j 4) 1),Z (ar (aq 0 j 4) 2),Z (ar (aq 0 j 4) 3)]))])::H)))))))))))))))))) (Tr.ok (Ex.exit 0,[(1,AV.ptr 0 0 0 0,none),(3,AV.ptr 0 1 0 0,none),(12,slA 4 U Z,none),(13,iI U,none),(14,AV.int .i64 j,none),(15,AV.bool false,some 1)],(bK [(0,cW O U Z V J),(0,an.row (shR O U Z V J W B))])::H)):=by kernel_rfl
theorem Ul (n:Nat) (O:Int) (U:Nat) (Z:Nat→Int) (V:Nat) (J:Nat→Int) (W B:Nat→Int) (H:ab) (j:Int):aH (bO (n+1) 62 78) (il aJ n 1) aS aR (part Tryd.f62 [1,1,1,1,0,1,0,0]) (hints (wv V J j)) (xE O U Z V J W B::H) =
 Tr.ite (bw j (ofNat V)) (Tr.req (b8 j V) (Tr.req (bR (aq 0 j 2) (bD V 2)) (Tr.req (bR (ar (aq 0 j 2) 1) (bD V 2)) (Tr.req (b8 (ofNat 1) 2) (Tr.req (b8 (J (ar (aq 0 j 2) 1)) 10) (Tr.req (cu 0 0) (Tr.req (fF (aq 23 (J (ar (aq 0 j 2) 1)) 1) 1 23 10) (Tr.req (b8 (ofNat 0) 2) (Tr.req (cU (ofNat 0) (J (aq 0 j 2))) (Tr.req (b8 (J (ar (aq 0 j 2) 1)) 10) (Tr.req (cu 0 0) (Tr.req (fF (aq 23 (J (ar (aq 0 j 2) 1)) 1) 1 23 10) (Tr.req (bL (dO 0 0) (dO 0 1)) (Tr.ok (Ex.normal,[(3,AV.ptr 0 1 0 0,none),(56,slA 2 V J,none),(57,iI V,none),(58,AV.int .i64 (aQ .i64 j (ofNat 1)),none)],(bK [(0,cW O U Z V J),(0,an.row (shR O U Z V J W (ft B (jh (aq 23 (J (ar (aq 0 j 2) 1)) 1) 23) (xD IntKind.u64 (B (jh (aq 23 (J (ar (aq 0 j 2) 1)) 1) 23)) (dc IntKind.u64 (ofNat 1) (J (aq 0 j 2))))))),(0,an.row (Row.I .i64 [J (aq 0 j 2),J (ar (aq 0 j 2) 1)]))])::H))))))))))))))) (Tr.ok (Ex.exit 2,[(3,AV.ptr 0 1 0 0,none),(56,slA 2 V J,none),(57,iI V,none),(58,AV.int .i64 j,none),(59,AV.bool false,some 1)],(bK [(0,cW O U Z V J),(0,an.row (shR O U Z V J W B))])::H)):=by kernel_rfl
theorem Xn (n:Nat) (O:Int) (U:Nat) (Z:Nat→Int) (V:Nat) (J:Nat→Int) (W B B':Nat→Int) (H:ab):bu Tryd.prog (cd (n+6)) 100000 62 Tryd.f62 (KtG.kt 62) (il aJ (n+6) 0) (cw (cw aS 0 (wq U Z (ofNat 0)) (xE O U Z V J (fun _=>ofNat 0) (fun _=>ofNat 0)::H) (.ok (.normal,hints (wq U Z (ofNat U)++[(15,.bool false)]),xE O U Z V J W (fun _=>ofNat 0)::H))) 2 (wv V J (ofNat 0)) (xE O U Z V J W B::H) (.ok (.normal,hints (wv V J (ofNat V)++[(59,.bool false)]),xE O U Z V J W B'::H))) aR [(bk O U Z V J,none)] H =
 (fun (Z0:bJ)=>((fun (Z1:aA)=>Tr.reqP (Z1=Z1∧Z0::H=Z0::H) (Tr.req (bR 0 10) (Tr.req (cu 0 0) (Tr.reqP ([(3,AV.ptr 0 1 0 0),(56,slA 2 V J),(57,iI V),(58,iI 0)]=[(3,AV.ptr 0 1 0 0),(56,slA 2 V J),(57,iI V),(58,iI 0)]∧(bK [(0,cW O U Z V J),(0,an.row (shR O U Z V J W (fun x=>ofNat 0)))])::H=(bK [(0,cW O U Z V J),(0,an.row (shR O U Z V J W B))])::H) (Tr.ok ((AV.ptrT (some 0) (shR O U Z V J W B') 0,none),H)))))) [(1,AV.ptr 0 0 0 0),(3,AV.ptr 0 1 0 0),(12,slA 4 U Z),(13,iI U),(14,iI 0)])) (bK [(0,cW O U Z V J),(0,an.row (shR O U Z V J (fun x=>ofNat 0) (fun x=>ofNat 0)))]):=by kernel_rfl
end Go.Eng
end
section
namespace Go.Eng
open Int (ofNat)
open Go.Proofs
theorem H7 {a b:Int} (hb:0<b):(a.tmod b+b).tmod b=a % b:=by
 have h0:-b<a.tmod b:=by
  by_cases h:0≤a
  · have:=Int.tmod_nonneg b h;omega
  · have e:a.tmod b=-((-a).tmod b):=by rw[Int.neg_tmod];omega
    have:=Int.tmod_lt_of_pos (-a) hb;omega
 rw[Int.tmod_eq_emod_of_nonneg wO,Int.add_emod_right];have e:a.tmod b=a-b*(a.tdiv b):=by have:=Int.mul_tdiv_add_tmod a b;omega
 rw[e,Int.sub_mul_emod_self_left]
theorem JJ {a b:Int} (hb:1≤b) (hb2:b≤1000) (h1:-1000000≤a) (h2:a≤1000000):ra .i64 (bH .i64 a (rb .i64 (aQ .i64 (rb .i64 a b) b) b)) b=a / b:=by
 have hm0:-b<a.tmod b∧a.tmod b<b:=by
  constructor
  · by_cases h:0≤a
    · have:=Int.tmod_nonneg b h;omega
    · have e:a.tmod b=-((-a).tmod b):=by rw[Int.neg_tmod];omega
      have:=Int.tmod_lt_of_pos (-a) (show 0<b by omega);omega
  · exact Int.tmod_lt_of_pos a wO
 have e1:aQ .i64 (rb .i64 a b) b=a.tmod b+b:=by rw[fG,rH,fW wO wO]
 rw[rG,e1,rH,H7 wO,eA];have h3:=Int.emod_nonneg a (show b≠0 by omega);have h4:=Int.emod_lt_of_pos a (show 0<b by omega);have e3:IntKind.i64.wrap (a-a % b)=a-a % b:=fW wO wO;rw[e3];have e:a-a % b=b*(a / b):=by have:=Int.mul_ediv_add_emod a b;omega
 have e2:(b*(a / b)).tdiv b=a / b:=Int.mul_tdiv_cancel_left _ wO;rw[e,e2];have h5:a / b≤1000000:=Int.le_trans (Int.ediv_le_ediv wO h2) (Int.ediv_le_self b (by decide));have h6:-2000001≤a / b:=by
  have h7:=Int.mul_ediv_add_emod a b;apply Classical.byContradiction;intro hc;have h8:b*(a / b)≤1*(a / b):=Int.mul_le_mul_of_nonpos_right hb wO;omega
 exact fW wO wO
def cj (O:Int) (U:Nat) (Z:Nat→Int) (i:Nat):Int:=if i<2*U then (if i % 2=0 then max 0 (-((Z (i / 2*4+3)-Z (i / 2*4+1)) / O)) else min ((U:Int)-1) ((Z (i / 2*4)-Z (i / 2*4+2)) / O)) else 0
def ub (O:Int) (U:Nat) (Z:Nat→Int) (j i:Nat):Int:=if i<2*j then cj O U Z i else 0
theorem KV (O:Int) (U:Nat) (Z:Nat→Int):ub O U Z 0=fun _=>ofNat 0:=by funext i;unfold ub;rw[if_neg wO];rfl
theorem DD (O:Int) (U:Nat) (Z:Nat→Int):ub O U Z U=cj O U Z:=by
 funext i;unfold ub;by_cases h:i<2*U
 · rw[if_pos h]
 · rw[if_neg h];unfold cj;rw[if_neg h]
theorem Jt {O:Int} {U:Nat} {Z:Nat→Int} {j:Nat} {v0 v1:Int} (h0:v0=cj O U Z (2*j)) (h1:v1=cj O U Z (2*j+1)):ft (ft (ub O U Z j) (2*j) v0) (2*j+1) v1=ub O U Z (j+1):=by
 rw[jB,jB];funext i;unfold ub;by_cases e:i=2*j+1
 · rw[if_pos e,if_pos wO,e,h1]
 · rw[if_neg e];show (if i=2*j then v0 else if i<2*j then cj O U Z i else 0)=_;by_cases e2:i=2*j
   · rw[if_pos e2,if_pos wO,e2,h0]
   · rw[if_neg e2];by_cases e3:i<2*j
     · rw[if_pos e3,if_pos wO]
     · rw[if_neg e3,if_neg wO]
def cZ (J:Nat→Int) (c:Nat):Nat→Nat
 | 0=>0
 | j+1=>if J (j*2+1)=(c:Int) then cZ J c j ||| 2 ^ (J (j*2)).toNat else cZ J c j
def mZ (V:Nat) (J:Nat→Int) (c:Nat):Int:=(cZ J c V:Int)
theorem jj (J:Nat→Int) (c a:Nat):∀ j,(∀ i,i<j→0≤J (i*2))→((cZ J c j).testBit a=true↔∃ i,i<j∧J (i*2)=(a:Int)∧J (i*2+1)=(c:Int))
 | 0,_=>by
   constructor
   · intro h;simp[cZ] at h
   · rintro ⟨i,h,_⟩;omega
 | j + 1,h0=>by
   have ih:=jj J c a j (fun i hi=>h0 i wO);have hj:=h0 j wO;unfold cZ;split
   · rename_i hc;rw[Nat.testBit_or,Bool.or_eq_true,ih,Nat.testBit_two_pow,decide_eq_true_iff];constructor
     · rintro (⟨i,a1,a2⟩ | h)
       · exact ⟨i,by omega,a2⟩
       · exact ⟨j,by omega,by omega,hc⟩
     · rintro ⟨i,a1,a2,a3⟩;by_cases e:i=j
       · subst e;exact .inr wO
       · exact .inl ⟨i,by omega,a2,a3⟩
   · rename_i hc;rw[ih];constructor
     · rintro ⟨i,a1,a2⟩;exact ⟨i,by omega,a2⟩
     · rintro ⟨i,a1,a2,a3⟩;refine ⟨i,?_,a2,a3⟩;by_cases e:i=j
       · subst e;exact absurd a3 hc
       · omega
theorem v7 (J:Nat→Int) (c n:Nat):∀ j,(∀ i,i<j→0≤J (i*2)∧J (i*2)<n)→cZ J c j<2 ^ n:=fun j h=>by
 apply Nat.lt_pow_two_of_testBit;intro i hi;cases hb:(cZ J c j).testBit i with
 | false=>rfl
 | true =>
   obtain ⟨k,k1,k2,k3⟩:=(jj J c i j (fun i hi=>(h i hi).1)).1 hb;have:=h k k1;omega
def mY (U:Nat) (Z:Nat→Int):Prop:=∀ j,j<U→jg Z j=false
def fv (U V:Nat) (J:Nat→Int):Prop:=∀ j,j<V→(0≤J (j*2)∧J (j*2)<U)∧0≤J (j*2+1)∧J (j*2+1)<U
theorem He {U:Nat} {Z:Nat→Int} (h:mY U Z) {j:Nat} (hj:j<U):0≤Z (j*4)∧Z (j*4)≤Z (j*4+1)∧Z (j*4+1)≤1000∧0≤Z (j*4+2)∧Z (j*4+2)≤Z (j*4+3)∧Z (j*4+3)≤1000:=by
 have:=h j hj;unfold jg at this;simp at this;omega
theorem Us:∀ b,(0,b) ∈ aE (bx Tryd.f62)→b=.loop (part Tryd.f62 [1,1,0,1,0,0]):=dK (by kernel_rfl)
theorem P4:∀ b,(2,b) ∈ aE (bx Tryd.f62)→b=.loop (part Tryd.f62 [1,1,1,1,0,1,0,0]):=dK (by kernel_rfl)
theorem Sr {x y:Nat} (hx:x<2 ^ 63) (hy:y<2 ^ 63):xD .u64 (x:Int) (y:Int)=((x ||| y:Nat):Int):=by
 rw[tm];show IntKind.u64.wrap ((BitVec.ofInt 64 (x:Int) ||| BitVec.ofInt 64 (y:Int)).toNat:Nat)=_;have h1:x ||| y<2 ^ 63:=Nat.or_lt_two_pow hx hy;have bv:∀ x:Nat,BitVec.ofInt 64 (x:Int)=BitVec.ofNat 64 x:=fun x=>by apply BitVec.eq_of_toInt_eq;simp
 rw[bv,bv,BitVec.toNat_or,BitVec.toNat_ofNat,BitVec.toNat_ofNat,Nat.mod_eq_of_lt wO,Nat.mod_eq_of_lt wO];exact Go.IntWalk.u64_in _ wO
theorem Ev {i:Nat} (hi:i<62):dc .u64 (ofNat 1) (i:Int)=((2 ^ i:Nat):Int):=by
 rw[rJ];show IntKind.u64.wrap (1*2 ^ min i 64)=_;have:(2:Nat) ^ i≤2 ^ 62:=Nat.pow_le_pow_right (by decide) wO;rw[Nat.min_eq_left wO,Int.one_mul,show (2:Int) ^ i=((2 ^ i:Nat):Int) from by rw[Int.natCast_pow];rfl];generalize (2:Nat) ^ i=P at *;exact Go.IntWalk.u64_in _ wO
section
variable (n:Nat) (O:Int) (U:Nat) (Z:Nat→Int) (V:Nat) (J:Nat→Int) (H:ab)
theorem Wx (hl:U≤10) (hd:1≤O∧O≤100) (hv:mY U Z) (B:Nat→Int):exec (bO (n+6) 62 78) (.block 0 (.loop (part Tryd.f62 [1,1,0,1,0,0]))) (wq U Z (ofNat 0)) (xE O U Z V J (ub O U Z 0) B::H)=some (.normal,wq U Z (ofNat U)++[(15,.bool false)],xE O U Z V J (ub O U Z U) B::H):=by
 refine fZ (n:=n+6) (f:=62) (nt:=78) (c:=part Tryd.f62 [1,1,0,1,0,0]) 0 (fun j=>wq U Z (j:Int)) (fun j=>xE O U Z V J (ub O U Z j) B::H) U (_,_) wO (fun j hj=>?_) ?_
 · obtain ⟨v1,v2,v3,v4,v5,v6⟩:=He hv hj;have ej:aQ .i64 (j:Int) (ofNat 1)=((j+1:Nat):Int):=eg wO;have ei:aq 0 (j:Int) 4=j*4:=by rw[bP];omega
   have es:jh (aq 3 (j:Int) 2) 3=2*j:=by rw[bP,gx];omega
   have es1:jh (ar (aq 3 (j:Int) 2) 1) 3=2*j+1:=by rw[bP,aC,gx];omega
   have T:=t62 (n+5) O U Z V J (ub O U Z j) B H (j:Int);rw[ei,aC (j*4),aC (j*4),aC (j*4),ej,es,es1] at T;have s1:bH .i64 (Z (j*4+3)) (Z (j*4+1))=Z (j*4+3)-Z (j*4+1):=by rw[eA];exact fW wO wO
   have s2:bH .i64 (Z (j*4)) (Z (j*4+2))=Z (j*4)-Z (j*4+2):=by rw[eA];exact fW wO wO
   have s3:bH .i64 (ofNat U) (ofNat 1)=(U:Int)-1:=by rw[eA];exact fW (by show -9223372036854775808≤(U:Int)-1;omega) (by show (U:Int)-1≤_;omega)
   rw[s1,s2,s3,JJ hd.1 wO wO wO,JJ hd.1 wO wO wO] at T;have q1:-1000001≤(Z (j*4+3)-Z (j*4+1)) / O∧(Z (j*4+3)-Z (j*4+1)) / O≤1000:=by
    constructor
    · have h7:=Int.mul_ediv_add_emod (Z (j*4+3)-Z (j*4+1)) O;have h4:=Int.emod_lt_of_pos (Z (j*4+3)-Z (j*4+1)) (show 0<O by omega);apply Classical.byContradiction;intro hc;have h8:O*((Z (j*4+3)-Z (j*4+1)) / O)≤1*((Z (j*4+3)-Z (j*4+1)) / O):=Int.mul_le_mul_of_nonpos_right hd.1 wO;omega
    · exact Int.le_trans (Int.ediv_le_ediv wO (by omega:Z (j*4+3)-Z (j*4+1)≤1000)) (Int.ediv_le_self O (by decide))
   have n1:Bq .i64 ((Z (j*4+3)-Z (j*4+1)) / O)=-((Z (j*4+3)-Z (j*4+1)) / O):=by rw[wQ,fW wO wO];omega
   rw[n1,Jt (U:=U) (Z:=Z) (O:=O) (j:=j) (by
    unfold cj;rw[if_pos wO,if_pos wO,mM,show 2*j / 2=j by omega];show (if _ > (0:Int) then _ else (0:Int))=_;omega) (by
    unfold cj;rw[if_pos wO,if_neg wO,mN,show (2*j+1) / 2=j by omega];omega)] at T
   refine av T (gI (n+5) 1) (aj _ _) (ai _ _) ?_;have hdn:bU (cK O (ofNat 0))=true:=by rw[aO,bf];show (!(O == 0))=true;simp;omega
   refine Tr.ae (fun h0=>?_) wJ;refine Tr.aa wG (Tr.aa wG (Tr.aa wG (Tr.aa wG (Tr.aa wG (Tr.aa hdn (Tr.aa hdn (Tr.aa hdn (Tr.aa hdn (Tr.aa hdn (Tr.aa hdn (Tr.aa wG (Tr.aa wG (Tr.aa wG (Tr.aa wG (Tr.aa wG ?_)))))))))))))));exact Tr.ag ⟨rfl,rfl⟩
 · obtain ⟨x,h1,rfl⟩:=av (Q:=fun x=>x=(.exit 0,wq U Z (ofNat U)++[(15,.bool false)],xE O U Z V J (ub O U Z U) B::H)) (t62 (n+5) O U Z V J (ub O U Z U) B H (ofNat U)) (gI (n+5) 1) (aj _ _) (ai _ _) (by
    refine Tr.ae wJ (fun h0=>Tr.ag rfl))
   exact h1
theorem Nx (J:Nat→Int):mZ 0 J=fun _=>ofNat 0:=rfl
theorem EY {J:Nat→Int} {j:Nat} (h1:0≤J (j*2+1)) (h2:0≤J (j*2)) (h3:J (j*2)<60) (hs:∀ i,i<j→0≤J (i*2)∧J (i*2)<(60:Nat)):ft (mZ j J) (J (j*2+1)).toNat (xD .u64 (mZ j J (J (j*2+1)).toNat) (dc .u64 (ofNat 1) (J (j*2))))=mZ (j+1) J:=by
 have hlt:=v7 J (J (j*2+1)).toNat 60 j hs;have e1:dc .u64 (ofNat 1) (J (j*2))=((2 ^ (J (j*2)).toNat:Nat):Int):=by
  have:=Ev (i:=(J (j*2)).toNat) wO;rw[Int.toNat_of_nonneg h2] at this;exact this
 have hp:(2:Nat) ^ (J (j*2)).toNat<2 ^ 62:=Nat.pow_lt_pow_right (by decide) wO;rw[e1];unfold mZ;rw[Sr (Nat.lt_of_lt_of_le hlt (Nat.pow_le_pow_right (by decide) (by decide))) (Nat.lt_of_lt_of_le hp (Nat.pow_le_pow_right (by decide) (by decide))),jB];funext c;show (if c=(J (j*2+1)).toNat then _ else (cZ J c j:Int))=((cZ J c (j+1):Nat):Int);have e2:cZ J c (j+1)=if J (j*2+1)=(c:Int) then cZ J c j ||| 2 ^ (J (j*2)).toNat else cZ J c j:=rfl
 rw[e2];by_cases e:c=(J (j*2+1)).toNat
 · rw[if_pos e,if_pos wO,e]
 · rw[if_neg e,if_neg wO]
theorem Rf (hl:U≤10) (hb:V≤1000) (hp:fv U V J) (W:Nat→Int):exec (bO (n+6) 62 78) (.block 2 (.loop (part Tryd.f62 [1,1,1,1,0,1,0,0]))) (wv V J (ofNat 0)) (xE O U Z V J W (mZ 0 J)::H)=some (.normal,wv V J (ofNat V)++[(59,.bool false)],xE O U Z V J W (mZ V J)::H):=by
 refine fZ (n:=n+6) (f:=62) (nt:=78) (c:=part Tryd.f62 [1,1,1,1,0,1,0,0]) 2 (fun j=>wv V J (j:Int)) (fun j=>xE O U Z V J W (mZ j J)::H) V (_,_) wO (fun j hj=>?_) ?_
 · obtain ⟨⟨v1,v2⟩,v3,v4⟩:=hp j hj;have ej:aQ .i64 (j:Int) (ofNat 1)=((j+1:Nat):Int):=eg wO;have ei:aq 0 (j:Int) 2=j*2:=by rw[bP];omega
   have es:jh (aq 23 (J (j*2+1)) 1) 23=(J (j*2+1)).toNat:=by rw[bP,gx];omega
   have T:=Ul (n+5) O U Z V J W (mZ j J) H (j:Int);rw[ei,aC (j*2),ej,es,EY v3 v1 wO (fun i hi=>by have:=hp i wO;omega)] at T;refine av T (gI (n+5) 1) (aj _ _) (ai _ _) ?_;refine Tr.ae (fun h0=>?_) wJ;refine Tr.aa wG (Tr.aa wG (Tr.aa wG (Tr.aa wG (Tr.aa wG (Tr.aa wG (Tr.aa wG (Tr.aa wG (Tr.aa wG (Tr.aa wG (Tr.aa wG (Tr.aa wG (Tr.aa wG ?_))))))))))));exact Tr.ag ⟨rfl,rfl⟩
 · obtain ⟨x,h1,rfl⟩:=av (Q:=fun x=>x=(.exit 2,wv V J (ofNat V)++[(59,.bool false)],xE O U Z V J W (mZ V J)::H)) (Ul (n+5) O U Z V J W (mZ V J) H (ofNat V)) (gI (n+5) 1) (aj _ _) (ai _ _) (by
    refine Tr.ae wJ (fun h0=>Tr.ag rfl))
   exact h1
noncomputable def Ng (O:Int) (U:Nat) (Z:Nat→Int) (V:Nat) (J:Nat→Int):AV:=shV O U Z V J (cj O U Z) (mZ V J)
theorem T7 (hl:U≤10) (hb:V≤1000) (hd:1≤O∧O≤100) (hv:mY U Z) (hp:fv U V J):cd (n+7) (.fn 62) [bk O U Z V J] H=some (Ng O U Z V J,H):=by
 refine Ce ?_;have hx:=Wx n O U Z V J H hl hd hv (fun _=>ofNat 0);rw[KV,DD] at hx;have hk:=Rf n O U Z V J H hl hb hp (cj O U Z);rw[Nx] at hk;obtain ⟨y,h1,h2,h3⟩:Tr.all (bu Tryd.prog (cd (n+6)) 100000 62 Tryd.f62 (KtG.kt 62) (il aJ (n+6) 0) (cw (cw aS 0 (wq U Z (ofNat 0)) (xE O U Z V J (fun _=>ofNat 0) (fun _=>ofNat 0)::H) (.ok (.normal,hints (wq U Z (ofNat U)++[(15,.bool false)]),xE O U Z V J (cj O U Z) (fun _=>ofNat 0)::H))) 2 (wv V J (ofNat 0)) (xE O U Z V J (cj O U Z) (fun _=>ofNat 0)::H) (.ok (.normal,hints (wv V J (ofNat V)++[(59,.bool false)]),xE O U Z V J (cj O U Z) (mZ V J)::H))) aR [(bk O U Z V J,none)] H) (fun y=>y.1.1=.ptrT (some 0) (shR O U Z V J (cj O U Z) (mZ V J)) 0∧y.2=H):=by
  rw[Xn n O U Z V J (cj O U Z) (fun _=>ofNat 0) (mZ V J) H];exact Tr.ak ⟨rfl,rfl⟩ (Tr.aa wG (Tr.aa wG (Tr.ak ⟨rfl,rfl⟩ (Tr.ag ⟨rfl,rfl⟩))))
 have:=BA (P:=Tryd.prog) (KT:=KtG.kt) (fu:=100000) (f:=62) (call:=cd (n+6)) (fn:=Tryd.f62) Tryd.func62 rfl (args:=[(bk O U Z V J,none)]) (H:=H) rfl (aw _) (aM (aM (aj _ _) Us (fun x h=>by rw[← Tr.af h];simp only[dY.st,aG];exact hx)) P4 (fun x h=>by rw[← Tr.af h];simp only[dY.st,aG];exact hk)) (ai _ _) h1;rw[h2,h3] at this;have e:ln (cd (n+6)) 62 [bk O U Z V J] H=PW (pj Tryd.prog KtG.kt 100000 62 (cd (n+6)) (mw [(bk O U Z V J,none)]) H):=by
  show (match Gall.uP (cd (n+6)) 62 [bk O U Z V J] H with
   | some x=>some x
   | none=>yT [⟨15,[],.bool true⟩] (cd (n+6)) 62 [bk O U Z V J] H)=_
  have e2:Gall.uP (cd (n+6)) 62 [bk O U Z V J] H=PW (pj Tryd.prog KtG.kt 100000 62 (cd (n+6)) [bk O U Z V J] H):=rfl;rw[e2];rw[this];have e3:pj Tryd.prog KtG.kt 100000 62 (cd (n+6)) [bk O U Z V J] H=_:=this;rw[e3];rfl
 rw[e,this];rfl
end
end Go.Eng
end
section
namespace Go.Eng
open Int (ofNat)
open Go.Proofs
noncomputable def oP (A:AV) (x:Int):aA:=[(0,A),(3,.int .u64 x)]
noncomputable def AZ (A:AV) (U:Nat) (x f c:Int):aA:=[(0,A),(3,.int .u64 x),(4,.int .u64 f),(21,.int .i64 (ofNat U)),(22,.int .i64 c)]
theorem t63 (n:Nat) (O:Int) (U:Nat) (Z:Nat→Int) (V:Nat) (J:Nat→Int) (W B:Nat→Int) (H:ab) (x f c:Int):aH (bO n 63 51) (il aJ n 0) aS aR (part Tryd.f63 [1,1,1,0,0,0,1,0,1,0,1,0,0]) (hints (AZ (shV O U Z V J W B) U x f c)) (aV::H) =
 (fun (Z0:aD)=>Tr.ite (bw c (ofNat U)) (Tr.req (cU (ofNat 0) c) (Tr.ite (bU (cK (lB IntKind.u64 x (dc IntKind.u64 (ofNat 1) c)) (ofNat 0))) (Tr.req (b8 c 10) (Tr.req (fF (aq 23 c 1) 1 23 10) (Tr.ite (cK (lB IntKind.u64 (B (jh (aq 23 c 1) 23)) x) (ofNat 0)) (Tr.req (cU (ofNat 0) c) (Tr.ok (Ex.normal,[(0,shV O U Z V J W B,none),(3,AV.int IntKind.u64 x,none),(4,AV.int IntKind.u64 (xD IntKind.u64 f (dc IntKind.u64 (ofNat 1) c)),none),(21,iI U,none),(22,AV.int .i64 (aQ .i64 c (ofNat 1)),none)],aV::H))) (Tr.ok (Ex.normal,Z0,aV::H))))) (Tr.ok (Ex.normal,Z0,aV::H)))) (Tr.ok (Ex.exit 2,[(0,shV O U Z V J W B,none),(3,AV.int IntKind.u64 x,none),(4,AV.int IntKind.u64 f,none),(21,iI U,none),(22,AV.int .i64 c,none),(23,AV.bool false,some 1)],aV::H))) [(0,shV O U Z V J W B,none),(3,AV.int IntKind.u64 x,none),(4,AV.int IntKind.u64 f,none),(21,iI U,none),(22,AV.int .i64 (aQ .i64 c (ofNat 1)),none)]:=by kernel_rfl
theorem W3 (n:Nat) (O:Int) (U:Nat) (Z:Nat→Int) (V:Nat) (J:Nat→Int) (W B:Nat→Int) (H:ab) (x f:Int):aH (bO n 63 51) (il aJ n 0) (cw aS 2 (AZ (shV O U Z V J W B) U x (ofNat 0) (ofNat 0)) (aV::H) (.ok (.normal,hints (AZ (shV O U Z V J W B) U x f (ofNat U)++[(23,.bool false)]),aV::H))) aR (part Tryd.f63 [1,1,1,0,0,0]) (hints (oP (shV O U Z V J W B) x)) (aV::H) =
 (fun (Z0:aA)=>Tr.ite (bU (cK x (ofNat 0))) (Tr.reqP (Z0=Z0∧aV::H=aV::H) (Tr.ite (cK f (ofNat 0)) (Tr.ok (Ex.ret,[(2,AV.bool true,some 1)],aV::H)) (Tr.ok (Ex.normal,[(0,shV O U Z V J W B,none),(3,AV.int IntKind.u64 (Hw IntKind.u64 x f),none)],aV::H)))) (Tr.ok (Ex.exit 0,[(0,shV O U Z V J W B,none),(3,AV.int IntKind.u64 x,none),(15,AV.bool false,some 1)],aV::H))) [(0,shV O U Z V J W B),(3,AV.int IntKind.u64 x),(4,AV.int IntKind.u64 (ofNat 0)),(21,iI U),(22,iI 0)]:=by kernel_rfl
theorem Xo (n:Nat) (O:Int) (U:Nat) (Z:Nat→Int) (V:Nat) (J:Nat→Int) (W B:Nat→Int) (H:ab) (e:Bool) (x:Int):bu Tryd.prog (cd (n+1)) 100000 63 Tryd.f63 (KtG.kt 63) (il aJ n 1) (cw aS 0 (oP (shV O U Z V J W B) (bH .u64 (dc .u64 (ofNat 1) (ofNat U)) (ofNat 1))) (aV::H) (.ite e (.ok (.ret,[(2,.bool true,none)],aV::H)) (.ok (.normal,hints (oP (shV O U Z V J W B) x++[(15,.bool false)]),aV::H)))) aR [(shV O U Z V J W B,none)] H =
 (fun (Z0:aA)=>Tr.ite (lA B (fun x=>ofNat 0) 10) (Tr.ok ((AV.bool false,some 1),H)) (Tr.req (cU (ofNat 0) (ofNat U)) (Tr.reqP (Z0=Z0∧aV::H=aV::H) (Tr.ite e (Tr.ok ((AV.bool true,none),H)) (Tr.ok ((AV.bool false,some 1),H)))))) [(0,shV O U Z V J W B),(3,AV.int IntKind.u64 (bH IntKind.u64 (dc IntKind.u64 (ofNat 1) (ofNat U)) (ofNat 1)))]:=by kernel_rfl
end Go.Eng
end
section
namespace Go.Eng
open Int (ofNat)
open Go.Proofs Go.Eng.Gall
theorem Sy {n f nt:Nat} {c:Code} (id:Nat) (F:Nat→aA) (G:Nat→ab) (N:Nat) (Y:aA×ab) (hN:N<99999)
 (hs:∀ j,j<N→∃ x,exec (bO n f nt) c (F j) (G j)=some x∧(x.1=.normal∧tidy (aZ (G 0)) x.2.1 x.2.2=(F (j+1),G (j+1))))
 (he:exec (bO n f nt) c (F N) (G N)=some (.ret,Y)):exec (bO n f nt) (.block id (.loop c)) (F 0) (G 0)=some (.ret,Y):=by
 have key:=iB (body:=exec (bO n f nt) c) (n:=aZ (G 0)) F G N (fun _=>false) (fun j=>(.ret,Y))
  (fun j hj hp=>by
    obtain ⟨x,h1,h2,h3⟩:=hs j hj;obtain ⟨e,f1,g1⟩:=x;simp only at h2;subst h2;exact ⟨_,_,h1,h3⟩)
  (fun j hj hp=>by cases hp)
  (by exact ⟨he,by simp⟩) N 0 100000 wO wO
 exact dm (fun id' h=>by cases h) key
theorem TX {x y:Nat} (hx:x<2 ^ 62) (hy:y<2 ^ 62):∃ z:Nat,Hw .u64 (x:Int) (y:Int)=(z:Int)∧∀ i,z.testBit i=(x.testBit i && !y.testBit i):=by
 refine ⟨(BitVec.ofNat 64 x &&& ~~~BitVec.ofNat 64 y).toNat,?_,fun i=>?_⟩
 · rw[rS];show IntKind.u64.wrap ((BitVec.ofInt 64 (x:Int) &&& ~~~BitVec.ofInt 64 (y:Int)).toNat:Nat)=_;rw[Q.HN,Q.HN];exact Q.jA (BitVec.isLt _)
 · rw[BitVec.testBit_toNat,BitVec.getLsbD_and,BitVec.getLsbD_not,BitVec.getLsbD_ofNat,BitVec.getLsbD_ofNat];by_cases hi:i<64
   · simp[hi]
   · have:x.testBit i=false:=Nat.testBit_lt_two_pow (Nat.lt_of_lt_of_le hx (Nat.pow_le_pow_right (by decide) wO));simp[hi,this]
theorem uX (z y:Nat→Int):∀ n,allEq z y n=true↔∀ j,j<n→z j=y j
 | 0=>⟨fun _ j hj=>by omega,fun _=>rfl⟩
 | n + 1=>by
   rw[allEq,Bool.and_eq_true,uX z y n,beq_iff_eq];constructor
   · rintro ⟨h1,h2⟩ j hj;by_cases e:j=n
     · subst e;exact h2
     · exact h1 j wO
   · intro h;exact ⟨fun j hj=>h j wO,h n wO⟩
theorem uY {z y:Nat→Int} {n:Nat} (h:lA z y n=true):∀ j,j<n→z j=y j:=by
 rw[uZ] at h;exact (uX z y n).1 h
theorem Ut:∀ b,(0,b) ∈ aE (bx Tryd.f63)→b=.loop (part Tryd.f63 [1,1,1,0,0,0]):=dK (by kernel_rfl)
theorem P5:∀ b,(2,b) ∈ aE (part Tryd.f63 [1,1,1,0,0,0])→b=.loop (part Tryd.f63 [1,1,1,0,0,0,1,0,1,0,1,0,0]):=dK (by kernel_rfl)
def bI (b:Nat→Nat) (c:Nat):Int:=(b c:Int)
section
variable (n:Nat) (O:Int) (U:Nat) (Z:Nat→Int) (V:Nat) (J:Nat→Int) (W:Nat→Int) (b:Nat→Nat) (H:ab)
theorem sZ (p:Nat→Bool) {j:Nat} (hj:j≤10):mk p j<2 ^ 62:=Nat.lt_of_lt_of_le (OE p j) (Nat.pow_le_pow_right (by decide) wO)
def pz (U:Nat) (b:Nat→Nat) (t c:Nat):Bool:=bS U b t c && !bS U b (t+1) c
theorem Wy (hl:U≤10) (hb:∀ c,c<U→b c<2 ^ 62) (t:Nat):exec (bO n 63 51) (.block 2 (.loop (part Tryd.f63 [1,1,1,0,0,0,1,0,1,0,1,0,0]))) (AZ (shV O U Z V J W (bI b)) U (mk (bS U b t) U:Nat) (ofNat 0) (ofNat 0)) (aV::H) =
 some (.normal,AZ (shV O U Z V J W (bI b)) U (mk (bS U b t) U:Nat) (mk (pz U b t) U:Nat) (ofNat U)++[(23,.bool false)],aV::H):=by
 refine fZ (n:=n) (f:=63) (nt:=51) (c:=part Tryd.f63 [1,1,1,0,0,0,1,0,1,0,1,0,0]) 2 (fun c=>AZ (shV O U Z V J W (bI b)) U (mk (bS U b t) U:Nat) (mk (pz U b t) c:Nat) (c:Int)) (fun _=>aV::H) U (_,_) wO (fun c hc=>?_) ?_
 · have ec:aQ .i64 (ofNat c) (ofNat 1)=((c+1:Nat):Int):=eg wO
   have es:jh (aq 23 (ofNat c) 1) 23=c:=by rw[bP,gx];show 23+c*1-23=c;omega
   have T:=t63 n O U Z V J W (bI b) H (mk (bS U b t) U:Nat) (mk (pz U b t) c:Nat) (ofNat c)
   have h1:=Q.Ff (X:=mk (bS U b t) U) (c:=c) (sZ _ hl) wO
   rw[gY,decide_eq_true hc,Bool.true_and] at h1
   have h2:cK (lB .u64 (bI b c) ((mk (bS U b t) U:Nat):Int)) (ofNat 0)=!bS U b (t+1) c:=by
    unfold bI;rw[Q.K7 (Nat.lt_trans (hb c hc) (by decide)) (Nat.lt_trans (sZ _ hl) (by decide)),bf];have:=IP (n:=U) (b:=b) (t:=t) hc;cases e:bS U b (t+1) c with
    | true =>
      have hne:b c &&& mk (bS U b t) U≠0:=fun h=>by rw[this.2 h] at e;cases e
      show (((b c &&& mk (bS U b t) U:Nat):Int) == 0)=false;rw[beq_eq_false_iff_ne];omega
    | false =>
      show (((b c &&& mk (bS U b t) U:Nat):Int) == 0)=true;rw[this.1 e];rfl
   have h3:bS U b t c=true→bS U b (t+1) c=false→xD .u64 ((mk (pz U b t) c:Nat):Int) (dc .u64 (ofNat 1) (ofNat c))=((mk (pz U b t) (c+1):Nat):Int):=fun q1 q2=>by
    rw[Q.Fg (sZ _ wO) wO (by rw[gY];simp)];have:pz U b t c=true:=by unfold pz;rw[q1,q2];rfl
    show _=(((if pz U b t c=true then mk (pz U b t) c+2 ^ c else mk (pz U b t) c):Nat):Int);rw[if_pos this]
   have h4:pz U b t c=false→mk (pz U b t) (c+1)=mk (pz U b t) c:=fun q=>by
    show (if pz U b t c=true then mk (pz U b t) c+2 ^ c else mk (pz U b t) c)=_;rw[if_neg (by rw[q];decide)]
   rw[es,h1,h2,ec] at T
   refine av T (aw n) (aj _ _) (ai _ _) ?_
   refine Tr.ae (fun h0=>?_) wJ
   refine Tr.aa wG (Tr.ae (fun q1=>?_) (fun q1=>?_))
   · rw[aO] at q1
     refine Tr.aa wG (Tr.aa wG (Tr.ae (fun q2=>?_) (fun q2=>?_)))
     · refine Tr.aa wG (Tr.ag ⟨rfl,?_⟩)
       rw[h3 (by simpa using q1) (by simpa using q2)];rfl
     · refine Tr.ag ⟨rfl,?_⟩
       rw[h4 (by unfold pz;rw[show bS U b (t+1) c=true by simpa using q2];simp)];rfl
   · rw[aO] at q1
     refine Tr.ag ⟨rfl,?_⟩
     rw[h4 (by unfold pz;rw[show bS U b t c=false by simpa using q1];rfl)];rfl
 · obtain ⟨x,h1,rfl⟩:=av (Q:=fun x=>x=(.exit 2,AZ (shV O U Z V J W (bI b)) U (mk (bS U b t) U:Nat) (mk (pz U b t) U:Nat) (ofNat U)++[(23,.bool false)],aV::H)) (t63 n O U Z V J W (bI b) H (mk (bS U b t) U:Nat) (mk (pz U b t) U:Nat) (ofNat U)) (aw n) (aj _ _) (ai _ _) (by
    refine Tr.ae wJ (fun h0=>Tr.ag rfl))
   exact h1
theorem Uk (hl:U≤10) (hb:∀ c,c<U→b c<2 ^ 62) (t:Nat):exec (bO n 63 51) (part Tryd.f63 [1,1,1,0,0,0]) (oP (shV O U Z V J W (bI b)) (mk (bS U b t) U:Nat)) (aV::H) =
 some (if mk (bS U b t) U=0 then (.exit 0,oP (shV O U Z V J W (bI b)) (mk (bS U b t) U:Nat)++[(15,.bool false)],aV::H) else if mk (pz U b t) U=0 then (.ret,[(2,.bool true)],aV::H) else (.normal,oP (shV O U Z V J W (bI b)) (mk (bS U b (t+1)) U:Nat),aV::H)):=by
 obtain ⟨z,e,hz⟩:=TX (sZ (bS U b t) hl) (sZ (pz U b t) hl)
 have hz2:z=mk (bS U b (t+1)) U:=by
  apply Nat.eq_of_testBit_eq;intro i;rw[hz,gY,gY,gY];unfold pz;by_cases hi:i<U
  · rw[decide_eq_true hi];cases e1:bS U b (t+1) i with
    | true=>rw[wV e1];rfl
    | false=>cases bS U b t i<;>rfl
  · rw[decide_eq_false hi];rfl
 rw[hz2] at e
 have T:=W3 n O U Z V J W (bI b) H (mk (bS U b t) U:Nat) (mk (pz U b t) U:Nat)
 rw[e] at T
 obtain ⟨x,h1,rfl⟩:=av (Q:=fun x=>x=(if mk (bS U b t) U=0 then (.exit 0,oP (shV O U Z V J W (bI b)) (mk (bS U b t) U:Nat)++[(15,.bool false)],aV::H) else if mk (pz U b t) U=0 then (.ret,[(2,.bool true)],aV::H) else (.normal,oP (shV O U Z V J W (bI b)) (mk (bS U b (t+1)) U:Nat),aV::H))) T (aw n) (aM (aj _ _) P5 (fun x h=>by rw[← Tr.af h];simp only[dY.st,aG];exact Wy n O U Z V J W b H hl hb t)) (ai _ _) (by
  refine Tr.ae (fun q=>?_) (fun q=>?_)
  · rw[aO,bf] at q;have q:¬ mk (bS U b t) U=0:=fun h=>by rw[h] at q;exact absurd q (by decide)
    rw[if_neg q];refine Tr.ak ⟨rfl,rfl⟩ (Tr.ae (fun r=>?_) (fun r=>?_))
    · rw[bf,beq_iff_eq] at r;rw[if_pos (by have:((mk (pz U b t) U:Nat):Int)=0:=r;omega)];exact Tr.ag rfl
    · rw[bf,beq_eq_false_iff_ne] at r;rw[if_neg (fun h=>r (by rw[h];rfl))];exact Tr.ag rfl
  · rw[aO,bf] at q;have q:mk (bS U b t) U=0:=by
     have q:(((mk (bS U b t) U:Nat):Int) == 0)=true:=by simpa using q
     rw[beq_iff_eq] at q;omega
    rw[if_pos q];exact Tr.ag rfl)
 exact h1
theorem UM (hl:U≤10) (hb:∀ c,c<U→b c<2 ^ 62):cd (n+2) (.fn 63) [shV O U Z V J W (bI b)] H=some (.bool (ll U b),H):=by
 have e0:bH .u64 (dc .u64 (ofNat 1) (ofNat U)) (ofNat 1)=((mk (bS U b 0) U:Nat):Int):=by
  have h1:=Nat.two_pow_pos U;have h2:2 ^ U≤2 ^ 10:=Nat.pow_le_pow_right (by decide) hl;have h3:mk (bS U b 0) U=2 ^ U-1:=L9 U;rw[Q.Ev wO,eA,h3];show IntKind.u64.wrap (((2 ^ U:Nat):Int)-1)=_;rw[show ((2 ^ U:Nat):Int)-1=((2 ^ U-1:Nat):Int) by omega];exact Q.jA wO
 obtain ⟨T,hT,hgo,hend⟩:=Lf (n:=U) (b:=b);have hrd:∀ t,t<T→∃ x,exec (bO (n+1) 63 51) (part Tryd.f63 [1,1,1,0,0,0]) (oP (shV O U Z V J W (bI b)) (mk (bS U b t) U:Nat)) (aV::H)=some x∧(x.1=.normal∧tidy 0 x.2.1 x.2.2=(oP (shV O U Z V J W (bI b)) (mk (bS U b (t+1)) U:Nat),aV::H)):=fun t ht=>by
  obtain ⟨⟨c,hc⟩,d,d1,d2⟩:=hgo t ht;have r:=Uk (n+1) O U Z V J W b H hl hb t;rw[if_neg (fun h=>by have:=mk_zero.1 h c (nk hc);rw[hc] at this;cases this),if_neg (fun h=>by have:=mk_zero.1 h d (nk d1);unfold pz at this;rw[d1,d2] at this;cases this)] at r;exact ⟨_,r,rfl,rfl⟩
 have hB:∃ e x,(e=ll U b)∧exec (bO (n+1) 63 51) (.block 0 (.loop (part Tryd.f63 [1,1,1,0,0,0]))) (oP (shV O U Z V J W (bI b)) (mk (bS U b 0) U:Nat)) (aV::H)=some (cond e (.ret,[(2,.bool true)],aV::H) (.normal,oP (shV O U Z V J W (bI b)) x++[(15,.bool false)],aV::H)):=by
  have rT:=Uk (n+1) O U Z V J W b H hl hb T;rcases hend with ⟨h1,h2⟩ | ⟨⟨c,hc⟩,h1,h2⟩
  · rw[if_pos (mk_zero.2 fun c _=>h1 c)] at rT;exact ⟨false,(mk (bS U b T) U:Nat),h2.symm,fZ (n:=n+1) (f:=63) (nt:=51) 0 (fun t=>oP (shV O U Z V J W (bI b)) (mk (bS U b t) U:Nat)) (fun _=>aV::H) T (_,_) wO hrd rT⟩
  · rw[if_neg (fun h=>by have:=mk_zero.1 h c (nk hc);rw[hc] at this;cases this),if_pos (mk_zero.2 fun d _=>by
     unfold pz;cases e:bS U b T d with
     | false=>rfl
     | true=>rw[h1 d e];rfl)] at rT
    exact ⟨true,0,h2.symm,Sy (n:=n+1) (f:=63) (nt:=51) 0 (fun t=>oP (shV O U Z V J W (bI b)) (mk (bS U b t) U:Nat)) (fun _=>aV::H) T (_,_) wO hrd rT⟩
 obtain ⟨e,x,he,hx⟩:=hB;have XG:=Xo n O U Z V J W (bI b) H e x;rw[e0] at XG;refine rm (n:=n+1) Tryd.func63 rfl (fun _ _=>rfl) rfl XG (gI n 1) (aM (aj _ _) Ut (fun y h=>dy h hx)) (ai _ _) ?_;refine Tr.ae (fun q=>Tr.ag ⟨?_,rfl⟩) (fun q=>Tr.aa ?_ (Tr.ak ⟨rfl,rfl⟩ (Tr.ae (fun r=>Tr.ag ⟨by rw[← he,r],rfl⟩) (fun r=>Tr.ag ⟨by rw[← he,r],rfl⟩))))
 · have q0:∀ c,c<10→b c=0:=fun c hc=>by
    have:=uY q c hc;have:((b c:Nat):Int)=0:=this;omega
   have:ll U b=false:=by
    cases e1:ll U b with
    | false=>rfl
    | true =>
      unfold ll at e1;obtain ⟨c,h1,h2⟩:=List.any_eq_true.1 e1;have hc:=List.mem_range.1 h1;obtain ⟨m,rfl⟩:∃ m,U=m+1:=⟨U-1,by omega⟩
      obtain ⟨_,a,_,a2⟩:=gk.1 h2;rw[q0 c wO] at a2;simp at a2
   rw[this]
 · rw[a7];exact decide_eq_true (by show (0:Int)≤(U:Int);omega)
end
end Go.Eng
end
