/- Gall: CheckList: its loop over the pairs; trees. -/
import Derived.Test.YtgphpjdchnfjlaaDoorV6GaKx6
import Derived.Test.YtgphpjdchnfjlaaDoorV6Gp2x6
import Derived.Test.YtgphpjdchnfjlaaDoorV6EngRoSx4
set_option linter.unusedVariables false
set_option linter.unusedSimpArgs false
set_option maxRecDepth 100000
section
namespace Go.Eng
open Int (ofNat)
open Go.Proofs
noncomputable def gB (e:Bool) (C:List AV→Prop):List AV→Option (Prop×AV):=fun x=>some (C x,.bool e)
noncomputable def G7 (O:Int) (U:Nat) (Z:Nat→Int) (V:Nat) (J:Nat→Int):bB:=⟨false,[(0,.row (.G [.int .i64 O,slA 4 U Z,slA 2 V J])),(0,.row (.I .i64 [aV .i64 (ofNat U) (ofNat 1)])),(0,.row (.I .i64 [O]))]⟩
noncomputable def Og (m:Nat) (z:Nat→Int) (full:Bool):AV:=.slcT none (.M [.arr .i64 z (bR m 2)]) 2 m full
noncomputable def OX (a b:Int):AV:=.agg (.I .i64 [a,b])
noncomputable def Lk (a b:Int):bB:=⟨false,[(0,.row (.I .i64 [a,b]))]⟩
noncomputable def EK (m:Nat) (z:Nat→Int) (full:Bool) (j:Int):aD:=[(0,Og m z full),(3,.ptr 0 0 0 0),(7,.int .i64 (ofNat m)),(8,.int .i64 j)]
noncomputable def BF (U V:Nat) (J:Nat→Int) (j:Int):aD:=[(1,.ptr 0 0 0 0),(4,.int .i64 (aV .i64 (ofNat U) 1)),(35,slA 2 V J),(36,.int .i64 (ofNat V)),(37,.int .i64 j)]
theorem t22 (n:Nat) (O:Int) (U:Nat) (Z:Nat→Int) (V:Nat) (J:Nat→Int) (H:aa) (j:Int) (e:Bool) (C:List AV→Prop):aJ (bN (n+10) 22 69) (il (nL (gT aK 61 (gB e C)) 59 gW) (n+10) 0) aS aR (part Tryd.f22 [1,1,1,1,0,1,0,0]) (hints (BF U V J j)) (G7 O U Z V J::H) =
 (fun (Z0:bB)=>Tr.ite (bE j (ofNat V)) (Tr.req (cQ j V) (Tr.req (cK (au 0 j 2) (bR V 2)) (Tr.req (cK (ar (au 0 j 2) 1) (bR V 2)) (Tr.req (cQ (ofNat 0) 2) (Tr.req (cQ (ofNat 1) 2) (Tr.ite (bV (J (au 0 j 2)) (J (ar (au 0 j 2) 1))) (Tr.ok (Ex.ret,[(2,iI 2,some 1)],(bh [(0,b8 O U Z V J),(0,ak.row (Row.I .i64 [aV .i64 (ofNat U) (ofNat 1)])),(0,ak.row (Row.I .i64 [O])),(0,ak.row (Row.I .i64 [J (au 0 j 2),J (ar (au 0 j 2) 1)])),(0,ak.dead)])::H)) (Tr.req (cQ (ofNat 0) 2) (Tr.req (cQ (ofNat 1) 2) (Tr.ite (aQ (cr (cr (dQ (ofNat 0) (J (au 0 j 2))) (dQ (J (au 0 j 2)) (aV .i64 (ofNat U) (ofNat 1)))) (cr (cr (dQ (ofNat 0) (J (ar (au 0 j 2) 1))) (dQ (J (ar (au 0 j 2) 1)) (aV .i64 (ofNat U) (ofNat 1)))) true))) (Tr.ok (Ex.ret,[(2,iI 2,some 1)],Z0::H)) (Tr.req (lh j V) (Tr.req (eU (ar (bR 0 2) (bR (cC j) 2)) (bR V 2)) (Tr.reqP (C [AV.slcT none (rM J (bR (cC j) 2)) 2 (cC j) (cr false (cg (cC j) V)),AV.agg (Row.I .i64 [J (au 0 j 2),J (ar (au 0 j 2) 1)])]) (Tr.ite e (Tr.ok (Ex.ret,[(2,iI 2,some 1)],Z0::H)) (Tr.ok (Ex.normal,[(1,AV.ptr 0 0 0 0,none),(4,AV.int .i64 (aV .i64 (ofNat U) (ofNat 1)),none),(35,slA 2 V J,none),(36,iI V,none),(37,AV.int .i64 (bm .i64 j (ofNat 1)),none)],Z0::H))))))))))))))) (Tr.ok (Ex.exit 1,[(1,AV.ptr 0 0 0 0,none),(4,AV.int .i64 (aV .i64 (ofNat U) (ofNat 1)),none),(35,slA 2 V J,none),(36,iI V,none),(37,AV.int .i64 j,none),(38,AV.bool false,some 1)],(bh [(0,b8 O U Z V J),(0,ak.row (Row.I .i64 [aV .i64 (ofNat U) (ofNat 1)])),(0,ak.row (Row.I .i64 [O]))])::H))) (bh [(0,b8 O U Z V J),(0,ak.row (Row.I .i64 [aV .i64 (ofNat U) (ofNat 1)])),(0,ak.row (Row.I .i64 [O])),(0,ak.row (Row.I .i64 [J (au 0 j 2),J (ar (au 0 j 2) 1)])),(0,ak.row (Row.I .i64 [J (au 0 j 2),J (ar (au 0 j 2) 1)]))]):=by kernel_rfl
theorem Yy (n:Nat) (O:Int) (U:Nat) (Z:Nat→Int) (V:Nat) (J:Nat→Int) (H:aa) (lvR:bB) (e1 e2 e3:Bool) (C1 C2 C3:List AV→Prop) (S:AV):bo Tryd.prog (cd (n+10)) 100000 22 Tryd.f22 (KtG.kt 22) (il (gT (gT (nL (gT aK 60 (gB e1 C1)) 59 gW) 62 (fun x=>some (C2 x,S))) 63 (gB e2 C3)) (n+10) 0) (bP aS 1 (BF U V J (ofNat 0)) (G7 O U Z V J::H) (.ite e3 (.ok (.ret,[(2,.int .i64 2,none)],lvR::H)) (.ok (.normal,hints (BF U V J (ofNat V)++[(38,.bool false)]),G7 O U Z V J::H)))) aR [(bj O U Z V J,none)] H =
 (fun (Z0:bB)=>((fun (Z1:aD)=>Tr.ite (aQ (cr (cr (dQ (ofNat 0) (aV .i64 (ofNat U) (ofNat 1))) (dQ (aV .i64 (ofNat U) (ofNat 1)) (ofNat 9))) true)) (Tr.ok ((iI 6,some 1),H)) (Tr.ite (bE (ofNat 40) (ofNat V)) (Tr.ok ((iI 6,some 1),H)) (Tr.ite (aQ (cr (cr (dQ (ofNat 1) O) (dQ O (ofNat 100))) true)) (Tr.ok ((iI 3,some 1),H)) (Tr.reqP (C1 [slA 4 U Z,AV.fn (Fn.func 58) [] []]) (Tr.ite e1 (Tr.ok ((iI 3,some 1),H)) (Tr.reqP (Z1=Z1∧Z0::H=Z0::H) (Tr.ite e3 (Tr.ok ((iI 2,none),H)) (Tr.reqP (C2 [bj O U Z V J]) (Tr.reqP (C3 [S]) (Tr.ite e2 (Tr.ok ((iI 16,some 1),H)) (Tr.ok ((iI 0,some 1),H)))))))))))) [(1,AV.ptr 0 0 0 0),(4,AV.int .i64 (aV .i64 (ofNat U) (ofNat 1))),(35,slA 2 V J),(36,iI V),(37,iI 0)])) (bh [(0,b8 O U Z V J),(0,ak.row (Row.I .i64 [aV .i64 (ofNat U) (ofNat 1)])),(0,ak.row (Row.I .i64 [O]))]):=by kernel_rfl
theorem t86 (n:Nat) (m:Nat) (z:Nat→Int) (full:Bool) (a b:Int) (H:aa) (j:Int):aJ (bN n 86 19) (il aK n 0) aS aR (part Tryd.f86 [1,0,1,0,0]) (hints (EK m z full j)) (Lk a b::H) =
 Tr.ite (bE j (ofNat m)) (Tr.req (cQ j m) (Tr.req (cK (au 0 j 2) (bR m 2)) (Tr.req (cK (ar (au 0 j 2) 1) (bR m 2)) (Tr.ite (cr (bV a (z (au 0 j 2))) (bV b (z (ar (au 0 j 2) 1)))) (Tr.ok (Ex.ret,[(4,AV.int .i64 j,none)],(bh [(0,ak.row (Row.I .i64 [a,b]))])::H)) (Tr.ok (Ex.normal,[(0,AV.slcT none (rM z (bR m 2)) 2 m full,none),(3,AV.ptr 0 0 0 0,none),(7,iI m,none),(8,AV.int .i64 (bm .i64 j (ofNat 1)),none)],(bh [(0,ak.row (Row.I .i64 [a,b]))])::H)))))) (Tr.ok (Ex.exit 0,[(0,AV.slcT none (rM z (bR m 2)) 2 m full,none),(3,AV.ptr 0 0 0 0,none),(7,iI m,none),(8,AV.int .i64 j,none),(9,AV.bool false,some 1)],(bh [(0,ak.row (Row.I .i64 [a,b]))])::H)):=by kernel_rfl
theorem YP (n:Nat) (m:Nat) (z:Nat→Int) (full:Bool) (a b:Int) (H:aa) (i:Int) (e:Bool):bo Tryd.prog (cd n) 100000 86 Tryd.f86 (KtG.kt 86) (il aK n 0) (bP aS 0 (EK m z full 0) (Lk a b::H) (.ite e (.ok (.ret,[(4,.int .i64 i,none)],Lk a b::H)) (.ok (.normal,hints (EK m z full (ofNat m)++[(9,.bool false)]),Lk a b::H)))) aR [(Og m z full,none),(OX a b,none)] H =
 (fun (Z0:aD)=>Tr.reqP (Z0=Z0∧(bh [(0,ak.row (Row.I .i64 [a,b]))])::H=(bh [(0,ak.row (Row.I .i64 [a,b]))])::H) (Tr.ite e (Tr.ok ((AV.int .i64 i,none),H)) (Tr.ok ((AV.int .i64 (Int.negSucc 0),some 1),H)))) [(0,AV.slcT none (rM z (bR m 2)) 2 m full),(3,AV.ptr 0 0 0 0),(7,iI m),(8,iI 0)]:=by kernel_rfl
theorem YE (n:Nat) (m:Nat) (z:Nat→Int) (full:Bool) (a b:Int) (H:aa) (i:Int):bo Tryd.prog (cd n) 100000 61 Tryd.f61 (KtG.kt 61) (il (tX aK 86 [Og m z full,OX a b] (.int .i64 i)) n 0) aS aR [(Og m z full,none),(OX a b,none)] H =
 Tr.reqP ([AV.slcT none (rM z (bR m 2)) 2 m full,AV.agg (Row.I .i64 [a,b])]=[AV.slcT none (rM z (bR m 2)) 2 m full,AV.agg (Row.I .i64 [a,b])]) (Tr.ok ((AV.bool (dQ (ofNat 0) i),none),H)):=by kernel_rfl
end Go.Eng
end
section
namespace Go.Eng
open Int (ofNat)
open Go.Proofs
noncomputable def yh (O:Int) (U:Nat) (Z:Nat→Int) (V:Nat) (J:Nat→Int) (W B:Nat→Int):bB:=⟨false,[(0,.row (.G [.int .i64 O,slA 4 U Z,slA 2 V J])),(0,.row (shR O U Z V J W B))]⟩
noncomputable def xl (U:Nat) (Z:Nat→Int) (j:Int):aD:=[(1,.ptr 0 0 0 0),(3,.ptr 0 1 0 0),(12,slA 4 U Z),(13,.int .i64 (ofNat U)),(14,.int .i64 j)]
noncomputable def xn (V:Nat) (J:Nat→Int) (j:Int):aD:=[(3,.ptr 0 1 0 0),(56,slA 2 V J),(57,.int .i64 (ofNat V)),(58,.int .i64 j)]
theorem t62 (n:Nat) (O:Int) (U:Nat) (Z:Nat→Int) (V:Nat) (J:Nat→Int) (W B:Nat→Int) (H:aa) (j:Int):aJ (bN (n+1) 62 78) (il aK n 1) aS aR (part Tryd.f62 [1,1,0,1,0,0]) (hints (xl U Z j)) (yh O U Z V J W B::H) =
 Tr.ite (bE j (ofNat U)) (Tr.req (cQ j U) (Tr.req (cK (au 0 j 4) (bR U 4)) (Tr.req (cK (ar (au 0 j 4) 1) (bR U 4)) (Tr.req (cK (ar (au 0 j 4) 2) (bR U 4)) (Tr.req (cK (ar (au 0 j 4) 3) (bR U 4)) (Tr.req (aQ (bV O (ofNat 0))) (Tr.req (aQ (bV O (ofNat 0))) (Tr.req (aQ (bV O (ofNat 0))) (Tr.req (aQ (bV O (ofNat 0))) (Tr.req (aQ (bV O (ofNat 0))) (Tr.req (aQ (bV O (ofNat 0))) (Tr.req (cQ j 10) (Tr.req (cg 0 0) (Tr.req (dN (au 3 j 2) 1 3 20) (Tr.req (dN (ar (au 3 j 2) 1) 1 3 20) (Tr.req (cr (eU 0 0) (eU 0 1)) (Tr.ok (Ex.normal,[(1,AV.ptr 0 0 0 0,none),(3,AV.ptr 0 1 0 0,none),(12,slA 4 U Z,none),(13,iI U,none),(14,AV.int .i64 (bm .i64 j (ofNat 1)),none)],(bh [(0,b8 O U Z V J),(0,ak.row (shR O U Z V J (eB (eB W (c9 (au 3 j 2) 3) (vA (ofNat 0) (Hg IntKind.i64 (Fi IntKind.i64 (aV .i64 (aV .i64 (Z (ar (au 0 j 4) 3)) (Z (ar (au 0 j 4) 1))) (lQ IntKind.i64 (bm .i64 (lQ IntKind.i64 (aV .i64 (Z (ar (au 0 j 4) 3)) (Z (ar (au 0 j 4) 1))) O) O) O)) O)))) (c9 (ar (au 3 j 2) 1) 3) (zw (aV .i64 (ofNat U) (ofNat 1)) (Fi IntKind.i64 (aV .i64 (aV .i64 (Z (au 0 j 4)) (Z (ar (au 0 j 4) 2))) (lQ IntKind.i64 (bm .i64 (lQ IntKind.i64 (aV .i64 (Z (au 0 j 4)) (Z (ar (au 0 j 4) 2))) O) O) O)) O))) B)),(0,ak.row (Row.I .i64 [Z (au 0 j 4),Z (ar (au 0 j 4) 1),Z (ar (au 0 j 4) 2),Z (ar (au 0 j 4) 3)]))])::H)))))))))))))))))) (Tr.ok (Ex.exit 0,[(1,AV.ptr 0 0 0 0,none),(3,AV.ptr 0 1 0 0,none),(12,slA 4 U Z,none),(13,iI U,none),(14,AV.int .i64 j,none),(15,AV.bool false,some 1)],(bh [(0,b8 O U Z V J),(0,ak.row (shR O U Z V J W B))])::H)):=by kernel_rfl
theorem VU (n:Nat) (O:Int) (U:Nat) (Z:Nat→Int) (V:Nat) (J:Nat→Int) (W B:Nat→Int) (H:aa) (j:Int):aJ (bN (n+1) 62 78) (il aK n 1) aS aR (part Tryd.f62 [1,1,1,1,0,1,0,0]) (hints (xn V J j)) (yh O U Z V J W B::H) =
 Tr.ite (bE j (ofNat V)) (Tr.req (cQ j V) (Tr.req (cK (au 0 j 2) (bR V 2)) (Tr.req (cK (ar (au 0 j 2) 1) (bR V 2)) (Tr.req (cQ (ofNat 1) 2) (Tr.req (cQ (J (ar (au 0 j 2) 1)) 10) (Tr.req (cg 0 0) (Tr.req (dN (au 23 (J (ar (au 0 j 2) 1)) 1) 1 23 10) (Tr.req (cQ (ofNat 0) 2) (Tr.req (dQ (ofNat 0) (J (au 0 j 2))) (Tr.req (cQ (J (ar (au 0 j 2) 1)) 10) (Tr.req (cg 0 0) (Tr.req (dN (au 23 (J (ar (au 0 j 2) 1)) 1) 1 23 10) (Tr.req (cr (eU 0 0) (eU 0 1)) (Tr.ok (Ex.normal,[(3,AV.ptr 0 1 0 0,none),(56,slA 2 V J,none),(57,iI V,none),(58,AV.int .i64 (bm .i64 j (ofNat 1)),none)],(bh [(0,b8 O U Z V J),(0,ak.row (shR O U Z V J W (eB B (c9 (au 23 (J (ar (au 0 j 2) 1)) 1) 23) (wC IntKind.u64 (B (c9 (au 23 (J (ar (au 0 j 2) 1)) 1) 23)) (fU IntKind.u64 (ofNat 1) (J (au 0 j 2))))))),(0,ak.row (Row.I .i64 [J (au 0 j 2),J (ar (au 0 j 2) 1)]))])::H))))))))))))))) (Tr.ok (Ex.exit 2,[(3,AV.ptr 0 1 0 0,none),(56,slA 2 V J,none),(57,iI V,none),(58,AV.int .i64 j,none),(59,AV.bool false,some 1)],(bh [(0,b8 O U Z V J),(0,ak.row (shR O U Z V J W B))])::H)):=by kernel_rfl
theorem YF (n:Nat) (O:Int) (U:Nat) (Z:Nat→Int) (V:Nat) (J:Nat→Int) (W B B':Nat→Int) (H:aa):bo Tryd.prog (cd (n+6)) 100000 62 Tryd.f62 (KtG.kt 62) (il aK (n+6) 0) (bP (bP aS 0 (xl U Z (ofNat 0)) (yh O U Z V J (fun _=>ofNat 0) (fun _=>ofNat 0)::H) (.ok (.normal,hints (xl U Z (ofNat U)++[(15,.bool false)]),yh O U Z V J W (fun _=>ofNat 0)::H))) 2 (xn V J (ofNat 0)) (yh O U Z V J W B::H) (.ok (.normal,hints (xn V J (ofNat V)++[(59,.bool false)]),yh O U Z V J W B'::H))) aR [(bj O U Z V J,none)] H =
 (fun (Z0:bB)=>((fun (Z1:aD)=>Tr.reqP (Z1=Z1∧Z0::H=Z0::H) (Tr.req (cK 0 10) (Tr.req (cg 0 0) (Tr.reqP ([(3,AV.ptr 0 1 0 0),(56,slA 2 V J),(57,iI V),(58,iI 0)]=[(3,AV.ptr 0 1 0 0),(56,slA 2 V J),(57,iI V),(58,iI 0)]∧(bh [(0,b8 O U Z V J),(0,ak.row (shR O U Z V J W (fun x=>ofNat 0)))])::H=(bh [(0,b8 O U Z V J),(0,ak.row (shR O U Z V J W B))])::H) (Tr.ok ((AV.ptrT (some 0) (shR O U Z V J W B') 0,none),H)))))) [(1,AV.ptr 0 0 0 0),(3,AV.ptr 0 1 0 0),(12,slA 4 U Z),(13,iI U),(14,iI 0)])) (bh [(0,b8 O U Z V J),(0,ak.row (shR O U Z V J (fun x=>ofNat 0) (fun x=>ofNat 0)))]):=by kernel_rfl
end Go.Eng
end
section
namespace Go.Eng
open Int (ofNat)
open Go.Proofs
theorem Jo {a b:Int} (hb:0<b):(a.tmod b+b).tmod b=a % b:=by
 have h0:-b<a.tmod b:=by
  by_cases h:0≤a
  · have:=Int.tmod_nonneg b h;omega
  · have e:a.tmod b=-((-a).tmod b):=by rw[Int.neg_tmod];omega
    have:=Int.tmod_lt_of_pos (-a) hb;omega
 rw[Int.tmod_eq_emod_of_nonneg wO,Int.add_emod_right];have e:a.tmod b=a-b*(a.tdiv b):=by have:=Int.mul_tdiv_add_tmod a b;omega
 rw[e,Int.sub_mul_emod_self_left]
theorem K7 {a b:Int} (hb:1≤b) (hb2:b≤1000) (h1:-1000000≤a) (h2:a≤1000000):Fi .i64 (aV .i64 a (lQ .i64 (bm .i64 (lQ .i64 a b) b) b)) b=a / b:=by
 have hm0:-b<a.tmod b∧a.tmod b<b:=by
  constructor
  · by_cases h:0≤a
    · have:=Int.tmod_nonneg b h;omega
    · have e:a.tmod b=-((-a).tmod b):=by rw[Int.neg_tmod];omega
      have:=Int.tmod_lt_of_pos (-a) (show 0<b by omega);omega
  · exact Int.tmod_lt_of_pos a wO
 have e1:bm .i64 (lQ .i64 a b) b=a.tmod b+b:=by rw[fX,sj,jK wO wO]
 rw[DZ,e1,sj,Jo wO,eI];have h3:=Int.emod_nonneg a (show b≠0 by omega);have h4:=Int.emod_lt_of_pos a (show 0<b by omega);have e3:IntKind.i64.wrap (a-a % b)=a-a % b:=jK wO wO;rw[e3];have e:a-a % b=b*(a / b):=by have:=Int.mul_ediv_add_emod a b;omega
 have e2:(b*(a / b)).tdiv b=a / b:=Int.mul_tdiv_cancel_left _ wO;rw[e,e2];have h5:a / b≤1000000:=Int.le_trans (Int.ediv_le_ediv wO h2) (Int.ediv_le_self b (by decide));have h6:-2000001≤a / b:=by
  have h7:=Int.mul_ediv_add_emod a b;apply Classical.byContradiction;intro hc;have h8:b*(a / b)≤1*(a / b):=Int.mul_le_mul_of_nonpos_right hb wO;omega
 exact jK wO wO
def dg (O:Int) (U:Nat) (Z:Nat→Int) (i:Nat):Int:=if i<2*U then (if i % 2=0 then max 0 (-((Z (i / 2*4+3)-Z (i / 2*4+1)) / O)) else min ((U:Int)-1) ((Z (i / 2*4)-Z (i / 2*4+2)) / O)) else 0
def FC (O:Int) (U:Nat) (Z:Nat→Int) (j i:Nat):Int:=if i<2*j then dg O U Z i else 0
theorem Ry (O:Int) (U:Nat) (Z:Nat→Int):FC O U Z 0=fun _=>ofNat 0:=by funext i;unfold FC;rw[if_neg wO];rfl
theorem KP (O:Int) (U:Nat) (Z:Nat→Int):FC O U Z U=dg O U Z:=by
 funext i;unfold FC;by_cases h:i<2*U
 · rw[if_pos h]
 · rw[if_neg h];unfold dg;rw[if_neg h]
theorem KQ {O:Int} {U:Nat} {Z:Nat→Int} {j:Nat} {v0 v1:Int} (h0:v0=dg O U Z (2*j)) (h1:v1=dg O U Z (2*j+1)):eB (eB (FC O U Z j) (2*j) v0) (2*j+1) v1=FC O U Z (j+1):=by
 rw[j8,j8];funext i;unfold FC;by_cases e:i=2*j+1
 · rw[if_pos e,if_pos wO,e,h1]
 · rw[if_neg e];show (if i=2*j then v0 else if i<2*j then dg O U Z i else 0)=_;by_cases e2:i=2*j
   · rw[if_pos e2,if_pos wO,e2,h0]
   · rw[if_neg e2];by_cases e3:i<2*j
     · rw[if_pos e3,if_pos wO]
     · rw[if_neg e3,if_neg wO]
def fA (J:Nat→Int) (c:Nat):Nat→Nat
 | 0=>0
 | j+1=>if J (j*2+1)=(c:Int) then fA J c j ||| 2 ^ (J (j*2)).toNat else fA J c j
def fI (V:Nat) (J:Nat→Int) (c:Nat):Int:=(fA J c V:Int)
theorem m9 (J:Nat→Int) (c a:Nat):∀ j,(∀ i,i<j→0≤J (i*2))→((fA J c j).testBit a=true↔∃ i,i<j∧J (i*2)=(a:Int)∧J (i*2+1)=(c:Int))
 | 0,_=>by
   constructor
   · intro h;simp[fA] at h
   · rintro ⟨i,h,_⟩;omega
 | j + 1,h0=>by
   have ih:=m9 J c a j (fun i hi=>h0 i wO);have hj:=h0 j wO;unfold fA;split
   · rename_i hc;rw[Nat.testBit_or,Bool.or_eq_true,ih,Nat.testBit_two_pow,decide_eq_true_iff];constructor
     · rintro (⟨i,a1,a2⟩ | h)
       · exact ⟨i,by omega,a2⟩
       · exact ⟨j,by omega,by omega,hc⟩
     · rintro ⟨i,a1,a2,a3⟩;by_cases e:i=j
       · subst e;exact .inr wO
       · exact .inl ⟨i,by omega,a2,a3⟩
   · rename_i hc;rw[ih];constructor
     · rintro ⟨i,a1,a2⟩;exact ⟨i,by omega,a2⟩
     · rintro ⟨i,a1,a2,a3⟩;refine ⟨i,?_,a2,a3⟩;by_cases e:i=j
       · subst e;exact absurd a3 hc
       · omega
theorem qf (J:Nat→Int) (c n:Nat):∀ j,(∀ i,i<j→0≤J (i*2)∧J (i*2)<n)→fA J c j<2 ^ n:=fun j h=>by
 apply Nat.lt_pow_two_of_testBit;intro i hi;cases hb:(fA J c j).testBit i with
 | false=>rfl
 | true =>
   obtain ⟨k,k1,k2,k3⟩:=(m9 J c i j (fun i hi=>(h i hi).1)).1 hb;have:=h k k1;omega
def wU (U:Nat) (Z:Nat→Int):Prop:=∀ j,j<U→jO Z j=false
def fW (U V:Nat) (J:Nat→Int):Prop:=∀ j,j<V→(0≤J (j*2)∧J (j*2)<U)∧0≤J (j*2+1)∧J (j*2+1)<U
theorem OL {U:Nat} {Z:Nat→Int} (h:wU U Z) {j:Nat} (hj:j<U):0≤Z (j*4)∧Z (j*4)≤Z (j*4+1)∧Z (j*4+1)≤1000∧0≤Z (j*4+2)∧Z (j*4+2)≤Z (j*4+3)∧Z (j*4+3)≤1000:=by
 have:=h j hj;unfold jO at this;simp at this;omega
theorem V1:∀ b,(0,b) ∈ aP (aZ Tryd.f62)→b=.loop (part Tryd.f62 [1,1,0,1,0,0]):=eA (by kernel_rfl)
theorem RS:∀ b,(2,b) ∈ aP (aZ Tryd.f62)→b=.loop (part Tryd.f62 [1,1,1,1,0,1,0,0]):=eA (by kernel_rfl)
theorem RH {x y:Nat} (hx:x<2 ^ 63) (hy:y<2 ^ 63):wC .u64 (x:Int) (y:Int)=((x ||| y:Nat):Int):=by
 rw[ui];show IntKind.u64.wrap ((BitVec.ofInt 64 (x:Int) ||| BitVec.ofInt 64 (y:Int)).toNat:Nat)=_;have h1:x ||| y<2 ^ 63:=Nat.or_lt_two_pow hx hy;have bv:∀ x:Nat,BitVec.ofInt 64 (x:Int)=BitVec.ofNat 64 x:=fun x=>by apply BitVec.eq_of_toInt_eq;simp
 rw[bv,bv,BitVec.toNat_or,BitVec.toNat_ofNat,BitVec.toNat_ofNat,Nat.mod_eq_of_lt wO,Nat.mod_eq_of_lt wO];exact Go.IntWalk.u64_in _ wO
theorem Cn {i:Nat} (hi:i<62):fU .u64 (ofNat 1) (i:Int)=((2 ^ i:Nat):Int):=by
 rw[xZ];show IntKind.u64.wrap (1*2 ^ min i 64)=_;have:(2:Nat) ^ i≤2 ^ 62:=Nat.pow_le_pow_right (by decide) wO;rw[Nat.min_eq_left wO,Int.one_mul,show (2:Int) ^ i=((2 ^ i:Nat):Int) from by rw[Int.natCast_pow];rfl];generalize (2:Nat) ^ i=P at *;exact Go.IntWalk.u64_in _ wO
section
variable (n:Nat) (O:Int) (U:Nat) (Z:Nat→Int) (V:Nat) (J:Nat→Int) (H:aa)
theorem X2 (hl:U≤10) (hd:1≤O∧O≤100) (hv:wU U Z) (B:Nat→Int):exec (bN (n+6) 62 78) (.block 0 (.loop (part Tryd.f62 [1,1,0,1,0,0]))) (xl U Z (ofNat 0)) (yh O U Z V J (FC O U Z 0) B::H)=some (.normal,xl U Z (ofNat U)++[(15,.bool false)],yh O U Z V J (FC O U Z U) B::H):=by
 refine fQ (n:=n+6) (f:=62) (nt:=78) (c:=part Tryd.f62 [1,1,0,1,0,0]) 0 (fun j=>xl U Z (j:Int)) (fun j=>yh O U Z V J (FC O U Z j) B::H) U (_,_) wO (fun j hj=>?_) ?_
 · obtain ⟨v1,v2,v3,v4,v5,v6⟩:=OL hv hj;have ej:bm .i64 (j:Int) (ofNat 1)=((j+1:Nat):Int):=eg wO;have ei:au 0 (j:Int) 4=j*4:=by rw[bt];omega
   have es:c9 (au 3 (j:Int) 2) 3=2*j:=by rw[bt,dj];omega
   have es1:c9 (ar (au 3 (j:Int) 2) 1) 3=2*j+1:=by rw[bt,aI,dj];omega
   have T:=t62 (n+5) O U Z V J (FC O U Z j) B H (j:Int);rw[ei,aI (j*4),aI (j*4),aI (j*4),ej,es,es1] at T;have s1:aV .i64 (Z (j*4+3)) (Z (j*4+1))=Z (j*4+3)-Z (j*4+1):=by rw[eI];exact jK wO wO
   have s2:aV .i64 (Z (j*4)) (Z (j*4+2))=Z (j*4)-Z (j*4+2):=by rw[eI];exact jK wO wO
   have s3:aV .i64 (ofNat U) (ofNat 1)=(U:Int)-1:=by rw[eI];exact jK (by show -9223372036854775808≤(U:Int)-1;omega) (by show (U:Int)-1≤_;omega)
   rw[s1,s2,s3,K7 hd.1 wO wO wO,K7 hd.1 wO wO wO] at T;have q1:-1000001≤(Z (j*4+3)-Z (j*4+1)) / O∧(Z (j*4+3)-Z (j*4+1)) / O≤1000:=by
    constructor
    · have h7:=Int.mul_ediv_add_emod (Z (j*4+3)-Z (j*4+1)) O;have h4:=Int.emod_lt_of_pos (Z (j*4+3)-Z (j*4+1)) (show 0<O by omega);apply Classical.byContradiction;intro hc;have h8:O*((Z (j*4+3)-Z (j*4+1)) / O)≤1*((Z (j*4+3)-Z (j*4+1)) / O):=Int.mul_le_mul_of_nonpos_right hd.1 wO;omega
    · exact Int.le_trans (Int.ediv_le_ediv wO (by omega:Z (j*4+3)-Z (j*4+1)≤1000)) (Int.ediv_le_self O (by decide))
   have n1:Hg .i64 ((Z (j*4+3)-Z (j*4+1)) / O)=-((Z (j*4+3)-Z (j*4+1)) / O):=by rw[DC,jK wO wO];omega
   rw[n1,KQ (U:=U) (Z:=Z) (O:=O) (j:=j) (by
    unfold dg;rw[if_pos wO,if_pos wO,sb,show 2*j / 2=j by omega];show (if _ > (0:Int) then _ else (0:Int))=_;omega) (by
    unfold dg;rw[if_pos wO,if_neg wO,sc,show (2*j+1) / 2=j by omega];omega)] at T
   refine aw T (cD (n+5) 1) (ai _ _) (aj _ _) ?_;have hdn:aQ (bV O (ofNat 0))=true:=by rw[aH,bg];show (!(O == 0))=true;simp;omega
   refine Tr.af (fun h0=>?_) wJ;refine Tr.ab wG (Tr.ab wG (Tr.ab wG (Tr.ab wG (Tr.ab wG (Tr.ab hdn (Tr.ab hdn (Tr.ab hdn (Tr.ab hdn (Tr.ab hdn (Tr.ab hdn (Tr.ab wG (Tr.ab wG (Tr.ab wG (Tr.ab wG (Tr.ab wG ?_)))))))))))))));exact Tr.ag ⟨rfl,rfl⟩
 · obtain ⟨x,h1,rfl⟩:=aw (Q:=fun x=>x=(.exit 0,xl U Z (ofNat U)++[(15,.bool false)],yh O U Z V J (FC O U Z U) B::H)) (t62 (n+5) O U Z V J (FC O U Z U) B H (ofNat U)) (cD (n+5) 1) (ai _ _) (aj _ _) (by
    refine Tr.af wJ (fun h0=>Tr.ag rfl))
   exact h1
theorem Pe (J:Nat→Int):fI 0 J=fun _=>ofNat 0:=rfl
theorem FZ {J:Nat→Int} {j:Nat} (h1:0≤J (j*2+1)) (h2:0≤J (j*2)) (h3:J (j*2)<60) (hs:∀ i,i<j→0≤J (i*2)∧J (i*2)<(60:Nat)):eB (fI j J) (J (j*2+1)).toNat (wC .u64 (fI j J (J (j*2+1)).toNat) (fU .u64 (ofNat 1) (J (j*2))))=fI (j+1) J:=by
 have hlt:=qf J (J (j*2+1)).toNat 60 j hs;have e1:fU .u64 (ofNat 1) (J (j*2))=((2 ^ (J (j*2)).toNat:Nat):Int):=by
  have:=Cn (i:=(J (j*2)).toNat) wO;rw[Int.toNat_of_nonneg h2] at this;exact this
 have hp:(2:Nat) ^ (J (j*2)).toNat<2 ^ 62:=Nat.pow_lt_pow_right (by decide) wO;rw[e1];unfold fI;rw[RH (Nat.lt_of_lt_of_le hlt (Nat.pow_le_pow_right (by decide) (by decide))) (Nat.lt_of_lt_of_le hp (Nat.pow_le_pow_right (by decide) (by decide))),j8];funext c;show (if c=(J (j*2+1)).toNat then _ else (fA J c j:Int))=((fA J c (j+1):Nat):Int);have e2:fA J c (j+1)=if J (j*2+1)=(c:Int) then fA J c j ||| 2 ^ (J (j*2)).toNat else fA J c j:=rfl
 rw[e2];by_cases e:c=(J (j*2+1)).toNat
 · rw[if_pos e,if_pos wO,e]
 · rw[if_neg e,if_neg wO]
theorem S0 (hl:U≤10) (hb:V≤1000) (hp:fW U V J) (W:Nat→Int):exec (bN (n+6) 62 78) (.block 2 (.loop (part Tryd.f62 [1,1,1,1,0,1,0,0]))) (xn V J (ofNat 0)) (yh O U Z V J W (fI 0 J)::H)=some (.normal,xn V J (ofNat V)++[(59,.bool false)],yh O U Z V J W (fI V J)::H):=by
 refine fQ (n:=n+6) (f:=62) (nt:=78) (c:=part Tryd.f62 [1,1,1,1,0,1,0,0]) 2 (fun j=>xn V J (j:Int)) (fun j=>yh O U Z V J W (fI j J)::H) V (_,_) wO (fun j hj=>?_) ?_
 · obtain ⟨⟨v1,v2⟩,v3,v4⟩:=hp j hj;have ej:bm .i64 (j:Int) (ofNat 1)=((j+1:Nat):Int):=eg wO;have ei:au 0 (j:Int) 2=j*2:=by rw[bt];omega
   have es:c9 (au 23 (J (j*2+1)) 1) 23=(J (j*2+1)).toNat:=by rw[bt,dj];omega
   have T:=VU (n+5) O U Z V J W (fI j J) H (j:Int);rw[ei,aI (j*2),ej,es,FZ v3 v1 wO (fun i hi=>by have:=hp i wO;omega)] at T;refine aw T (cD (n+5) 1) (ai _ _) (aj _ _) ?_;refine Tr.af (fun h0=>?_) wJ;refine Tr.ab wG (Tr.ab wG (Tr.ab wG (Tr.ab wG (Tr.ab wG (Tr.ab wG (Tr.ab wG (Tr.ab wG (Tr.ab wG (Tr.ab wG (Tr.ab wG (Tr.ab wG (Tr.ab wG ?_))))))))))));exact Tr.ag ⟨rfl,rfl⟩
 · obtain ⟨x,h1,rfl⟩:=aw (Q:=fun x=>x=(.exit 2,xn V J (ofNat V)++[(59,.bool false)],yh O U Z V J W (fI V J)::H)) (VU (n+5) O U Z V J W (fI V J) H (ofNat V)) (cD (n+5) 1) (ai _ _) (aj _ _) (by
    refine Tr.af wJ (fun h0=>Tr.ag rfl))
   exact h1
noncomputable def Lw (O:Int) (U:Nat) (Z:Nat→Int) (V:Nat) (J:Nat→Int):AV:=shV O U Z V J (dg O U Z) (fI V J)
theorem RZ (hl:U≤10) (hb:V≤1000) (hd:1≤O∧O≤100) (hv:wU U Z) (hp:fW U V J):cd (n+7) (.fn 62) [bj O U Z V J] H=some (Lw O U Z V J,H):=by
 refine oZ ?_;have hx:=X2 n O U Z V J H hl hd hv (fun _=>ofNat 0);rw[Ry,KP] at hx;have hk:=S0 n O U Z V J H hl hb hp (dg O U Z);rw[Pe] at hk;obtain ⟨y,h1,h2,h3⟩:Tr.all (bo Tryd.prog (cd (n+6)) 100000 62 Tryd.f62 (KtG.kt 62) (il aK (n+6) 0) (bP (bP aS 0 (xl U Z (ofNat 0)) (yh O U Z V J (fun _=>ofNat 0) (fun _=>ofNat 0)::H) (.ok (.normal,hints (xl U Z (ofNat U)++[(15,.bool false)]),yh O U Z V J (dg O U Z) (fun _=>ofNat 0)::H))) 2 (xn V J (ofNat 0)) (yh O U Z V J (dg O U Z) (fun _=>ofNat 0)::H) (.ok (.normal,hints (xn V J (ofNat V)++[(59,.bool false)]),yh O U Z V J (dg O U Z) (fI V J)::H))) aR [(bj O U Z V J,none)] H) (fun y=>y.1.1=.ptrT (some 0) (shR O U Z V J (dg O U Z) (fI V J)) 0∧y.2=H):=by
  rw[YF n O U Z V J (dg O U Z) (fun _=>ofNat 0) (fI V J) H];exact Tr.al ⟨rfl,rfl⟩ (Tr.ab wG (Tr.ab wG (Tr.al ⟨rfl,rfl⟩ (Tr.ag ⟨rfl,rfl⟩))))
 have:=xT (P:=Tryd.prog) (KT:=KtG.kt) (fu:=100000) (f:=62) (call:=cd (n+6)) (fn:=Tryd.f62) Tryd.func62 rfl (args:=[(bj O U Z V J,none)]) (H:=H) rfl (aA _) (az (az (ai _ _) V1 (fun x h=>by rw[← Tr.ae h];simp only[db.st,aq];exact hx)) RS (fun x h=>by rw[← Tr.ae h];simp only[db.st,aq];exact hk)) (aj _ _) h1;rw[h2,h3] at this;have e:iy (cd (n+6)) 62 [bj O U Z V J] H=RI (oM Tryd.prog KtG.kt 100000 62 (cd (n+6)) (kd [(bj O U Z V J,none)]) H):=by
  show (match Gall.vE (cd (n+6)) 62 [bj O U Z V J] H with
   | some x=>some x
   | none=>uj [⟨15,[],.bool true⟩] (cd (n+6)) 62 [bj O U Z V J] H)=_
  have e2:Gall.vE (cd (n+6)) 62 [bj O U Z V J] H=RI (oM Tryd.prog KtG.kt 100000 62 (cd (n+6)) [bj O U Z V J] H):=rfl;rw[e2];rw[this];have e3:oM Tryd.prog KtG.kt 100000 62 (cd (n+6)) [bj O U Z V J] H=_:=this;rw[e3];rfl
 rw[e,this];rfl
end
end Go.Eng
end
section
namespace Go.Eng
open Int (ofNat)
open Go.Proofs
noncomputable def pj (A:AV) (x:Int):aD:=[(0,A),(3,.int .u64 x)]
noncomputable def BD (A:AV) (U:Nat) (x f c:Int):aD:=[(0,A),(3,.int .u64 x),(4,.int .u64 f),(21,.int .i64 (ofNat U)),(22,.int .i64 c)]
theorem t63 (n:Nat) (O:Int) (U:Nat) (Z:Nat→Int) (V:Nat) (J:Nat→Int) (W B:Nat→Int) (H:aa) (x f c:Int):aJ (bN n 63 51) (il aK n 0) aS aR (part Tryd.f63 [1,1,1,0,0,0,1,0,1,0,1,0,0]) (hints (BD (shV O U Z V J W B) U x f c)) (ay::H) =
 (fun (Z0:aO)=>Tr.ite (bE c (ofNat U)) (Tr.req (dQ (ofNat 0) c) (Tr.ite (aQ (bV (qd IntKind.u64 x (fU IntKind.u64 (ofNat 1) c)) (ofNat 0))) (Tr.req (cQ c 10) (Tr.req (dN (au 23 c 1) 1 23 10) (Tr.ite (bV (qd IntKind.u64 (B (c9 (au 23 c 1) 23)) x) (ofNat 0)) (Tr.req (dQ (ofNat 0) c) (Tr.ok (Ex.normal,[(0,shV O U Z V J W B,none),(3,AV.int IntKind.u64 x,none),(4,AV.int IntKind.u64 (wC IntKind.u64 f (fU IntKind.u64 (ofNat 1) c)),none),(21,iI U,none),(22,AV.int .i64 (bm .i64 c (ofNat 1)),none)],ay::H))) (Tr.ok (Ex.normal,Z0,ay::H))))) (Tr.ok (Ex.normal,Z0,ay::H)))) (Tr.ok (Ex.exit 2,[(0,shV O U Z V J W B,none),(3,AV.int IntKind.u64 x,none),(4,AV.int IntKind.u64 f,none),(21,iI U,none),(22,AV.int .i64 c,none),(23,AV.bool false,some 1)],ay::H))) [(0,shV O U Z V J W B,none),(3,AV.int IntKind.u64 x,none),(4,AV.int IntKind.u64 f,none),(21,iI U,none),(22,AV.int .i64 (bm .i64 c (ofNat 1)),none)]:=by kernel_rfl
theorem Yu (n:Nat) (O:Int) (U:Nat) (Z:Nat→Int) (V:Nat) (J:Nat→Int) (W B:Nat→Int) (H:aa) (x f:Int):aJ (bN n 63 51) (il aK n 0) (bP aS 2 (BD (shV O U Z V J W B) U x (ofNat 0) (ofNat 0)) (ay::H) (.ok (.normal,hints (BD (shV O U Z V J W B) U x f (ofNat U)++[(23,.bool false)]),ay::H))) aR (part Tryd.f63 [1,1,1,0,0,0]) (hints (pj (shV O U Z V J W B) x)) (ay::H) =
 (fun (Z0:aD)=>Tr.ite (aQ (bV x (ofNat 0))) (Tr.reqP (Z0=Z0∧ay::H=ay::H) (Tr.ite (bV f (ofNat 0)) (Tr.ok (Ex.ret,[(2,AV.bool true,some 1)],ay::H)) (Tr.ok (Ex.normal,[(0,shV O U Z V J W B,none),(3,AV.int IntKind.u64 (FQ IntKind.u64 x f),none)],ay::H)))) (Tr.ok (Ex.exit 0,[(0,shV O U Z V J W B,none),(3,AV.int IntKind.u64 x,none),(15,AV.bool false,some 1)],ay::H))) [(0,shV O U Z V J W B),(3,AV.int IntKind.u64 x),(4,AV.int IntKind.u64 (ofNat 0)),(21,iI U),(22,iI 0)]:=by kernel_rfl
theorem YG (n:Nat) (O:Int) (U:Nat) (Z:Nat→Int) (V:Nat) (J:Nat→Int) (W B:Nat→Int) (H:aa) (e:Bool) (x:Int):bo Tryd.prog (cd (n+1)) 100000 63 Tryd.f63 (KtG.kt 63) (il aK n 1) (bP aS 0 (pj (shV O U Z V J W B) (aV .u64 (fU .u64 (ofNat 1) (ofNat U)) (ofNat 1))) (ay::H) (.ite e (.ok (.ret,[(2,.bool true,none)],ay::H)) (.ok (.normal,hints (pj (shV O U Z V J W B) x++[(15,.bool false)]),ay::H)))) aR [(shV O U Z V J W B,none)] H =
 (fun (Z0:aD)=>Tr.ite (ml B (fun x=>ofNat 0) 10) (Tr.ok ((AV.bool false,some 1),H)) (Tr.req (dQ (ofNat 0) (ofNat U)) (Tr.reqP (Z0=Z0∧ay::H=ay::H) (Tr.ite e (Tr.ok ((AV.bool true,none),H)) (Tr.ok ((AV.bool false,some 1),H)))))) [(0,shV O U Z V J W B),(3,AV.int IntKind.u64 (aV IntKind.u64 (fU IntKind.u64 (ofNat 1) (ofNat U)) (ofNat 1)))]:=by kernel_rfl
end Go.Eng
end
section
namespace Go.Eng
open Int (ofNat)
open Go.Proofs Go.Eng.Gall
theorem Ub {n f nt:Nat} {c:Code} (id:Nat) (F:Nat→aD) (G:Nat→aa) (N:Nat) (Y:aD×aa) (hN:N<99999)
 (hs:∀ j,j<N→∃ x,exec (bN n f nt) c (F j) (G j)=some x∧(x.1=.normal∧tidy (aY (G 0)) x.2.1 x.2.2=(F (j+1),G (j+1))))
 (he:exec (bN n f nt) c (F N) (G N)=some (.ret,Y)):exec (bN n f nt) (.block id (.loop c)) (F 0) (G 0)=some (.ret,Y):=by
 have key:=jg (body:=exec (bN n f nt) c) (n:=aY (G 0)) F G N (fun _=>false) (fun j=>(.ret,Y))
  (fun j hj hp=>by
    obtain ⟨x,h1,h2,h3⟩:=hs j hj;obtain ⟨e,f1,g1⟩:=x;simp only at h2;subst h2;exact ⟨_,_,h1,h3⟩)
  (fun j hj hp=>by cases hp)
  (by exact ⟨he,by simp⟩) N 0 100000 wO wO
 exact cP (fun id' h=>by cases h) key
theorem RO {x y:Nat} (hx:x<2 ^ 62) (hy:y<2 ^ 62):∃ z:Nat,FQ .u64 (x:Int) (y:Int)=(z:Int)∧∀ i,z.testBit i=(x.testBit i && !y.testBit i):=by
 refine ⟨(BitVec.ofNat 64 x &&& ~~~BitVec.ofNat 64 y).toNat,?_,fun i=>?_⟩
 · rw[sw];show IntKind.u64.wrap ((BitVec.ofInt 64 (x:Int) &&& ~~~BitVec.ofInt 64 (y:Int)).toNat:Nat)=_;rw[Q.MQ,Q.MQ];exact Q.j7 (BitVec.isLt _)
 · rw[BitVec.testBit_toNat,BitVec.getLsbD_and,BitVec.getLsbD_not,BitVec.getLsbD_ofNat,BitVec.getLsbD_ofNat];by_cases hi:i<64
   · simp[hi]
   · have:x.testBit i=false:=Nat.testBit_lt_two_pow (Nat.lt_of_lt_of_le hx (Nat.pow_le_pow_right (by decide) wO));simp[hi,this]
theorem vM (z y:Nat→Int):∀ n,allEq z y n=true↔∀ j,j<n→z j=y j
 | 0=>⟨fun _ j hj=>by omega,fun _=>rfl⟩
 | n + 1=>by
   rw[allEq,Bool.and_eq_true,vM z y n,beq_iff_eq];constructor
   · rintro ⟨h1,h2⟩ j hj;by_cases e:j=n
     · subst e;exact h2
     · exact h1 j wO
   · intro h;exact ⟨fun j hj=>h j wO,h n wO⟩
theorem vN {z y:Nat→Int} {n:Nat} (h:ml z y n=true):∀ j,j<n→z j=y j:=by
 rw[vO] at h;exact (vM z y n).1 h
theorem V2:∀ b,(0,b) ∈ aP (aZ Tryd.f63)→b=.loop (part Tryd.f63 [1,1,1,0,0,0]):=eA (by kernel_rfl)
theorem RT:∀ b,(2,b) ∈ aP (part Tryd.f63 [1,1,1,0,0,0])→b=.loop (part Tryd.f63 [1,1,1,0,0,0,1,0,1,0,1,0,0]):=eA (by kernel_rfl)
def bI (b:Nat→Nat) (c:Nat):Int:=(b c:Int)
section
variable (n:Nat) (O:Int) (U:Nat) (Z:Nat→Int) (V:Nat) (J:Nat→Int) (W:Nat→Int) (b:Nat→Nat) (H:aa)
theorem tQ (p:Nat→Bool) {j:Nat} (hj:j≤10):mk p j<2 ^ 62:=Nat.lt_of_lt_of_le (Ql p j) (Nat.pow_le_pow_right (by decide) wO)
def p6 (U:Nat) (b:Nat→Nat) (t c:Nat):Bool:=bW U b t c && !bW U b (t+1) c
theorem X3 (hl:U≤10) (hb:∀ c,c<U→b c<2 ^ 62) (t:Nat):exec (bN n 63 51) (.block 2 (.loop (part Tryd.f63 [1,1,1,0,0,0,1,0,1,0,1,0,0]))) (BD (shV O U Z V J W (bI b)) U (mk (bW U b t) U:Nat) (ofNat 0) (ofNat 0)) (ay::H) =
 some (.normal,BD (shV O U Z V J W (bI b)) U (mk (bW U b t) U:Nat) (mk (p6 U b t) U:Nat) (ofNat U)++[(23,.bool false)],ay::H):=by
 refine fQ (n:=n) (f:=63) (nt:=51) (c:=part Tryd.f63 [1,1,1,0,0,0,1,0,1,0,1,0,0]) 2 (fun c=>BD (shV O U Z V J W (bI b)) U (mk (bW U b t) U:Nat) (mk (p6 U b t) c:Nat) (c:Int)) (fun _=>ay::H) U (_,_) wO (fun c hc=>?_) ?_
 · have ec:bm .i64 (ofNat c) (ofNat 1)=((c+1:Nat):Int):=eg wO
   have es:c9 (au 23 (ofNat c) 1) 23=c:=by rw[bt,dj];show 23+c*1-23=c;omega
   have T:=t63 n O U Z V J W (bI b) H (mk (bW U b t) U:Nat) (mk (p6 U b t) c:Nat) (ofNat c)
   have h1:=Q.F5 (X:=mk (bW U b t) U) (c:=c) (tQ _ hl) wO
   rw[iL,decide_eq_true hc,Bool.true_and] at h1
   have h2:bV (qd .u64 (bI b c) ((mk (bW U b t) U:Nat):Int)) (ofNat 0)=!bW U b (t+1) c:=by
    unfold bI;rw[Q.MK (Nat.lt_trans (hb c hc) (by decide)) (Nat.lt_trans (tQ _ hl) (by decide)),bg];have:=J4 (n:=U) (b:=b) (t:=t) hc;cases e:bW U b (t+1) c with
    | true =>
      have hne:b c &&& mk (bW U b t) U≠0:=fun h=>by rw[this.2 h] at e;cases e
      show (((b c &&& mk (bW U b t) U:Nat):Int) == 0)=false;rw[beq_eq_false_iff_ne];omega
    | false =>
      show (((b c &&& mk (bW U b t) U:Nat):Int) == 0)=true;rw[this.1 e];rfl
   have h3:bW U b t c=true→bW U b (t+1) c=false→wC .u64 ((mk (p6 U b t) c:Nat):Int) (fU .u64 (ofNat 1) (ofNat c))=((mk (p6 U b t) (c+1):Nat):Int):=fun q1 q2=>by
    rw[Q.F6 (tQ _ wO) wO (by rw[iL];simp)];have:p6 U b t c=true:=by unfold p6;rw[q1,q2];rfl
    show _=(((if p6 U b t c=true then mk (p6 U b t) c+2 ^ c else mk (p6 U b t) c):Nat):Int);rw[if_pos this]
   have h4:p6 U b t c=false→mk (p6 U b t) (c+1)=mk (p6 U b t) c:=fun q=>by
    show (if p6 U b t c=true then mk (p6 U b t) c+2 ^ c else mk (p6 U b t) c)=_;rw[if_neg (by rw[q];decide)]
   rw[es,h1,h2,ec] at T
   refine aw T (aA n) (ai _ _) (aj _ _) ?_
   refine Tr.af (fun h0=>?_) wJ
   refine Tr.ab wG (Tr.af (fun q1=>?_) (fun q1=>?_))
   · rw[aH] at q1
     refine Tr.ab wG (Tr.ab wG (Tr.af (fun q2=>?_) (fun q2=>?_)))
     · refine Tr.ab wG (Tr.ag ⟨rfl,?_⟩)
       rw[h3 (by simpa using q1) (by simpa using q2)];rfl
     · refine Tr.ag ⟨rfl,?_⟩
       rw[h4 (by unfold p6;rw[show bW U b (t+1) c=true by simpa using q2];simp)];rfl
   · rw[aH] at q1
     refine Tr.ag ⟨rfl,?_⟩
     rw[h4 (by unfold p6;rw[show bW U b t c=false by simpa using q1];rfl)];rfl
 · obtain ⟨x,h1,rfl⟩:=aw (Q:=fun x=>x=(.exit 2,BD (shV O U Z V J W (bI b)) U (mk (bW U b t) U:Nat) (mk (p6 U b t) U:Nat) (ofNat U)++[(23,.bool false)],ay::H)) (t63 n O U Z V J W (bI b) H (mk (bW U b t) U:Nat) (mk (p6 U b t) U:Nat) (ofNat U)) (aA n) (ai _ _) (aj _ _) (by
    refine Tr.af wJ (fun h0=>Tr.ag rfl))
   exact h1
theorem VT (hl:U≤10) (hb:∀ c,c<U→b c<2 ^ 62) (t:Nat):exec (bN n 63 51) (part Tryd.f63 [1,1,1,0,0,0]) (pj (shV O U Z V J W (bI b)) (mk (bW U b t) U:Nat)) (ay::H) =
 some (if mk (bW U b t) U=0 then (.exit 0,pj (shV O U Z V J W (bI b)) (mk (bW U b t) U:Nat)++[(15,.bool false)],ay::H) else if mk (p6 U b t) U=0 then (.ret,[(2,.bool true)],ay::H) else (.normal,pj (shV O U Z V J W (bI b)) (mk (bW U b (t+1)) U:Nat),ay::H)):=by
 obtain ⟨z,e,hz⟩:=RO (tQ (bW U b t) hl) (tQ (p6 U b t) hl)
 have hz2:z=mk (bW U b (t+1)) U:=by
  apply Nat.eq_of_testBit_eq;intro i;rw[hz,iL,iL,iL];unfold p6;by_cases hi:i<U
  · rw[decide_eq_true hi];cases e1:bW U b (t+1) i with
    | true=>rw[xE e1];rfl
    | false=>cases bW U b t i<;>rfl
  · rw[decide_eq_false hi];rfl
 rw[hz2] at e
 have T:=Yu n O U Z V J W (bI b) H (mk (bW U b t) U:Nat) (mk (p6 U b t) U:Nat)
 rw[e] at T
 obtain ⟨x,h1,rfl⟩:=aw (Q:=fun x=>x=(if mk (bW U b t) U=0 then (.exit 0,pj (shV O U Z V J W (bI b)) (mk (bW U b t) U:Nat)++[(15,.bool false)],ay::H) else if mk (p6 U b t) U=0 then (.ret,[(2,.bool true)],ay::H) else (.normal,pj (shV O U Z V J W (bI b)) (mk (bW U b (t+1)) U:Nat),ay::H))) T (aA n) (az (ai _ _) RT (fun x h=>by rw[← Tr.ae h];simp only[db.st,aq];exact X3 n O U Z V J W b H hl hb t)) (aj _ _) (by
  refine Tr.af (fun q=>?_) (fun q=>?_)
  · rw[aH,bg] at q;have q:¬ mk (bW U b t) U=0:=fun h=>by rw[h] at q;exact absurd q (by decide)
    rw[if_neg q];refine Tr.al ⟨rfl,rfl⟩ (Tr.af (fun r=>?_) (fun r=>?_))
    · rw[bg,beq_iff_eq] at r;rw[if_pos (by have:((mk (p6 U b t) U:Nat):Int)=0:=r;omega)];exact Tr.ag rfl
    · rw[bg,beq_eq_false_iff_ne] at r;rw[if_neg (fun h=>r (by rw[h];rfl))];exact Tr.ag rfl
  · rw[aH,bg] at q;have q:mk (bW U b t) U=0:=by
     have q:(((mk (bW U b t) U:Nat):Int) == 0)=true:=by simpa using q
     rw[beq_iff_eq] at q;omega
    rw[if_pos q];exact Tr.ag rfl)
 exact h1
theorem Wh (hl:U≤10) (hb:∀ c,c<U→b c<2 ^ 62):cd (n+2) (.fn 63) [shV O U Z V J W (bI b)] H=some (.bool (mf U b),H):=by
 have e0:aV .u64 (fU .u64 (ofNat 1) (ofNat U)) (ofNat 1)=((mk (bW U b 0) U:Nat):Int):=by
  have h1:=Nat.two_pow_pos U;have h2:2 ^ U≤2 ^ 10:=Nat.pow_le_pow_right (by decide) hl;have h3:mk (bW U b 0) U=2 ^ U-1:=NM U;rw[Q.Cn wO,eI,h3];show IntKind.u64.wrap (((2 ^ U:Nat):Int)-1)=_;rw[show ((2 ^ U:Nat):Int)-1=((2 ^ U-1:Nat):Int) by omega];exact Q.j7 wO
 obtain ⟨T,hT,hgo,hend⟩:=MO (n:=U) (b:=b);have hrd:∀ t,t<T→∃ x,exec (bN (n+1) 63 51) (part Tryd.f63 [1,1,1,0,0,0]) (pj (shV O U Z V J W (bI b)) (mk (bW U b t) U:Nat)) (ay::H)=some x∧(x.1=.normal∧tidy 0 x.2.1 x.2.2=(pj (shV O U Z V J W (bI b)) (mk (bW U b (t+1)) U:Nat),ay::H)):=fun t ht=>by
  obtain ⟨⟨c,hc⟩,d,d1,d2⟩:=hgo t ht;have r:=VT (n+1) O U Z V J W b H hl hb t;rw[if_neg (fun h=>by have:=mk_zero.1 h c (nT hc);rw[hc] at this;cases this),if_neg (fun h=>by have:=mk_zero.1 h d (nT d1);unfold p6 at this;rw[d1,d2] at this;cases this)] at r;exact ⟨_,r,rfl,rfl⟩
 have hB:∃ e x,(e=mf U b)∧exec (bN (n+1) 63 51) (.block 0 (.loop (part Tryd.f63 [1,1,1,0,0,0]))) (pj (shV O U Z V J W (bI b)) (mk (bW U b 0) U:Nat)) (ay::H)=some (cond e (.ret,[(2,.bool true)],ay::H) (.normal,pj (shV O U Z V J W (bI b)) x++[(15,.bool false)],ay::H)):=by
  have rT:=VT (n+1) O U Z V J W b H hl hb T;rcases hend with ⟨h1,h2⟩ | ⟨⟨c,hc⟩,h1,h2⟩
  · rw[if_pos (mk_zero.2 fun c _=>h1 c)] at rT;exact ⟨false,(mk (bW U b T) U:Nat),h2.symm,fQ (n:=n+1) (f:=63) (nt:=51) 0 (fun t=>pj (shV O U Z V J W (bI b)) (mk (bW U b t) U:Nat)) (fun _=>ay::H) T (_,_) wO hrd rT⟩
  · rw[if_neg (fun h=>by have:=mk_zero.1 h c (nT hc);rw[hc] at this;cases this),if_pos (mk_zero.2 fun d _=>by
     unfold p6;cases e:bW U b T d with
     | false=>rfl
     | true=>rw[h1 d e];rfl)] at rT
    exact ⟨true,0,h2.symm,Ub (n:=n+1) (f:=63) (nt:=51) 0 (fun t=>pj (shV O U Z V J W (bI b)) (mk (bW U b t) U:Nat)) (fun _=>ay::H) T (_,_) wO hrd rT⟩
 obtain ⟨e,x,he,hx⟩:=hB;have YY:=YG n O U Z V J W (bI b) H e x;rw[e0] at YY;refine ph (n:=n+1) Tryd.func63 rfl (fun _ _=>rfl) rfl YY (cD n 1) (az (ai _ _) V2 (fun y h=>dV h hx)) (aj _ _) ?_;refine Tr.af (fun q=>Tr.ag ⟨?_,rfl⟩) (fun q=>Tr.ab ?_ (Tr.al ⟨rfl,rfl⟩ (Tr.af (fun r=>Tr.ag ⟨by rw[← he,r],rfl⟩) (fun r=>Tr.ag ⟨by rw[← he,r],rfl⟩))))
 · have q0:∀ c,c<10→b c=0:=fun c hc=>by
    have:=vN q c hc;have:((b c:Nat):Int)=0:=this;omega
   have:mf U b=false:=by
    cases e1:mf U b with
    | false=>rfl
    | true =>
      unfold mf at e1;obtain ⟨c,h1,h2⟩:=List.any_eq_true.1 e1;have hc:=List.mem_range.1 h1;obtain ⟨m,rfl⟩:∃ m,U=m+1:=⟨U-1,by omega⟩
      obtain ⟨_,a,_,a2⟩:=gK.1 h2;rw[q0 c wO] at a2;simp at a2
   rw[this]
 · rw[bu];exact decide_eq_true (by show (0:Int)≤(U:Int);omega)
end
end Go.Eng
end
