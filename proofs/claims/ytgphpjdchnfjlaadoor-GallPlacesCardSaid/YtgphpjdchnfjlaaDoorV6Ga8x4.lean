/- Gall: CheckList: what it answers. -/
import Derived.Test.YtgphpjdchnfjlaaDoorV6Ga3x5
set_option linter.unusedVariables false
set_option linter.unusedSimpArgs false
set_option maxRecDepth 100000
section
namespace Go.Eng
open Int (ofNat)
open Go.Proofs Go.Eng.Gall
theorem x4 {c f:Nat} {t:ou} {e:Bool} {C:List AV→Prop} (ht:t.Ok (cd c)) (h:∀ A H,C A→cd c (.fn f) A H=some (.bool e,H)):(lW t f (gB e C)).Ok (cd c):=by
 refine nw ht (fun args p v hg hp H=>?_);unfold gB at hg;simp only[nP] at hg;obtain ⟨rfl,rfl⟩:=hg;exact h _ H hp
theorem oR {c f:Nat} {t:ou} {S:AV} {C:List AV→Prop} (ht:t.Ok (cd c)) (h:∀ A H,C A→cd c (.fn f) A H=some (S,H)):(lW t f (fun x=>some (C x,S))).Ok (cd c):=by
 refine nw ht (fun args p v hg hp H=>?_);simp only[nP] at hg;obtain ⟨rfl,rfl⟩:=hg;exact h _ H hp
def iz (z:Nat→Int) (a b:Int) (i:Nat):Bool:=decide (a=z (i*2)) && decide (b=z (i*2+1))
def iq (U:Nat) (z:Nat→Int) (j:Nat):Bool:=decide (z (j*2)=z (j*2+1)) || (!(decide (0≤z (j*2)∧z (j*2)<U) && decide (0≤z (j*2+1)∧z (j*2+1)<U)) || eH (iz z (z (j*2)) (z (j*2+1))) j)
def cu (O:Int) (U:Nat) (Z:Nat→Int) (V:Nat) (J:Nat→Int):Int:=if U=0∨10<U∨40<V then 6 else if O<1∨100<O∨eH (js Z) U=true then 3 else if eH (iq U J) V=true then 2 else if iK U (fun c=>cZ J c V)=true then 16 else 0
theorem SQ (n:Nat) (O:Int) (U:Nat) (Z:Nat→Int) (V:Nat) (J:Nat→Int) (H:ab):bg Tryd.prog (cd (n+10)) 100000 22 Tryd.f22 (KtG.kt 22) (il (ng aF 59 gW) (n+10) 0) (gf aR 1) aQ [(a8 O U Z V J,none)] H =
 Tr.ite (bF (bV (bV (dp (ofNat 0) (bX .i64 (ofNat U) (ofNat 1))) (dp (bX .i64 (ofNat U) (ofNat 1)) (ofNat 9))) true)) (Tr.ok ((iI 6,some 1),H)) (Tr.ite (bM (ofNat 40) (ofNat V)) (Tr.ok ((iI 6,some 1),H)) (Tr.ite (bF (bV (bV (dp (ofNat 1) O) (dp O (ofNat 100))) true)) (Tr.ok ((iI 3,some 1),H)) Tr.bad)):=by kernel_rfl
theorem UJ:∀ b,(0,b) ∈ aP (bA Tryd.f86)→b=.loop (part Tryd.f86 [1,0,1,0,0]):=eN (by kernel_rfl)
theorem UA:∀ b,(1,b) ∈ aP (bA Tryd.f22)→b=.loop (part Tryd.f22 [1,1,1,1,0,1,0,0]):=eN (by kernel_rfl)
section
variable (n:Nat) (m:Nat) (z:Nat→Int) (full:Bool) (a b:Int) (H:ab)
theorem U7 (hm:m≤1000):cd (n+1) (.fn 86) [MN m z full,No a b] H=some (.int .i64 (CG (iz z a b) m),H):=by
 have lp:=kb (n:=n) (f:=86) (nt:=19) (c:=part Tryd.f86 [1,0,1,0,0]) 0 (fun j=>D0 m z full (j:Int)) (fun _=>Ke a b::H) m (iz z a b) (fun j=>([(4,.int .i64 (j:Int))],Ke a b::H)) (D0 m z full (ofNat m)++[(9,.bool false)],Ke a b::H) wO (fun j hj=>?_) ?_
 · refine bj (n:=n) Tryd.func86 rfl rfl rfl (XG n m z full a b H ((fN (iz z a b) m 0:Nat):Int) (eH (iz z a b) m)) (ay n) (aZ (aj _ _) UJ (fun x hx=>eO hx lp)) (ak _ _) ?_;refine Tr.ai ⟨rfl,rfl⟩ (Tr.af (fun hc=>Tr.ag ⟨?_,rfl⟩) (fun hc=>Tr.ag ⟨?_,rfl⟩))
   · unfold CG;rw[if_pos hc]
   · unfold CG;rw[if_neg (by rw[hc];decide)];rfl
 · have ej:bm .i64 (j:Int) (ofNat 1)=((j+1:Nat):Int):=eX wO;have ei:aw 0 (j:Int) 2=j*2:=by rw[bJ];omega
   have hp:bV (b9 a (z (j*2))) (b9 b (z (j*2+1)))=iz z a b j:=by
    rw[bZ,aE,aE];unfold iz;rw[Bool.eq_iff_iff];simp
   have T:=t86 n m z full a b H (j:Int);rw[ei,aM,ej,hp] at T;refine aB T (ay n) (aj _ _) (ak _ _) ?_;refine Tr.af (fun h0=>?_) wJ;refine Tr.aa wG (Tr.aa wG (Tr.aa wG ?_));refine Tr.af (fun q=>Tr.ag ?_) (fun q=>Tr.ag ?_)
   · rw[if_pos q];rfl
   · rw[if_neg (by rw[q];decide)];exact ⟨rfl,rfl⟩
 · obtain ⟨x,h1,rfl⟩:=aB (Q:=fun x=>x=(.exit 0,D0 m z full (ofNat m)++[(9,.bool false)],Ke a b::H)) (t86 n m z full a b H (ofNat m)) (ay n) (aj _ _) (ak _ _) (by
    refine Tr.af wJ (fun h0=>Tr.ag rfl))
   exact h1
theorem U1 (hm:m≤1000):cd (n+2) (.fn 61) [MN m z full,No a b] H=some (.bool (eH (iz z a b) m),H):=by
 have h:=fun H=>U7 n m z full a b H hm;refine bj (n:=n+1) Tryd.func61 rfl rfl rfl (Xv (n+1) m z full a b H (CG (iz z a b) m)) (bo _ (n+1) (bO (aN _) h)) (aj _ _) (ak _ _) ?_;refine Tr.ai rfl (Tr.ag ⟨?_,rfl⟩);rw[Bb]
end
section
variable (n:Nat) (O:Int) (U:Nat) (Z:Nat→Int) (V:Nat) (J:Nat→Int) (H:ab)
noncomputable def RD (a b:Int):bG:={ Gl O U Z V J with bs:=(Gl O U Z V J).bs++[(0,.row (.I .i64 [a,b])),(0,.dead)] }
noncomputable def OH (a b:Int):bG:={ Gl O U Z V J with bs:=(Gl O U Z V J).bs++[(0,.row (.I .i64 [a,b])),(0,.row (.I .i64 [a,b]))] }
noncomputable def Nn (j:Nat):bG:=if J (j*2)=J (j*2+1) then RD O U Z V J (J (j*2)) (J (j*2+1)) else OH O U Z V J (J (j*2)) (J (j*2+1))
theorem WG (h1:1≤U) (hl:U≤10) (hb:V≤40):exec (bQ (n+10) 22 69) (.block 1 (.loop (part Tryd.f22 [1,1,1,1,0,1,0,0]))) (AX U V J (ofNat 0)) (Gl O U Z V J::H) =
 some (cond (eH (iq U J) V) (.ret,[(2,.int .i64 2)],Nn O U Z V J (fN (iq U J) V 0)::H) (.normal,AX U V J (ofNat V)++[(38,.bool false)],Gl O U Z V J::H)):=by
 have s3:bX .i64 (ofNat U) (ofNat 1)=(U:Int)-1:=by rw[ep];exact iy (by show -9223372036854775808≤(U:Int)-1;omega) (by show (U:Int)-1≤_;omega)
 refine kb (n:=n+10) (f:=22) (nt:=69) (c:=part Tryd.f22 [1,1,1,1,0,1,0,0]) 1 (fun j=>AX U V J (j:Int)) (fun _=>Gl O U Z V J::H) V (iq U J) (fun j=>([(2,.int .i64 2)],Nn O U Z V J j::H)) (_,_) wO (fun j hj=>?_) ?_
 · have ej:bm .i64 (j:Int) (ofNat 1)=((j+1:Nat):Int):=eX wO
   have ei:aw 0 (j:Int) 2=j*2:=by rw[bJ];omega
   have et:bY (j:Int)=j:=by rw[jV];omega
   have hin:bF (bV (bV (dp (ofNat 0) (J (j*2))) (dp (J (j*2)) (bX .i64 (ofNat U) (ofNat 1)))) (bV (bV (dp (ofNat 0) (J (j*2+1))) (dp (J (j*2+1)) (bX .i64 (ofNat U) (ofNat 1)))) true))=!(decide (0≤J (j*2)∧J (j*2)<U) && decide (0≤J (j*2+1)∧J (j*2+1)<U)):=by
    rw[s3,ar,bZ,bZ,bZ,bZ,bh,bh,bh,bh];rw[Bool.eq_iff_iff];simp;omega
   have T:=t22 n O U Z V J H (j:Int) (eH (iz J (J (j*2)) (J (j*2+1))) j) (fun A=>A=[MN j J (bV false (cg j V)),No (J (j*2)) (J (j*2+1))])
   rw[ei,aM,ej,et] at T
   rw[hin] at T
   refine aB T (bo _ _ (by
    rw[show n+10=n+4+6 by omega];refine x5 (n:=n+4) (x4 (aN _) (fun A H hA=>?_));subst hA;rw[show n+4+6=n+8+2 by omega];exact U1 (n+8) j J _ _ _ H wO)) (aj _ _) (ak _ _) ?_
   refine Tr.af (fun h0=>?_) wJ
   refine Tr.aa wG (Tr.aa wG (Tr.aa wG (Tr.aa wG (Tr.aa wG ?_))))
   refine Tr.af (fun q=>?_) (fun q=>?_)
   · have q:J (j*2)=J (j*2+1):=by rw[aE,beq_iff_eq] at q;exact q
     refine Tr.ag ?_
     rw[if_pos (by unfold iq;rw[decide_eq_true q];rfl)]
     unfold Nn;rw[if_pos q];rfl
   · have q:¬ J (j*2)=J (j*2+1):=by rw[aE,beq_eq_false_iff_ne] at q;exact q
     have hX:Nn O U Z V J j=OH O U Z V J (J (j*2)) (J (j*2+1)):=by unfold Nn;rw[if_neg q]
     refine Tr.aa wG (Tr.aa wG (Tr.af (fun r=>?_) (fun r=>?_)))
     · refine Tr.ag ?_
       rw[if_pos (by unfold iq;rw[r];simp),hX];rfl
     · refine Tr.aa wG (Tr.aa wG (Tr.ai rfl (Tr.af (fun u=>?_) (fun u=>?_))))
       · refine Tr.ag ?_
         rw[if_pos (by unfold iq;rw[u];simp),hX];rfl
       · refine Tr.ag ?_
         rw[if_neg (by unfold iq;rw[u,r,decide_eq_false q];simp)]
         exact ⟨rfl,rfl⟩
 · obtain ⟨x,h1,rfl⟩:=aB (Q:=fun x=>x=(.exit 1,AX U V J (ofNat V)++[(38,.bool false)],Gl O U Z V J::H)) (t22 n O U Z V J H (ofNat V) true (fun A=>False)) (bo _ _ (by
    rw[show n+10=n+4+6 by omega];exact x5 (n:=n+4) (x4 (aN _) (fun A H hA=>hA.elim)))) (aj _ _) (ak _ _) (by
    refine Tr.af wJ (fun h0=>Tr.ag rfl))
   exact h1
theorem px {U V:Nat} {J:Nat→Int} (h:eH (iq U J) V=false):gI U V J:=fun j hj=>by
 have:=wc h j hj;unfold iq at this;simp only[Bool.or_eq_false_iff,Bool.not_eq_false',Bool.and_eq_true,decide_eq_true_eq] at this;exact ⟨this.2.1.1,this.2.1.2⟩
theorem NG (hl:U≤1000) (hb:V≤1000):cd (n+11) (.fn 22) [a8 O U Z V J] H=some (.int .i64 (cu O U Z V J),H):=by
 have s3:bX .i64 (ofNat U) (ofNat 1)=(U:Int)-1:=by rw[ep];exact iy (by show -9223372036854775808≤(U:Int)-1;omega) (by show (U:Int)-1≤_;omega)
 have hv:=fun h:eH (js Z) U=false=>(wc h:qQ U Z)
 have ht:(lW (lW (ng (lW aF 60 (gB (eH (js Z) U) (fun A=>A=[slA 4 U Z,.fn (.func 58) [] []]))) 59 gW) 62 (fun x=>some (x=[a8 O U Z V J]∧(U≤10∧(1≤O∧O≤100)∧qQ U Z∧gI U V J),HD O U Z V J))) 63 (gB (iK U (fun c=>cZ J c V)) (fun A=>A=[HD O U Z V J]∧(U≤10∧gI U V J)))).Ok (cd (n+10)):=by
  refine x4 (oR ?_ (fun A H hA=>?_)) (fun A H hA=>?_)
  · rw[show n+10=n+4+6 by omega];refine x5 (n:=n+4) (x4 (aN _) (fun A H hA=>?_));subst hA;rw[show n+4+6=n+10 by omega];exact U0 n U Z H hl
  · obtain ⟨rfl,a1,a2,a3,a4⟩:=hA;rw[show n+10=n+3+7 by omega];exact PS (n+3) O U Z V J H a1 hb a2 a3 a4
  · obtain ⟨rfl,a1,a4⟩:=hA;rw[show n+10=n+8+2 by omega];exact Um (n+8) O U Z V J (c9 O U Z) (fun c=>cZ J c V) H a1 (fun c _=>Nat.lt_of_lt_of_le (nu J c U V (fun i hi=>(a4 i hi).1)) (Nat.pow_le_pow_right (by decide) wO))
 by_cases k0:1≤U∧U≤10∧V≤40
 · obtain ⟨k1,k2,k3⟩:=k0;refine bj (n:=n+10) Tryd.func22 rfl rfl rfl (Xi n O U Z V J H (Nn O U Z V J (fN (iq U J) V 0)) (eH (js Z) U) (iK U (fun c=>cZ J c V)) (eH (iq U J) V) (fun A=>A=[slA 4 U Z,.fn (.func 58) [] []]) (fun A=>A=[a8 O U Z V J]∧(U≤10∧(1≤O∧O≤100)∧qQ U Z∧gI U V J)) (fun A=>A=[HD O U Z V J]∧(U≤10∧gI U V J)) (HD O U Z V J)) (bo _ _ ht) (aZ (aj _ _) UA (fun y h=>eO h (WG n O U Z V J H k1 k2 k3))) (ak _ _) ?_;have hG:cu O U Z V J=if O<1∨100<O∨eH (js Z) U=true then 3 else if eH (iq U J) V=true then 2 else if iK U (fun c=>cZ J c V)=true then 16 else 0:=by unfold cu;rw[if_neg wO]
   rw[hG,s3];refine Tr.af (fun q=>?_) (fun q=>?_)
   · exfalso;rw[ar,bZ,bZ,bh,bh] at q;simp at q;omega
   refine Tr.af wJ (fun q=>?_);refine Tr.af (fun q=>?_) (fun q=>?_)
   · rw[ar,bZ,bZ,bh,bh] at q;simp at q;rw[if_pos wO];exact Tr.ag ⟨rfl,rfl⟩
   · rw[ar,bZ,bZ,bh,bh] at q;simp at q;refine Tr.ai rfl (Tr.af (fun r=>?_) (fun r=>?_))
     · rw[if_pos (.inr (.inr r))];exact Tr.ag ⟨rfl,rfl⟩
     · rw[if_neg (by rintro (h | h | h);omega;omega;rw[r] at h;cases h)];refine Tr.ai ⟨by rw[← s3],by rw[← s3]⟩ (Tr.af (fun u=>?_) (fun u=>?_))
       · rw[if_pos u];exact Tr.ag ⟨rfl,rfl⟩
       · rw[if_neg (by rw[u];decide)];refine Tr.ai ⟨rfl,k2,by omega,hv r,px u⟩ (Tr.ai ⟨rfl,k2,px u⟩ (Tr.af (fun w=>?_) (fun w=>?_)))
         · rw[if_pos w];exact Tr.ag ⟨rfl,rfl⟩
         · rw[if_neg (by rw[w];decide)];exact Tr.ag ⟨rfl,rfl⟩
 · refine bj (n:=n+10) Tryd.func22 rfl rfl rfl (SQ n O U Z V J H) (bo _ _ (by
    rw[show n+10=n+4+6 by omega];exact x5 (n:=n+4) (aN _))) (cY (aj _ _) 1) (ak _ _) ?_
   have hG:cu O U Z V J=6:=by unfold cu;rw[if_pos wO]
   rw[hG,s3];refine Tr.af (fun q=>Tr.ag ⟨rfl,rfl⟩) (fun q=>?_);refine Tr.af (fun q=>Tr.ag ⟨rfl,rfl⟩) (fun q2=>?_);exfalso;rw[ar,bZ,bZ,bh,bh] at q;simp at q;simp (disch:=omega) only[nV,nW] at q2;omega
end
end Go.Eng
end
section
namespace Go.Eng
open Int (ofNat)
open Go.Proofs
noncomputable def dz (O:Int) (U:Nat) (Z:Nat→Int) (V:Nat) (J:Nat→Int):bG:=⟨false,[(0,.row (.G [.int .i64 O,slA 4 U Z,slA 2 V J]))]⟩
noncomputable def DY (a b j:Int):aC:=[(1,.int .i64 a),(2,.int .i64 b),(3,.ptr 0 0 0 0),(7,.int .i64 j)]
noncomputable def eR (O:Int) (U:Nat) (Z:Nat→Int) (V:Nat) (J:Nat→Int) (bs:List (Nat×an)):bG:=⟨false,(0,.row (.G [.int .i64 O,slA 4 U Z,slA 2 V J]))::bs⟩
noncomputable def cH (L:Nat) (y:Nat→Int):Nat×an:=(0,.row (.M [.arr .i64 y L]))
noncomputable def m7 (i U L:Nat) (s:Nat) (j:Int):aC:=[(1,.ptr 0 0 0 0),(3,.int .i64 (ofNat U)),(4,.slc 0 i 0 0 1 L (some L)),(s,.int .i64 j)]
noncomputable def AY (U L:Nat) (j:Int):aC:=[(3,.int .i64 (ofNat U)),(4,.slc 0 2 0 0 1 L (some L)),(10,.int .i64 j)]
noncomputable def l6 (i U L:Nat) (t a:Int):aC:=[(1,.ptr 0 0 0 0),(3,.int .i64 (ofNat U)),(4,.slc 0 i 0 0 1 L (some L)),(6,.int .i64 t),(7,.slc 0 (Nat.succ i) 0 0 1 L (some L)),(8,.int .i64 a)]
noncomputable def oQ (i U L:Nat) (t a c:Int):aC:=l6 i U L t a++[(9,.int .i64 c)]
noncomputable def PV (A:AV) (P:Int→Int→Bool):List AV→Option (Prop×AV)
 | [B,.int .i64 a,.int .i64 c]=>some (B=A,.bool (P a c))
 | _=>none
theorem t79 (n:Nat) (O:Int) (U:Nat) (Z:Nat→Int) (V:Nat) (J:Nat→Int) (H:ab) (a b j:Int):aS (bQ n 79 24) (il aF n 0) aR aQ (part Tryd.f79 [1,0,1,0,0]) (hints (DY a b j)) (dz O U Z V J::H) =
 Tr.ite (bM j (ofNat V)) (Tr.req (c6 j V) (Tr.req (cK (aw 0 j 2) (cG V 2)) (Tr.req (cK (au (aw 0 j 2) 1) (cG V 2)) (Tr.ite (bV (b9 (J (aw 0 j 2)) a) (b9 (J (au (aw 0 j 2) 1)) b)) (Tr.ok (Ex.ret,[(6,AV.bool true,some 1)],(bz [(0,dk O U Z V J)])::H)) (Tr.ok (Ex.normal,[(1,AV.int .i64 a,none),(2,AV.int .i64 b,none),(3,AV.ptr 0 0 0 0,none),(7,AV.int .i64 (bm .i64 j (ofNat 1)),none)],(bz [(0,dk O U Z V J)])::H)))))) (Tr.ok (Ex.exit 0,[(1,AV.int .i64 a,none),(2,AV.int .i64 b,none),(3,AV.ptr 0 0 0 0,none),(7,AV.int .i64 j,none),(12,AV.bool false,some 1)],(bz [(0,dk O U Z V J)])::H)):=by kernel_rfl
theorem XC (n:Nat) (O:Int) (U:Nat) (Z:Nat→Int) (V:Nat) (J:Nat→Int) (H:ab) (a b:Int) (e:Bool):bg Tryd.prog (cd n) 100000 79 Tryd.f79 (KtG.kt 79) (il aF n 0) (cV aR 0 (DY a b (ofNat 0)) (dz O U Z V J::H) (.ite e (.ok (.ret,[(6,.bool true,none)],dz O U Z V J::H)) (.ok (.normal,hints (DY a b (ofNat V)++[(12,.bool false)]),dz O U Z V J::H)))) aQ [(a8 O U Z V J,none),(.int .i64 a,none),(.int .i64 b,none)] H =
 Tr.reqP ([(1,AV.int .i64 a),(2,AV.int .i64 b),(3,AV.ptr 0 0 0 0),(7,iI 0)]=[(1,AV.int .i64 a),(2,AV.int .i64 b),(3,AV.ptr 0 0 0 0),(7,iI 0)]∧(bz [(0,dk O U Z V J)])::H=(bz [(0,dk O U Z V J)])::H) (Tr.ite e (Tr.ok ((AV.bool true,none),H)) (Tr.ok ((AV.bool false,some 1),H))):=by kernel_rfl
theorem Pj (n:Nat) (O:Int) (U L:Nat) (Z:Nat→Int) (V:Nat) (J:Nat→Int) (H:ab) (y:Nat→Int) (j:Int):aS (bQ n 64 66) (il aF n 0) aR aQ (part Tryd.f64 [1,1,1,0,1,0,0]) (hints (m7 1 U L 5 j)) (eR O U Z V J [cH L y]::H) =
 Tr.ite (bM j (ofNat U)) (Tr.req (c6 j L) (Tr.req (cg 0 0) (Tr.req (cK (aw 0 j 1) L) (Tr.ok (Ex.normal,[(1,AV.ptr 0 0 0 0,none),(3,iI U,none),(4,AV.slc 0 1 0 0 1 L (some L),none),(5,AV.int .i64 (bm .i64 j (ofNat 1)),none)],(bz [(0,dk O U Z V J),(0,an.row (rM (dc y (aw 0 j 1) (ofNat 1)) L))])::H))))) (Tr.ok (Ex.exit 0,[(1,AV.ptr 0 0 0 0,none),(3,iI U,none),(4,AV.slc 0 1 0 0 1 L (some L),none),(5,AV.int .i64 j,none),(18,AV.bool false,some 1)],(bz [(0,dk O U Z V J),(0,an.row (rM y L))])::H)):=by kernel_rfl
theorem Kr (n:Nat) (O:Int) (U L:Nat) (Z:Nat→Int) (V:Nat) (J:Nat→Int) (H:ab) (y x:Nat→Int) (P:Int→Int→Bool) (t a c:Int):aS (bQ n 64 66) (il (lW aF 79 (PV (a8 O U Z V J) P)) n 0) aR aQ (part Tryd.f64 [1,1,1,1,0,1,0,0,1,0,0,1,0,1,0,0,1,0,0,1,0,0]) (hints (oQ 1 U L t a c)) (eR O U Z V J [cH L y,cH L x]::H) =
 (fun (Z0:aH)=>((fun (Z1:bG)=>Tr.ite (bM c (ofNat U)) (Tr.req (c6 a L) (Tr.req (cg 0 0) (Tr.req (cK (aw 0 a 1) L) (Tr.ite (b9 (y (aw 0 a 1)) (ofNat 1)) (Tr.reqP (a8 O U Z V J=a8 O U Z V J) (Tr.ite (P a c) (Tr.req (c6 c L) (Tr.req (cg 0 0) (Tr.req (cK (aw 0 c 1) L) (Tr.ok (Ex.normal,Z0,(bz [(0,dk O U Z V J),(0,an.row (rM y L)),(0,an.row (rM (dc x (aw 0 c 1) (ofNat 1)) L))])::H))))) (Tr.ok (Ex.normal,Z0,Z1::H)))) (Tr.ok (Ex.normal,Z0,Z1::H)))))) (Tr.ok (Ex.exit 6,[(1,AV.ptr 0 0 0 0,none),(3,iI U,none),(4,AV.slc 0 1 0 0 1 L (some L),none),(6,AV.int .i64 t,none),(7,AV.slc 0 2 0 0 1 L (some L),none),(8,AV.int .i64 a,none),(9,AV.int .i64 c,none),(38,AV.bool false,some 1)],Z1::H))) (bz [(0,dk O U Z V J),(0,an.row (rM y L)),(0,an.row (rM x L))]))) [(1,AV.ptr 0 0 0 0,none),(3,iI U,none),(4,AV.slc 0 1 0 0 1 L (some L),none),(6,AV.int .i64 t,none),(7,AV.slc 0 2 0 0 1 L (some L),none),(8,AV.int .i64 a,none),(9,AV.int .i64 (bm .i64 c (ofNat 1)),none)]:=by kernel_rfl
theorem Pk (n:Nat) (O:Int) (U L:Nat) (Z:Nat→Int) (V:Nat) (J:Nat→Int) (H:ab) (y x x':Nat→Int) (t a:Int):aS (bQ n 64 66) (il aF n 0) (cV aR 6 (oQ 1 U L t a (ofNat 0)) (eR O U Z V J [cH L y,cH L x]::H) (.ok (.normal,hints (oQ 1 U L t a (ofNat U)++[(38,.bool false)]),(eR O U Z V J [cH L y,cH L x']::H)))) aQ (part Tryd.f64 [1,1,1,1,0,1,0,0,1,0,0,1,0,1,0,0]) (hints (l6 1 U L t a)) (eR O U Z V J [cH L y,cH L x]::H) =
 (fun (Z0:aC)=>((fun (Z1:bG)=>Tr.ite (bM a (ofNat U)) (Tr.reqP (Z0=Z0∧Z1::H=Z1::H) (Tr.ok (Ex.normal,[(1,AV.ptr 0 0 0 0,none),(3,iI U,none),(4,AV.slc 0 1 0 0 1 L (some L),none),(6,AV.int .i64 t,none),(7,AV.slc 0 2 0 0 1 L (some L),none),(8,AV.int .i64 (bm .i64 a (ofNat 1)),none)],(bz [(0,dk O U Z V J),(0,an.row (rM y L)),(0,an.row (rM x' L))])::H))) (Tr.ok (Ex.exit 4,[(1,AV.ptr 0 0 0 0,none),(3,iI U,none),(4,AV.slc 0 1 0 0 1 L (some L),none),(6,AV.int .i64 t,none),(7,AV.slc 0 2 0 0 1 L (some L),none),(8,AV.int .i64 a,none),(33,AV.bool false,some 1)],Z1::H))) (bz [(0,dk O U Z V J),(0,an.row (rM y L)),(0,an.row (rM x L))]))) [(1,AV.ptr 0 0 0 0),(3,iI U),(4,AV.slc 0 1 0 0 1 L (some L)),(6,AV.int .i64 t),(7,AV.slc 0 2 0 0 1 L (some L)),(8,AV.int .i64 a),(9,iI 0)]:=by kernel_rfl
theorem Pn (n:Nat) (O:Int) (U:Nat) (Z:Nat→Int) (V:Nat) (J:Nat→Int) (H:ab) (y x':Nat→Int) (t:Int):aS (bQ n 64 66) (il aF n 0) (cV aR 4 (l6 1 U (bY (ofNat U)) t (ofNat 0)) (eR O U Z V J [cH (bY (ofNat U)) y,cH (bY (ofNat U)) (fun _=>ofNat 0)]::H) (.ok (.normal,hints (l6 1 U (bY (ofNat U)) t (ofNat U)++[(33,.bool false)]),(eR O U Z V J [cH (bY (ofNat U)) y,cH (bY (ofNat U)) x']::H)))) aQ (part Tryd.f64 [1,1,1,1,0,1,0,0]) (hints (m7 1 U (bY (ofNat U)) 6 t)) (eR O U Z V J [cH (bY (ofNat U)) y]::H) =
 (fun (Z0:aC)=>((fun (Z1:bG)=>Tr.ite (bM t (ofNat U)) (Tr.req (Ec (ofNat U) (ofNat U) 8) (Tr.reqP (Z0=Z0∧Z1::H=Z1::H) (Tr.ok (Ex.normal,[(1,AV.ptr 0 0 0 0,none),(3,iI U,none),(4,AV.slc 0 2 0 0 1 (bY (ofNat U)) (some (bY (ofNat U))),none),(6,AV.int .i64 (bm .i64 t (ofNat 1)),none)],(bz [(0,dk O U Z V J),(0,an.row (rM y (bY (ofNat U)))),(0,an.row (rM x' (bY (ofNat U))))])::H)))) (Tr.ok (Ex.exit 2,[(1,AV.ptr 0 0 0 0,none),(3,iI U,none),(4,AV.slc 0 1 0 0 1 (bY (ofNat U)) (some (bY (ofNat U))),none),(6,AV.int .i64 t,none),(26,AV.bool false,some 1)],(bz [(0,dk O U Z V J),(0,an.row (rM y (bY (ofNat U))))])::H))) (bz [(0,dk O U Z V J),(0,an.row (rM y (bY (ofNat U)))),(0,an.row (rM (fun x=>ofNat 0) (bY (ofNat U))))]))) [(1,AV.ptr 0 0 0 0),(3,iI U),(4,AV.slc 0 1 0 0 1 (bY (ofNat U)) (some (bY (ofNat U)))),(6,AV.int .i64 t),(7,AV.slc 0 2 0 0 1 (bY (ofNat U)) (some (bY (ofNat U)))),(8,iI 0)]:=by kernel_rfl
theorem Kt (n:Nat) (O:Int) (U L:Nat) (Z:Nat→Int) (V:Nat) (J:Nat→Int) (H:ab) (g:Nat→Int) (y x:Nat→Int) (P:Int→Int→Bool) (t a c:Int):aS (bQ n 64 66) (il (lW aF 79 (PV (a8 O U Z V J) P)) n 0) aR aQ (part Tryd.f64 [1,1,1,1,0,1,0,0,1,0,0,1,0,1,0,0,1,0,0,1,0,0]) (hints (oQ 2 U L t a c)) (eR O U Z V J [cH L g,cH L y,cH L x]::H) =
 (fun (Z0:aH)=>((fun (Z1:bG)=>Tr.ite (bM c (ofNat U)) (Tr.req (c6 a L) (Tr.req (cg 0 0) (Tr.req (cK (aw 0 a 1) L) (Tr.ite (b9 (y (aw 0 a 1)) (ofNat 1)) (Tr.reqP (a8 O U Z V J=a8 O U Z V J) (Tr.ite (P a c) (Tr.req (c6 c L) (Tr.req (cg 0 0) (Tr.req (cK (aw 0 c 1) L) (Tr.ok (Ex.normal,Z0,(bz [(0,dk O U Z V J),(0,an.row (rM g L)),(0,an.row (rM y L)),(0,an.row (rM (dc x (aw 0 c 1) (ofNat 1)) L))])::H))))) (Tr.ok (Ex.normal,Z0,Z1::H)))) (Tr.ok (Ex.normal,Z0,Z1::H)))))) (Tr.ok (Ex.exit 6,[(1,AV.ptr 0 0 0 0,none),(3,iI U,none),(4,AV.slc 0 2 0 0 1 L (some L),none),(6,AV.int .i64 t,none),(7,AV.slc 0 3 0 0 1 L (some L),none),(8,AV.int .i64 a,none),(9,AV.int .i64 c,none),(38,AV.bool false,some 1)],Z1::H))) (bz [(0,dk O U Z V J),(0,an.row (rM g L)),(0,an.row (rM y L)),(0,an.row (rM x L))]))) [(1,AV.ptr 0 0 0 0,none),(3,iI U,none),(4,AV.slc 0 2 0 0 1 L (some L),none),(6,AV.int .i64 t,none),(7,AV.slc 0 3 0 0 1 L (some L),none),(8,AV.int .i64 a,none),(9,AV.int .i64 (bm .i64 c (ofNat 1)),none)]:=by kernel_rfl
theorem Pl (n:Nat) (O:Int) (U L:Nat) (Z:Nat→Int) (V:Nat) (J:Nat→Int) (H:ab) (g:Nat→Int) (y x x':Nat→Int) (t a:Int):aS (bQ n 64 66) (il aF n 0) (cV aR 6 (oQ 2 U L t a (ofNat 0)) (eR O U Z V J [cH L g,cH L y,cH L x]::H) (.ok (.normal,hints (oQ 2 U L t a (ofNat U)++[(38,.bool false)]),(eR O U Z V J [cH L g,cH L y,cH L x']::H)))) aQ (part Tryd.f64 [1,1,1,1,0,1,0,0,1,0,0,1,0,1,0,0]) (hints (l6 2 U L t a)) (eR O U Z V J [cH L g,cH L y,cH L x]::H) =
 (fun (Z0:bG)=>((fun (Z1:aC)=>Tr.ite (bM a (ofNat U)) (Tr.reqP (Z1=Z1∧Z0::H=Z0::H) (Tr.ok (Ex.normal,[(1,AV.ptr 0 0 0 0,none),(3,iI U,none),(4,AV.slc 0 2 0 0 1 L (some L),none),(6,AV.int .i64 t,none),(7,AV.slc 0 3 0 0 1 L (some L),none),(8,AV.int .i64 (bm .i64 a (ofNat 1)),none)],(bz [(0,dk O U Z V J),(0,an.row (rM g L)),(0,an.row (rM y L)),(0,an.row (rM x' L))])::H))) (Tr.ok (Ex.exit 4,[(1,AV.ptr 0 0 0 0,none),(3,iI U,none),(4,AV.slc 0 2 0 0 1 L (some L),none),(6,AV.int .i64 t,none),(7,AV.slc 0 3 0 0 1 L (some L),none),(8,AV.int .i64 a,none),(33,AV.bool false,some 1)],Z0::H))) [(1,AV.ptr 0 0 0 0),(3,iI U),(4,AV.slc 0 2 0 0 1 L (some L)),(6,AV.int .i64 t),(7,AV.slc 0 3 0 0 1 L (some L)),(8,AV.int .i64 a),(9,iI 0)])) (bz [(0,dk O U Z V J),(0,an.row (rM g L)),(0,an.row (rM y L)),(0,an.row (rM x L))]):=by kernel_rfl
theorem Po (n:Nat) (O:Int) (U:Nat) (Z:Nat→Int) (V:Nat) (J:Nat→Int) (H:ab) (g:Nat→Int) (y x':Nat→Int) (t:Int):aS (bQ n 64 66) (il aF n 0) (cV aR 4 (l6 2 U (bY (ofNat U)) t (ofNat 0)) (eR O U Z V J [cH (bY (ofNat U)) g,cH (bY (ofNat U)) y,cH (bY (ofNat U)) (fun _=>ofNat 0)]::H) (.ok (.normal,hints (l6 2 U (bY (ofNat U)) t (ofNat U)++[(33,.bool false)]),(eR O U Z V J [cH (bY (ofNat U)) g,cH (bY (ofNat U)) y,cH (bY (ofNat U)) x']::H)))) aQ (part Tryd.f64 [1,1,1,1,0,1,0,0]) (hints (m7 2 U (bY (ofNat U)) 6 t)) (eR O U Z V J [cH (bY (ofNat U)) g,cH (bY (ofNat U)) y]::H) =
 (fun (Z0:aC)=>((fun (Z1:bG)=>Tr.ite (bM t (ofNat U)) (Tr.req (Ec (ofNat U) (ofNat U) 8) (Tr.reqP (Z0=Z0∧Z1::H=Z1::H) (Tr.ok (Ex.normal,[(1,AV.ptr 0 0 0 0,none),(3,iI U,none),(4,AV.slc 0 3 0 0 1 (bY (ofNat U)) (some (bY (ofNat U))),none),(6,AV.int .i64 (bm .i64 t (ofNat 1)),none)],(bz [(0,dk O U Z V J),(0,an.row (rM g (bY (ofNat U)))),(0,an.row (rM y (bY (ofNat U)))),(0,an.row (rM x' (bY (ofNat U))))])::H)))) (Tr.ok (Ex.exit 2,[(1,AV.ptr 0 0 0 0,none),(3,iI U,none),(4,AV.slc 0 2 0 0 1 (bY (ofNat U)) (some (bY (ofNat U))),none),(6,AV.int .i64 t,none),(26,AV.bool false,some 1)],(bz [(0,dk O U Z V J),(0,an.row (rM g (bY (ofNat U)))),(0,an.row (rM y (bY (ofNat U))))])::H))) (bz [(0,dk O U Z V J),(0,an.row (rM g (bY (ofNat U)))),(0,an.row (rM y (bY (ofNat U)))),(0,an.row (rM (fun x=>ofNat 0) (bY (ofNat U))))]))) [(1,AV.ptr 0 0 0 0),(3,iI U),(4,AV.slc 0 2 0 0 1 (bY (ofNat U)) (some (bY (ofNat U)))),(6,AV.int .i64 t),(7,AV.slc 0 3 0 0 1 (bY (ofNat U)) (some (bY (ofNat U)))),(8,iI 0)]:=by kernel_rfl
end Go.Eng
end
section
namespace Go.Eng
open Int (ofNat)
open Go.Proofs Go.Eng.Gall
def rG (V:Nat) (J:Nat→Int) (a c:Int):Bool:=eH (iz J a c) V
theorem UH:∀ b,(0,b) ∈ aP (bA Tryd.f79)→b=.loop (part Tryd.f79 [1,0,1,0,0]):=eN (by kernel_rfl)
theorem Nz:∀ b,(0,b) ∈ aP (bA Tryd.f64)→b=.loop (part Tryd.f64 [1,1,1,0,1,0,0]):=eN (by kernel_rfl)
theorem NA:∀ b,(2,b) ∈ aP (bA Tryd.f64)→b=.loop (part Tryd.f64 [1,1,1,1,0,1,0,0]):=eN (by kernel_rfl)
theorem NB:∀ b,(8,b) ∈ aP (bA Tryd.f64)→b=.loop (part Tryd.f64 [1,1,1,1,1,0,1,0,0]):=eN (by kernel_rfl)
theorem JV:∀ b,(4,b) ∈ aP (part Tryd.f64 [1,1,1,1,0,1,0,0])→b=.loop (part Tryd.f64 [1,1,1,1,0,1,0,0,1,0,0,1,0,1,0,0]):=eN (by kernel_rfl)
theorem JW:∀ b,(6,b) ∈ aP (part Tryd.f64 [1,1,1,1,0,1,0,0,1,0,0,1,0,1,0,0])→b=.loop (part Tryd.f64 [1,1,1,1,0,1,0,0,1,0,0,1,0,1,0,0,1,0,0,1,0,0]):=eN (by kernel_rfl)
theorem Pm (n:Nat) (O:Int) (U L:Nat) (Z:Nat→Int) (V:Nat) (J:Nat→Int) (H:ab) (g y:Nat→Int) (j:Int):aS (bQ n 64 66) (il aF n 0) aR aQ (part Tryd.f64 [1,1,1,1,1,0,1,0,0]) (hints (AY U L j)) (eR O U Z V J [cH L g,cH L y]::H) =
 (fun (Z0:bG)=>Tr.ite (bM j (ofNat U)) (Tr.req (c6 j L) (Tr.req (cg 0 0) (Tr.req (cK (aw 0 j 1) L) (Tr.ite (b9 (y (aw 0 j 1)) (ofNat 1)) (Tr.ok (Ex.ret,[(2,AV.bool true,some 1)],Z0::H)) (Tr.ok (Ex.normal,[(3,iI U,none),(4,AV.slc 0 2 0 0 1 L (some L),none),(10,AV.int .i64 (bm .i64 j (ofNat 1)),none)],Z0::H)))))) (Tr.ok (Ex.exit 8,[(3,iI U,none),(4,AV.slc 0 2 0 0 1 L (some L),none),(10,AV.int .i64 j,none),(58,AV.bool false,some 1)],Z0::H))) (bz [(0,dk O U Z V J),(0,an.row (rM g L)),(0,an.row (rM y L))]):=by kernel_rfl
theorem u64 (n:Nat) (O:Int) (U:Nat) (Z:Nat→Int) (V:Nat) (J:Nat→Int) (H:ab) (y0 g y:Nat→Int) (e:Bool):bg Tryd.prog (cd n) 100000 64 Tryd.f64 (KtG.kt 64) (il aF n 0) (cV (cV (cV aR 0 (m7 1 U (bY (ofNat U)) 5 (ofNat 0)) (eR O U Z V J [cH (bY (ofNat U)) (fun _=>ofNat 0)]::H) (.ok (.normal,hints (m7 1 U (bY (ofNat U)) 5 (ofNat U)++[(18,.bool false)]),eR O U Z V J [cH (bY (ofNat U)) y0]::H))) 2 (m7 1 U (bY (ofNat U)) 6 (ofNat 0)) (eR O U Z V J [cH (bY (ofNat U)) y0]::H) (.ok (.normal,hints (m7 2 U (bY (ofNat U)) 6 (ofNat U)++[(26,.bool false)]),eR O U Z V J [cH (bY (ofNat U)) g,cH (bY (ofNat U)) y]::H))) 8 (AY U (bY (ofNat U)) (ofNat 0)) (eR O U Z V J [cH (bY (ofNat U)) g,cH (bY (ofNat U)) y]::H) (.ite e (.ok (.ret,[(2,.bool true,none)],eR O U Z V J [cH (bY (ofNat U)) g,cH (bY (ofNat U)) y]::H)) (.ok (.normal,hints (AY U (bY (ofNat U)) (ofNat U)++[(58,.bool false)]),eR O U Z V J [cH (bY (ofNat U)) g,cH (bY (ofNat U)) y]::H)))) aQ [(a8 O U Z V J,none)] H =
 (fun (Z0:Nat×AV)=>((fun (Z1:bG)=>((fun (Z2:aC)=>((fun (Z3:bG)=>Tr.req (Ec (ofNat U) (ofNat U) 8) (Tr.reqP ([(1,AV.ptr 0 0 0 0),(3,iI U),Z0,(5,iI 0)]=[(1,AV.ptr 0 0 0 0),(3,iI U),Z0,(5,iI 0)]∧Z3::H=Z3::H) (Tr.reqP ([(1,AV.ptr 0 0 0 0),(3,iI U),Z0,(6,iI 0)]=[(1,AV.ptr 0 0 0 0),(3,iI U),Z0,(6,iI 0)]∧(bz [(0,dk O U Z V J),(0,an.row (rM y0 (bY (ofNat U))))])::H=(bz [(0,dk O U Z V J),(0,an.row (rM y0 (bY (ofNat U))))])::H) (Tr.reqP (Z2=Z2∧Z1::H=Z1::H) (Tr.ite e (Tr.ok ((AV.bool true,none),H)) (Tr.ok ((AV.bool false,some 1),H))))))) (bz [(0,dk O U Z V J),(0,an.row (rM (fun x=>ofNat 0) (bY (ofNat U))))]))) [(3,iI U),(4,AV.slc 0 2 0 0 1 (bY (ofNat U)) (some (bY (ofNat U)))),(10,iI 0)])) (bz [(0,dk O U Z V J),(0,an.row (rM g (bY (ofNat U)))),(0,an.row (rM y (bY (ofNat U))))]))) (4,AV.slc 0 1 0 0 1 (bY (ofNat U)) (some (bY (ofNat U)))):=by kernel_rfl
section
variable (n:Nat) (O:Int) (U:Nat) (Z:Nat→Int) (V:Nat) (J:Nat→Int) (H:ab)
theorem Qt (a b:Int) (hm:V≤1000):cd (n+1) (.fn 79) [a8 O U Z V J,.int .i64 a,.int .i64 b] H=some (.bool (rG V J a b),H):=by
 have lp:=kb (n:=n) (f:=79) (nt:=24) (c:=part Tryd.f79 [1,0,1,0,0]) 0 (fun j=>DY a b (j:Int)) (fun _=>dz O U Z V J::H) V (iz J a b) (fun j=>([(6,.bool true)],dz O U Z V J::H)) (DY a b (ofNat V)++[(12,.bool false)],dz O U Z V J::H) wO (fun j hj=>?_) ?_
 · refine bj (n:=n) Tryd.func79 rfl rfl rfl (XC n O U Z V J H a b (eH (iz J a b) V)) (ay n) (aZ (aj _ _) UH (fun x hx=>eO hx lp)) (ak _ _) ?_;refine Tr.ai ⟨rfl,rfl⟩ (Tr.af (fun hc=>Tr.ag ⟨?_,rfl⟩) (fun hc=>Tr.ag ⟨?_,rfl⟩))
   · unfold rG;rw[hc]
   · unfold rG;rw[hc]
 · have ej:bm .i64 (j:Int) (ofNat 1)=((j+1:Nat):Int):=eX wO;have ei:aw 0 (j:Int) 2=j*2:=by rw[bJ];omega
   have hp:bV (b9 (J (j*2)) a) (b9 (J (j*2+1)) b)=iz J a b j:=by
    rw[bZ,aE,aE];unfold iz;rw[Bool.eq_iff_iff];simp;constructor<;>(rintro ⟨h1,h2⟩;exact ⟨h1.symm,h2.symm⟩)
   have T:=t79 n O U Z V J H a b (j:Int);rw[ei,aM,ej,hp] at T;refine aB T (ay n) (aj _ _) (ak _ _) ?_;refine Tr.af (fun h0=>?_) wJ;refine Tr.aa wG (Tr.aa wG (Tr.aa wG ?_));refine Tr.af (fun q=>Tr.ag ?_) (fun q=>Tr.ag ?_)
   · rw[if_pos q];rfl
   · rw[if_neg (by rw[q];decide)];exact ⟨rfl,rfl⟩
 · obtain ⟨x,h1,rfl⟩:=aB (Q:=fun x=>x=(.exit 0,DY a b (ofNat V)++[(12,.bool false)],dz O U Z V J::H)) (t79 n O U Z V J H a b (ofNat V)) (ay n) (aj _ _) (ak _ _) (by
    refine Tr.af wJ (fun h0=>Tr.ag rfl))
   exact h1
theorem wu {c:Nat} (hc:0<c) (hm:V≤1000):(lW aF 79 (PV (a8 O U Z V J) (rG V J))).Ok (cd c):=by
 obtain ⟨m,rfl⟩:∃ m,c=m+1:=⟨c-1,by omega⟩
 refine nw (aN _) (fun args p v hg hp H=>?_);unfold PV at hg;split at hg
 · simp only[nP] at hg;obtain ⟨rfl,rfl⟩:=hg;rw[hp];exact Qt m O U Z V J H _ _ hm
 · cases hg
def dy (p:Nat→Bool) (j:Nat):Int:=if p j=true then 1 else 0
def uo (U V:Nat) (J:Nat→Int) (b:Nat→Nat) (t a j:Nat):Bool:=decide (j<U) && eH (fun a'=>bL U b t a' && rG V J a' j) a
def uq (U V:Nat) (J:Nat→Int) (b:Nat→Nat) (t a c j:Nat):Bool:=uo U V J b t a j || (decide (j<c) && (bL U b t a && rG V J a j))
theorem Kf (b:Nat→Nat) (t:Nat):dy (uo U V J b t 0)=fun _=>ofNat 0:=by
 funext j;unfold dy uo;rw[if_neg]
 · rfl
 · intro h;rw[Bool.and_eq_true] at h;obtain ⟨i,hi,_⟩:=(dJ _ _).1 h.2;omega
theorem Kg (b:Nat→Nat) (t a:Nat):uq U V J b t a 0=uo U V J b t a:=by
 funext j;unfold uq;simp
theorem CY (b:Nat→Nat) (t a:Nat):uq U V J b t a U=uo U V J b t (a+1):=by
 funext j;unfold uq uo;have e:eH (fun a'=>bL U b t a' && rG V J a' j) (a+1)=(eH (fun a'=>bL U b t a' && rG V J a' j) a || (bL U b t a && rG V J a j)):=by
  rw[Bool.eq_iff_iff,Bool.or_eq_true,dJ,dJ];constructor
  · rintro ⟨i,h1,h2⟩;by_cases e:i=a
    · subst e;exact .inr h2
    · exact .inl ⟨i,by omega,h2⟩
  · rintro (⟨i,h1,h2⟩ | h)
    · exact ⟨i,by omega,h2⟩
    · exact ⟨a,by omega,h⟩
 rw[e];cases decide (j<U)<;>simp
theorem Gy {b:Nat→Nat} (hb:b=fun c=>cZ J c V) (hp:gI U V J) (t:Nat):uo U V J b t U=bL U b (t+1):=by
 funext j;rw[Bool.eq_iff_iff,ga];unfold uo rG;rw[Bool.and_eq_true,decide_eq_true_iff,dJ];subst hb;constructor
 · rintro ⟨h1,a,h2,h3⟩;rw[Bool.and_eq_true,dJ] at h3;obtain ⟨h3,i,hi,h4⟩:=h3;unfold iz at h4;rw[Bool.and_eq_true,decide_eq_true_iff,decide_eq_true_iff] at h4;exact ⟨h1,a,h3,(mJ J j a V (fun i hi=>(hp i hi).1.1)).2 ⟨i,hi,h4.1.symm,h4.2.symm⟩⟩
 · rintro ⟨h1,a,h2,h3⟩;obtain ⟨i,hi,h4,h5⟩:=(mJ J j a V (fun i hi=>(hp i hi).1.1)).1 h3;refine ⟨h1,a,mr h2,?_⟩;rw[Bool.and_eq_true,dJ];exact ⟨h2,i,hi,by unfold iz;rw[Bool.and_eq_true,decide_eq_true_iff,decide_eq_true_iff];exact ⟨h4.symm,h5.symm⟩⟩
theorem CZ (b:Nat→Nat) (t a c:Nat) (h:(bL U b t a && rG V J a c)=true):dc (dy (uq U V J b t a c)) c (ofNat 1)=dy (uq U V J b t a (c+1)):=by
 rw[gh];funext j;unfold dy uq;by_cases e:j=c
 · subst e;rw[if_pos rfl,h,decide_eq_true wO];rw[if_pos (by simp)];rfl
 · rw[if_neg e];by_cases h2:j<c
   · rw[decide_eq_true h2,decide_eq_true wO]
   · rw[decide_eq_false h2,decide_eq_false wO]
theorem rD (b:Nat→Nat) (t a c:Nat) (h:(bL U b t a && rG V J a c)=false):uq U V J b t a (c+1)=uq U V J b t a c:=by
 funext j;unfold uq;by_cases e:j=c
 · subst e;rw[h];simp
 · by_cases h2:j<c
   · rw[decide_eq_true h2,decide_eq_true wO]
   · rw[decide_eq_false h2,decide_eq_false wO]
theorem Bk (p:Nat→Bool) (j:Nat):b9 (dy p j) (ofNat 1)=p j:=by
 rw[aE];unfold dy;cases p j<;>rfl
end
end Go.Eng
end
section
namespace Go.Eng
open Int (ofNat)
open Go.Proofs Go.Eng.Gall
noncomputable def LL (U:Nat):Nat:=bY (ofNat U)
theorem BZ (U:Nat):LL U=U:=by unfold LL;rw[jV];rfl
theorem MU (n:Nat) (O:Int) (U L:Nat) (Z:Nat→Int) (V:Nat) (J:Nat→Int) (H:ab) (y x:Nat→Int) (t a:Int):aS (bQ n 64 66) (il aF n 0) (gf aR 6) aQ (part Tryd.f64 [1,1,1,1,0,1,0,0,1,0,0,1,0,1,0,0]) (hints (l6 1 U L t a)) (eR O U Z V J [cH L y,cH L x]::H) =
 Tr.ite (bM a (ofNat U)) Tr.bad (Tr.ok (Ex.exit 4,[(1,AV.ptr 0 0 0 0,none),(3,iI U,none),(4,AV.slc 0 1 0 0 1 L (some L),none),(6,AV.int .i64 t,none),(7,AV.slc 0 2 0 0 1 L (some L),none),(8,AV.int .i64 a,none),(33,AV.bool false,some 1)],(bz [(0,dk O U Z V J),(0,an.row (rM y L)),(0,an.row (rM x L))])::H)):=by kernel_rfl
theorem MV (n:Nat) (O:Int) (U L:Nat) (Z:Nat→Int) (V:Nat) (J:Nat→Int) (H:ab) (g:Nat→Int) (y x:Nat→Int) (t a:Int):aS (bQ n 64 66) (il aF n 0) (gf aR 6) aQ (part Tryd.f64 [1,1,1,1,0,1,0,0,1,0,0,1,0,1,0,0]) (hints (l6 2 U L t a)) (eR O U Z V J [cH L g,cH L y,cH L x]::H) =
 Tr.ite (bM a (ofNat U)) Tr.bad (Tr.ok (Ex.exit 4,[(1,AV.ptr 0 0 0 0,none),(3,iI U,none),(4,AV.slc 0 2 0 0 1 L (some L),none),(6,AV.int .i64 t,none),(7,AV.slc 0 3 0 0 1 L (some L),none),(8,AV.int .i64 a,none),(33,AV.bool false,some 1)],(bz [(0,dk O U Z V J),(0,an.row (rM g L)),(0,an.row (rM y L)),(0,an.row (rM x L))])::H)):=by kernel_rfl
theorem MW (n:Nat) (O:Int) (U L:Nat) (Z:Nat→Int) (V:Nat) (J:Nat→Int) (H:ab) (g:Nat→Int) (y:Nat→Int) (t:Int):aS (bQ n 64 66) (il aF n 0) (gf aR 4) aQ (part Tryd.f64 [1,1,1,1,0,1,0,0]) (hints (m7 2 U L 6 t)) (eR O U Z V J [cH L g,cH L y]::H) =
 Tr.ite (bM t (ofNat U)) (Tr.req (Ec (ofNat U) (ofNat U) 8) Tr.bad) (Tr.ok (Ex.exit 2,[(1,AV.ptr 0 0 0 0,none),(3,iI U,none),(4,AV.slc 0 2 0 0 1 L (some L),none),(6,AV.int .i64 t,none),(26,AV.bool false,some 1)],(bz [(0,dk O U Z V J),(0,an.row (rM g L)),(0,an.row (rM y L))])::H)):=by kernel_rfl
section
variable (n:Nat) (O:Int) (U:Nat) (Z:Nat→Int) (V:Nat) (J:Nat→Int) (b:Nat→Nat) (H:ab)
theorem WO (t a:Nat) (hl:U≤10) (hb:V≤1000) (ha:a<U) (ti:Int):exec (bQ (n+1) 64 66) (.block 6 (.loop (part Tryd.f64 [1,1,1,1,0,1,0,0,1,0,0,1,0,1,0,0,1,0,0,1,0,0]))) (oQ 1 U (LL U) ti (a:Int) (ofNat 0)) (eR O U Z V J [cH (LL U) (dy (bL U b t)),cH (LL U) (dy (uq U V J b t a 0))]::H) =
 some (.normal,oQ 1 U (LL U) ti (a:Int) (ofNat U)++[(38,.bool false)],eR O U Z V J [cH (LL U) (dy (bL U b t)),cH (LL U) (dy (uq U V J b t a U))]::H):=by
 have eL:=BZ U
 refine ig (n:=n+1) (f:=64) (nt:=66) (c:=part Tryd.f64 [1,1,1,1,0,1,0,0,1,0,0,1,0,1,0,0,1,0,0,1,0,0]) 6 (fun c=>oQ 1 U (LL U) ti (a:Int) (c:Int)) (fun c=>eR O U Z V J [cH (LL U) (dy (bL U b t)),cH (LL U) (dy (uq U V J b t a c))]::H) U (_,_) wO (fun c hc=>?_) ?_
 · have ec:bm .i64 (c:Int) (ofNat 1)=((c+1:Nat):Int):=eX wO
   have T:=Kr (n+1) O U (LL U) Z V J H (dy (bL U b t)) (dy (uq U V J b t a c)) (rG V J) ti (a:Int) (c:Int)
   rw[yf,yf,ec,Bk] at T
   refine aB T (bo _ _ (wu O U Z V J wO hb)) (aj _ _) (ak _ _) ?_
   refine Tr.af (fun h0=>?_) wJ
   refine Tr.aa (by rw[eL];simp (disch:=omega) only[nV,nW];omega) (Tr.aa wG (Tr.aa (by rw[eL];simp (disch:=omega) only[nV,nW];omega) (Tr.af (fun q=>?_) (fun q=>?_))))
   · refine Tr.ai rfl (Tr.af (fun r=>?_) (fun r=>?_))
     · refine Tr.aa (by rw[eL];simp (disch:=omega) only[nV,nW];omega) (Tr.aa wG (Tr.aa (by rw[eL];simp (disch:=omega) only[nV,nW];omega) (Tr.ag ⟨rfl,?_⟩)))
       rw[CZ U V J b t a c (by rw[q,r];rfl)];rfl
     · refine Tr.ag ⟨rfl,?_⟩
       rw[rD U V J b t a c (by rw[q,r];rfl)];rfl
   · refine Tr.ag ⟨rfl,?_⟩
     rw[rD U V J b t a c (by rw[q];rfl)];rfl
 · obtain ⟨x,h1,rfl⟩:=aB (Q:=fun x=>x=(.exit 6,oQ 1 U (LL U) ti (a:Int) (ofNat U)++[(38,.bool false)],eR O U Z V J [cH (LL U) (dy (bL U b t)),cH (LL U) (dy (uq U V J b t a U))]::H)) (Kr (n+1) O U (LL U) Z V J H (dy (bL U b t)) (dy (uq U V J b t a U)) (rG V J) ti (a:Int) (ofNat U)) (bo _ _ (wu O U Z V J wO hb)) (aj _ _) (ak _ _) (by
    refine Tr.af wJ (fun h0=>Tr.ag rfl))
   exact h1
theorem WM (t:Nat) (hl:U≤10) (hb:V≤1000) (ti:Int):exec (bQ (n+1) 64 66) (.block 4 (.loop (part Tryd.f64 [1,1,1,1,0,1,0,0,1,0,0,1,0,1,0,0]))) (l6 1 U (LL U) ti (ofNat 0)) (eR O U Z V J [cH (LL U) (dy (bL U b t)),cH (LL U) (dy (uo U V J b t 0))]::H) =
 some (.normal,l6 1 U (LL U) ti (ofNat U)++[(33,.bool false)],eR O U Z V J [cH (LL U) (dy (bL U b t)),cH (LL U) (dy (uo U V J b t U))]::H):=by
 refine ig (n:=n+1) (f:=64) (nt:=66) (c:=part Tryd.f64 [1,1,1,1,0,1,0,0,1,0,0,1,0,1,0,0]) 4 (fun a=>l6 1 U (LL U) ti (a:Int)) (fun a=>eR O U Z V J [cH (LL U) (dy (bL U b t)),cH (LL U) (dy (uo U V J b t a))]::H) U (_,_) wO (fun a ha=>?_) ?_
 · have ec:bm .i64 (a:Int) (ofNat 1)=((a+1:Nat):Int):=eX wO
   have hC:=WO n O U Z V J b H t a hl hb ha ti
   rw[Kg,CY] at hC
   have T:=Pk (n+1) O U (LL U) Z V J H (dy (bL U b t)) (dy (uo U V J b t a)) (dy (uo U V J b t (a+1))) ti (a:Int)
   rw[ec] at T
   refine aB T (ay _) (aZ (aj _ _) JW (fun x h=>by rw[← Tr.ae h];simp only[eB.st,aL];exact hC)) (ak _ _) ?_
   refine Tr.af (fun h0=>Tr.ai ⟨rfl,rfl⟩ (Tr.ag ⟨rfl,rfl⟩)) wJ
 · obtain ⟨x,h1,rfl⟩:=aB (Q:=fun x=>x=(.exit 4,l6 1 U (LL U) ti (ofNat U)++[(33,.bool false)],eR O U Z V J [cH (LL U) (dy (bL U b t)),cH (LL U) (dy (uo U V J b t U))]::H)) (MU (n+1) O U (LL U) Z V J H (dy (bL U b t)) (dy (uo U V J b t U)) ti (ofNat U)) (ay _) (cY (aj _ _) 6) (ak _ _) (by
    refine Tr.af wJ (fun h0=>Tr.ag rfl))
   exact h1
theorem WQ (g:Nat→Int) (t a:Nat) (hl:U≤10) (hb:V≤1000) (ha:a<U) (ti:Int):exec (bQ (n+1) 64 66) (.block 6 (.loop (part Tryd.f64 [1,1,1,1,0,1,0,0,1,0,0,1,0,1,0,0,1,0,0,1,0,0]))) (oQ 2 U (LL U) ti (a:Int) (ofNat 0)) (eR O U Z V J [cH (LL U) g,cH (LL U) (dy (bL U b t)),cH (LL U) (dy (uq U V J b t a 0))]::H) =
 some (.normal,oQ 2 U (LL U) ti (a:Int) (ofNat U)++[(38,.bool false)],eR O U Z V J [cH (LL U) g,cH (LL U) (dy (bL U b t)),cH (LL U) (dy (uq U V J b t a U))]::H):=by
 have eL:=BZ U
 refine ig (n:=n+1) (f:=64) (nt:=66) (c:=part Tryd.f64 [1,1,1,1,0,1,0,0,1,0,0,1,0,1,0,0,1,0,0,1,0,0]) 6 (fun c=>oQ 2 U (LL U) ti (a:Int) (c:Int)) (fun c=>eR O U Z V J [cH (LL U) g,cH (LL U) (dy (bL U b t)),cH (LL U) (dy (uq U V J b t a c))]::H) U (_,_) wO (fun c hc=>?_) ?_
 · have ec:bm .i64 (c:Int) (ofNat 1)=((c+1:Nat):Int):=eX wO
   have T:=Kt (n+1) O U (LL U) Z V J H g (dy (bL U b t)) (dy (uq U V J b t a c)) (rG V J) ti (a:Int) (c:Int)
   rw[yf,yf,ec,Bk] at T
   refine aB T (bo _ _ (wu O U Z V J wO hb)) (aj _ _) (ak _ _) ?_
   refine Tr.af (fun h0=>?_) wJ
   refine Tr.aa (by rw[eL];simp (disch:=omega) only[nV,nW];omega) (Tr.aa wG (Tr.aa (by rw[eL];simp (disch:=omega) only[nV,nW];omega) (Tr.af (fun q=>?_) (fun q=>?_))))
   · refine Tr.ai rfl (Tr.af (fun r=>?_) (fun r=>?_))
     · refine Tr.aa (by rw[eL];simp (disch:=omega) only[nV,nW];omega) (Tr.aa wG (Tr.aa (by rw[eL];simp (disch:=omega) only[nV,nW];omega) (Tr.ag ⟨rfl,?_⟩)))
       rw[CZ U V J b t a c (by rw[q,r];rfl)];rfl
     · refine Tr.ag ⟨rfl,?_⟩
       rw[rD U V J b t a c (by rw[q,r];rfl)];rfl
   · refine Tr.ag ⟨rfl,?_⟩
     rw[rD U V J b t a c (by rw[q];rfl)];rfl
 · obtain ⟨x,h1,rfl⟩:=aB (Q:=fun x=>x=(.exit 6,oQ 2 U (LL U) ti (a:Int) (ofNat U)++[(38,.bool false)],eR O U Z V J [cH (LL U) g,cH (LL U) (dy (bL U b t)),cH (LL U) (dy (uq U V J b t a U))]::H)) (Kt (n+1) O U (LL U) Z V J H g (dy (bL U b t)) (dy (uq U V J b t a U)) (rG V J) ti (a:Int) (ofNat U)) (bo _ _ (wu O U Z V J wO hb)) (aj _ _) (ak _ _) (by
    refine Tr.af wJ (fun h0=>Tr.ag rfl))
   exact h1
theorem WN (g:Nat→Int) (t:Nat) (hl:U≤10) (hb:V≤1000) (ti:Int):exec (bQ (n+1) 64 66) (.block 4 (.loop (part Tryd.f64 [1,1,1,1,0,1,0,0,1,0,0,1,0,1,0,0]))) (l6 2 U (LL U) ti (ofNat 0)) (eR O U Z V J [cH (LL U) g,cH (LL U) (dy (bL U b t)),cH (LL U) (dy (uo U V J b t 0))]::H) =
 some (.normal,l6 2 U (LL U) ti (ofNat U)++[(33,.bool false)],eR O U Z V J [cH (LL U) g,cH (LL U) (dy (bL U b t)),cH (LL U) (dy (uo U V J b t U))]::H):=by
 refine ig (n:=n+1) (f:=64) (nt:=66) (c:=part Tryd.f64 [1,1,1,1,0,1,0,0,1,0,0,1,0,1,0,0]) 4 (fun a=>l6 2 U (LL U) ti (a:Int)) (fun a=>eR O U Z V J [cH (LL U) g,cH (LL U) (dy (bL U b t)),cH (LL U) (dy (uo U V J b t a))]::H) U (_,_) wO (fun a ha=>?_) ?_
 · have ec:bm .i64 (a:Int) (ofNat 1)=((a+1:Nat):Int):=eX wO
   have hC:=WQ n O U Z V J b H g t a hl hb ha ti
   rw[Kg,CY] at hC
   have T:=Pl (n+1) O U (LL U) Z V J H g (dy (bL U b t)) (dy (uo U V J b t a)) (dy (uo U V J b t (a+1))) ti (a:Int)
   rw[ec] at T
   refine aB T (ay _) (aZ (aj _ _) JW (fun x h=>by rw[← Tr.ae h];simp only[eB.st,aL];exact hC)) (ak _ _) ?_
   refine Tr.af (fun h0=>Tr.ai ⟨rfl,rfl⟩ (Tr.ag ⟨rfl,rfl⟩)) wJ
 · obtain ⟨x,h1,rfl⟩:=aB (Q:=fun x=>x=(.exit 4,l6 2 U (LL U) ti (ofNat U)++[(33,.bool false)],eR O U Z V J [cH (LL U) g,cH (LL U) (dy (bL U b t)),cH (LL U) (dy (uo U V J b t U))]::H)) (MV (n+1) O U (LL U) Z V J H g (dy (bL U b t)) (dy (uo U V J b t U)) ti (ofNat U)) (ay _) (cY (aj _ _) 6) (ak _ _) (by
    refine Tr.af wJ (fun h0=>Tr.ag rfl))
   exact h1
end
end Go.Eng
end
