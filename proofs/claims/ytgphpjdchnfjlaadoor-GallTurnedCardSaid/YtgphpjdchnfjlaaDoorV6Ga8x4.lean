/- Gall: CheckList: what it answers. -/
import Derived.Test.YtgphpjdchnfjlaaDoorV6Ga3x5
set_option linter.unusedVariables false
set_option linter.unusedSimpArgs false
set_option maxRecDepth 100000
section
namespace Go.Eng
open Int (ofNat)
open Go.Proofs Go.Eng.Gall
theorem yH {c f:Nat} {t:nK} {e:Bool} {C:List AV→Prop} (ht:t.Ok (cd c)) (h:∀ A H,C A→cd c (.fn f) A H=some (.bool e,H)):(gT t f (gB e C)).Ok (cd c):=by
 refine mz ht (fun args p v hg hp H=>?_);unfold gB at hg;simp only[nP] at hg;obtain ⟨rfl,rfl⟩:=hg;exact h _ H hp
theorem yI {c f:Nat} {t:nK} {S:AV} {C:List AV→Prop} (ht:t.Ok (cd c)) (h:∀ A H,C A→cd c (.fn f) A H=some (S,H)):(gT t f (fun x=>some (C x,S))).Ok (cd c):=by
 refine mz ht (fun args p v hg hp H=>?_);simp only[nP] at hg;obtain ⟨rfl,rfl⟩:=hg;exact h _ H hp
def gE (z:Nat→Int) (a b:Int) (i:Nat):Bool:=decide (a=z (i*2)) && decide (b=z (i*2+1))
def gI (U:Nat) (z:Nat→Int) (j:Nat):Bool:=decide (z (j*2)=z (j*2+1)) || (!(decide (0≤z (j*2)∧z (j*2)<U) && decide (0≤z (j*2+1)∧z (j*2+1)<U)) || dH (gE z (z (j*2)) (z (j*2+1))) j)
def bL (O:Int) (U:Nat) (Z:Nat→Int) (V:Nat) (J:Nat→Int):Int:=if U=0∨10<U∨40<V then 6 else if O<1∨100<O∨dH (jO Z) U=true then 3 else if dH (gI U J) V=true then 2 else if mf U (fun c=>fA J c V)=true then 16 else 0
theorem Ur (n:Nat) (O:Int) (U:Nat) (Z:Nat→Int) (V:Nat) (J:Nat→Int) (H:aa):bo Tryd.prog (cd (n+10)) 100000 22 Tryd.f22 (KtG.kt 22) (il (nL aK 59 gW) (n+10) 0) (gq aS 1) aR [(bj O U Z V J,none)] H =
 Tr.ite (aQ (cr (cr (dQ (ofNat 0) (aV .i64 (ofNat U) (ofNat 1))) (dQ (aV .i64 (ofNat U) (ofNat 1)) (ofNat 9))) true)) (Tr.ok ((iI 6,some 1),H)) (Tr.ite (bE (ofNat 40) (ofNat V)) (Tr.ok ((iI 6,some 1),H)) (Tr.ite (aQ (cr (cr (dQ (ofNat 1) O) (dQ O (ofNat 100))) true)) (Tr.ok ((iI 3,some 1),H)) Tr.bad)):=by kernel_rfl
theorem V5:∀ b,(0,b) ∈ aP (aZ Tryd.f86)→b=.loop (part Tryd.f86 [1,0,1,0,0]):=eA (by kernel_rfl)
theorem VZ:∀ b,(1,b) ∈ aP (aZ Tryd.f22)→b=.loop (part Tryd.f22 [1,1,1,1,0,1,0,0]):=eA (by kernel_rfl)
section
variable (n:Nat) (m:Nat) (z:Nat→Int) (full:Bool) (a b:Int) (H:aa)
theorem Wr (hm:m≤1000):cd (n+1) (.fn 86) [Og m z full,OX a b] H=some (.int .i64 (Dp (gE z a b) m),H):=by
 have lp:=jS (n:=n) (f:=86) (nt:=19) (c:=part Tryd.f86 [1,0,1,0,0]) 0 (fun j=>EK m z full (j:Int)) (fun _=>Lk a b::H) m (gE z a b) (fun j=>([(4,.int .i64 (j:Int))],Lk a b::H)) (EK m z full (ofNat m)++[(9,.bool false)],Lk a b::H) wO (fun j hj=>?_) ?_
 · refine bF (n:=n) Tryd.func86 rfl rfl rfl (YP n m z full a b H ((fN (gE z a b) m 0:Nat):Int) (dH (gE z a b) m)) (aA n) (az (ai _ _) V5 (fun x hx=>dV hx lp)) (aj _ _) ?_;refine Tr.al ⟨rfl,rfl⟩ (Tr.af (fun hc=>Tr.ag ⟨?_,rfl⟩) (fun hc=>Tr.ag ⟨?_,rfl⟩))
   · unfold Dp;rw[if_pos hc]
   · unfold Dp;rw[if_neg (by rw[hc];decide)];rfl
 · have ej:bm .i64 (j:Int) (ofNat 1)=((j+1:Nat):Int):=eg wO;have ei:au 0 (j:Int) 2=j*2:=by rw[bt];omega
   have hp:cr (bV a (z (j*2))) (bV b (z (j*2+1)))=gE z a b j:=by
    rw[ct,bg,bg];unfold gE;rw[Bool.eq_iff_iff];simp
   have T:=t86 n m z full a b H (j:Int);rw[ei,aI,ej,hp] at T;refine aw T (aA n) (ai _ _) (aj _ _) ?_;refine Tr.af (fun h0=>?_) wJ;refine Tr.ab wG (Tr.ab wG (Tr.ab wG ?_));refine Tr.af (fun q=>Tr.ag ?_) (fun q=>Tr.ag ?_)
   · rw[if_pos q];rfl
   · rw[if_neg (by rw[q];decide)];exact ⟨rfl,rfl⟩
 · obtain ⟨x,h1,rfl⟩:=aw (Q:=fun x=>x=(.exit 0,EK m z full (ofNat m)++[(9,.bool false)],Lk a b::H)) (t86 n m z full a b H (ofNat m)) (aA n) (ai _ _) (aj _ _) (by
    refine Tr.af wJ (fun h0=>Tr.ag rfl))
   exact h1
theorem Wg (hm:m≤1000):cd (n+2) (.fn 61) [Og m z full,OX a b] H=some (.bool (dH (gE z a b) m),H):=by
 have h:=fun H=>Wr n m z full a b H hm;refine bF (n:=n+1) Tryd.func61 rfl rfl rfl (YE (n+1) m z full a b H (Dp (gE z a b) m)) (bQ _ (n+1) (eJ (bp _) h)) (ai _ _) (aj _ _) ?_;refine Tr.al rfl (Tr.ag ⟨?_,rfl⟩);rw[BV]
end
section
variable (n:Nat) (O:Int) (U:Nat) (Z:Nat→Int) (V:Nat) (J:Nat→Int) (H:aa)
noncomputable def Th (a b:Int):bB:={ G7 O U Z V J with bs:=(G7 O U Z V J).bs++[(0,.row (.I .i64 [a,b])),(0,.dead)] }
noncomputable def Qi (a b:Int):bB:={ G7 O U Z V J with bs:=(G7 O U Z V J).bs++[(0,.row (.I .i64 [a,b])),(0,.row (.I .i64 [a,b]))] }
noncomputable def OW (j:Nat):bB:=if J (j*2)=J (j*2+1) then Th O U Z V J (J (j*2)) (J (j*2+1)) else Qi O U Z V J (J (j*2)) (J (j*2+1))
theorem X1 (h1:1≤U) (hl:U≤10) (hb:V≤40):exec (bN (n+10) 22 69) (.block 1 (.loop (part Tryd.f22 [1,1,1,1,0,1,0,0]))) (BF U V J (ofNat 0)) (G7 O U Z V J::H) =
 some (cond (dH (gI U J) V) (.ret,[(2,.int .i64 2)],OW O U Z V J (fN (gI U J) V 0)::H) (.normal,BF U V J (ofNat V)++[(38,.bool false)],G7 O U Z V J::H)):=by
 have s3:aV .i64 (ofNat U) (ofNat 1)=(U:Int)-1:=by rw[eI];exact jK (by show -9223372036854775808≤(U:Int)-1;omega) (by show (U:Int)-1≤_;omega)
 refine jS (n:=n+10) (f:=22) (nt:=69) (c:=part Tryd.f22 [1,1,1,1,0,1,0,0]) 1 (fun j=>BF U V J (j:Int)) (fun _=>G7 O U Z V J::H) V (gI U J) (fun j=>([(2,.int .i64 2)],OW O U Z V J j::H)) (_,_) wO (fun j hj=>?_) ?_
 · have ej:bm .i64 (j:Int) (ofNat 1)=((j+1:Nat):Int):=eg wO
   have ei:au 0 (j:Int) 2=j*2:=by rw[bt];omega
   have et:cC (j:Int)=j:=by rw[lX];omega
   have hin:aQ (cr (cr (dQ (ofNat 0) (J (j*2))) (dQ (J (j*2)) (aV .i64 (ofNat U) (ofNat 1)))) (cr (cr (dQ (ofNat 0) (J (j*2+1))) (dQ (J (j*2+1)) (aV .i64 (ofNat U) (ofNat 1)))) true))=!(decide (0≤J (j*2)∧J (j*2)<U) && decide (0≤J (j*2+1)∧J (j*2+1)<U)):=by
    rw[s3,aH,ct,ct,ct,ct,bu,bu,bu,bu];rw[Bool.eq_iff_iff];simp;omega
   have T:=t22 n O U Z V J H (j:Int) (dH (gE J (J (j*2)) (J (j*2+1))) j) (fun A=>A=[Og j J (cr false (cg j V)),OX (J (j*2)) (J (j*2+1))])
   rw[ei,aI,ej,et] at T
   rw[hin] at T
   refine aw T (bQ _ _ (by
    rw[show n+10=n+4+6 by omega];refine yJ (n:=n+4) (yH (bp _) (fun A H hA=>?_));subst hA;rw[show n+4+6=n+8+2 by omega];exact Wg (n+8) j J _ _ _ H wO)) (ai _ _) (aj _ _) ?_
   refine Tr.af (fun h0=>?_) wJ
   refine Tr.ab wG (Tr.ab wG (Tr.ab wG (Tr.ab wG (Tr.ab wG ?_))))
   refine Tr.af (fun q=>?_) (fun q=>?_)
   · have q:J (j*2)=J (j*2+1):=by rw[bg,beq_iff_eq] at q;exact q
     refine Tr.ag ?_
     rw[if_pos (by unfold gI;rw[decide_eq_true q];rfl)]
     unfold OW;rw[if_pos q];rfl
   · have q:¬ J (j*2)=J (j*2+1):=by rw[bg,beq_eq_false_iff_ne] at q;exact q
     have hX:OW O U Z V J j=Qi O U Z V J (J (j*2)) (J (j*2+1)):=by unfold OW;rw[if_neg q]
     refine Tr.ab wG (Tr.ab wG (Tr.af (fun r=>?_) (fun r=>?_)))
     · refine Tr.ag ?_
       rw[if_pos (by unfold gI;rw[r];simp),hX];rfl
     · refine Tr.ab wG (Tr.ab wG (Tr.al rfl (Tr.af (fun u=>?_) (fun u=>?_))))
       · refine Tr.ag ?_
         rw[if_pos (by unfold gI;rw[u];simp),hX];rfl
       · refine Tr.ag ?_
         rw[if_neg (by unfold gI;rw[u,r,decide_eq_false q];simp)]
         exact ⟨rfl,rfl⟩
 · obtain ⟨x,h1,rfl⟩:=aw (Q:=fun x=>x=(.exit 1,BF U V J (ofNat V)++[(38,.bool false)],G7 O U Z V J::H)) (t22 n O U Z V J H (ofNat V) true (fun A=>False)) (bQ _ _ (by
    rw[show n+10=n+4+6 by omega];exact yJ (n:=n+4) (yH (bp _) (fun A H hA=>hA.elim)))) (ai _ _) (aj _ _) (by
    refine Tr.af wJ (fun h0=>Tr.ag rfl))
   exact h1
theorem pY {U V:Nat} {J:Nat→Int} (h:dH (gI U J) V=false):fW U V J:=fun j hj=>by
 have:=pd h j hj;unfold gI at this;simp only[Bool.or_eq_false_iff,Bool.not_eq_false',Bool.and_eq_true,decide_eq_true_eq] at this;exact ⟨this.2.1.1,this.2.1.2⟩
theorem RW (hl:U≤1000) (hb:V≤1000):cd (n+11) (.fn 22) [bj O U Z V J] H=some (.int .i64 (bL O U Z V J),H):=by
 have s3:aV .i64 (ofNat U) (ofNat 1)=(U:Int)-1:=by rw[eI];exact jK (by show -9223372036854775808≤(U:Int)-1;omega) (by show (U:Int)-1≤_;omega)
 have hv:=fun h:dH (jO Z) U=false=>(pd h:wU U Z)
 have ht:(gT (gT (nL (gT aK 60 (gB (dH (jO Z) U) (fun A=>A=[slA 4 U Z,.fn (.func 58) [] []]))) 59 gW) 62 (fun x=>some (x=[bj O U Z V J]∧(U≤10∧(1≤O∧O≤100)∧wU U Z∧fW U V J),Lw O U Z V J))) 63 (gB (mf U (fun c=>fA J c V)) (fun A=>A=[Lw O U Z V J]∧(U≤10∧fW U V J)))).Ok (cd (n+10)):=by
  refine yH (yI ?_ (fun A H hA=>?_)) (fun A H hA=>?_)
  · rw[show n+10=n+4+6 by omega];refine yJ (n:=n+4) (yH (bp _) (fun A H hA=>?_));subst hA;rw[show n+4+6=n+10 by omega];exact Wf n U Z H hl
  · obtain ⟨rfl,a1,a2,a3,a4⟩:=hA;rw[show n+10=n+3+7 by omega];exact RZ (n+3) O U Z V J H a1 hb a2 a3 a4
  · obtain ⟨rfl,a1,a4⟩:=hA;rw[show n+10=n+8+2 by omega];exact Wh (n+8) O U Z V J (dg O U Z) (fun c=>fA J c V) H a1 (fun c _=>Nat.lt_of_lt_of_le (qf J c U V (fun i hi=>(a4 i hi).1)) (Nat.pow_le_pow_right (by decide) wO))
 by_cases k0:1≤U∧U≤10∧V≤40
 · obtain ⟨k1,k2,k3⟩:=k0;refine bF (n:=n+10) Tryd.func22 rfl rfl rfl (Yy n O U Z V J H (OW O U Z V J (fN (gI U J) V 0)) (dH (jO Z) U) (mf U (fun c=>fA J c V)) (dH (gI U J) V) (fun A=>A=[slA 4 U Z,.fn (.func 58) [] []]) (fun A=>A=[bj O U Z V J]∧(U≤10∧(1≤O∧O≤100)∧wU U Z∧fW U V J)) (fun A=>A=[Lw O U Z V J]∧(U≤10∧fW U V J)) (Lw O U Z V J)) (bQ _ _ ht) (az (ai _ _) VZ (fun y h=>dV h (X1 n O U Z V J H k1 k2 k3))) (aj _ _) ?_;have hG:bL O U Z V J=if O<1∨100<O∨dH (jO Z) U=true then 3 else if dH (gI U J) V=true then 2 else if mf U (fun c=>fA J c V)=true then 16 else 0:=by unfold bL;rw[if_neg wO]
   rw[hG,s3];refine Tr.af (fun q=>?_) (fun q=>?_)
   · exfalso;rw[aH,ct,ct,bu,bu] at q;simp at q;omega
   refine Tr.af wJ (fun q=>?_);refine Tr.af (fun q=>?_) (fun q=>?_)
   · rw[aH,ct,ct,bu,bu] at q;simp at q;rw[if_pos wO];exact Tr.ag ⟨rfl,rfl⟩
   · rw[aH,ct,ct,bu,bu] at q;simp at q;refine Tr.al rfl (Tr.af (fun r=>?_) (fun r=>?_))
     · rw[if_pos (.inr (.inr r))];exact Tr.ag ⟨rfl,rfl⟩
     · rw[if_neg (by rintro (h | h | h);omega;omega;rw[r] at h;cases h)];refine Tr.al ⟨by rw[← s3],by rw[← s3]⟩ (Tr.af (fun u=>?_) (fun u=>?_))
       · rw[if_pos u];exact Tr.ag ⟨rfl,rfl⟩
       · rw[if_neg (by rw[u];decide)];refine Tr.al ⟨rfl,k2,by omega,hv r,pY u⟩ (Tr.al ⟨rfl,k2,pY u⟩ (Tr.af (fun w=>?_) (fun w=>?_)))
         · rw[if_pos w];exact Tr.ag ⟨rfl,rfl⟩
         · rw[if_neg (by rw[w];decide)];exact Tr.ag ⟨rfl,rfl⟩
 · refine bF (n:=n+10) Tryd.func22 rfl rfl rfl (Ur n O U Z V J H) (bQ _ _ (by
    rw[show n+10=n+4+6 by omega];exact yJ (n:=n+4) (bp _))) (c8 (ai _ _) 1) (aj _ _) ?_
   have hG:bL O U Z V J=6:=by unfold bL;rw[if_pos wO]
   rw[hG,s3];refine Tr.af (fun q=>Tr.ag ⟨rfl,rfl⟩) (fun q=>?_);refine Tr.af (fun q=>Tr.ag ⟨rfl,rfl⟩) (fun q2=>?_);exfalso;rw[aH,ct,ct,bu,bu] at q;simp at q;simp (disch:=omega) only[nV,nW] at q2;omega
end
end Go.Eng
end
section
namespace Go.Eng
open Int (ofNat)
open Go.Proofs
noncomputable def fS (O:Int) (U:Nat) (Z:Nat→Int) (V:Nat) (J:Nat→Int):bB:=⟨false,[(0,.row (.G [.int .i64 O,slA 4 U Z,slA 2 V J]))]⟩
noncomputable def EI (a b j:Int):aD:=[(1,.int .i64 a),(2,.int .i64 b),(3,.ptr 0 0 0 0),(7,.int .i64 j)]
noncomputable def fb (O:Int) (U:Nat) (Z:Nat→Int) (V:Nat) (J:Nat→Int) (bs:List (Nat×ak)):bB:=⟨false,(0,.row (.G [.int .i64 O,slA 4 U Z,slA 2 V J]))::bs⟩
noncomputable def cN (L:Nat) (y:Nat→Int):Nat×ak:=(0,.row (.M [.arr .i64 y L]))
noncomputable def nE (i U L:Nat) (s:Nat) (j:Int):aD:=[(1,.ptr 0 0 0 0),(3,.int .i64 (ofNat U)),(4,.slc 0 i 0 0 1 L (some L)),(s,.int .i64 j)]
noncomputable def BH (U L:Nat) (j:Int):aD:=[(3,.int .i64 (ofNat U)),(4,.slc 0 2 0 0 1 L (some L)),(10,.int .i64 j)]
noncomputable def mE (i U L:Nat) (t a:Int):aD:=[(1,.ptr 0 0 0 0),(3,.int .i64 (ofNat U)),(4,.slc 0 i 0 0 1 L (some L)),(6,.int .i64 t),(7,.slc 0 (Nat.succ i) 0 0 1 L (some L)),(8,.int .i64 a)]
noncomputable def pn (i U L:Nat) (t a c:Int):aD:=mE i U L t a++[(9,.int .i64 c)]
noncomputable def RF (A:AV) (P:Int→Int→Bool):List AV→Option (Prop×AV)
 | [B,.int .i64 a,.int .i64 c]=>some (B=A,.bool (P a c))
 | _=>none
theorem t79 (n:Nat) (O:Int) (U:Nat) (Z:Nat→Int) (V:Nat) (J:Nat→Int) (H:aa) (a b j:Int):aJ (bN n 79 24) (il aK n 0) aS aR (part Tryd.f79 [1,0,1,0,0]) (hints (EI a b j)) (fS O U Z V J::H) =
 Tr.ite (bE j (ofNat V)) (Tr.req (cQ j V) (Tr.req (cK (au 0 j 2) (bR V 2)) (Tr.req (cK (ar (au 0 j 2) 1) (bR V 2)) (Tr.ite (cr (bV (J (au 0 j 2)) a) (bV (J (ar (au 0 j 2) 1)) b)) (Tr.ok (Ex.ret,[(6,AV.bool true,some 1)],(bh [(0,b8 O U Z V J)])::H)) (Tr.ok (Ex.normal,[(1,AV.int .i64 a,none),(2,AV.int .i64 b,none),(3,AV.ptr 0 0 0 0,none),(7,AV.int .i64 (bm .i64 j (ofNat 1)),none)],(bh [(0,b8 O U Z V J)])::H)))))) (Tr.ok (Ex.exit 0,[(1,AV.int .i64 a,none),(2,AV.int .i64 b,none),(3,AV.ptr 0 0 0 0,none),(7,AV.int .i64 j,none),(12,AV.bool false,some 1)],(bh [(0,b8 O U Z V J)])::H)):=by kernel_rfl
theorem YL (n:Nat) (O:Int) (U:Nat) (Z:Nat→Int) (V:Nat) (J:Nat→Int) (H:aa) (a b:Int) (e:Bool):bo Tryd.prog (cd n) 100000 79 Tryd.f79 (KtG.kt 79) (il aK n 0) (bP aS 0 (EI a b (ofNat 0)) (fS O U Z V J::H) (.ite e (.ok (.ret,[(6,.bool true,none)],fS O U Z V J::H)) (.ok (.normal,hints (EI a b (ofNat V)++[(12,.bool false)]),fS O U Z V J::H)))) aR [(bj O U Z V J,none),(.int .i64 a,none),(.int .i64 b,none)] H =
 Tr.reqP ([(1,AV.int .i64 a),(2,AV.int .i64 b),(3,AV.ptr 0 0 0 0),(7,iI 0)]=[(1,AV.int .i64 a),(2,AV.int .i64 b),(3,AV.ptr 0 0 0 0),(7,iI 0)]∧(bh [(0,b8 O U Z V J)])::H=(bh [(0,b8 O U Z V J)])::H) (Tr.ite e (Tr.ok ((AV.bool true,none),H)) (Tr.ok ((AV.bool false,some 1),H))):=by kernel_rfl
theorem Q1 (n:Nat) (O:Int) (U L:Nat) (Z:Nat→Int) (V:Nat) (J:Nat→Int) (H:aa) (y:Nat→Int) (j:Int):aJ (bN n 64 66) (il aK n 0) aS aR (part Tryd.f64 [1,1,1,0,1,0,0]) (hints (nE 1 U L 5 j)) (fb O U Z V J [cN L y]::H) =
 Tr.ite (bE j (ofNat U)) (Tr.req (cQ j L) (Tr.req (cg 0 0) (Tr.req (cK (au 0 j 1) L) (Tr.ok (Ex.normal,[(1,AV.ptr 0 0 0 0,none),(3,iI U,none),(4,AV.slc 0 1 0 0 1 L (some L),none),(5,AV.int .i64 (bm .i64 j (ofNat 1)),none)],(bh [(0,b8 O U Z V J),(0,ak.row (rM (eB y (au 0 j 1) (ofNat 1)) L))])::H))))) (Tr.ok (Ex.exit 0,[(1,AV.ptr 0 0 0 0,none),(3,iI U,none),(4,AV.slc 0 1 0 0 1 L (some L),none),(5,AV.int .i64 j,none),(18,AV.bool false,some 1)],(bh [(0,b8 O U Z V J),(0,ak.row (rM y L))])::H)):=by kernel_rfl
theorem LG (n:Nat) (O:Int) (U L:Nat) (Z:Nat→Int) (V:Nat) (J:Nat→Int) (H:aa) (y x:Nat→Int) (P:Int→Int→Bool) (t a c:Int):aJ (bN n 64 66) (il (gT aK 79 (RF (bj O U Z V J) P)) n 0) aS aR (part Tryd.f64 [1,1,1,1,0,1,0,0,1,0,0,1,0,1,0,0,1,0,0,1,0,0]) (hints (pn 1 U L t a c)) (fb O U Z V J [cN L y,cN L x]::H) =
 (fun (Z0:aO)=>((fun (Z1:bB)=>Tr.ite (bE c (ofNat U)) (Tr.req (cQ a L) (Tr.req (cg 0 0) (Tr.req (cK (au 0 a 1) L) (Tr.ite (bV (y (au 0 a 1)) (ofNat 1)) (Tr.reqP (bj O U Z V J=bj O U Z V J) (Tr.ite (P a c) (Tr.req (cQ c L) (Tr.req (cg 0 0) (Tr.req (cK (au 0 c 1) L) (Tr.ok (Ex.normal,Z0,(bh [(0,b8 O U Z V J),(0,ak.row (rM y L)),(0,ak.row (rM (eB x (au 0 c 1) (ofNat 1)) L))])::H))))) (Tr.ok (Ex.normal,Z0,Z1::H)))) (Tr.ok (Ex.normal,Z0,Z1::H)))))) (Tr.ok (Ex.exit 6,[(1,AV.ptr 0 0 0 0,none),(3,iI U,none),(4,AV.slc 0 1 0 0 1 L (some L),none),(6,AV.int .i64 t,none),(7,AV.slc 0 2 0 0 1 L (some L),none),(8,AV.int .i64 a,none),(9,AV.int .i64 c,none),(38,AV.bool false,some 1)],Z1::H))) (bh [(0,b8 O U Z V J),(0,ak.row (rM y L)),(0,ak.row (rM x L))]))) [(1,AV.ptr 0 0 0 0,none),(3,iI U,none),(4,AV.slc 0 1 0 0 1 L (some L),none),(6,AV.int .i64 t,none),(7,AV.slc 0 2 0 0 1 L (some L),none),(8,AV.int .i64 a,none),(9,AV.int .i64 (bm .i64 c (ofNat 1)),none)]:=by kernel_rfl
theorem Q2 (n:Nat) (O:Int) (U L:Nat) (Z:Nat→Int) (V:Nat) (J:Nat→Int) (H:aa) (y x x':Nat→Int) (t a:Int):aJ (bN n 64 66) (il aK n 0) (bP aS 6 (pn 1 U L t a (ofNat 0)) (fb O U Z V J [cN L y,cN L x]::H) (.ok (.normal,hints (pn 1 U L t a (ofNat U)++[(38,.bool false)]),(fb O U Z V J [cN L y,cN L x']::H)))) aR (part Tryd.f64 [1,1,1,1,0,1,0,0,1,0,0,1,0,1,0,0]) (hints (mE 1 U L t a)) (fb O U Z V J [cN L y,cN L x]::H) =
 (fun (Z0:aD)=>((fun (Z1:bB)=>Tr.ite (bE a (ofNat U)) (Tr.reqP (Z0=Z0∧Z1::H=Z1::H) (Tr.ok (Ex.normal,[(1,AV.ptr 0 0 0 0,none),(3,iI U,none),(4,AV.slc 0 1 0 0 1 L (some L),none),(6,AV.int .i64 t,none),(7,AV.slc 0 2 0 0 1 L (some L),none),(8,AV.int .i64 (bm .i64 a (ofNat 1)),none)],(bh [(0,b8 O U Z V J),(0,ak.row (rM y L)),(0,ak.row (rM x' L))])::H))) (Tr.ok (Ex.exit 4,[(1,AV.ptr 0 0 0 0,none),(3,iI U,none),(4,AV.slc 0 1 0 0 1 L (some L),none),(6,AV.int .i64 t,none),(7,AV.slc 0 2 0 0 1 L (some L),none),(8,AV.int .i64 a,none),(33,AV.bool false,some 1)],Z1::H))) (bh [(0,b8 O U Z V J),(0,ak.row (rM y L)),(0,ak.row (rM x L))]))) [(1,AV.ptr 0 0 0 0),(3,iI U),(4,AV.slc 0 1 0 0 1 L (some L)),(6,AV.int .i64 t),(7,AV.slc 0 2 0 0 1 L (some L)),(8,AV.int .i64 a),(9,iI 0)]:=by kernel_rfl
theorem Q5 (n:Nat) (O:Int) (U:Nat) (Z:Nat→Int) (V:Nat) (J:Nat→Int) (H:aa) (y x':Nat→Int) (t:Int):aJ (bN n 64 66) (il aK n 0) (bP aS 4 (mE 1 U (cC (ofNat U)) t (ofNat 0)) (fb O U Z V J [cN (cC (ofNat U)) y,cN (cC (ofNat U)) (fun _=>ofNat 0)]::H) (.ok (.normal,hints (mE 1 U (cC (ofNat U)) t (ofNat U)++[(33,.bool false)]),(fb O U Z V J [cN (cC (ofNat U)) y,cN (cC (ofNat U)) x']::H)))) aR (part Tryd.f64 [1,1,1,1,0,1,0,0]) (hints (nE 1 U (cC (ofNat U)) 6 t)) (fb O U Z V J [cN (cC (ofNat U)) y]::H) =
 (fun (Z0:aD)=>((fun (Z1:bB)=>Tr.ite (bE t (ofNat U)) (Tr.req (FL (ofNat U) (ofNat U) 8) (Tr.reqP (Z0=Z0∧Z1::H=Z1::H) (Tr.ok (Ex.normal,[(1,AV.ptr 0 0 0 0,none),(3,iI U,none),(4,AV.slc 0 2 0 0 1 (cC (ofNat U)) (some (cC (ofNat U))),none),(6,AV.int .i64 (bm .i64 t (ofNat 1)),none)],(bh [(0,b8 O U Z V J),(0,ak.row (rM y (cC (ofNat U)))),(0,ak.row (rM x' (cC (ofNat U))))])::H)))) (Tr.ok (Ex.exit 2,[(1,AV.ptr 0 0 0 0,none),(3,iI U,none),(4,AV.slc 0 1 0 0 1 (cC (ofNat U)) (some (cC (ofNat U))),none),(6,AV.int .i64 t,none),(26,AV.bool false,some 1)],(bh [(0,b8 O U Z V J),(0,ak.row (rM y (cC (ofNat U))))])::H))) (bh [(0,b8 O U Z V J),(0,ak.row (rM y (cC (ofNat U)))),(0,ak.row (rM (fun x=>ofNat 0) (cC (ofNat U))))]))) [(1,AV.ptr 0 0 0 0),(3,iI U),(4,AV.slc 0 1 0 0 1 (cC (ofNat U)) (some (cC (ofNat U)))),(6,AV.int .i64 t),(7,AV.slc 0 2 0 0 1 (cC (ofNat U)) (some (cC (ofNat U)))),(8,iI 0)]:=by kernel_rfl
theorem LH (n:Nat) (O:Int) (U L:Nat) (Z:Nat→Int) (V:Nat) (J:Nat→Int) (H:aa) (g:Nat→Int) (y x:Nat→Int) (P:Int→Int→Bool) (t a c:Int):aJ (bN n 64 66) (il (gT aK 79 (RF (bj O U Z V J) P)) n 0) aS aR (part Tryd.f64 [1,1,1,1,0,1,0,0,1,0,0,1,0,1,0,0,1,0,0,1,0,0]) (hints (pn 2 U L t a c)) (fb O U Z V J [cN L g,cN L y,cN L x]::H) =
 (fun (Z0:aO)=>((fun (Z1:bB)=>Tr.ite (bE c (ofNat U)) (Tr.req (cQ a L) (Tr.req (cg 0 0) (Tr.req (cK (au 0 a 1) L) (Tr.ite (bV (y (au 0 a 1)) (ofNat 1)) (Tr.reqP (bj O U Z V J=bj O U Z V J) (Tr.ite (P a c) (Tr.req (cQ c L) (Tr.req (cg 0 0) (Tr.req (cK (au 0 c 1) L) (Tr.ok (Ex.normal,Z0,(bh [(0,b8 O U Z V J),(0,ak.row (rM g L)),(0,ak.row (rM y L)),(0,ak.row (rM (eB x (au 0 c 1) (ofNat 1)) L))])::H))))) (Tr.ok (Ex.normal,Z0,Z1::H)))) (Tr.ok (Ex.normal,Z0,Z1::H)))))) (Tr.ok (Ex.exit 6,[(1,AV.ptr 0 0 0 0,none),(3,iI U,none),(4,AV.slc 0 2 0 0 1 L (some L),none),(6,AV.int .i64 t,none),(7,AV.slc 0 3 0 0 1 L (some L),none),(8,AV.int .i64 a,none),(9,AV.int .i64 c,none),(38,AV.bool false,some 1)],Z1::H))) (bh [(0,b8 O U Z V J),(0,ak.row (rM g L)),(0,ak.row (rM y L)),(0,ak.row (rM x L))]))) [(1,AV.ptr 0 0 0 0,none),(3,iI U,none),(4,AV.slc 0 2 0 0 1 L (some L),none),(6,AV.int .i64 t,none),(7,AV.slc 0 3 0 0 1 L (some L),none),(8,AV.int .i64 a,none),(9,AV.int .i64 (bm .i64 c (ofNat 1)),none)]:=by kernel_rfl
theorem Q3 (n:Nat) (O:Int) (U L:Nat) (Z:Nat→Int) (V:Nat) (J:Nat→Int) (H:aa) (g:Nat→Int) (y x x':Nat→Int) (t a:Int):aJ (bN n 64 66) (il aK n 0) (bP aS 6 (pn 2 U L t a (ofNat 0)) (fb O U Z V J [cN L g,cN L y,cN L x]::H) (.ok (.normal,hints (pn 2 U L t a (ofNat U)++[(38,.bool false)]),(fb O U Z V J [cN L g,cN L y,cN L x']::H)))) aR (part Tryd.f64 [1,1,1,1,0,1,0,0,1,0,0,1,0,1,0,0]) (hints (mE 2 U L t a)) (fb O U Z V J [cN L g,cN L y,cN L x]::H) =
 (fun (Z0:bB)=>((fun (Z1:aD)=>Tr.ite (bE a (ofNat U)) (Tr.reqP (Z1=Z1∧Z0::H=Z0::H) (Tr.ok (Ex.normal,[(1,AV.ptr 0 0 0 0,none),(3,iI U,none),(4,AV.slc 0 2 0 0 1 L (some L),none),(6,AV.int .i64 t,none),(7,AV.slc 0 3 0 0 1 L (some L),none),(8,AV.int .i64 (bm .i64 a (ofNat 1)),none)],(bh [(0,b8 O U Z V J),(0,ak.row (rM g L)),(0,ak.row (rM y L)),(0,ak.row (rM x' L))])::H))) (Tr.ok (Ex.exit 4,[(1,AV.ptr 0 0 0 0,none),(3,iI U,none),(4,AV.slc 0 2 0 0 1 L (some L),none),(6,AV.int .i64 t,none),(7,AV.slc 0 3 0 0 1 L (some L),none),(8,AV.int .i64 a,none),(33,AV.bool false,some 1)],Z0::H))) [(1,AV.ptr 0 0 0 0),(3,iI U),(4,AV.slc 0 2 0 0 1 L (some L)),(6,AV.int .i64 t),(7,AV.slc 0 3 0 0 1 L (some L)),(8,AV.int .i64 a),(9,iI 0)])) (bh [(0,b8 O U Z V J),(0,ak.row (rM g L)),(0,ak.row (rM y L)),(0,ak.row (rM x L))]):=by kernel_rfl
theorem Q6 (n:Nat) (O:Int) (U:Nat) (Z:Nat→Int) (V:Nat) (J:Nat→Int) (H:aa) (g:Nat→Int) (y x':Nat→Int) (t:Int):aJ (bN n 64 66) (il aK n 0) (bP aS 4 (mE 2 U (cC (ofNat U)) t (ofNat 0)) (fb O U Z V J [cN (cC (ofNat U)) g,cN (cC (ofNat U)) y,cN (cC (ofNat U)) (fun _=>ofNat 0)]::H) (.ok (.normal,hints (mE 2 U (cC (ofNat U)) t (ofNat U)++[(33,.bool false)]),(fb O U Z V J [cN (cC (ofNat U)) g,cN (cC (ofNat U)) y,cN (cC (ofNat U)) x']::H)))) aR (part Tryd.f64 [1,1,1,1,0,1,0,0]) (hints (nE 2 U (cC (ofNat U)) 6 t)) (fb O U Z V J [cN (cC (ofNat U)) g,cN (cC (ofNat U)) y]::H) =
 (fun (Z0:aD)=>((fun (Z1:bB)=>Tr.ite (bE t (ofNat U)) (Tr.req (FL (ofNat U) (ofNat U) 8) (Tr.reqP (Z0=Z0∧Z1::H=Z1::H) (Tr.ok (Ex.normal,[(1,AV.ptr 0 0 0 0,none),(3,iI U,none),(4,AV.slc 0 3 0 0 1 (cC (ofNat U)) (some (cC (ofNat U))),none),(6,AV.int .i64 (bm .i64 t (ofNat 1)),none)],(bh [(0,b8 O U Z V J),(0,ak.row (rM g (cC (ofNat U)))),(0,ak.row (rM y (cC (ofNat U)))),(0,ak.row (rM x' (cC (ofNat U))))])::H)))) (Tr.ok (Ex.exit 2,[(1,AV.ptr 0 0 0 0,none),(3,iI U,none),(4,AV.slc 0 2 0 0 1 (cC (ofNat U)) (some (cC (ofNat U))),none),(6,AV.int .i64 t,none),(26,AV.bool false,some 1)],(bh [(0,b8 O U Z V J),(0,ak.row (rM g (cC (ofNat U)))),(0,ak.row (rM y (cC (ofNat U))))])::H))) (bh [(0,b8 O U Z V J),(0,ak.row (rM g (cC (ofNat U)))),(0,ak.row (rM y (cC (ofNat U)))),(0,ak.row (rM (fun x=>ofNat 0) (cC (ofNat U))))]))) [(1,AV.ptr 0 0 0 0),(3,iI U),(4,AV.slc 0 2 0 0 1 (cC (ofNat U)) (some (cC (ofNat U)))),(6,AV.int .i64 t),(7,AV.slc 0 3 0 0 1 (cC (ofNat U)) (some (cC (ofNat U)))),(8,iI 0)]:=by kernel_rfl
end Go.Eng
end
section
namespace Go.Eng
open Int (ofNat)
open Go.Proofs Go.Eng.Gall
def p8 (V:Nat) (J:Nat→Int) (a c:Int):Bool:=dH (gE J a c) V
theorem V3:∀ b,(0,b) ∈ aP (aZ Tryd.f79)→b=.loop (part Tryd.f79 [1,0,1,0,0]):=eA (by kernel_rfl)
theorem Pa:∀ b,(0,b) ∈ aP (aZ Tryd.f64)→b=.loop (part Tryd.f64 [1,1,1,0,1,0,0]):=eA (by kernel_rfl)
theorem Pb:∀ b,(2,b) ∈ aP (aZ Tryd.f64)→b=.loop (part Tryd.f64 [1,1,1,1,0,1,0,0]):=eA (by kernel_rfl)
theorem Pc:∀ b,(8,b) ∈ aP (aZ Tryd.f64)→b=.loop (part Tryd.f64 [1,1,1,1,1,0,1,0,0]):=eA (by kernel_rfl)
theorem KY:∀ b,(4,b) ∈ aP (part Tryd.f64 [1,1,1,1,0,1,0,0])→b=.loop (part Tryd.f64 [1,1,1,1,0,1,0,0,1,0,0,1,0,1,0,0]):=eA (by kernel_rfl)
theorem KZ:∀ b,(6,b) ∈ aP (part Tryd.f64 [1,1,1,1,0,1,0,0,1,0,0,1,0,1,0,0])→b=.loop (part Tryd.f64 [1,1,1,1,0,1,0,0,1,0,0,1,0,1,0,0,1,0,0,1,0,0]):=eA (by kernel_rfl)
theorem Q4 (n:Nat) (O:Int) (U L:Nat) (Z:Nat→Int) (V:Nat) (J:Nat→Int) (H:aa) (g y:Nat→Int) (j:Int):aJ (bN n 64 66) (il aK n 0) aS aR (part Tryd.f64 [1,1,1,1,1,0,1,0,0]) (hints (BH U L j)) (fb O U Z V J [cN L g,cN L y]::H) =
 (fun (Z0:bB)=>Tr.ite (bE j (ofNat U)) (Tr.req (cQ j L) (Tr.req (cg 0 0) (Tr.req (cK (au 0 j 1) L) (Tr.ite (bV (y (au 0 j 1)) (ofNat 1)) (Tr.ok (Ex.ret,[(2,AV.bool true,some 1)],Z0::H)) (Tr.ok (Ex.normal,[(3,iI U,none),(4,AV.slc 0 2 0 0 1 L (some L),none),(10,AV.int .i64 (bm .i64 j (ofNat 1)),none)],Z0::H)))))) (Tr.ok (Ex.exit 8,[(3,iI U,none),(4,AV.slc 0 2 0 0 1 L (some L),none),(10,AV.int .i64 j,none),(58,AV.bool false,some 1)],Z0::H))) (bh [(0,b8 O U Z V J),(0,ak.row (rM g L)),(0,ak.row (rM y L))]):=by kernel_rfl
theorem u64 (n:Nat) (O:Int) (U:Nat) (Z:Nat→Int) (V:Nat) (J:Nat→Int) (H:aa) (y0 g y:Nat→Int) (e:Bool):bo Tryd.prog (cd n) 100000 64 Tryd.f64 (KtG.kt 64) (il aK n 0) (bP (bP (bP aS 0 (nE 1 U (cC (ofNat U)) 5 (ofNat 0)) (fb O U Z V J [cN (cC (ofNat U)) (fun _=>ofNat 0)]::H) (.ok (.normal,hints (nE 1 U (cC (ofNat U)) 5 (ofNat U)++[(18,.bool false)]),fb O U Z V J [cN (cC (ofNat U)) y0]::H))) 2 (nE 1 U (cC (ofNat U)) 6 (ofNat 0)) (fb O U Z V J [cN (cC (ofNat U)) y0]::H) (.ok (.normal,hints (nE 2 U (cC (ofNat U)) 6 (ofNat U)++[(26,.bool false)]),fb O U Z V J [cN (cC (ofNat U)) g,cN (cC (ofNat U)) y]::H))) 8 (BH U (cC (ofNat U)) (ofNat 0)) (fb O U Z V J [cN (cC (ofNat U)) g,cN (cC (ofNat U)) y]::H) (.ite e (.ok (.ret,[(2,.bool true,none)],fb O U Z V J [cN (cC (ofNat U)) g,cN (cC (ofNat U)) y]::H)) (.ok (.normal,hints (BH U (cC (ofNat U)) (ofNat U)++[(58,.bool false)]),fb O U Z V J [cN (cC (ofNat U)) g,cN (cC (ofNat U)) y]::H)))) aR [(bj O U Z V J,none)] H =
 (fun (Z0:Nat×AV)=>((fun (Z1:bB)=>((fun (Z2:aD)=>((fun (Z3:bB)=>Tr.req (FL (ofNat U) (ofNat U) 8) (Tr.reqP ([(1,AV.ptr 0 0 0 0),(3,iI U),Z0,(5,iI 0)]=[(1,AV.ptr 0 0 0 0),(3,iI U),Z0,(5,iI 0)]∧Z3::H=Z3::H) (Tr.reqP ([(1,AV.ptr 0 0 0 0),(3,iI U),Z0,(6,iI 0)]=[(1,AV.ptr 0 0 0 0),(3,iI U),Z0,(6,iI 0)]∧(bh [(0,b8 O U Z V J),(0,ak.row (rM y0 (cC (ofNat U))))])::H=(bh [(0,b8 O U Z V J),(0,ak.row (rM y0 (cC (ofNat U))))])::H) (Tr.reqP (Z2=Z2∧Z1::H=Z1::H) (Tr.ite e (Tr.ok ((AV.bool true,none),H)) (Tr.ok ((AV.bool false,some 1),H))))))) (bh [(0,b8 O U Z V J),(0,ak.row (rM (fun x=>ofNat 0) (cC (ofNat U))))]))) [(3,iI U),(4,AV.slc 0 2 0 0 1 (cC (ofNat U)) (some (cC (ofNat U)))),(10,iI 0)])) (bh [(0,b8 O U Z V J),(0,ak.row (rM g (cC (ofNat U)))),(0,ak.row (rM y (cC (ofNat U))))]))) (4,AV.slc 0 1 0 0 1 (cC (ofNat U)) (some (cC (ofNat U)))):=by kernel_rfl
section
variable (n:Nat) (O:Int) (U:Nat) (Z:Nat→Int) (V:Nat) (J:Nat→Int) (H:aa)
theorem Wn (a b:Int) (hm:V≤1000):cd (n+1) (.fn 79) [bj O U Z V J,.int .i64 a,.int .i64 b] H=some (.bool (p8 V J a b),H):=by
 have lp:=jS (n:=n) (f:=79) (nt:=24) (c:=part Tryd.f79 [1,0,1,0,0]) 0 (fun j=>EI a b (j:Int)) (fun _=>fS O U Z V J::H) V (gE J a b) (fun j=>([(6,.bool true)],fS O U Z V J::H)) (EI a b (ofNat V)++[(12,.bool false)],fS O U Z V J::H) wO (fun j hj=>?_) ?_
 · refine bF (n:=n) Tryd.func79 rfl rfl rfl (YL n O U Z V J H a b (dH (gE J a b) V)) (aA n) (az (ai _ _) V3 (fun x hx=>dV hx lp)) (aj _ _) ?_;refine Tr.al ⟨rfl,rfl⟩ (Tr.af (fun hc=>Tr.ag ⟨?_,rfl⟩) (fun hc=>Tr.ag ⟨?_,rfl⟩))
   · unfold p8;rw[hc]
   · unfold p8;rw[hc]
 · have ej:bm .i64 (j:Int) (ofNat 1)=((j+1:Nat):Int):=eg wO;have ei:au 0 (j:Int) 2=j*2:=by rw[bt];omega
   have hp:cr (bV (J (j*2)) a) (bV (J (j*2+1)) b)=gE J a b j:=by
    rw[ct,bg,bg];unfold gE;rw[Bool.eq_iff_iff];simp;constructor<;>(rintro ⟨h1,h2⟩;exact ⟨h1.symm,h2.symm⟩)
   have T:=t79 n O U Z V J H a b (j:Int);rw[ei,aI,ej,hp] at T;refine aw T (aA n) (ai _ _) (aj _ _) ?_;refine Tr.af (fun h0=>?_) wJ;refine Tr.ab wG (Tr.ab wG (Tr.ab wG ?_));refine Tr.af (fun q=>Tr.ag ?_) (fun q=>Tr.ag ?_)
   · rw[if_pos q];rfl
   · rw[if_neg (by rw[q];decide)];exact ⟨rfl,rfl⟩
 · obtain ⟨x,h1,rfl⟩:=aw (Q:=fun x=>x=(.exit 0,EI a b (ofNat V)++[(12,.bool false)],fS O U Z V J::H)) (t79 n O U Z V J H a b (ofNat V)) (aA n) (ai _ _) (aj _ _) (by
    refine Tr.af wJ (fun h0=>Tr.ag rfl))
   exact h1
theorem xo {c:Nat} (hc:0<c) (hm:V≤1000):(gT aK 79 (RF (bj O U Z V J) (p8 V J))).Ok (cd c):=by
 obtain ⟨m,rfl⟩:∃ m,c=m+1:=⟨c-1,by omega⟩
 refine mz (bp _) (fun args p v hg hp H=>?_);unfold RF at hg;split at hg
 · simp only[nP] at hg;obtain ⟨rfl,rfl⟩:=hg;rw[hp];exact Wn m O U Z V J H _ _ hm
 · cases hg
def dz (p:Nat→Bool) (j:Nat):Int:=if p j=true then 1 else 0
def u9 (U V:Nat) (J:Nat→Int) (b:Nat→Nat) (t a j:Nat):Bool:=decide (j<U) && dH (fun a'=>bW U b t a' && p8 V J a' j) a
def vc (U V:Nat) (J:Nat→Int) (b:Nat→Nat) (t a c j:Nat):Bool:=u9 U V J b t a j || (decide (j<c) && (bW U b t a && p8 V J a j))
theorem Lm (b:Nat→Nat) (t:Nat):dz (u9 U V J b t 0)=fun _=>ofNat 0:=by
 funext j;unfold dz u9;rw[if_neg]
 · rfl
 · intro h;rw[Bool.and_eq_true] at h;obtain ⟨i,hi,_⟩:=(cj _ _).1 h.2;omega
theorem Ln (b:Nat→Nat) (t a:Nat):vc U V J b t a 0=u9 U V J b t a:=by
 funext j;unfold vc;simp
theorem DI (b:Nat→Nat) (t a:Nat):vc U V J b t a U=u9 U V J b t (a+1):=by
 funext j;unfold vc u9;have e:dH (fun a'=>bW U b t a' && p8 V J a' j) (a+1)=(dH (fun a'=>bW U b t a' && p8 V J a' j) a || (bW U b t a && p8 V J a j)):=by
  rw[Bool.eq_iff_iff,Bool.or_eq_true,cj,cj];constructor
  · rintro ⟨i,h1,h2⟩;by_cases e:i=a
    · subst e;exact .inr h2
    · exact .inl ⟨i,by omega,h2⟩
  · rintro (⟨i,h1,h2⟩ | h)
    · exact ⟨i,by omega,h2⟩
    · exact ⟨a,by omega,h⟩
 rw[e];cases decide (j<U)<;>simp
theorem Hk {b:Nat→Nat} (hb:b=fun c=>fA J c V) (hp:fW U V J) (t:Nat):u9 U V J b t U=bW U b (t+1):=by
 funext j;rw[Bool.eq_iff_iff,gK];unfold u9 p8;rw[Bool.and_eq_true,decide_eq_true_iff,cj];subst hb;constructor
 · rintro ⟨h1,a,h2,h3⟩;rw[Bool.and_eq_true,cj] at h3;obtain ⟨h3,i,hi,h4⟩:=h3;unfold gE at h4;rw[Bool.and_eq_true,decide_eq_true_iff,decide_eq_true_iff] at h4;exact ⟨h1,a,h3,(m9 J j a V (fun i hi=>(hp i hi).1.1)).2 ⟨i,hi,h4.1.symm,h4.2.symm⟩⟩
 · rintro ⟨h1,a,h2,h3⟩;obtain ⟨i,hi,h4,h5⟩:=(m9 J j a V (fun i hi=>(hp i hi).1.1)).1 h3;refine ⟨h1,a,nT h2,?_⟩;rw[Bool.and_eq_true,cj];exact ⟨h2,i,hi,by unfold gE;rw[Bool.and_eq_true,decide_eq_true_iff,decide_eq_true_iff];exact ⟨h4.symm,h5.symm⟩⟩
theorem DJ (b:Nat→Nat) (t a c:Nat) (h:(bW U b t a && p8 V J a c)=true):eB (dz (vc U V J b t a c)) c (ofNat 1)=dz (vc U V J b t a (c+1)):=by
 rw[j8];funext j;unfold dz vc;by_cases e:j=c
 · subst e;rw[if_pos rfl,h,decide_eq_true wO];rw[if_pos (by simp)];rfl
 · rw[if_neg e];by_cases h2:j<c
   · rw[decide_eq_true h2,decide_eq_true wO]
   · rw[decide_eq_false h2,decide_eq_false wO]
theorem sf (b:Nat→Nat) (t a c:Nat) (h:(bW U b t a && p8 V J a c)=false):vc U V J b t a (c+1)=vc U V J b t a c:=by
 funext j;unfold vc;by_cases e:j=c
 · subst e;rw[h];simp
 · by_cases h2:j<c
   · rw[decide_eq_true h2,decide_eq_true wO]
   · rw[decide_eq_false h2,decide_eq_false wO]
theorem B7 (p:Nat→Bool) (j:Nat):bV (dz p j) (ofNat 1)=p j:=by
 rw[bg];unfold dz;cases p j<;>rfl
end
end Go.Eng
end
section
namespace Go.Eng
open Int (ofNat)
open Go.Proofs Go.Eng.Gall
noncomputable def LL (U:Nat):Nat:=cC (ofNat U)
theorem CJ (U:Nat):LL U=U:=by unfold LL;rw[lX];rfl
theorem Ot (n:Nat) (O:Int) (U L:Nat) (Z:Nat→Int) (V:Nat) (J:Nat→Int) (H:aa) (y x:Nat→Int) (t a:Int):aJ (bN n 64 66) (il aK n 0) (gq aS 6) aR (part Tryd.f64 [1,1,1,1,0,1,0,0,1,0,0,1,0,1,0,0]) (hints (mE 1 U L t a)) (fb O U Z V J [cN L y,cN L x]::H) =
 Tr.ite (bE a (ofNat U)) Tr.bad (Tr.ok (Ex.exit 4,[(1,AV.ptr 0 0 0 0,none),(3,iI U,none),(4,AV.slc 0 1 0 0 1 L (some L),none),(6,AV.int .i64 t,none),(7,AV.slc 0 2 0 0 1 L (some L),none),(8,AV.int .i64 a,none),(33,AV.bool false,some 1)],(bh [(0,b8 O U Z V J),(0,ak.row (rM y L)),(0,ak.row (rM x L))])::H)):=by kernel_rfl
theorem Ou (n:Nat) (O:Int) (U L:Nat) (Z:Nat→Int) (V:Nat) (J:Nat→Int) (H:aa) (g:Nat→Int) (y x:Nat→Int) (t a:Int):aJ (bN n 64 66) (il aK n 0) (gq aS 6) aR (part Tryd.f64 [1,1,1,1,0,1,0,0,1,0,0,1,0,1,0,0]) (hints (mE 2 U L t a)) (fb O U Z V J [cN L g,cN L y,cN L x]::H) =
 Tr.ite (bE a (ofNat U)) Tr.bad (Tr.ok (Ex.exit 4,[(1,AV.ptr 0 0 0 0,none),(3,iI U,none),(4,AV.slc 0 2 0 0 1 L (some L),none),(6,AV.int .i64 t,none),(7,AV.slc 0 3 0 0 1 L (some L),none),(8,AV.int .i64 a,none),(33,AV.bool false,some 1)],(bh [(0,b8 O U Z V J),(0,ak.row (rM g L)),(0,ak.row (rM y L)),(0,ak.row (rM x L))])::H)):=by kernel_rfl
theorem Ov (n:Nat) (O:Int) (U L:Nat) (Z:Nat→Int) (V:Nat) (J:Nat→Int) (H:aa) (g:Nat→Int) (y:Nat→Int) (t:Int):aJ (bN n 64 66) (il aK n 0) (gq aS 4) aR (part Tryd.f64 [1,1,1,1,0,1,0,0]) (hints (nE 2 U L 6 t)) (fb O U Z V J [cN L g,cN L y]::H) =
 Tr.ite (bE t (ofNat U)) (Tr.req (FL (ofNat U) (ofNat U) 8) Tr.bad) (Tr.ok (Ex.exit 2,[(1,AV.ptr 0 0 0 0,none),(3,iI U,none),(4,AV.slc 0 2 0 0 1 L (some L),none),(6,AV.int .i64 t,none),(26,AV.bool false,some 1)],(bh [(0,b8 O U Z V J),(0,ak.row (rM g L)),(0,ak.row (rM y L))])::H)):=by kernel_rfl
section
variable (n:Nat) (O:Int) (U:Nat) (Z:Nat→Int) (V:Nat) (J:Nat→Int) (b:Nat→Nat) (H:aa)
theorem X6 (t a:Nat) (hl:U≤10) (hb:V≤1000) (ha:a<U) (ti:Int):exec (bN (n+1) 64 66) (.block 6 (.loop (part Tryd.f64 [1,1,1,1,0,1,0,0,1,0,0,1,0,1,0,0,1,0,0,1,0,0]))) (pn 1 U (LL U) ti (a:Int) (ofNat 0)) (fb O U Z V J [cN (LL U) (dz (bW U b t)),cN (LL U) (dz (vc U V J b t a 0))]::H) =
 some (.normal,pn 1 U (LL U) ti (a:Int) (ofNat U)++[(38,.bool false)],fb O U Z V J [cN (LL U) (dz (bW U b t)),cN (LL U) (dz (vc U V J b t a U))]::H):=by
 have eL:=CJ U
 refine fQ (n:=n+1) (f:=64) (nt:=66) (c:=part Tryd.f64 [1,1,1,1,0,1,0,0,1,0,0,1,0,1,0,0,1,0,0,1,0,0]) 6 (fun c=>pn 1 U (LL U) ti (a:Int) (c:Int)) (fun c=>fb O U Z V J [cN (LL U) (dz (bW U b t)),cN (LL U) (dz (vc U V J b t a c))]::H) U (_,_) wO (fun c hc=>?_) ?_
 · have ec:bm .i64 (c:Int) (ofNat 1)=((c+1:Nat):Int):=eg wO
   have T:=LG (n+1) O U (LL U) Z V J H (dz (bW U b t)) (dz (vc U V J b t a c)) (p8 V J) ti (a:Int) (c:Int)
   rw[BQ,BQ,ec,B7] at T
   refine aw T (bQ _ _ (xo O U Z V J wO hb)) (ai _ _) (aj _ _) ?_
   refine Tr.af (fun h0=>?_) wJ
   refine Tr.ab (by rw[eL];simp (disch:=omega) only[nV,nW];omega) (Tr.ab wG (Tr.ab (by rw[eL];simp (disch:=omega) only[nV,nW];omega) (Tr.af (fun q=>?_) (fun q=>?_))))
   · refine Tr.al rfl (Tr.af (fun r=>?_) (fun r=>?_))
     · refine Tr.ab (by rw[eL];simp (disch:=omega) only[nV,nW];omega) (Tr.ab wG (Tr.ab (by rw[eL];simp (disch:=omega) only[nV,nW];omega) (Tr.ag ⟨rfl,?_⟩)))
       rw[DJ U V J b t a c (by rw[q,r];rfl)];rfl
     · refine Tr.ag ⟨rfl,?_⟩
       rw[sf U V J b t a c (by rw[q,r];rfl)];rfl
   · refine Tr.ag ⟨rfl,?_⟩
     rw[sf U V J b t a c (by rw[q];rfl)];rfl
 · obtain ⟨x,h1,rfl⟩:=aw (Q:=fun x=>x=(.exit 6,pn 1 U (LL U) ti (a:Int) (ofNat U)++[(38,.bool false)],fb O U Z V J [cN (LL U) (dz (bW U b t)),cN (LL U) (dz (vc U V J b t a U))]::H)) (LG (n+1) O U (LL U) Z V J H (dz (bW U b t)) (dz (vc U V J b t a U)) (p8 V J) ti (a:Int) (ofNat U)) (bQ _ _ (xo O U Z V J wO hb)) (ai _ _) (aj _ _) (by
    refine Tr.af wJ (fun h0=>Tr.ag rfl))
   exact h1
theorem X4 (t:Nat) (hl:U≤10) (hb:V≤1000) (ti:Int):exec (bN (n+1) 64 66) (.block 4 (.loop (part Tryd.f64 [1,1,1,1,0,1,0,0,1,0,0,1,0,1,0,0]))) (mE 1 U (LL U) ti (ofNat 0)) (fb O U Z V J [cN (LL U) (dz (bW U b t)),cN (LL U) (dz (u9 U V J b t 0))]::H) =
 some (.normal,mE 1 U (LL U) ti (ofNat U)++[(33,.bool false)],fb O U Z V J [cN (LL U) (dz (bW U b t)),cN (LL U) (dz (u9 U V J b t U))]::H):=by
 refine fQ (n:=n+1) (f:=64) (nt:=66) (c:=part Tryd.f64 [1,1,1,1,0,1,0,0,1,0,0,1,0,1,0,0]) 4 (fun a=>mE 1 U (LL U) ti (a:Int)) (fun a=>fb O U Z V J [cN (LL U) (dz (bW U b t)),cN (LL U) (dz (u9 U V J b t a))]::H) U (_,_) wO (fun a ha=>?_) ?_
 · have ec:bm .i64 (a:Int) (ofNat 1)=((a+1:Nat):Int):=eg wO
   have hC:=X6 n O U Z V J b H t a hl hb ha ti
   rw[Ln,DI] at hC
   have T:=Q2 (n+1) O U (LL U) Z V J H (dz (bW U b t)) (dz (u9 U V J b t a)) (dz (u9 U V J b t (a+1))) ti (a:Int)
   rw[ec] at T
   refine aw T (aA _) (az (ai _ _) KZ (fun x h=>by rw[← Tr.ae h];simp only[db.st,aq];exact hC)) (aj _ _) ?_
   refine Tr.af (fun h0=>Tr.al ⟨rfl,rfl⟩ (Tr.ag ⟨rfl,rfl⟩)) wJ
 · obtain ⟨x,h1,rfl⟩:=aw (Q:=fun x=>x=(.exit 4,mE 1 U (LL U) ti (ofNat U)++[(33,.bool false)],fb O U Z V J [cN (LL U) (dz (bW U b t)),cN (LL U) (dz (u9 U V J b t U))]::H)) (Ot (n+1) O U (LL U) Z V J H (dz (bW U b t)) (dz (u9 U V J b t U)) ti (ofNat U)) (aA _) (c8 (ai _ _) 6) (aj _ _) (by
    refine Tr.af wJ (fun h0=>Tr.ag rfl))
   exact h1
theorem X7 (g:Nat→Int) (t a:Nat) (hl:U≤10) (hb:V≤1000) (ha:a<U) (ti:Int):exec (bN (n+1) 64 66) (.block 6 (.loop (part Tryd.f64 [1,1,1,1,0,1,0,0,1,0,0,1,0,1,0,0,1,0,0,1,0,0]))) (pn 2 U (LL U) ti (a:Int) (ofNat 0)) (fb O U Z V J [cN (LL U) g,cN (LL U) (dz (bW U b t)),cN (LL U) (dz (vc U V J b t a 0))]::H) =
 some (.normal,pn 2 U (LL U) ti (a:Int) (ofNat U)++[(38,.bool false)],fb O U Z V J [cN (LL U) g,cN (LL U) (dz (bW U b t)),cN (LL U) (dz (vc U V J b t a U))]::H):=by
 have eL:=CJ U
 refine fQ (n:=n+1) (f:=64) (nt:=66) (c:=part Tryd.f64 [1,1,1,1,0,1,0,0,1,0,0,1,0,1,0,0,1,0,0,1,0,0]) 6 (fun c=>pn 2 U (LL U) ti (a:Int) (c:Int)) (fun c=>fb O U Z V J [cN (LL U) g,cN (LL U) (dz (bW U b t)),cN (LL U) (dz (vc U V J b t a c))]::H) U (_,_) wO (fun c hc=>?_) ?_
 · have ec:bm .i64 (c:Int) (ofNat 1)=((c+1:Nat):Int):=eg wO
   have T:=LH (n+1) O U (LL U) Z V J H g (dz (bW U b t)) (dz (vc U V J b t a c)) (p8 V J) ti (a:Int) (c:Int)
   rw[BQ,BQ,ec,B7] at T
   refine aw T (bQ _ _ (xo O U Z V J wO hb)) (ai _ _) (aj _ _) ?_
   refine Tr.af (fun h0=>?_) wJ
   refine Tr.ab (by rw[eL];simp (disch:=omega) only[nV,nW];omega) (Tr.ab wG (Tr.ab (by rw[eL];simp (disch:=omega) only[nV,nW];omega) (Tr.af (fun q=>?_) (fun q=>?_))))
   · refine Tr.al rfl (Tr.af (fun r=>?_) (fun r=>?_))
     · refine Tr.ab (by rw[eL];simp (disch:=omega) only[nV,nW];omega) (Tr.ab wG (Tr.ab (by rw[eL];simp (disch:=omega) only[nV,nW];omega) (Tr.ag ⟨rfl,?_⟩)))
       rw[DJ U V J b t a c (by rw[q,r];rfl)];rfl
     · refine Tr.ag ⟨rfl,?_⟩
       rw[sf U V J b t a c (by rw[q,r];rfl)];rfl
   · refine Tr.ag ⟨rfl,?_⟩
     rw[sf U V J b t a c (by rw[q];rfl)];rfl
 · obtain ⟨x,h1,rfl⟩:=aw (Q:=fun x=>x=(.exit 6,pn 2 U (LL U) ti (a:Int) (ofNat U)++[(38,.bool false)],fb O U Z V J [cN (LL U) g,cN (LL U) (dz (bW U b t)),cN (LL U) (dz (vc U V J b t a U))]::H)) (LH (n+1) O U (LL U) Z V J H g (dz (bW U b t)) (dz (vc U V J b t a U)) (p8 V J) ti (a:Int) (ofNat U)) (bQ _ _ (xo O U Z V J wO hb)) (ai _ _) (aj _ _) (by
    refine Tr.af wJ (fun h0=>Tr.ag rfl))
   exact h1
theorem X5 (g:Nat→Int) (t:Nat) (hl:U≤10) (hb:V≤1000) (ti:Int):exec (bN (n+1) 64 66) (.block 4 (.loop (part Tryd.f64 [1,1,1,1,0,1,0,0,1,0,0,1,0,1,0,0]))) (mE 2 U (LL U) ti (ofNat 0)) (fb O U Z V J [cN (LL U) g,cN (LL U) (dz (bW U b t)),cN (LL U) (dz (u9 U V J b t 0))]::H) =
 some (.normal,mE 2 U (LL U) ti (ofNat U)++[(33,.bool false)],fb O U Z V J [cN (LL U) g,cN (LL U) (dz (bW U b t)),cN (LL U) (dz (u9 U V J b t U))]::H):=by
 refine fQ (n:=n+1) (f:=64) (nt:=66) (c:=part Tryd.f64 [1,1,1,1,0,1,0,0,1,0,0,1,0,1,0,0]) 4 (fun a=>mE 2 U (LL U) ti (a:Int)) (fun a=>fb O U Z V J [cN (LL U) g,cN (LL U) (dz (bW U b t)),cN (LL U) (dz (u9 U V J b t a))]::H) U (_,_) wO (fun a ha=>?_) ?_
 · have ec:bm .i64 (a:Int) (ofNat 1)=((a+1:Nat):Int):=eg wO
   have hC:=X7 n O U Z V J b H g t a hl hb ha ti
   rw[Ln,DI] at hC
   have T:=Q3 (n+1) O U (LL U) Z V J H g (dz (bW U b t)) (dz (u9 U V J b t a)) (dz (u9 U V J b t (a+1))) ti (a:Int)
   rw[ec] at T
   refine aw T (aA _) (az (ai _ _) KZ (fun x h=>by rw[← Tr.ae h];simp only[db.st,aq];exact hC)) (aj _ _) ?_
   refine Tr.af (fun h0=>Tr.al ⟨rfl,rfl⟩ (Tr.ag ⟨rfl,rfl⟩)) wJ
 · obtain ⟨x,h1,rfl⟩:=aw (Q:=fun x=>x=(.exit 4,mE 2 U (LL U) ti (ofNat U)++[(33,.bool false)],fb O U Z V J [cN (LL U) g,cN (LL U) (dz (bW U b t)),cN (LL U) (dz (u9 U V J b t U))]::H)) (Ou (n+1) O U (LL U) Z V J H g (dz (bW U b t)) (dz (u9 U V J b t U)) ti (ofNat U)) (aA _) (c8 (ai _ _) 6) (aj _ _) (by
    refine Tr.af wJ (fun h0=>Tr.ag rfl))
   exact h1
end
end Go.Eng
end
