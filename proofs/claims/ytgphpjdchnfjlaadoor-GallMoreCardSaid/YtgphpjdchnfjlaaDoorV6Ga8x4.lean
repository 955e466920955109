/- Gall: CheckList: what it answers. -/
import Derived.Test.YtgphpjdchnfjlaaDoorV6Ga3x5
set_option linter.unusedVariables false
set_option linter.unusedSimpArgs false
set_option maxRecDepth 100000
section
namespace Go.Eng
open Int (ofNat)
open Go.Proofs Go.Eng.Gall
theorem yf {c f:Nat} {t:nH} {e:Bool} {C:List AV→Prop} (ht:t.Ok (cd c)) (h:∀ A H,C A→cd c (.fn f) A H=some (.bool e,H)):(iz t f (gB e C)).Ok (cd c):=by
 refine ml ht (fun args p v hg hp H=>?_);unfold gB at hg;simp only[nP] at hg;obtain ⟨rfl,rfl⟩:=hg;exact h _ H hp
theorem po {c f:Nat} {t:nH} {S:AV} {C:List AV→Prop} (ht:t.Ok (cd c)) (h:∀ A H,C A→cd c (.fn f) A H=some (S,H)):(iz t f (fun x=>some (C x,S))).Ok (cd c):=by
 refine ml ht (fun args p v hg hp H=>?_);simp only[nP] at hg;obtain ⟨rfl,rfl⟩:=hg;exact h _ H hp
def gT (z:Nat→Int) (a b:Int) (i:Nat):Bool:=decide (a=z (i*2)) && decide (b=z (i*2+1))
def gu (U:Nat) (z:Nat→Int) (j:Nat):Bool:=decide (z (j*2)=z (j*2+1)) || (!(decide (0≤z (j*2)∧z (j*2)<U) && decide (0≤z (j*2+1)∧z (j*2+1)<U)) || dH (gT z (z (j*2)) (z (j*2+1))) j)
def cr (O:Int) (U:Nat) (Z:Nat→Int) (V:Nat) (J:Nat→Int):Int:=if U=0∨10<U∨40<V then 6 else if O<1∨100<O∨dH (jA Z) U=true then 3 else if dH (gu U J) V=true then 2 else if l6 U (fun c=>gf J c V)=true then 16 else 0
theorem SO (n:Nat) (O:Int) (U:Nat) (Z:Nat→Int) (V:Nat) (J:Nat→Int) (H:aa):bz Tryd.prog (cd (n+10)) 100000 22 Tryd.f22 (KtG.kt 22) (il (nK aM 59 gW) (n+10) 0) (gb aV 1) aR [(bX O U Z V J,none)] H =
 Tr.ite (bD (bC (bC (dS (ofNat 0) (cq .i64 (ofNat U) (ofNat 1))) (dS (cq .i64 (ofNat U) (ofNat 1)) (ofNat 9))) true)) (Tr.ok ((iI 6,some 1),H)) (Tr.ite (bQ (ofNat 40) (ofNat V)) (Tr.ok ((iI 6,some 1),H)) (Tr.ite (bD (bC (bC (dS (ofNat 1) O) (dS O (ofNat 100))) true)) (Tr.ok ((iI 3,some 1),H)) Tr.bad)):=by kernel_rfl
theorem Ul:∀ b,(0,b) ∈ aO (a7 Tryd.f86)→b=.loop (part Tryd.f86 [1,0,1,0,0]):=eP (by kernel_rfl)
theorem Uf:∀ b,(1,b) ∈ aO (a7 Tryd.f22)→b=.loop (part Tryd.f22 [1,1,1,1,0,1,0,0]):=eP (by kernel_rfl)
section
variable (n:Nat) (m:Nat) (z:Nat→Int) (full:Bool) (a b:Int) (H:aa)
theorem UH (hm:m≤1000):cd (n+1) (.fn 86) [MT m z full,Nq a b] H=some (.int .i64 (CK (gT z a b) m),H):=by
 have lp:=jE (n:=n) (f:=86) (nt:=19) (c:=part Tryd.f86 [1,0,1,0,0]) 0 (fun j=>D6 m z full (j:Int)) (fun _=>Kh a b::H) m (gT z a b) (fun j=>([(4,.int .i64 (j:Int))],Kh a b::H)) (D6 m z full (ofNat m)++[(9,.bool false)],Kh a b::H) wO (fun j hj=>?_) ?_
 · refine bU (n:=n) Tryd.func86 rfl rfl rfl (Xh n m z full a b H ((fN (gT z a b) m 0:Nat):Int) (dH (gT z a b) m)) (aA n) (bf (aj _ _) Ul (fun x hx=>dQ hx lp)) (ak _ _) ?_;refine Tr.an ⟨rfl,rfl⟩ (Tr.af (fun hc=>Tr.ai ⟨?_,rfl⟩) (fun hc=>Tr.ai ⟨?_,rfl⟩))
   · unfold CK;rw[if_pos hc]
   · unfold CK;rw[if_neg (by rw[hc];decide)];rfl
 · have ej:bh .i64 (j:Int) (ofNat 1)=((j+1:Nat):Int):=fI wO;have ei:au 0 (j:Int) 2=j*2:=by rw[bN];omega
   have hp:bC (c7 a (z (j*2))) (c7 b (z (j*2+1)))=gT z a b j:=by
    rw[cD,bA,bA];unfold gT;rw[Bool.eq_iff_iff];simp
   have T:=t86 n m z full a b H (j:Int);rw[ei,aF,ej,hp] at T;refine aI T (aA n) (aj _ _) (ak _ _) ?_;refine Tr.af (fun h0=>?_) wJ;refine Tr.ae wG (Tr.ae wG (Tr.ae wG ?_));refine Tr.af (fun q=>Tr.ai ?_) (fun q=>Tr.ai ?_)
   · rw[if_pos q];rfl
   · rw[if_neg (by rw[q];decide)];exact ⟨rfl,rfl⟩
 · obtain ⟨x,h1,rfl⟩:=aI (Q:=fun x=>x=(.exit 0,D6 m z full (ofNat m)++[(9,.bool false)],Kh a b::H)) (t86 n m z full a b H (ofNat m)) (aA n) (aj _ _) (ak _ _) (by
    refine Tr.af wJ (fun h0=>Tr.ai rfl))
   exact h1
theorem Uw (hm:m≤1000):cd (n+2) (.fn 61) [MT m z full,Nq a b] H=some (.bool (dH (gT z a b) m),H):=by
 have h:=fun H=>UH n m z full a b H hm;refine bU (n:=n+1) Tryd.func61 rfl rfl rfl (W5 (n+1) m z full a b H (CK (gT z a b) m)) (bV _ (n+1) (dL (bo _) h)) (aj _ _) (ak _ _) ?_;refine Tr.an rfl (Tr.ai ⟨?_,rfl⟩);rw[Bj]
end
section
variable (n:Nat) (O:Int) (U:Nat) (Z:Nat→Int) (V:Nat) (J:Nat→Int) (H:aa)
noncomputable def Rw (a b:Int):bK:={ Gq O U Z V J with bs:=(Gq O U Z V J).bs++[(0,.row (.I .i64 [a,b])),(0,.dead)] }
noncomputable def ON (a b:Int):bK:={ Gq O U Z V J with bs:=(Gq O U Z V J).bs++[(0,.row (.I .i64 [a,b])),(0,.row (.I .i64 [a,b]))] }
noncomputable def Np (j:Nat):bK:=if J (j*2)=J (j*2+1) then Rw O U Z V J (J (j*2)) (J (j*2+1)) else ON O U Z V J (J (j*2)) (J (j*2+1))
theorem Wk (h1:1≤U) (hl:U≤10) (hb:V≤40):exec (bP (n+10) 22 69) (.block 1 (.loop (part Tryd.f22 [1,1,1,1,0,1,0,0]))) (A1 U V J (ofNat 0)) (Gq O U Z V J::H) =
 some (cond (dH (gu U J) V) (.ret,[(2,.int .i64 2)],Np O U Z V J (fN (gu U J) V 0)::H) (.normal,A1 U V J (ofNat V)++[(38,.bool false)],Gq O U Z V J::H)):=by
 have s3:cq .i64 (ofNat U) (ofNat 1)=(U:Int)-1:=by rw[eB];exact jT (by show -9223372036854775808≤(U:Int)-1;omega) (by show (U:Int)-1≤_;omega)
 refine jE (n:=n+10) (f:=22) (nt:=69) (c:=part Tryd.f22 [1,1,1,1,0,1,0,0]) 1 (fun j=>A1 U V J (j:Int)) (fun _=>Gq O U Z V J::H) V (gu U J) (fun j=>([(2,.int .i64 2)],Np O U Z V J j::H)) (_,_) wO (fun j hj=>?_) ?_
 · have ej:bh .i64 (j:Int) (ofNat 1)=((j+1:Nat):Int):=fI wO
   have ei:au 0 (j:Int) 2=j*2:=by rw[bN];omega
   have et:cg (j:Int)=j:=by rw[j9];omega
   have hin:bD (bC (bC (dS (ofNat 0) (J (j*2))) (dS (J (j*2)) (cq .i64 (ofNat U) (ofNat 1)))) (bC (bC (dS (ofNat 0) (J (j*2+1))) (dS (J (j*2+1)) (cq .i64 (ofNat U) (ofNat 1)))) true))=!(decide (0≤J (j*2)∧J (j*2)<U) && decide (0≤J (j*2+1)∧J (j*2+1)<U)):=by
    rw[s3,aW,cD,cD,cD,cD,br,br,br,br];rw[Bool.eq_iff_iff];simp;omega
   have T:=t22 n O U Z V J H (j:Int) (dH (gT J (J (j*2)) (J (j*2+1))) j) (fun A=>A=[MT j J (bC false (aU j V)),Nq (J (j*2)) (J (j*2+1))])
   rw[ei,aF,ej,et] at T
   rw[hin] at T
   refine aI T (bV _ _ (by
    rw[show n+10=n+4+6 by omega];refine yg (n:=n+4) (yf (bo _) (fun A H hA=>?_));subst hA;rw[show n+4+6=n+8+2 by omega];exact Uw (n+8) j J _ _ _ H wO)) (aj _ _) (ak _ _) ?_
   refine Tr.af (fun h0=>?_) wJ
   refine Tr.ae wG (Tr.ae wG (Tr.ae wG (Tr.ae wG (Tr.ae wG ?_))))
   refine Tr.af (fun q=>?_) (fun q=>?_)
   · have q:J (j*2)=J (j*2+1):=by rw[bA,beq_iff_eq] at q;exact q
     refine Tr.ai ?_
     rw[if_pos (by unfold gu;rw[decide_eq_true q];rfl)]
     unfold Np;rw[if_pos q];rfl
   · have q:¬ J (j*2)=J (j*2+1):=by rw[bA,beq_eq_false_iff_ne] at q;exact q
     have hX:Np O U Z V J j=ON O U Z V J (J (j*2)) (J (j*2+1)):=by unfold Np;rw[if_neg q]
     refine Tr.ae wG (Tr.ae wG (Tr.af (fun r=>?_) (fun r=>?_)))
     · refine Tr.ai ?_
       rw[if_pos (by unfold gu;rw[r];simp),hX];rfl
     · refine Tr.ae wG (Tr.ae wG (Tr.an rfl (Tr.af (fun u=>?_) (fun u=>?_))))
       · refine Tr.ai ?_
         rw[if_pos (by unfold gu;rw[u];simp),hX];rfl
       · refine Tr.ai ?_
         rw[if_neg (by unfold gu;rw[u,r,decide_eq_false q];simp)]
         exact ⟨rfl,rfl⟩
 · obtain ⟨x,h1,rfl⟩:=aI (Q:=fun x=>x=(.exit 1,A1 U V J (ofNat V)++[(38,.bool false)],Gq O U Z V J::H)) (t22 n O U Z V J H (ofNat V) true (fun A=>False)) (bV _ _ (by
    rw[show n+10=n+4+6 by omega];exact yg (n:=n+4) (yf (bo _) (fun A H hA=>hA.elim)))) (aj _ _) (ak _ _) (by
    refine Tr.af wJ (fun h0=>Tr.ai rfl))
   exact h1
theorem pV {U V:Nat} {J:Nat→Int} (h:dH (gu U J) V=false):fB U V J:=fun j hj=>by
 have:=pc h j hj;unfold gu at this;simp only[Bool.or_eq_false_iff,Bool.not_eq_false',Bool.and_eq_true,decide_eq_true_eq] at this;exact ⟨this.2.1.1,this.2.1.2⟩
theorem TV (hl:U≤1000) (hb:V≤1000):cd (n+11) (.fn 22) [bX O U Z V J] H=some (.int .i64 (cr O U Z V J),H):=by
 have s3:cq .i64 (ofNat U) (ofNat 1)=(U:Int)-1:=by rw[eB];exact jT (by show -9223372036854775808≤(U:Int)-1;omega) (by show (U:Int)-1≤_;omega)
 have hv:=fun h:dH (jA Z) U=false=>(pc h:uN U Z)
 have ht:(iz (iz (nK (iz aM 60 (gB (dH (jA Z) U) (fun A=>A=[slA 4 U Z,.fn (.func 58) [] []]))) 59 gW) 62 (fun x=>some (x=[bX O U Z V J]∧(U≤10∧(1≤O∧O≤100)∧uN U Z∧fB U V J),Nr O U Z V J))) 63 (gB (l6 U (fun c=>gf J c V)) (fun A=>A=[Nr O U Z V J]∧(U≤10∧fB U V J)))).Ok (cd (n+10)):=by
  refine yf (po ?_ (fun A H hA=>?_)) (fun A H hA=>?_)
  · rw[show n+10=n+4+6 by omega];refine yg (n:=n+4) (yf (bo _) (fun A H hA=>?_));subst hA;rw[show n+4+6=n+10 by omega];exact Uv n U Z H hl
  · obtain ⟨rfl,a1,a2,a3,a4⟩:=hA;rw[show n+10=n+3+7 by omega];exact TX (n+3) O U Z V J H a1 hb a2 a3 a4
  · obtain ⟨rfl,a1,a4⟩:=hA;rw[show n+10=n+8+2 by omega];exact Ux (n+8) O U Z V J (ev O U Z) (fun c=>gf J c V) H a1 (fun c _=>Nat.lt_of_lt_of_le (kR J c U V (fun i hi=>(a4 i hi).1)) (Nat.pow_le_pow_right (by decide) wO))
 by_cases k0:1≤U∧U≤10∧V≤40
 · obtain ⟨k1,k2,k3⟩:=k0;refine bU (n:=n+10) Tryd.func22 rfl rfl rfl (WY n O U Z V J H (Np O U Z V J (fN (gu U J) V 0)) (dH (jA Z) U) (l6 U (fun c=>gf J c V)) (dH (gu U J) V) (fun A=>A=[slA 4 U Z,.fn (.func 58) [] []]) (fun A=>A=[bX O U Z V J]∧(U≤10∧(1≤O∧O≤100)∧uN U Z∧fB U V J)) (fun A=>A=[Nr O U Z V J]∧(U≤10∧fB U V J)) (Nr O U Z V J)) (bV _ _ ht) (bf (aj _ _) Uf (fun y h=>dQ h (Wk n O U Z V J H k1 k2 k3))) (ak _ _) ?_;have hG:cr O U Z V J=if O<1∨100<O∨dH (jA Z) U=true then 3 else if dH (gu U J) V=true then 2 else if l6 U (fun c=>gf J c V)=true then 16 else 0:=by unfold cr;rw[if_neg wO]
   rw[hG,s3];refine Tr.af (fun q=>?_) (fun q=>?_)
   · exfalso;rw[aW,cD,cD,br,br] at q;simp at q;omega
   refine Tr.af wJ (fun q=>?_);refine Tr.af (fun q=>?_) (fun q=>?_)
   · rw[aW,cD,cD,br,br] at q;simp at q;rw[if_pos wO];exact Tr.ai ⟨rfl,rfl⟩
   · rw[aW,cD,cD,br,br] at q;simp at q;refine Tr.an rfl (Tr.af (fun r=>?_) (fun r=>?_))
     · rw[if_pos (.inr (.inr r))];exact Tr.ai ⟨rfl,rfl⟩
     · rw[if_neg (by rintro (h | h | h);omega;omega;rw[r] at h;cases h)];refine Tr.an ⟨by rw[← s3],by rw[← s3]⟩ (Tr.af (fun u=>?_) (fun u=>?_))
       · rw[if_pos u];exact Tr.ai ⟨rfl,rfl⟩
       · rw[if_neg (by rw[u];decide)];refine Tr.an ⟨rfl,k2,by omega,hv r,pV u⟩ (Tr.an ⟨rfl,k2,pV u⟩ (Tr.af (fun w=>?_) (fun w=>?_)))
         · rw[if_pos w];exact Tr.ai ⟨rfl,rfl⟩
         · rw[if_neg (by rw[w];decide)];exact Tr.ai ⟨rfl,rfl⟩
 · refine bU (n:=n+10) Tryd.func22 rfl rfl rfl (SO n O U Z V J H) (bV _ _ (by
    rw[show n+10=n+4+6 by omega];exact yg (n:=n+4) (bo _))) (cY (aj _ _) 1) (ak _ _) ?_
   have hG:cr O U Z V J=6:=by unfold cr;rw[if_pos wO]
   rw[hG,s3];refine Tr.af (fun q=>Tr.ai ⟨rfl,rfl⟩) (fun q=>?_);refine Tr.af (fun q=>Tr.ai ⟨rfl,rfl⟩) (fun q2=>?_);exfalso;rw[aW,cD,cD,br,br] at q;simp at q;simp (disch:=omega) only[nV,nW] at q2;omega
end
end Go.Eng
end
section
namespace Go.Eng
open Int (ofNat)
open Go.Proofs
noncomputable def mG (O:Int) (U:Nat) (Z:Nat→Int) (V:Nat) (J:Nat→Int):bK:=⟨false,[(0,.row (.G [.int .i64 O,slA 4 U Z,slA 2 V J]))]⟩
noncomputable def D3 (a b j:Int):aE:=[(1,.int .i64 a),(2,.int .i64 b),(3,.ptr 0 0 0 0),(7,.int .i64 j)]
noncomputable def eS (O:Int) (U:Nat) (Z:Nat→Int) (V:Nat) (J:Nat→Int) (bs:List (Nat×ao)):bK:=⟨false,(0,.row (.G [.int .i64 O,slA 4 U Z,slA 2 V J]))::bs⟩
noncomputable def cJ (L:Nat) (y:Nat→Int):Nat×ao:=(0,.row (.M [.arr .i64 y L]))
noncomputable def nB (i U L:Nat) (s:Nat) (j:Int):aE:=[(1,.ptr 0 0 0 0),(3,.int .i64 (ofNat U)),(4,.slc 0 i 0 0 1 L (some L)),(s,.int .i64 j)]
noncomputable def A4 (U L:Nat) (j:Int):aE:=[(3,.int .i64 (ofNat U)),(4,.slc 0 2 0 0 1 L (some L)),(10,.int .i64 j)]
noncomputable def mw (i U L:Nat) (t a:Int):aE:=[(1,.ptr 0 0 0 0),(3,.int .i64 (ofNat U)),(4,.slc 0 i 0 0 1 L (some L)),(6,.int .i64 t),(7,.slc 0 (Nat.succ i) 0 0 1 L (some L)),(8,.int .i64 a)]
noncomputable def pn (i U L:Nat) (t a c:Int):aE:=mw i U L t a++[(9,.int .i64 c)]
noncomputable def PY (A:AV) (P:Int→Int→Bool):List AV→Option (Prop×AV)
 | [B,.int .i64 a,.int .i64 c]=>some (B=A,.bool (P a c))
 | _=>none
theorem t79 (n:Nat) (O:Int) (U:Nat) (Z:Nat→Int) (V:Nat) (J:Nat→Int) (H:aa) (a b j:Int):aJ (bP n 79 24) (il aM n 0) aV aR (part Tryd.f79 [1,0,1,0,0]) (hints (D3 a b j)) (mG O U Z V J::H) =
 Tr.ite (bQ j (ofNat V)) (Tr.req (bL j V) (Tr.req (bt (au 0 j 2) (aC V 2)) (Tr.req (bt (ah (au 0 j 2) 1) (aC V 2)) (Tr.ite (bC (c7 (J (au 0 j 2)) a) (c7 (J (ah (au 0 j 2) 1)) b)) (Tr.ok (Ex.ret,[(6,AV.bool true,some 1)],(bO [(0,fT O U Z V J)])::H)) (Tr.ok (Ex.normal,[(1,AV.int .i64 a,none),(2,AV.int .i64 b,none),(3,AV.ptr 0 0 0 0,none),(7,AV.int .i64 (bh .i64 j (ofNat 1)),none)],(bO [(0,fT O U Z V J)])::H)))))) (Tr.ok (Ex.exit 0,[(1,AV.int .i64 a,none),(2,AV.int .i64 b,none),(3,AV.ptr 0 0 0 0,none),(7,AV.int .i64 j,none),(12,AV.bool false,some 1)],(bO [(0,fT O U Z V J)])::H)):=by kernel_rfl
theorem Xd (n:Nat) (O:Int) (U:Nat) (Z:Nat→Int) (V:Nat) (J:Nat→Int) (H:aa) (a b:Int) (e:Bool):bz Tryd.prog (cd n) 100000 79 Tryd.f79 (KtG.kt 79) (il aM n 0) (c9 aV 0 (D3 a b (ofNat 0)) (mG O U Z V J::H) (.ite e (.ok (.ret,[(6,.bool true,none)],mG O U Z V J::H)) (.ok (.normal,hints (D3 a b (ofNat V)++[(12,.bool false)]),mG O U Z V J::H)))) aR [(bX O U Z V J,none),(.int .i64 a,none),(.int .i64 b,none)] H =
 Tr.reqP ([(1,AV.int .i64 a),(2,AV.int .i64 b),(3,AV.ptr 0 0 0 0),(7,iI 0)]=[(1,AV.int .i64 a),(2,AV.int .i64 b),(3,AV.ptr 0 0 0 0),(7,iI 0)]∧(bO [(0,fT O U Z V J)])::H=(bO [(0,fT O U Z V J)])::H) (Tr.ite e (Tr.ok ((AV.bool true,none),H)) (Tr.ok ((AV.bool false,some 1),H))):=by kernel_rfl
theorem Pq (n:Nat) (O:Int) (U L:Nat) (Z:Nat→Int) (V:Nat) (J:Nat→Int) (H:aa) (y:Nat→Int) (j:Int):aJ (bP n 64 66) (il aM n 0) aV aR (part Tryd.f64 [1,1,1,0,1,0,0]) (hints (nB 1 U L 5 j)) (eS O U Z V J [cJ L y]::H) =
 Tr.ite (bQ j (ofNat U)) (Tr.req (bL j L) (Tr.req (aU 0 0) (Tr.req (bt (au 0 j 1) L) (Tr.ok (Ex.normal,[(1,AV.ptr 0 0 0 0,none),(3,iI U,none),(4,AV.slc 0 1 0 0 1 L (some L),none),(5,AV.int .i64 (bh .i64 j (ofNat 1)),none)],(bO [(0,fT O U Z V J),(0,ao.row (rM (cu y (au 0 j 1) (ofNat 1)) L))])::H))))) (Tr.ok (Ex.exit 0,[(1,AV.ptr 0 0 0 0,none),(3,iI U,none),(4,AV.slc 0 1 0 0 1 L (some L),none),(5,AV.int .i64 j,none),(18,AV.bool false,some 1)],(bO [(0,fT O U Z V J),(0,ao.row (rM y L))])::H)):=by kernel_rfl
theorem Kv (n:Nat) (O:Int) (U L:Nat) (Z:Nat→Int) (V:Nat) (J:Nat→Int) (H:aa) (y x:Nat→Int) (P:Int→Int→Bool) (t a c:Int):aJ (bP n 64 66) (il (iz aM 79 (PY (bX O U Z V J) P)) n 0) aV aR (part Tryd.f64 [1,1,1,1,0,1,0,0,1,0,0,1,0,1,0,0,1,0,0,1,0,0]) (hints (pn 1 U L t a c)) (eS O U Z V J [cJ L y,cJ L x]::H) =
 (fun (Z0:aG)=>((fun (Z1:bK)=>Tr.ite (bQ c (ofNat U)) (Tr.req (bL a L) (Tr.req (aU 0 0) (Tr.req (bt (au 0 a 1) L) (Tr.ite (c7 (y (au 0 a 1)) (ofNat 1)) (Tr.reqP (bX O U Z V J=bX O U Z V J) (Tr.ite (P a c) (Tr.req (bL c L) (Tr.req (aU 0 0) (Tr.req (bt (au 0 c 1) L) (Tr.ok (Ex.normal,Z0,(bO [(0,fT O U Z V J),(0,ao.row (rM y L)),(0,ao.row (rM (cu x (au 0 c 1) (ofNat 1)) L))])::H))))) (Tr.ok (Ex.normal,Z0,Z1::H)))) (Tr.ok (Ex.normal,Z0,Z1::H)))))) (Tr.ok (Ex.exit 6,[(1,AV.ptr 0 0 0 0,none),(3,iI U,none),(4,AV.slc 0 1 0 0 1 L (some L),none),(6,AV.int .i64 t,none),(7,AV.slc 0 2 0 0 1 L (some L),none),(8,AV.int .i64 a,none),(9,AV.int .i64 c,none),(38,AV.bool false,some 1)],Z1::H))) (bO [(0,fT O U Z V J),(0,ao.row (rM y L)),(0,ao.row (rM x L))]))) [(1,AV.ptr 0 0 0 0,none),(3,iI U,none),(4,AV.slc 0 1 0 0 1 L (some L),none),(6,AV.int .i64 t,none),(7,AV.slc 0 2 0 0 1 L (some L),none),(8,AV.int .i64 a,none),(9,AV.int .i64 (bh .i64 c (ofNat 1)),none)]:=by kernel_rfl
theorem Pr (n:Nat) (O:Int) (U L:Nat) (Z:Nat→Int) (V:Nat) (J:Nat→Int) (H:aa) (y x x':Nat→Int) (t a:Int):aJ (bP n 64 66) (il aM n 0) (c9 aV 6 (pn 1 U L t a (ofNat 0)) (eS O U Z V J [cJ L y,cJ L x]::H) (.ok (.normal,hints (pn 1 U L t a (ofNat U)++[(38,.bool false)]),(eS O U Z V J [cJ L y,cJ L x']::H)))) aR (part Tryd.f64 [1,1,1,1,0,1,0,0,1,0,0,1,0,1,0,0]) (hints (mw 1 U L t a)) (eS O U Z V J [cJ L y,cJ L x]::H) =
 (fun (Z0:aE)=>((fun (Z1:bK)=>Tr.ite (bQ a (ofNat U)) (Tr.reqP (Z0=Z0∧Z1::H=Z1::H) (Tr.ok (Ex.normal,[(1,AV.ptr 0 0 0 0,none),(3,iI U,none),(4,AV.slc 0 1 0 0 1 L (some L),none),(6,AV.int .i64 t,none),(7,AV.slc 0 2 0 0 1 L (some L),none),(8,AV.int .i64 (bh .i64 a (ofNat 1)),none)],(bO [(0,fT O U Z V J),(0,ao.row (rM y L)),(0,ao.row (rM x' L))])::H))) (Tr.ok (Ex.exit 4,[(1,AV.ptr 0 0 0 0,none),(3,iI U,none),(4,AV.slc 0 1 0 0 1 L (some L),none),(6,AV.int .i64 t,none),(7,AV.slc 0 2 0 0 1 L (some L),none),(8,AV.int .i64 a,none),(33,AV.bool false,some 1)],Z1::H))) (bO [(0,fT O U Z V J),(0,ao.row (rM y L)),(0,ao.row (rM x L))]))) [(1,AV.ptr 0 0 0 0),(3,iI U),(4,AV.slc 0 1 0 0 1 L (some L)),(6,AV.int .i64 t),(7,AV.slc 0 2 0 0 1 L (some L)),(8,AV.int .i64 a),(9,iI 0)]:=by kernel_rfl
theorem Pu (n:Nat) (O:Int) (U:Nat) (Z:Nat→Int) (V:Nat) (J:Nat→Int) (H:aa) (y x':Nat→Int) (t:Int):aJ (bP n 64 66) (il aM n 0) (c9 aV 4 (mw 1 U (cg (ofNat U)) t (ofNat 0)) (eS O U Z V J [cJ (cg (ofNat U)) y,cJ (cg (ofNat U)) (fun _=>ofNat 0)]::H) (.ok (.normal,hints (mw 1 U (cg (ofNat U)) t (ofNat U)++[(33,.bool false)]),(eS O U Z V J [cJ (cg (ofNat U)) y,cJ (cg (ofNat U)) x']::H)))) aR (part Tryd.f64 [1,1,1,1,0,1,0,0]) (hints (nB 1 U (cg (ofNat U)) 6 t)) (eS O U Z V J [cJ (cg (ofNat U)) y]::H) =
 (fun (Z0:aE)=>((fun (Z1:bK)=>Tr.ite (bQ t (ofNat U)) (Tr.req (CV (ofNat U) (ofNat U) 8) (Tr.reqP (Z0=Z0∧Z1::H=Z1::H) (Tr.ok (Ex.normal,[(1,AV.ptr 0 0 0 0,none),(3,iI U,none),(4,AV.slc 0 2 0 0 1 (cg (ofNat U)) (some (cg (ofNat U))),none),(6,AV.int .i64 (bh .i64 t (ofNat 1)),none)],(bO [(0,fT O U Z V J),(0,ao.row (rM y (cg (ofNat U)))),(0,ao.row (rM x' (cg (ofNat U))))])::H)))) (Tr.ok (Ex.exit 2,[(1,AV.ptr 0 0 0 0,none),(3,iI U,none),(4,AV.slc 0 1 0 0 1 (cg (ofNat U)) (some (cg (ofNat U))),none),(6,AV.int .i64 t,none),(26,AV.bool false,some 1)],(bO [(0,fT O U Z V J),(0,ao.row (rM y (cg (ofNat U))))])::H))) (bO [(0,fT O U Z V J),(0,ao.row (rM y (cg (ofNat U)))),(0,ao.row (rM (fun x=>ofNat 0) (cg (ofNat U))))]))) [(1,AV.ptr 0 0 0 0),(3,iI U),(4,AV.slc 0 1 0 0 1 (cg (ofNat U)) (some (cg (ofNat U)))),(6,AV.int .i64 t),(7,AV.slc 0 2 0 0 1 (cg (ofNat U)) (some (cg (ofNat U)))),(8,iI 0)]:=by kernel_rfl
theorem Kw (n:Nat) (O:Int) (U L:Nat) (Z:Nat→Int) (V:Nat) (J:Nat→Int) (H:aa) (g:Nat→Int) (y x:Nat→Int) (P:Int→Int→Bool) (t a c:Int):aJ (bP n 64 66) (il (iz aM 79 (PY (bX O U Z V J) P)) n 0) aV aR (part Tryd.f64 [1,1,1,1,0,1,0,0,1,0,0,1,0,1,0,0,1,0,0,1,0,0]) (hints (pn 2 U L t a c)) (eS O U Z V J [cJ L g,cJ L y,cJ L x]::H) =
 (fun (Z0:aG)=>((fun (Z1:bK)=>Tr.ite (bQ c (ofNat U)) (Tr.req (bL a L) (Tr.req (aU 0 0) (Tr.req (bt (au 0 a 1) L) (Tr.ite (c7 (y (au 0 a 1)) (ofNat 1)) (Tr.reqP (bX O U Z V J=bX O U Z V J) (Tr.ite (P a c) (Tr.req (bL c L) (Tr.req (aU 0 0) (Tr.req (bt (au 0 c 1) L) (Tr.ok (Ex.normal,Z0,(bO [(0,fT O U Z V J),(0,ao.row (rM g L)),(0,ao.row (rM y L)),(0,ao.row (rM (cu x (au 0 c 1) (ofNat 1)) L))])::H))))) (Tr.ok (Ex.normal,Z0,Z1::H)))) (Tr.ok (Ex.normal,Z0,Z1::H)))))) (Tr.ok (Ex.exit 6,[(1,AV.ptr 0 0 0 0,none),(3,iI U,none),(4,AV.slc 0 2 0 0 1 L (some L),none),(6,AV.int .i64 t,none),(7,AV.slc 0 3 0 0 1 L (some L),none),(8,AV.int .i64 a,none),(9,AV.int .i64 c,none),(38,AV.bool false,some 1)],Z1::H))) (bO [(0,fT O U Z V J),(0,ao.row (rM g L)),(0,ao.row (rM y L)),(0,ao.row (rM x L))]))) [(1,AV.ptr 0 0 0 0,none),(3,iI U,none),(4,AV.slc 0 2 0 0 1 L (some L),none),(6,AV.int .i64 t,none),(7,AV.slc 0 3 0 0 1 L (some L),none),(8,AV.int .i64 a,none),(9,AV.int .i64 (bh .i64 c (ofNat 1)),none)]:=by kernel_rfl
theorem Ps (n:Nat) (O:Int) (U L:Nat) (Z:Nat→Int) (V:Nat) (J:Nat→Int) (H:aa) (g:Nat→Int) (y x x':Nat→Int) (t a:Int):aJ (bP n 64 66) (il aM n 0) (c9 aV 6 (pn 2 U L t a (ofNat 0)) (eS O U Z V J [cJ L g,cJ L y,cJ L x]::H) (.ok (.normal,hints (pn 2 U L t a (ofNat U)++[(38,.bool false)]),(eS O U Z V J [cJ L g,cJ L y,cJ L x']::H)))) aR (part Tryd.f64 [1,1,1,1,0,1,0,0,1,0,0,1,0,1,0,0]) (hints (mw 2 U L t a)) (eS O U Z V J [cJ L g,cJ L y,cJ L x]::H) =
 (fun (Z0:bK)=>((fun (Z1:aE)=>Tr.ite (bQ a (ofNat U)) (Tr.reqP (Z1=Z1∧Z0::H=Z0::H) (Tr.ok (Ex.normal,[(1,AV.ptr 0 0 0 0,none),(3,iI U,none),(4,AV.slc 0 2 0 0 1 L (some L),none),(6,AV.int .i64 t,none),(7,AV.slc 0 3 0 0 1 L (some L),none),(8,AV.int .i64 (bh .i64 a (ofNat 1)),none)],(bO [(0,fT O U Z V J),(0,ao.row (rM g L)),(0,ao.row (rM y L)),(0,ao.row (rM x' L))])::H))) (Tr.ok (Ex.exit 4,[(1,AV.ptr 0 0 0 0,none),(3,iI U,none),(4,AV.slc 0 2 0 0 1 L (some L),none),(6,AV.int .i64 t,none),(7,AV.slc 0 3 0 0 1 L (some L),none),(8,AV.int .i64 a,none),(33,AV.bool false,some 1)],Z0::H))) [(1,AV.ptr 0 0 0 0),(3,iI U),(4,AV.slc 0 2 0 0 1 L (some L)),(6,AV.int .i64 t),(7,AV.slc 0 3 0 0 1 L (some L)),(8,AV.int .i64 a),(9,iI 0)])) (bO [(0,fT O U Z V J),(0,ao.row (rM g L)),(0,ao.row (rM y L)),(0,ao.row (rM x L))]):=by kernel_rfl
theorem Pv (n:Nat) (O:Int) (U:Nat) (Z:Nat→Int) (V:Nat) (J:Nat→Int) (H:aa) (g:Nat→Int) (y x':Nat→Int) (t:Int):aJ (bP n 64 66) (il aM n 0) (c9 aV 4 (mw 2 U (cg (ofNat U)) t (ofNat 0)) (eS O U Z V J [cJ (cg (ofNat U)) g,cJ (cg (ofNat U)) y,cJ (cg (ofNat U)) (fun _=>ofNat 0)]::H) (.ok (.normal,hints (mw 2 U (cg (ofNat U)) t (ofNat U)++[(33,.bool false)]),(eS O U Z V J [cJ (cg (ofNat U)) g,cJ (cg (ofNat U)) y,cJ (cg (ofNat U)) x']::H)))) aR (part Tryd.f64 [1,1,1,1,0,1,0,0]) (hints (nB 2 U (cg (ofNat U)) 6 t)) (eS O U Z V J [cJ (cg (ofNat U)) g,cJ (cg (ofNat U)) y]::H) =
 (fun (Z0:aE)=>((fun (Z1:bK)=>Tr.ite (bQ t (ofNat U)) (Tr.req (CV (ofNat U) (ofNat U) 8) (Tr.reqP (Z0=Z0∧Z1::H=Z1::H) (Tr.ok (Ex.normal,[(1,AV.ptr 0 0 0 0,none),(3,iI U,none),(4,AV.slc 0 3 0 0 1 (cg (ofNat U)) (some (cg (ofNat U))),none),(6,AV.int .i64 (bh .i64 t (ofNat 1)),none)],(bO [(0,fT O U Z V J),(0,ao.row (rM g (cg (ofNat U)))),(0,ao.row (rM y (cg (ofNat U)))),(0,ao.row (rM x' (cg (ofNat U))))])::H)))) (Tr.ok (Ex.exit 2,[(1,AV.ptr 0 0 0 0,none),(3,iI U,none),(4,AV.slc 0 2 0 0 1 (cg (ofNat U)) (some (cg (ofNat U))),none),(6,AV.int .i64 t,none),(26,AV.bool false,some 1)],(bO [(0,fT O U Z V J),(0,ao.row (rM g (cg (ofNat U)))),(0,ao.row (rM y (cg (ofNat U))))])::H))) (bO [(0,fT O U Z V J),(0,ao.row (rM g (cg (ofNat U)))),(0,ao.row (rM y (cg (ofNat U)))),(0,ao.row (rM (fun x=>ofNat 0) (cg (ofNat U))))]))) [(1,AV.ptr 0 0 0 0),(3,iI U),(4,AV.slc 0 2 0 0 1 (cg (ofNat U)) (some (cg (ofNat U)))),(6,AV.int .i64 t),(7,AV.slc 0 3 0 0 1 (cg (ofNat U)) (some (cg (ofNat U)))),(8,iI 0)]:=by kernel_rfl
end Go.Eng
end
section
namespace Go.Eng
open Int (ofNat)
open Go.Proofs Go.Eng.Gall
def rf (V:Nat) (J:Nat→Int) (a c:Int):Bool:=dH (gT J a c) V
theorem Uj:∀ b,(0,b) ∈ aO (a7 Tryd.f79)→b=.loop (part Tryd.f79 [1,0,1,0,0]):=eP (by kernel_rfl)
theorem NH:∀ b,(0,b) ∈ aO (a7 Tryd.f64)→b=.loop (part Tryd.f64 [1,1,1,0,1,0,0]):=eP (by kernel_rfl)
theorem NI:∀ b,(2,b) ∈ aO (a7 Tryd.f64)→b=.loop (part Tryd.f64 [1,1,1,1,0,1,0,0]):=eP (by kernel_rfl)
theorem NJ:∀ b,(8,b) ∈ aO (a7 Tryd.f64)→b=.loop (part Tryd.f64 [1,1,1,1,1,0,1,0,0]):=eP (by kernel_rfl)
theorem JX:∀ b,(4,b) ∈ aO (part Tryd.f64 [1,1,1,1,0,1,0,0])→b=.loop (part Tryd.f64 [1,1,1,1,0,1,0,0,1,0,0,1,0,1,0,0]):=eP (by kernel_rfl)
theorem JY:∀ b,(6,b) ∈ aO (part Tryd.f64 [1,1,1,1,0,1,0,0,1,0,0,1,0,1,0,0])→b=.loop (part Tryd.f64 [1,1,1,1,0,1,0,0,1,0,0,1,0,1,0,0,1,0,0,1,0,0]):=eP (by kernel_rfl)
theorem Pt (n:Nat) (O:Int) (U L:Nat) (Z:Nat→Int) (V:Nat) (J:Nat→Int) (H:aa) (g y:Nat→Int) (j:Int):aJ (bP n 64 66) (il aM n 0) aV aR (part Tryd.f64 [1,1,1,1,1,0,1,0,0]) (hints (A4 U L j)) (eS O U Z V J [cJ L g,cJ L y]::H) =
 (fun (Z0:bK)=>Tr.ite (bQ j (ofNat U)) (Tr.req (bL j L) (Tr.req (aU 0 0) (Tr.req (bt (au 0 j 1) L) (Tr.ite (c7 (y (au 0 j 1)) (ofNat 1)) (Tr.ok (Ex.ret,[(2,AV.bool true,some 1)],Z0::H)) (Tr.ok (Ex.normal,[(3,iI U,none),(4,AV.slc 0 2 0 0 1 L (some L),none),(10,AV.int .i64 (bh .i64 j (ofNat 1)),none)],Z0::H)))))) (Tr.ok (Ex.exit 8,[(3,iI U,none),(4,AV.slc 0 2 0 0 1 L (some L),none),(10,AV.int .i64 j,none),(58,AV.bool false,some 1)],Z0::H))) (bO [(0,fT O U Z V J),(0,ao.row (rM g L)),(0,ao.row (rM y L))]):=by kernel_rfl
theorem u64 (n:Nat) (O:Int) (U:Nat) (Z:Nat→Int) (V:Nat) (J:Nat→Int) (H:aa) (y0 g y:Nat→Int) (e:Bool):bz Tryd.prog (cd n) 100000 64 Tryd.f64 (KtG.kt 64) (il aM n 0) (c9 (c9 (c9 aV 0 (nB 1 U (cg (ofNat U)) 5 (ofNat 0)) (eS O U Z V J [cJ (cg (ofNat U)) (fun _=>ofNat 0)]::H) (.ok (.normal,hints (nB 1 U (cg (ofNat U)) 5 (ofNat U)++[(18,.bool false)]),eS O U Z V J [cJ (cg (ofNat U)) y0]::H))) 2 (nB 1 U (cg (ofNat U)) 6 (ofNat 0)) (eS O U Z V J [cJ (cg (ofNat U)) y0]::H) (.ok (.normal,hints (nB 2 U (cg (ofNat U)) 6 (ofNat U)++[(26,.bool false)]),eS O U Z V J [cJ (cg (ofNat U)) g,cJ (cg (ofNat U)) y]::H))) 8 (A4 U (cg (ofNat U)) (ofNat 0)) (eS O U Z V J [cJ (cg (ofNat U)) g,cJ (cg (ofNat U)) y]::H) (.ite e (.ok (.ret,[(2,.bool true,none)],eS O U Z V J [cJ (cg (ofNat U)) g,cJ (cg (ofNat U)) y]::H)) (.ok (.normal,hints (A4 U (cg (ofNat U)) (ofNat U)++[(58,.bool false)]),eS O U Z V J [cJ (cg (ofNat U)) g,cJ (cg (ofNat U)) y]::H)))) aR [(bX O U Z V J,none)] H =
 (fun (Z0:Nat×AV)=>((fun (Z1:bK)=>((fun (Z2:aE)=>((fun (Z3:bK)=>Tr.req (CV (ofNat U) (ofNat U) 8) (Tr.reqP ([(1,AV.ptr 0 0 0 0),(3,iI U),Z0,(5,iI 0)]=[(1,AV.ptr 0 0 0 0),(3,iI U),Z0,(5,iI 0)]∧Z3::H=Z3::H) (Tr.reqP ([(1,AV.ptr 0 0 0 0),(3,iI U),Z0,(6,iI 0)]=[(1,AV.ptr 0 0 0 0),(3,iI U),Z0,(6,iI 0)]∧(bO [(0,fT O U Z V J),(0,ao.row (rM y0 (cg (ofNat U))))])::H=(bO [(0,fT O U Z V J),(0,ao.row (rM y0 (cg (ofNat U))))])::H) (Tr.reqP (Z2=Z2∧Z1::H=Z1::H) (Tr.ite e (Tr.ok ((AV.bool true,none),H)) (Tr.ok ((AV.bool false,some 1),H))))))) (bO [(0,fT O U Z V J),(0,ao.row (rM (fun x=>ofNat 0) (cg (ofNat U))))]))) [(3,iI U),(4,AV.slc 0 2 0 0 1 (cg (ofNat U)) (some (cg (ofNat U)))),(10,iI 0)])) (bO [(0,fT O U Z V J),(0,ao.row (rM g (cg (ofNat U)))),(0,ao.row (rM y (cg (ofNat U))))]))) (4,AV.slc 0 1 0 0 1 (cg (ofNat U)) (some (cg (ofNat U)))):=by kernel_rfl
section
variable (n:Nat) (O:Int) (U:Nat) (Z:Nat→Int) (V:Nat) (J:Nat→Int) (H:aa)
theorem UD (a b:Int) (hm:V≤1000):cd (n+1) (.fn 79) [bX O U Z V J,.int .i64 a,.int .i64 b] H=some (.bool (rf V J a b),H):=by
 have lp:=jE (n:=n) (f:=79) (nt:=24) (c:=part Tryd.f79 [1,0,1,0,0]) 0 (fun j=>D3 a b (j:Int)) (fun _=>mG O U Z V J::H) V (gT J a b) (fun j=>([(6,.bool true)],mG O U Z V J::H)) (D3 a b (ofNat V)++[(12,.bool false)],mG O U Z V J::H) wO (fun j hj=>?_) ?_
 · refine bU (n:=n) Tryd.func79 rfl rfl rfl (Xd n O U Z V J H a b (dH (gT J a b) V)) (aA n) (bf (aj _ _) Uj (fun x hx=>dQ hx lp)) (ak _ _) ?_;refine Tr.an ⟨rfl,rfl⟩ (Tr.af (fun hc=>Tr.ai ⟨?_,rfl⟩) (fun hc=>Tr.ai ⟨?_,rfl⟩))
   · unfold rf;rw[hc]
   · unfold rf;rw[hc]
 · have ej:bh .i64 (j:Int) (ofNat 1)=((j+1:Nat):Int):=fI wO;have ei:au 0 (j:Int) 2=j*2:=by rw[bN];omega
   have hp:bC (c7 (J (j*2)) a) (c7 (J (j*2+1)) b)=gT J a b j:=by
    rw[cD,bA,bA];unfold gT;rw[Bool.eq_iff_iff];simp;constructor<;>(rintro ⟨h1,h2⟩;exact ⟨h1.symm,h2.symm⟩)
   have T:=t79 n O U Z V J H a b (j:Int);rw[ei,aF,ej,hp] at T;refine aI T (aA n) (aj _ _) (ak _ _) ?_;refine Tr.af (fun h0=>?_) wJ;refine Tr.ae wG (Tr.ae wG (Tr.ae wG ?_));refine Tr.af (fun q=>Tr.ai ?_) (fun q=>Tr.ai ?_)
   · rw[if_pos q];rfl
   · rw[if_neg (by rw[q];decide)];exact ⟨rfl,rfl⟩
 · obtain ⟨x,h1,rfl⟩:=aI (Q:=fun x=>x=(.exit 0,D3 a b (ofNat V)++[(12,.bool false)],mG O U Z V J::H)) (t79 n O U Z V J H a b (ofNat V)) (aA n) (aj _ _) (ak _ _) (by
    refine Tr.af wJ (fun h0=>Tr.ai rfl))
   exact h1
theorem wN {c:Nat} (hc:0<c) (hm:V≤1000):(iz aM 79 (PY (bX O U Z V J) (rf V J))).Ok (cd c):=by
 obtain ⟨m,rfl⟩:∃ m,c=m+1:=⟨c-1,by omega⟩
 refine ml (bo _) (fun args p v hg hp H=>?_);unfold PY at hg;split at hg
 · simp only[nP] at hg;obtain ⟨rfl,rfl⟩:=hg;rw[hp];exact UD m O U Z V J H _ _ hm
 · cases hg
def dw (p:Nat→Bool) (j:Nat):Int:=if p j=true then 1 else 0
def uI (U V:Nat) (J:Nat→Int) (b:Nat→Nat) (t a j:Nat):Bool:=decide (j<U) && dH (fun a'=>bS U b t a' && rf V J a' j) a
def uJ (U V:Nat) (J:Nat→Int) (b:Nat→Nat) (t a c j:Nat):Bool:=uI U V J b t a j || (decide (j<c) && (bS U b t a && rf V J a j))
theorem Ki (b:Nat→Nat) (t:Nat):dw (uI U V J b t 0)=fun _=>ofNat 0:=by
 funext j;unfold dw uI;rw[if_neg]
 · rfl
 · intro h;rw[Bool.and_eq_true] at h;obtain ⟨i,hi,_⟩:=(cP _ _).1 h.2;omega
theorem Kj (b:Nat→Nat) (t a:Nat):uJ U V J b t a 0=uI U V J b t a:=by
 funext j;unfold uJ;simp
theorem C7 (b:Nat→Nat) (t a:Nat):uJ U V J b t a U=uI U V J b t (a+1):=by
 funext j;unfold uJ uI;have e:dH (fun a'=>bS U b t a' && rf V J a' j) (a+1)=(dH (fun a'=>bS U b t a' && rf V J a' j) a || (bS U b t a && rf V J a j)):=by
  rw[Bool.eq_iff_iff,Bool.or_eq_true,cP,cP];constructor
  · rintro ⟨i,h1,h2⟩;by_cases e:i=a
    · subst e;exact .inr h2
    · exact .inl ⟨i,by omega,h2⟩
  · rintro (⟨i,h1,h2⟩ | h)
    · exact ⟨i,by omega,h2⟩
    · exact ⟨a,by omega,h⟩
 rw[e];cases decide (j<U)<;>simp
theorem GC {b:Nat→Nat} (hb:b=fun c=>gf J c V) (hp:fB U V J) (t:Nat):uI U V J b t U=bS U b (t+1):=by
 funext j;rw[Bool.eq_iff_iff,gw];unfold uI rf;rw[Bool.and_eq_true,decide_eq_true_iff,cP];subst hb;constructor
 · rintro ⟨h1,a,h2,h3⟩;rw[Bool.and_eq_true,cP] at h3;obtain ⟨h3,i,hi,h4⟩:=h3;unfold gT at h4;rw[Bool.and_eq_true,decide_eq_true_iff,decide_eq_true_iff] at h4;exact ⟨h1,a,h3,(m4 J j a V (fun i hi=>(hp i hi).1.1)).2 ⟨i,hi,h4.1.symm,h4.2.symm⟩⟩
 · rintro ⟨h1,a,h2,h3⟩;obtain ⟨i,hi,h4,h5⟩:=(m4 J j a V (fun i hi=>(hp i hi).1.1)).1 h3;refine ⟨h1,a,nT h2,?_⟩;rw[Bool.and_eq_true,cP];exact ⟨h2,i,hi,by unfold gT;rw[Bool.and_eq_true,decide_eq_true_iff,decide_eq_true_iff];exact ⟨h4.symm,h5.symm⟩⟩
theorem C8 (b:Nat→Nat) (t a c:Nat) (h:(bS U b t a && rf V J a c)=true):cu (dw (uJ U V J b t a c)) c (ofNat 1)=dw (uJ U V J b t a (c+1)):=by
 rw[iP];funext j;unfold dw uJ;by_cases e:j=c
 · subst e;rw[if_pos rfl,h,decide_eq_true wO];rw[if_pos (by simp)];rfl
 · rw[if_neg e];by_cases h2:j<c
   · rw[decide_eq_true h2,decide_eq_true wO]
   · rw[decide_eq_false h2,decide_eq_false wO]
theorem r5 (b:Nat→Nat) (t a c:Nat) (h:(bS U b t a && rf V J a c)=false):uJ U V J b t a (c+1)=uJ U V J b t a c:=by
 funext j;unfold uJ;by_cases e:j=c
 · subst e;rw[h];simp
 · by_cases h2:j<c
   · rw[decide_eq_true h2,decide_eq_true wO]
   · rw[decide_eq_false h2,decide_eq_false wO]
theorem Br (p:Nat→Bool) (j:Nat):c7 (dw p j) (ofNat 1)=p j:=by
 rw[bA];unfold dw;cases p j<;>rfl
end
end Go.Eng
end
section
namespace Go.Eng
open Int (ofNat)
open Go.Proofs Go.Eng.Gall
noncomputable def LL (U:Nat):Nat:=cg (ofNat U)
theorem B5 (U:Nat):LL U=U:=by unfold LL;rw[j9];rfl
theorem M8 (n:Nat) (O:Int) (U L:Nat) (Z:Nat→Int) (V:Nat) (J:Nat→Int) (H:aa) (y x:Nat→Int) (t a:Int):aJ (bP n 64 66) (il aM n 0) (gb aV 6) aR (part Tryd.f64 [1,1,1,1,0,1,0,0,1,0,0,1,0,1,0,0]) (hints (mw 1 U L t a)) (eS O U Z V J [cJ L y,cJ L x]::H) =
 Tr.ite (bQ a (ofNat U)) Tr.bad (Tr.ok (Ex.exit 4,[(1,AV.ptr 0 0 0 0,none),(3,iI U,none),(4,AV.slc 0 1 0 0 1 L (some L),none),(6,AV.int .i64 t,none),(7,AV.slc 0 2 0 0 1 L (some L),none),(8,AV.int .i64 a,none),(33,AV.bool false,some 1)],(bO [(0,fT O U Z V J),(0,ao.row (rM y L)),(0,ao.row (rM x L))])::H)):=by kernel_rfl
theorem M9 (n:Nat) (O:Int) (U L:Nat) (Z:Nat→Int) (V:Nat) (J:Nat→Int) (H:aa) (g:Nat→Int) (y x:Nat→Int) (t a:Int):aJ (bP n 64 66) (il aM n 0) (gb aV 6) aR (part Tryd.f64 [1,1,1,1,0,1,0,0,1,0,0,1,0,1,0,0]) (hints (mw 2 U L t a)) (eS O U Z V J [cJ L g,cJ L y,cJ L x]::H) =
 Tr.ite (bQ a (ofNat U)) Tr.bad (Tr.ok (Ex.exit 4,[(1,AV.ptr 0 0 0 0,none),(3,iI U,none),(4,AV.slc 0 2 0 0 1 L (some L),none),(6,AV.int .i64 t,none),(7,AV.slc 0 3 0 0 1 L (some L),none),(8,AV.int .i64 a,none),(33,AV.bool false,some 1)],(bO [(0,fT O U Z V J),(0,ao.row (rM g L)),(0,ao.row (rM y L)),(0,ao.row (rM x L))])::H)):=by kernel_rfl
theorem Na (n:Nat) (O:Int) (U L:Nat) (Z:Nat→Int) (V:Nat) (J:Nat→Int) (H:aa) (g:Nat→Int) (y:Nat→Int) (t:Int):aJ (bP n 64 66) (il aM n 0) (gb aV 4) aR (part Tryd.f64 [1,1,1,1,0,1,0,0]) (hints (nB 2 U L 6 t)) (eS O U Z V J [cJ L g,cJ L y]::H) =
 Tr.ite (bQ t (ofNat U)) (Tr.req (CV (ofNat U) (ofNat U) 8) Tr.bad) (Tr.ok (Ex.exit 2,[(1,AV.ptr 0 0 0 0,none),(3,iI U,none),(4,AV.slc 0 2 0 0 1 L (some L),none),(6,AV.int .i64 t,none),(26,AV.bool false,some 1)],(bO [(0,fT O U Z V J),(0,ao.row (rM g L)),(0,ao.row (rM y L))])::H)):=by kernel_rfl
section
variable (n:Nat) (O:Int) (U:Nat) (Z:Nat→Int) (V:Nat) (J:Nat→Int) (b:Nat→Nat) (H:aa)
theorem Wq (t a:Nat) (hl:U≤10) (hb:V≤1000) (ha:a<U) (ti:Int):exec (bP (n+1) 64 66) (.block 6 (.loop (part Tryd.f64 [1,1,1,1,0,1,0,0,1,0,0,1,0,1,0,0,1,0,0,1,0,0]))) (pn 1 U (LL U) ti (a:Int) (ofNat 0)) (eS O U Z V J [cJ (LL U) (dw (bS U b t)),cJ (LL U) (dw (uJ U V J b t a 0))]::H) =
 some (.normal,pn 1 U (LL U) ti (a:Int) (ofNat U)++[(38,.bool false)],eS O U Z V J [cJ (LL U) (dw (bS U b t)),cJ (LL U) (dw (uJ U V J b t a U))]::H):=by
 have eL:=B5 U
 refine jY (n:=n+1) (f:=64) (nt:=66) (c:=part Tryd.f64 [1,1,1,1,0,1,0,0,1,0,0,1,0,1,0,0,1,0,0,1,0,0]) 6 (fun c=>pn 1 U (LL U) ti (a:Int) (c:Int)) (fun c=>eS O U Z V J [cJ (LL U) (dw (bS U b t)),cJ (LL U) (dw (uJ U V J b t a c))]::H) U (_,_) wO (fun c hc=>?_) ?_
 · have ec:bh .i64 (c:Int) (ofNat 1)=((c+1:Nat):Int):=fI wO
   have T:=Kv (n+1) O U (LL U) Z V J H (dw (bS U b t)) (dw (uJ U V J b t a c)) (rf V J) ti (a:Int) (c:Int)
   rw[Be,Be,ec,Br] at T
   refine aI T (bV _ _ (wN O U Z V J wO hb)) (aj _ _) (ak _ _) ?_
   refine Tr.af (fun h0=>?_) wJ
   refine Tr.ae (by rw[eL];simp (disch:=omega) only[nV,nW];omega) (Tr.ae wG (Tr.ae (by rw[eL];simp (disch:=omega) only[nV,nW];omega) (Tr.af (fun q=>?_) (fun q=>?_))))
   · refine Tr.an rfl (Tr.af (fun r=>?_) (fun r=>?_))
     · refine Tr.ae (by rw[eL];simp (disch:=omega) only[nV,nW];omega) (Tr.ae wG (Tr.ae (by rw[eL];simp (disch:=omega) only[nV,nW];omega) (Tr.ai ⟨rfl,?_⟩)))
       rw[C8 U V J b t a c (by rw[q,r];rfl)];rfl
     · refine Tr.ai ⟨rfl,?_⟩
       rw[r5 U V J b t a c (by rw[q,r];rfl)];rfl
   · refine Tr.ai ⟨rfl,?_⟩
     rw[r5 U V J b t a c (by rw[q];rfl)];rfl
 · obtain ⟨x,h1,rfl⟩:=aI (Q:=fun x=>x=(.exit 6,pn 1 U (LL U) ti (a:Int) (ofNat U)++[(38,.bool false)],eS O U Z V J [cJ (LL U) (dw (bS U b t)),cJ (LL U) (dw (uJ U V J b t a U))]::H)) (Kv (n+1) O U (LL U) Z V J H (dw (bS U b t)) (dw (uJ U V J b t a U)) (rf V J) ti (a:Int) (ofNat U)) (bV _ _ (wN O U Z V J wO hb)) (aj _ _) (ak _ _) (by
    refine Tr.af wJ (fun h0=>Tr.ai rfl))
   exact h1
theorem Wo (t:Nat) (hl:U≤10) (hb:V≤1000) (ti:Int):exec (bP (n+1) 64 66) (.block 4 (.loop (part Tryd.f64 [1,1,1,1,0,1,0,0,1,0,0,1,0,1,0,0]))) (mw 1 U (LL U) ti (ofNat 0)) (eS O U Z V J [cJ (LL U) (dw (bS U b t)),cJ (LL U) (dw (uI U V J b t 0))]::H) =
 some (.normal,mw 1 U (LL U) ti (ofNat U)++[(33,.bool false)],eS O U Z V J [cJ (LL U) (dw (bS U b t)),cJ (LL U) (dw (uI U V J b t U))]::H):=by
 refine jY (n:=n+1) (f:=64) (nt:=66) (c:=part Tryd.f64 [1,1,1,1,0,1,0,0,1,0,0,1,0,1,0,0]) 4 (fun a=>mw 1 U (LL U) ti (a:Int)) (fun a=>eS O U Z V J [cJ (LL U) (dw (bS U b t)),cJ (LL U) (dw (uI U V J b t a))]::H) U (_,_) wO (fun a ha=>?_) ?_
 · have ec:bh .i64 (a:Int) (ofNat 1)=((a+1:Nat):Int):=fI wO
   have hC:=Wq n O U Z V J b H t a hl hb ha ti
   rw[Kj,C7] at hC
   have T:=Pr (n+1) O U (LL U) Z V J H (dw (bS U b t)) (dw (uI U V J b t a)) (dw (uI U V J b t (a+1))) ti (a:Int)
   rw[ec] at T
   refine aI T (aA _) (bf (aj _ _) JY (fun x h=>by rw[← Tr.ab h];simp only[eD.st,aP];exact hC)) (ak _ _) ?_
   refine Tr.af (fun h0=>Tr.an ⟨rfl,rfl⟩ (Tr.ai ⟨rfl,rfl⟩)) wJ
 · obtain ⟨x,h1,rfl⟩:=aI (Q:=fun x=>x=(.exit 4,mw 1 U (LL U) ti (ofNat U)++[(33,.bool false)],eS O U Z V J [cJ (LL U) (dw (bS U b t)),cJ (LL U) (dw (uI U V J b t U))]::H)) (M8 (n+1) O U (LL U) Z V J H (dw (bS U b t)) (dw (uI U V J b t U)) ti (ofNat U)) (aA _) (cY (aj _ _) 6) (ak _ _) (by
    refine Tr.af wJ (fun h0=>Tr.ai rfl))
   exact h1
theorem Wr (g:Nat→Int) (t a:Nat) (hl:U≤10) (hb:V≤1000) (ha:a<U) (ti:Int):exec (bP (n+1) 64 66) (.block 6 (.loop (part Tryd.f64 [1,1,1,1,0,1,0,0,1,0,0,1,0,1,0,0,1,0,0,1,0,0]))) (pn 2 U (LL U) ti (a:Int) (ofNat 0)) (eS O U Z V J [cJ (LL U) g,cJ (LL U) (dw (bS U b t)),cJ (LL U) (dw (uJ U V J b t a 0))]::H) =
 some (.normal,pn 2 U (LL U) ti (a:Int) (ofNat U)++[(38,.bool false)],eS O U Z V J [cJ (LL U) g,cJ (LL U) (dw (bS U b t)),cJ (LL U) (dw (uJ U V J b t a U))]::H):=by
 have eL:=B5 U
 refine jY (n:=n+1) (f:=64) (nt:=66) (c:=part Tryd.f64 [1,1,1,1,0,1,0,0,1,0,0,1,0,1,0,0,1,0,0,1,0,0]) 6 (fun c=>pn 2 U (LL U) ti (a:Int) (c:Int)) (fun c=>eS O U Z V J [cJ (LL U) g,cJ (LL U) (dw (bS U b t)),cJ (LL U) (dw (uJ U V J b t a c))]::H) U (_,_) wO (fun c hc=>?_) ?_
 · have ec:bh .i64 (c:Int) (ofNat 1)=((c+1:Nat):Int):=fI wO
   have T:=Kw (n+1) O U (LL U) Z V J H g (dw (bS U b t)) (dw (uJ U V J b t a c)) (rf V J) ti (a:Int) (c:Int)
   rw[Be,Be,ec,Br] at T
   refine aI T (bV _ _ (wN O U Z V J wO hb)) (aj _ _) (ak _ _) ?_
   refine Tr.af (fun h0=>?_) wJ
   refine Tr.ae (by rw[eL];simp (disch:=omega) only[nV,nW];omega) (Tr.ae wG (Tr.ae (by rw[eL];simp (disch:=omega) only[nV,nW];omega) (Tr.af (fun q=>?_) (fun q=>?_))))
   · refine Tr.an rfl (Tr.af (fun r=>?_) (fun r=>?_))
     · refine Tr.ae (by rw[eL];simp (disch:=omega) only[nV,nW];omega) (Tr.ae wG (Tr.ae (by rw[eL];simp (disch:=omega) only[nV,nW];omega) (Tr.ai ⟨rfl,?_⟩)))
       rw[C8 U V J b t a c (by rw[q,r];rfl)];rfl
     · refine Tr.ai ⟨rfl,?_⟩
       rw[r5 U V J b t a c (by rw[q,r];rfl)];rfl
   · refine Tr.ai ⟨rfl,?_⟩
     rw[r5 U V J b t a c (by rw[q];rfl)];rfl
 · obtain ⟨x,h1,rfl⟩:=aI (Q:=fun x=>x=(.exit 6,pn 2 U (LL U) ti (a:Int) (ofNat U)++[(38,.bool false)],eS O U Z V J [cJ (LL U) g,cJ (LL U) (dw (bS U b t)),cJ (LL U) (dw (uJ U V J b t a U))]::H)) (Kw (n+1) O U (LL U) Z V J H g (dw (bS U b t)) (dw (uJ U V J b t a U)) (rf V J) ti (a:Int) (ofNat U)) (bV _ _ (wN O U Z V J wO hb)) (aj _ _) (ak _ _) (by
    refine Tr.af wJ (fun h0=>Tr.ai rfl))
   exact h1
theorem Wp (g:Nat→Int) (t:Nat) (hl:U≤10) (hb:V≤1000) (ti:Int):exec (bP (n+1) 64 66) (.block 4 (.loop (part Tryd.f64 [1,1,1,1,0,1,0,0,1,0,0,1,0,1,0,0]))) (mw 2 U (LL U) ti (ofNat 0)) (eS O U Z V J [cJ (LL U) g,cJ (LL U) (dw (bS U b t)),cJ (LL U) (dw (uI U V J b t 0))]::H) =
 some (.normal,mw 2 U (LL U) ti (ofNat U)++[(33,.bool false)],eS O U Z V J [cJ (LL U) g,cJ (LL U) (dw (bS U b t)),cJ (LL U) (dw (uI U V J b t U))]::H):=by
 refine jY (n:=n+1) (f:=64) (nt:=66) (c:=part Tryd.f64 [1,1,1,1,0,1,0,0,1,0,0,1,0,1,0,0]) 4 (fun a=>mw 2 U (LL U) ti (a:Int)) (fun a=>eS O U Z V J [cJ (LL U) g,cJ (LL U) (dw (bS U b t)),cJ (LL U) (dw (uI U V J b t a))]::H) U (_,_) wO (fun a ha=>?_) ?_
 · have ec:bh .i64 (a:Int) (ofNat 1)=((a+1:Nat):Int):=fI wO
   have hC:=Wr n O U Z V J b H g t a hl hb ha ti
   rw[Kj,C7] at hC
   have T:=Ps (n+1) O U (LL U) Z V J H g (dw (bS U b t)) (dw (uI U V J b t a)) (dw (uI U V J b t (a+1))) ti (a:Int)
   rw[ec] at T
   refine aI T (aA _) (bf (aj _ _) JY (fun x h=>by rw[← Tr.ab h];simp only[eD.st,aP];exact hC)) (ak _ _) ?_
   refine Tr.af (fun h0=>Tr.an ⟨rfl,rfl⟩ (Tr.ai ⟨rfl,rfl⟩)) wJ
 · obtain ⟨x,h1,rfl⟩:=aI (Q:=fun x=>x=(.exit 4,mw 2 U (LL U) ti (ofNat U)++[(33,.bool false)],eS O U Z V J [cJ (LL U) g,cJ (LL U) (dw (bS U b t)),cJ (LL U) (dw (uI U V J b t U))]::H)) (M9 (n+1) O U (LL U) Z V J H g (dw (bS U b t)) (dw (uI U V J b t U)) ti (ofNat U)) (aA _) (cY (aj _ _) 6) (ak _ _) (by
    refine Tr.af wJ (fun h0=>Tr.ai rfl))
   exact h1
end
end Go.Eng
end
