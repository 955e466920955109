/- Gall: CheckList: what it answers. -/
import Derived.Test.YtgphpjdchnfjlaaDoorV5Ga3x5
set_option linter.unusedVariables false
set_option linter.unusedSimpArgs false
set_option maxRecDepth 100000
section
namespace Go.Eng
open Int (ofNat)
open Go.Proofs Go.Eng.Gall
theorem yC {c f:Nat} {t:nH} {e:Bool} {C:List AV→Prop} (ht:t.Ok (cd c)) (h:∀ A H,C A→cd c (.fn f) A H=some (.bool e,H)):(mc t f (gB e C)).Ok (cd c):=by
 refine my ht (fun args p v hg hp H=>?_);unfold gB at hg;simp only[nP] at hg;obtain ⟨rfl,rfl⟩:=hg;exact h _ H hp
theorem yD {c f:Nat} {t:nH} {S:AV} {C:List AV→Prop} (ht:t.Ok (cd c)) (h:∀ A H,C A→cd c (.fn f) A H=some (S,H)):(mc t f (fun x=>some (C x,S))).Ok (cd c):=by
 refine my ht (fun args p v hg hp H=>?_);simp only[nP] at hg;obtain ⟨rfl,rfl⟩:=hg;exact h _ H hp
def iC (z:Nat→Int) (a b:Int) (i:Nat):Bool:=decide (a=z (i*2)) && decide (b=z (i*2+1))
def gI (U:Nat) (z:Nat→Int) (j:Nat):Bool:=decide (z (j*2)=z (j*2+1)) || (!(decide (0≤z (j*2)∧z (j*2)<U) && decide (0≤z (j*2+1)∧z (j*2+1)<U)) || dk (iC z (z (j*2)) (z (j*2+1))) j)
def dm (O:Int) (U:Nat) (Z:Nat→Int) (V:Nat) (J:Nat→Int):Int:=if U=0∨10<U∨40<V then 6 else if O<1∨100<O∨dk (jC Z) U=true then 3 else if dk (gI U J) V=true then 2 else if ma U (fun c=>dq J c V)=true then 16 else 0
theorem TX (n:Nat) (O:Int) (U:Nat) (Z:Nat→Int) (V:Nat) (J:Nat→Int) (H:aa):aZ Tryd.prog (cd (n+10)) 100000 22 Tryd.f22 (KtG.kt 22) (il (nJ aC 59 gW) (n+10) 0) (eI aK 1) aJ [(bt O U Z V J,none)] H =
 Tr.ite (bf (bT (bT (di (ofNat 0) (bL .i64 (ofNat U) (ofNat 1))) (di (bL .i64 (ofNat U) (ofNat 1)) (ofNat 9))) true)) (Tr.ok ((iI 6,some 1),H)) (Tr.ite (bF (ofNat 40) (ofNat V)) (Tr.ok ((iI 6,some 1),H)) (Tr.ite (bf (bT (bT (di (ofNat 1) O) (di O (ofNat 100))) true)) (Tr.ok ((iI 3,some 1),H)) Tr.bad)):=by kernel_rfl
theorem VO:∀ b,(0,b) ∈ aI (aW Tryd.f86)→b=.loop (part Tryd.f86 [1,0,1,0,0]):=dJ (by kernel_rfl)
theorem VE:∀ b,(1,b) ∈ aI (aW Tryd.f22)→b=.loop (part Tryd.f22 [1,1,1,1,0,1,0,0]):=dJ (by kernel_rfl)
section
variable (n:Nat) (m:Nat) (z:Nat→Int) (full:Bool) (a b:Int) (H:aa)
theorem Wg (hm:m≤1000):cd (n+1) (.fn 86) [Nt m z full,NX a b] H=some (.int .i64 (Dc (iC z a b) m),H):=by
 have lp:=ff (n:=n) (f:=86) (nt:=19) (c:=part Tryd.f86 [1,0,1,0,0]) 0 (fun j=>Eu m z full (j:Int)) (fun _=>KH a b::H) m (iC z a b) (fun j=>([(4,.int .i64 (j:Int))],KH a b::H)) (Eu m z full (ofNat m)++[(9,.bool false)],KH a b::H) wO (fun j hj=>?_) ?_
 · refine bp (n:=n) Tryd.func86 rfl rfl rfl (YV n m z full a b H ((fN (iC z a b) m 0:Nat):Int) (dk (iC z a b) m)) (aw n) (aU (ah _ _) VO (fun x hx=>cK hx lp)) (aj _ _) ?_;refine Tr.ak ⟨rfl,rfl⟩ (Tr.ae (fun hc=>Tr.ag ⟨?_,rfl⟩) (fun hc=>Tr.ag ⟨?_,rfl⟩))
   · unfold Dc;rw[if_pos hc]
   · unfold Dc;rw[if_neg (by rw[hc];decide)];rfl
 · have ej:bj .i64 (j:Int) (ofNat 1)=((j+1:Nat):Int):=dO wO;have ei:aq 0 (j:Int) 2=j*2:=by rw[bo];omega
   have hp:bT (cq a (z (j*2))) (cq b (z (j*2+1)))=iC z a b j:=by
    rw[ct,aQ,aQ];unfold iC;rw[Bool.eq_iff_iff];simp
   have T:=t86 n m z full a b H (j:Int);rw[ei,aH,ej,hp] at T;refine aA T (aw n) (ah _ _) (aj _ _) ?_;refine Tr.ae (fun h0=>?_) wJ;refine Tr.ab wG (Tr.ab wG (Tr.ab wG ?_));refine Tr.ae (fun q=>Tr.ag ?_) (fun q=>Tr.ag ?_)
   · rw[if_pos q];rfl
   · rw[if_neg (by rw[q];decide)];exact ⟨rfl,rfl⟩
 · obtain ⟨x,h1,rfl⟩:=aA (Q:=fun x=>x=(.exit 0,Eu m z full (ofNat m)++[(9,.bool false)],KH a b::H)) (t86 n m z full a b H (ofNat m)) (aw n) (ah _ _) (aj _ _) (by
    refine Tr.ae wJ (fun h0=>Tr.ag rfl))
   exact h1
theorem V2 (hm:m≤1000):cd (n+2) (.fn 61) [Nt m z full,NX a b] H=some (.bool (dk (iC z a b) m),H):=by
 have h:=fun H=>Wg n m z full a b H hm;refine bp (n:=n+1) Tryd.func61 rfl rfl rfl (YC (n+1) m z full a b H (Dc (iC z a b) m)) (bw _ (n+1) (bW (aR _) h)) (ah _ _) (aj _ _) ?_;refine Tr.ak rfl (Tr.ag ⟨?_,rfl⟩);rw[BI]
end
section
variable (n:Nat) (O:Int) (U:Nat) (Z:Nat→Int) (V:Nat) (J:Nat→Int) (H:aa)
noncomputable def Sz (a b:Int):bC:={ GO O U Z V J with bs:=(GO O U Z V J).bs++[(0,.row (.I .i64 [a,b])),(0,.dead)] }
noncomputable def Po (a b:Int):bC:={ GO O U Z V J with bs:=(GO O U Z V J).bs++[(0,.row (.I .i64 [a,b])),(0,.row (.I .i64 [a,b]))] }
noncomputable def NW (j:Nat):bC:=if J (j*2)=J (j*2+1) then Sz O U Z V J (J (j*2)) (J (j*2+1)) else Po O U Z V J (J (j*2)) (J (j*2+1))
theorem XP (h1:1≤U) (hl:U≤10) (hb:V≤40):exec (bJ (n+10) 22 69) (.block 1 (.loop (part Tryd.f22 [1,1,1,1,0,1,0,0]))) (Bv U V J (ofNat 0)) (GO O U Z V J::H) =
 some (cond (dk (gI U J) V) (.ret,[(2,.int .i64 2)],NW O U Z V J (fN (gI U J) V 0)::H) (.normal,Bv U V J (ofNat V)++[(38,.bool false)],GO O U Z V J::H)):=by
 have s3:bL .i64 (ofNat U) (ofNat 1)=(U:Int)-1:=by rw[eJ];exact iB (by show -9223372036854775808≤(U:Int)-1;omega) (by show (U:Int)-1≤_;omega)
 refine ff (n:=n+10) (f:=22) (nt:=69) (c:=part Tryd.f22 [1,1,1,1,0,1,0,0]) 1 (fun j=>Bv U V J (j:Int)) (fun _=>GO O U Z V J::H) V (gI U J) (fun j=>([(2,.int .i64 2)],NW O U Z V J j::H)) (_,_) wO (fun j hj=>?_) ?_
 · have ej:bj .i64 (j:Int) (ofNat 1)=((j+1:Nat):Int):=dO wO
   have ei:aq 0 (j:Int) 2=j*2:=by rw[bo];omega
   have et:b8 (j:Int)=j:=by rw[kd];omega
   have hin:bf (bT (bT (di (ofNat 0) (J (j*2))) (di (J (j*2)) (bL .i64 (ofNat U) (ofNat 1)))) (bT (bT (di (ofNat 0) (J (j*2+1))) (di (J (j*2+1)) (bL .i64 (ofNat U) (ofNat 1)))) true))=!(decide (0≤J (j*2)∧J (j*2)<U) && decide (0≤J (j*2+1)∧J (j*2+1)<U)):=by
    rw[s3,av,ct,ct,ct,ct,bk,bk,bk,bk];rw[Bool.eq_iff_iff];simp;omega
   have T:=t22 n O U Z V J H (j:Int) (dk (iC J (J (j*2)) (J (j*2+1))) j) (fun A=>A=[Nt j J (bT false (cH j V)),NX (J (j*2)) (J (j*2+1))])
   rw[ei,aH,ej,et] at T
   rw[hin] at T
   refine aA T (bw _ _ (by
    rw[show n+10=n+4+6 by omega];refine yE (n:=n+4) (yC (aR _) (fun A H hA=>?_));subst hA;rw[show n+4+6=n+8+2 by omega];exact V2 (n+8) j J _ _ _ H wO)) (ah _ _) (aj _ _) ?_
   refine Tr.ae (fun h0=>?_) wJ
   refine Tr.ab wG (Tr.ab wG (Tr.ab wG (Tr.ab wG (Tr.ab wG ?_))))
   refine Tr.ae (fun q=>?_) (fun q=>?_)
   · have q:J (j*2)=J (j*2+1):=by rw[aQ,beq_iff_eq] at q;exact q
     refine Tr.ag ?_
     rw[if_pos (by unfold gI;rw[decide_eq_true q];rfl)]
     unfold NW;rw[if_pos q];rfl
   · have q:¬ J (j*2)=J (j*2+1):=by rw[aQ,beq_eq_false_iff_ne] at q;exact q
     have hX:NW O U Z V J j=Po O U Z V J (J (j*2)) (J (j*2+1)):=by unfold NW;rw[if_neg q]
     refine Tr.ab wG (Tr.ab wG (Tr.ae (fun r=>?_) (fun r=>?_)))
     · refine Tr.ag ?_
       rw[if_pos (by unfold gI;rw[r];simp),hX];rfl
     · refine Tr.ab wG (Tr.ab wG (Tr.ak rfl (Tr.ae (fun u=>?_) (fun u=>?_))))
       · refine Tr.ag ?_
         rw[if_pos (by unfold gI;rw[u];simp),hX];rfl
       · refine Tr.ag ?_
         rw[if_neg (by unfold gI;rw[u,r,decide_eq_false q];simp)]
         exact ⟨rfl,rfl⟩
 · obtain ⟨x,h1,rfl⟩:=aA (Q:=fun x=>x=(.exit 1,Bv U V J (ofNat V)++[(38,.bool false)],GO O U Z V J::H)) (t22 n O U Z V J H (ofNat V) true (fun A=>False)) (bw _ _ (by
    rw[show n+10=n+4+6 by omega];exact yE (n:=n+4) (yC (aR _) (fun A H hA=>hA.elim)))) (ah _ _) (aj _ _) (by
    refine Tr.ae wJ (fun h0=>Tr.ag rfl))
   exact h1
theorem pW {U V:Nat} {J:Nat→Int} (h:dk (gI U J) V=false):iL U V J:=fun j hj=>by
 have:=pc h j hj;unfold gI at this;simp only[Bool.or_eq_false_iff,Bool.not_eq_false',Bool.and_eq_true,decide_eq_true_eq] at this;exact ⟨this.2.1.1,this.2.1.2⟩
theorem Q6 (hl:U≤1000) (hb:V≤1000):cd (n+11) (.fn 22) [bt O U Z V J] H=some (.int .i64 (dm O U Z V J),H):=by
 have s3:bL .i64 (ofNat U) (ofNat 1)=(U:Int)-1:=by rw[eJ];exact iB (by show -9223372036854775808≤(U:Int)-1;omega) (by show (U:Int)-1≤_;omega)
 have hv:=fun h:dk (jC Z) U=false=>(pc h:wH U Z)
 have ht:(mc (mc (nJ (mc aC 60 (gB (dk (jC Z) U) (fun A=>A=[slA 4 U Z,.fn (.func 58) [] []]))) 59 gW) 62 (fun x=>some (x=[bt O U Z V J]∧(U≤10∧(1≤O∧O≤100)∧wH U Z∧iL U V J),KU O U Z V J))) 63 (gB (ma U (fun c=>dq J c V)) (fun A=>A=[KU O U Z V J]∧(U≤10∧iL U V J)))).Ok (cd (n+10)):=by
  refine yC (yD ?_ (fun A H hA=>?_)) (fun A H hA=>?_)
  · rw[show n+10=n+4+6 by omega];refine yE (n:=n+4) (yC (aR _) (fun A H hA=>?_));subst hA;rw[show n+4+6=n+10 by omega];exact V1 n U Z H hl
  · obtain ⟨rfl,a1,a2,a3,a4⟩:=hA;rw[show n+10=n+3+7 by omega];exact QF (n+3) O U Z V J H a1 hb a2 a3 a4
  · obtain ⟨rfl,a1,a4⟩:=hA;rw[show n+10=n+8+2 by omega];exact V3 (n+8) O U Z V J (bR O U Z) (fun c=>dq J c V) H a1 (fun c _=>Nat.lt_of_lt_of_le (qc J c U V (fun i hi=>(a4 i hi).1)) (Nat.pow_le_pow_right (by decide) wO))
 by_cases k0:1≤U∧U≤10∧V≤40
 · obtain ⟨k1,k2,k3⟩:=k0;refine bp (n:=n+10) Tryd.func22 rfl rfl rfl (Yt n O U Z V J H (NW O U Z V J (fN (gI U J) V 0)) (dk (jC Z) U) (ma U (fun c=>dq J c V)) (dk (gI U J) V) (fun A=>A=[slA 4 U Z,.fn (.func 58) [] []]) (fun A=>A=[bt O U Z V J]∧(U≤10∧(1≤O∧O≤100)∧wH U Z∧iL U V J)) (fun A=>A=[KU O U Z V J]∧(U≤10∧iL U V J)) (KU O U Z V J)) (bw _ _ ht) (aU (ah _ _) VE (fun y h=>cK h (XP n O U Z V J H k1 k2 k3))) (aj _ _) ?_;have hG:dm O U Z V J=if O<1∨100<O∨dk (jC Z) U=true then 3 else if dk (gI U J) V=true then 2 else if ma U (fun c=>dq J c V)=true then 16 else 0:=by unfold dm;rw[if_neg wO]
   rw[hG,s3];refine Tr.ae (fun q=>?_) (fun q=>?_)
   · exfalso;rw[av,ct,ct,bk,bk] at q;simp at q;omega
   refine Tr.ae wJ (fun q=>?_);refine Tr.ae (fun q=>?_) (fun q=>?_)
   · rw[av,ct,ct,bk,bk] at q;simp at q;rw[if_pos wO];exact Tr.ag ⟨rfl,rfl⟩
   · rw[av,ct,ct,bk,bk] at q;simp at q;refine Tr.ak rfl (Tr.ae (fun r=>?_) (fun r=>?_))
     · rw[if_pos (.inr (.inr r))];exact Tr.ag ⟨rfl,rfl⟩
     · rw[if_neg (by rintro (h | h | h);omega;omega;rw[r] at h;cases h)];refine Tr.ak ⟨by rw[← s3],by rw[← s3]⟩ (Tr.ae (fun u=>?_) (fun u=>?_))
       · rw[if_pos u];exact Tr.ag ⟨rfl,rfl⟩
       · rw[if_neg (by rw[u];decide)];refine Tr.ak ⟨rfl,k2,by omega,hv r,pW u⟩ (Tr.ak ⟨rfl,k2,pW u⟩ (Tr.ae (fun w=>?_) (fun w=>?_)))
         · rw[if_pos w];exact Tr.ag ⟨rfl,rfl⟩
         · rw[if_neg (by rw[w];decide)];exact Tr.ag ⟨rfl,rfl⟩
 · refine bp (n:=n+10) Tryd.func22 rfl rfl rfl (TX n O U Z V J H) (bw _ _ (by
    rw[show n+10=n+4+6 by omega];exact yE (n:=n+4) (aR _))) (b9 (ah _ _) 1) (aj _ _) ?_
   have hG:dm O U Z V J=6:=by unfold dm;rw[if_pos wO]
   rw[hG,s3];refine Tr.ae (fun q=>Tr.ag ⟨rfl,rfl⟩) (fun q=>?_);refine Tr.ae (fun q=>Tr.ag ⟨rfl,rfl⟩) (fun q2=>?_);exfalso;rw[av,ct,ct,bk,bk] at q;simp at q;simp (disch:=omega) only[nV,nW] at q2;omega
end
end Go.Eng
end
section
namespace Go.Eng
open Int (ofNat)
open Go.Proofs
noncomputable def bU (O:Int) (U:Nat) (Z:Nat→Int) (V:Nat) (J:Nat→Int):bC:=⟨false,[(0,.row (.G [.int .i64 O,slA 4 U Z,slA 2 V J]))]⟩
noncomputable def Es (a b j:Int):aD:=[(1,.int .i64 a),(2,.int .i64 b),(3,.ptr 0 0 0 0),(7,.int .i64 j)]
noncomputable def fb (O:Int) (U:Nat) (Z:Nat→Int) (V:Nat) (J:Nat→Int) (bs:List (Nat×al)):bC:=⟨false,(0,.row (.G [.int .i64 O,slA 4 U Z,slA 2 V J]))::bs⟩
noncomputable def cP (L:Nat) (y:Nat→Int):Nat×al:=(0,.row (.M [.arr .i64 y L]))
noncomputable def nB (i U L:Nat) (s:Nat) (j:Int):aD:=[(1,.ptr 0 0 0 0),(3,.int .i64 (ofNat U)),(4,.slc 0 i 0 0 1 L (some L)),(s,.int .i64 j)]
noncomputable def By (U L:Nat) (j:Int):aD:=[(3,.int .i64 (ofNat U)),(4,.slc 0 2 0 0 1 L (some L)),(10,.int .i64 j)]
noncomputable def mC (i U L:Nat) (t a:Int):aD:=[(1,.ptr 0 0 0 0),(3,.int .i64 (ofNat U)),(4,.slc 0 i 0 0 1 L (some L)),(6,.int .i64 t),(7,.slc 0 (Nat.succ i) 0 0 1 L (some L)),(8,.int .i64 a)]
noncomputable def po (i U L:Nat) (t a c:Int):aD:=mC i U L t a++[(9,.int .i64 c)]
noncomputable def QH (A:AV) (P:Int→Int→Bool):List AV→Option (Prop×AV)
 | [B,.int .i64 a,.int .i64 c]=>some (B=A,.bool (P a c))
 | _=>none
theorem t79 (n:Nat) (O:Int) (U:Nat) (Z:Nat→Int) (V:Nat) (J:Nat→Int) (H:aa) (a b j:Int):aF (bJ n 79 24) (il aC n 0) aK aJ (part Tryd.f79 [1,0,1,0,0]) (hints (Es a b j)) (bU O U Z V J::H) =
 Tr.ite (bF j (ofNat V)) (Tr.req (cu j V) (Tr.req (bX (aq 0 j 2) (cr V 2)) (Tr.req (bX (au (aq 0 j 2) 1) (cr V 2)) (Tr.ite (bT (cq (J (aq 0 j 2)) a) (cq (J (au (aq 0 j 2) 1)) b)) (Tr.ok (Ex.ret,[(6,AV.bool true,some 1)],(bm [(0,dc O U Z V J)])::H)) (Tr.ok (Ex.normal,[(1,AV.int .i64 a,none),(2,AV.int .i64 b,none),(3,AV.ptr 0 0 0 0,none),(7,AV.int .i64 (bj .i64 j (ofNat 1)),none)],(bm [(0,dc O U Z V J)])::H)))))) (Tr.ok (Ex.exit 0,[(1,AV.int .i64 a,none),(2,AV.int .i64 b,none),(3,AV.ptr 0 0 0 0,none),(7,AV.int .i64 j,none),(12,AV.bool false,some 1)],(bm [(0,dc O U Z V J)])::H)):=by kernel_rfl
theorem YN (n:Nat) (O:Int) (U:Nat) (Z:Nat→Int) (V:Nat) (J:Nat→Int) (H:aa) (a b:Int) (e:Bool):aZ Tryd.prog (cd n) 100000 79 Tryd.f79 (KtG.kt 79) (il aC n 0) (cE aK 0 (Es a b (ofNat 0)) (bU O U Z V J::H) (.ite e (.ok (.ret,[(6,.bool true,none)],bU O U Z V J::H)) (.ok (.normal,hints (Es a b (ofNat V)++[(12,.bool false)]),bU O U Z V J::H)))) aJ [(bt O U Z V J,none),(.int .i64 a,none),(.int .i64 b,none)] H =
 Tr.reqP ([(1,AV.int .i64 a),(2,AV.int .i64 b),(3,AV.ptr 0 0 0 0),(7,iI 0)]=[(1,AV.int .i64 a),(2,AV.int .i64 b),(3,AV.ptr 0 0 0 0),(7,iI 0)]∧(bm [(0,dc O U Z V J)])::H=(bm [(0,dc O U Z V J)])::H) (Tr.ite e (Tr.ok ((AV.bool true,none),H)) (Tr.ok ((AV.bool false,some 1),H))):=by kernel_rfl
theorem P8 (n:Nat) (O:Int) (U L:Nat) (Z:Nat→Int) (V:Nat) (J:Nat→Int) (H:aa) (y:Nat→Int) (j:Int):aF (bJ n 64 66) (il aC n 0) aK aJ (part Tryd.f64 [1,1,1,0,1,0,0]) (hints (nB 1 U L 5 j)) (fb O U Z V J [cP L y]::H) =
 Tr.ite (bF j (ofNat U)) (Tr.req (cu j L) (Tr.req (cH 0 0) (Tr.req (bX (aq 0 j 1) L) (Tr.ok (Ex.normal,[(1,AV.ptr 0 0 0 0,none),(3,iI U,none),(4,AV.slc 0 1 0 0 1 L (some L),none),(5,AV.int .i64 (bj .i64 j (ofNat 1)),none)],(bm [(0,dc O U Z V J),(0,al.row (rM (dh y (aq 0 j 1) (ofNat 1)) L))])::H))))) (Tr.ok (Ex.exit 0,[(1,AV.ptr 0 0 0 0,none),(3,iI U,none),(4,AV.slc 0 1 0 0 1 L (some L),none),(5,AV.int .i64 j,none),(18,AV.bool false,some 1)],(bm [(0,dc O U Z V J),(0,al.row (rM y L))])::H)):=by kernel_rfl
theorem KX (n:Nat) (O:Int) (U L:Nat) (Z:Nat→Int) (V:Nat) (J:Nat→Int) (H:aa) (y x:Nat→Int) (P:Int→Int→Bool) (t a c:Int):aF (bJ n 64 66) (il (mc aC 79 (QH (bt O U Z V J) P)) n 0) aK aJ (part Tryd.f64 [1,1,1,1,0,1,0,0,1,0,0,1,0,1,0,0,1,0,0,1,0,0]) (hints (po 1 U L t a c)) (fb O U Z V J [cP L y,cP L x]::H) =
 (fun (Z0:aT)=>((fun (Z1:bC)=>Tr.ite (bF c (ofNat U)) (Tr.req (cu a L) (Tr.req (cH 0 0) (Tr.req (bX (aq 0 a 1) L) (Tr.ite (cq (y (aq 0 a 1)) (ofNat 1)) (Tr.reqP (bt O U Z V J=bt O U Z V J) (Tr.ite (P a c) (Tr.req (cu c L) (Tr.req (cH 0 0) (Tr.req (bX (aq 0 c 1) L) (Tr.ok (Ex.normal,Z0,(bm [(0,dc O U Z V J),(0,al.row (rM y L)),(0,al.row (rM (dh x (aq 0 c 1) (ofNat 1)) L))])::H))))) (Tr.ok (Ex.normal,Z0,Z1::H)))) (Tr.ok (Ex.normal,Z0,Z1::H)))))) (Tr.ok (Ex.exit 6,[(1,AV.ptr 0 0 0 0,none),(3,iI U,none),(4,AV.slc 0 1 0 0 1 L (some L),none),(6,AV.int .i64 t,none),(7,AV.slc 0 2 0 0 1 L (some L),none),(8,AV.int .i64 a,none),(9,AV.int .i64 c,none),(38,AV.bool false,some 1)],Z1::H))) (bm [(0,dc O U Z V J),(0,al.row (rM y L)),(0,al.row (rM x L))]))) [(1,AV.ptr 0 0 0 0,none),(3,iI U,none),(4,AV.slc 0 1 0 0 1 L (some L),none),(6,AV.int .i64 t,none),(7,AV.slc 0 2 0 0 1 L (some L),none),(8,AV.int .i64 a,none),(9,AV.int .i64 (bj .i64 c (ofNat 1)),none)]:=by kernel_rfl
theorem P9 (n:Nat) (O:Int) (U L:Nat) (Z:Nat→Int) (V:Nat) (J:Nat→Int) (H:aa) (y x x':Nat→Int) (t a:Int):aF (bJ n 64 66) (il aC n 0) (cE aK 6 (po 1 U L t a (ofNat 0)) (fb O U Z V J [cP L y,cP L x]::H) (.ok (.normal,hints (po 1 U L t a (ofNat U)++[(38,.bool false)]),(fb O U Z V J [cP L y,cP L x']::H)))) aJ (part Tryd.f64 [1,1,1,1,0,1,0,0,1,0,0,1,0,1,0,0]) (hints (mC 1 U L t a)) (fb O U Z V J [cP L y,cP L x]::H) =
 (fun (Z0:aD)=>((fun (Z1:bC)=>Tr.ite (bF a (ofNat U)) (Tr.reqP (Z0=Z0∧Z1::H=Z1::H) (Tr.ok (Ex.normal,[(1,AV.ptr 0 0 0 0,none),(3,iI U,none),(4,AV.slc 0 1 0 0 1 L (some L),none),(6,AV.int .i64 t,none),(7,AV.slc 0 2 0 0 1 L (some L),none),(8,AV.int .i64 (bj .i64 a (ofNat 1)),none)],(bm [(0,dc O U Z V J),(0,al.row (rM y L)),(0,al.row (rM x' L))])::H))) (Tr.ok (Ex.exit 4,[(1,AV.ptr 0 0 0 0,none),(3,iI U,none),(4,AV.slc 0 1 0 0 1 L (some L),none),(6,AV.int .i64 t,none),(7,AV.slc 0 2 0 0 1 L (some L),none),(8,AV.int .i64 a,none),(33,AV.bool false,some 1)],Z1::H))) (bm [(0,dc O U Z V J),(0,al.row (rM y L)),(0,al.row (rM x L))]))) [(1,AV.ptr 0 0 0 0),(3,iI U),(4,AV.slc 0 1 0 0 1 L (some L)),(6,AV.int .i64 t),(7,AV.slc 0 2 0 0 1 L (some L)),(8,AV.int .i64 a),(9,iI 0)]:=by kernel_rfl
theorem Qc (n:Nat) (O:Int) (U:Nat) (Z:Nat→Int) (V:Nat) (J:Nat→Int) (H:aa) (y x':Nat→Int) (t:Int):aF (bJ n 64 66) (il aC n 0) (cE aK 4 (mC 1 U (b8 (ofNat U)) t (ofNat 0)) (fb O U Z V J [cP (b8 (ofNat U)) y,cP (b8 (ofNat U)) (fun _=>ofNat 0)]::H) (.ok (.normal,hints (mC 1 U (b8 (ofNat U)) t (ofNat U)++[(33,.bool false)]),(fb O U Z V J [cP (b8 (ofNat U)) y,cP (b8 (ofNat U)) x']::H)))) aJ (part Tryd.f64 [1,1,1,1,0,1,0,0]) (hints (nB 1 U (b8 (ofNat U)) 6 t)) (fb O U Z V J [cP (b8 (ofNat U)) y]::H) =
 (fun (Z0:aD)=>((fun (Z1:bC)=>Tr.ite (bF t (ofNat U)) (Tr.req (Dl (ofNat U) (ofNat U) 8) (Tr.reqP (Z0=Z0∧Z1::H=Z1::H) (Tr.ok (Ex.normal,[(1,AV.ptr 0 0 0 0,none),(3,iI U,none),(4,AV.slc 0 2 0 0 1 (b8 (ofNat U)) (some (b8 (ofNat U))),none),(6,AV.int .i64 (bj .i64 t (ofNat 1)),none)],(bm [(0,dc O U Z V J),(0,al.row (rM y (b8 (ofNat U)))),(0,al.row (rM x' (b8 (ofNat U))))])::H)))) (Tr.ok (Ex.exit 2,[(1,AV.ptr 0 0 0 0,none),(3,iI U,none),(4,AV.slc 0 1 0 0 1 (b8 (ofNat U)) (some (b8 (ofNat U))),none),(6,AV.int .i64 t,none),(26,AV.bool false,some 1)],(bm [(0,dc O U Z V J),(0,al.row (rM y (b8 (ofNat U))))])::H))) (bm [(0,dc O U Z V J),(0,al.row (rM y (b8 (ofNat U)))),(0,al.row (rM (fun x=>ofNat 0) (b8 (ofNat U))))]))) [(1,AV.ptr 0 0 0 0),(3,iI U),(4,AV.slc 0 1 0 0 1 (b8 (ofNat U)) (some (b8 (ofNat U)))),(6,AV.int .i64 t),(7,AV.slc 0 2 0 0 1 (b8 (ofNat U)) (some (b8 (ofNat U)))),(8,iI 0)]:=by kernel_rfl
theorem KY (n:Nat) (O:Int) (U L:Nat) (Z:Nat→Int) (V:Nat) (J:Nat→Int) (H:aa) (g:Nat→Int) (y x:Nat→Int) (P:Int→Int→Bool) (t a c:Int):aF (bJ n 64 66) (il (mc aC 79 (QH (bt O U Z V J) P)) n 0) aK aJ (part Tryd.f64 [1,1,1,1,0,1,0,0,1,0,0,1,0,1,0,0,1,0,0,1,0,0]) (hints (po 2 U L t a c)) (fb O U Z V J [cP L g,cP L y,cP L x]::H) =
 (fun (Z0:aT)=>((fun (Z1:bC)=>Tr.ite (bF c (ofNat U)) (Tr.req (cu a L) (Tr.req (cH 0 0) (Tr.req (bX (aq 0 a 1) L) (Tr.ite (cq (y (aq 0 a 1)) (ofNat 1)) (Tr.reqP (bt O U Z V J=bt O U Z V J) (Tr.ite (P a c) (Tr.req (cu c L) (Tr.req (cH 0 0) (Tr.req (bX (aq 0 c 1) L) (Tr.ok (Ex.normal,Z0,(bm [(0,dc O U Z V J),(0,al.row (rM g L)),(0,al.row (rM y L)),(0,al.row (rM (dh x (aq 0 c 1) (ofNat 1)) L))])::H))))) (Tr.ok (Ex.normal,Z0,Z1::H)))) (Tr.ok (Ex.normal,Z0,Z1::H)))))) (Tr.ok (Ex.exit 6,[(1,AV.ptr 0 0 0 0,none),(3,iI U,none),(4,AV.slc 0 2 0 0 1 L (some L),none),(6,AV.int .i64 t,none),(7,AV.slc 0 3 0 0 1 L (some L),none),(8,AV.int .i64 a,none),(9,AV.int .i64 c,none),(38,AV.bool false,some 1)],Z1::H))) (bm [(0,dc O U Z V J),(0,al.row (rM g L)),(0,al.row (rM y L)),(0,al.row (rM x L))]))) [(1,AV.ptr 0 0 0 0,none),(3,iI U,none),(4,AV.slc 0 2 0 0 1 L (some L),none),(6,AV.int .i64 t,none),(7,AV.slc 0 3 0 0 1 L (some L),none),(8,AV.int .i64 a,none),(9,AV.int .i64 (bj .i64 c (ofNat 1)),none)]:=by kernel_rfl
theorem Qa (n:Nat) (O:Int) (U L:Nat) (Z:Nat→Int) (V:Nat) (J:Nat→Int) (H:aa) (g:Nat→Int) (y x x':Nat→Int) (t a:Int):aF (bJ n 64 66) (il aC n 0) (cE aK 6 (po 2 U L t a (ofNat 0)) (fb O U Z V J [cP L g,cP L y,cP L x]::H) (.ok (.normal,hints (po 2 U L t a (ofNat U)++[(38,.bool false)]),(fb O U Z V J [cP L g,cP L y,cP L x']::H)))) aJ (part Tryd.f64 [1,1,1,1,0,1,0,0,1,0,0,1,0,1,0,0]) (hints (mC 2 U L t a)) (fb O U Z V J [cP L g,cP L y,cP L x]::H) =
 (fun (Z0:bC)=>((fun (Z1:aD)=>Tr.ite (bF a (ofNat U)) (Tr.reqP (Z1=Z1∧Z0::H=Z0::H) (Tr.ok (Ex.normal,[(1,AV.ptr 0 0 0 0,none),(3,iI U,none),(4,AV.slc 0 2 0 0 1 L (some L),none),(6,AV.int .i64 t,none),(7,AV.slc 0 3 0 0 1 L (some L),none),(8,AV.int .i64 (bj .i64 a (ofNat 1)),none)],(bm [(0,dc O U Z V J),(0,al.row (rM g L)),(0,al.row (rM y L)),(0,al.row (rM x' L))])::H))) (Tr.ok (Ex.exit 4,[(1,AV.ptr 0 0 0 0,none),(3,iI U,none),(4,AV.slc 0 2 0 0 1 L (some L),none),(6,AV.int .i64 t,none),(7,AV.slc 0 3 0 0 1 L (some L),none),(8,AV.int .i64 a,none),(33,AV.bool false,some 1)],Z0::H))) [(1,AV.ptr 0 0 0 0),(3,iI U),(4,AV.slc 0 2 0 0 1 L (some L)),(6,AV.int .i64 t),(7,AV.slc 0 3 0 0 1 L (some L)),(8,AV.int .i64 a),(9,iI 0)])) (bm [(0,dc O U Z V J),(0,al.row (rM g L)),(0,al.row (rM y L)),(0,al.row (rM x L))]):=by kernel_rfl
theorem Qd (n:Nat) (O:Int) (U:Nat) (Z:Nat→Int) (V:Nat) (J:Nat→Int) (H:aa) (g:Nat→Int) (y x':Nat→Int) (t:Int):aF (bJ n 64 66) (il aC n 0) (cE aK 4 (mC 2 U (b8 (ofNat U)) t (ofNat 0)) (fb O U Z V J [cP (b8 (ofNat U)) g,cP (b8 (ofNat U)) y,cP (b8 (ofNat U)) (fun _=>ofNat 0)]::H) (.ok (.normal,hints (mC 2 U (b8 (ofNat U)) t (ofNat U)++[(33,.bool false)]),(fb O U Z V J [cP (b8 (ofNat U)) g,cP (b8 (ofNat U)) y,cP (b8 (ofNat U)) x']::H)))) aJ (part Tryd.f64 [1,1,1,1,0,1,0,0]) (hints (nB 2 U (b8 (ofNat U)) 6 t)) (fb O U Z V J [cP (b8 (ofNat U)) g,cP (b8 (ofNat U)) y]::H) =
 (fun (Z0:aD)=>((fun (Z1:bC)=>Tr.ite (bF t (ofNat U)) (Tr.req (Dl (ofNat U) (ofNat U) 8) (Tr.reqP (Z0=Z0∧Z1::H=Z1::H) (Tr.ok (Ex.normal,[(1,AV.ptr 0 0 0 0,none),(3,iI U,none),(4,AV.slc 0 3 0 0 1 (b8 (ofNat U)) (some (b8 (ofNat U))),none),(6,AV.int .i64 (bj .i64 t (ofNat 1)),none)],(bm [(0,dc O U Z V J),(0,al.row (rM g (b8 (ofNat U)))),(0,al.row (rM y (b8 (ofNat U)))),(0,al.row (rM x' (b8 (ofNat U))))])::H)))) (Tr.ok (Ex.exit 2,[(1,AV.ptr 0 0 0 0,none),(3,iI U,none),(4,AV.slc 0 2 0 0 1 (b8 (ofNat U)) (some (b8 (ofNat U))),none),(6,AV.int .i64 t,none),(26,AV.bool false,some 1)],(bm [(0,dc O U Z V J),(0,al.row (rM g (b8 (ofNat U)))),(0,al.row (rM y (b8 (ofNat U))))])::H))) (bm [(0,dc O U Z V J),(0,al.row (rM g (b8 (ofNat U)))),(0,al.row (rM y (b8 (ofNat U)))),(0,al.row (rM (fun x=>ofNat 0) (b8 (ofNat U))))]))) [(1,AV.ptr 0 0 0 0),(3,iI U),(4,AV.slc 0 2 0 0 1 (b8 (ofNat U)) (some (b8 (ofNat U)))),(6,AV.int .i64 t),(7,AV.slc 0 3 0 0 1 (b8 (ofNat U)) (some (b8 (ofNat U)))),(8,iI 0)]:=by kernel_rfl
end Go.Eng
end
section
namespace Go.Eng
open Int (ofNat)
open Go.Proofs Go.Eng.Gall
def pI (V:Nat) (J:Nat→Int) (a c:Int):Bool:=dk (iC J a c) V
theorem VL:∀ b,(0,b) ∈ aI (aW Tryd.f79)→b=.loop (part Tryd.f79 [1,0,1,0,0]):=dJ (by kernel_rfl)
theorem Oe:∀ b,(0,b) ∈ aI (aW Tryd.f64)→b=.loop (part Tryd.f64 [1,1,1,0,1,0,0]):=dJ (by kernel_rfl)
theorem Of:∀ b,(2,b) ∈ aI (aW Tryd.f64)→b=.loop (part Tryd.f64 [1,1,1,1,0,1,0,0]):=dJ (by kernel_rfl)
theorem Og:∀ b,(8,b) ∈ aI (aW Tryd.f64)→b=.loop (part Tryd.f64 [1,1,1,1,1,0,1,0,0]):=dJ (by kernel_rfl)
theorem Ki:∀ b,(4,b) ∈ aI (part Tryd.f64 [1,1,1,1,0,1,0,0])→b=.loop (part Tryd.f64 [1,1,1,1,0,1,0,0,1,0,0,1,0,1,0,0]):=dJ (by kernel_rfl)
theorem Kj:∀ b,(6,b) ∈ aI (part Tryd.f64 [1,1,1,1,0,1,0,0,1,0,0,1,0,1,0,0])→b=.loop (part Tryd.f64 [1,1,1,1,0,1,0,0,1,0,0,1,0,1,0,0,1,0,0,1,0,0]):=dJ (by kernel_rfl)
theorem Qb (n:Nat) (O:Int) (U L:Nat) (Z:Nat→Int) (V:Nat) (J:Nat→Int) (H:aa) (g y:Nat→Int) (j:Int):aF (bJ n 64 66) (il aC n 0) aK aJ (part Tryd.f64 [1,1,1,1,1,0,1,0,0]) (hints (By U L j)) (fb O U Z V J [cP L g,cP L y]::H) =
 (fun (Z0:bC)=>Tr.ite (bF j (ofNat U)) (Tr.req (cu j L) (Tr.req (cH 0 0) (Tr.req (bX (aq 0 j 1) L) (Tr.ite (cq (y (aq 0 j 1)) (ofNat 1)) (Tr.ok (Ex.ret,[(2,AV.bool true,some 1)],Z0::H)) (Tr.ok (Ex.normal,[(3,iI U,none),(4,AV.slc 0 2 0 0 1 L (some L),none),(10,AV.int .i64 (bj .i64 j (ofNat 1)),none)],Z0::H)))))) (Tr.ok (Ex.exit 8,[(3,iI U,none),(4,AV.slc 0 2 0 0 1 L (some L),none),(10,AV.int .i64 j,none),(58,AV.bool false,some 1)],Z0::H))) (bm [(0,dc O U Z V J),(0,al.row (rM g L)),(0,al.row (rM y L))]):=by kernel_rfl
theorem u64 (n:Nat) (O:Int) (U:Nat) (Z:Nat→Int) (V:Nat) (J:Nat→Int) (H:aa) (y0 g y:Nat→Int) (e:Bool):aZ Tryd.prog (cd n) 100000 64 Tryd.f64 (KtG.kt 64) (il aC n 0) (cE (cE (cE aK 0 (nB 1 U (b8 (ofNat U)) 5 (ofNat 0)) (fb O U Z V J [cP (b8 (ofNat U)) (fun _=>ofNat 0)]::H) (.ok (.normal,hints (nB 1 U (b8 (ofNat U)) 5 (ofNat U)++[(18,.bool false)]),fb O U Z V J [cP (b8 (ofNat U)) y0]::H))) 2 (nB 1 U (b8 (ofNat U)) 6 (ofNat 0)) (fb O U Z V J [cP (b8 (ofNat U)) y0]::H) (.ok (.normal,hints (nB 2 U (b8 (ofNat U)) 6 (ofNat U)++[(26,.bool false)]),fb O U Z V J [cP (b8 (ofNat U)) g,cP (b8 (ofNat U)) y]::H))) 8 (By U (b8 (ofNat U)) (ofNat 0)) (fb O U Z V J [cP (b8 (ofNat U)) g,cP (b8 (ofNat U)) y]::H) (.ite e (.ok (.ret,[(2,.bool true,none)],fb O U Z V J [cP (b8 (ofNat U)) g,cP (b8 (ofNat U)) y]::H)) (.ok (.normal,hints (By U (b8 (ofNat U)) (ofNat U)++[(58,.bool false)]),fb O U Z V J [cP (b8 (ofNat U)) g,cP (b8 (ofNat U)) y]::H)))) aJ [(bt O U Z V J,none)] H =
 (fun (Z0:Nat×AV)=>((fun (Z1:bC)=>((fun (Z2:aD)=>((fun (Z3:bC)=>Tr.req (Dl (ofNat U) (ofNat U) 8) (Tr.reqP ([(1,AV.ptr 0 0 0 0),(3,iI U),Z0,(5,iI 0)]=[(1,AV.ptr 0 0 0 0),(3,iI U),Z0,(5,iI 0)]∧Z3::H=Z3::H) (Tr.reqP ([(1,AV.ptr 0 0 0 0),(3,iI U),Z0,(6,iI 0)]=[(1,AV.ptr 0 0 0 0),(3,iI U),Z0,(6,iI 0)]∧(bm [(0,dc O U Z V J),(0,al.row (rM y0 (b8 (ofNat U))))])::H=(bm [(0,dc O U Z V J),(0,al.row (rM y0 (b8 (ofNat U))))])::H) (Tr.reqP (Z2=Z2∧Z1::H=Z1::H) (Tr.ite e (Tr.ok ((AV.bool true,none),H)) (Tr.ok ((AV.bool false,some 1),H))))))) (bm [(0,dc O U Z V J),(0,al.row (rM (fun x=>ofNat 0) (b8 (ofNat U))))]))) [(3,iI U),(4,AV.slc 0 2 0 0 1 (b8 (ofNat U)) (some (b8 (ofNat U)))),(10,iI 0)])) (bm [(0,dc O U Z V J),(0,al.row (rM g (b8 (ofNat U)))),(0,al.row (rM y (b8 (ofNat U))))]))) (4,AV.slc 0 1 0 0 1 (b8 (ofNat U)) (some (b8 (ofNat U)))):=by kernel_rfl
section
variable (n:Nat) (O:Int) (U:Nat) (Z:Nat→Int) (V:Nat) (J:Nat→Int) (H:aa)
theorem Vo (a b:Int) (hm:V≤1000):cd (n+1) (.fn 79) [bt O U Z V J,.int .i64 a,.int .i64 b] H=some (.bool (pI V J a b),H):=by
 have lp:=ff (n:=n) (f:=79) (nt:=24) (c:=part Tryd.f79 [1,0,1,0,0]) 0 (fun j=>Es a b (j:Int)) (fun _=>bU O U Z V J::H) V (iC J a b) (fun j=>([(6,.bool true)],bU O U Z V J::H)) (Es a b (ofNat V)++[(12,.bool false)],bU O U Z V J::H) wO (fun j hj=>?_) ?_
 · refine bp (n:=n) Tryd.func79 rfl rfl rfl (YN n O U Z V J H a b (dk (iC J a b) V)) (aw n) (aU (ah _ _) VL (fun x hx=>cK hx lp)) (aj _ _) ?_;refine Tr.ak ⟨rfl,rfl⟩ (Tr.ae (fun hc=>Tr.ag ⟨?_,rfl⟩) (fun hc=>Tr.ag ⟨?_,rfl⟩))
   · unfold pI;rw[hc]
   · unfold pI;rw[hc]
 · have ej:bj .i64 (j:Int) (ofNat 1)=((j+1:Nat):Int):=dO wO;have ei:aq 0 (j:Int) 2=j*2:=by rw[bo];omega
   have hp:bT (cq (J (j*2)) a) (cq (J (j*2+1)) b)=iC J a b j:=by
    rw[ct,aQ,aQ];unfold iC;rw[Bool.eq_iff_iff];simp;constructor<;>(rintro ⟨h1,h2⟩;exact ⟨h1.symm,h2.symm⟩)
   have T:=t79 n O U Z V J H a b (j:Int);rw[ei,aH,ej,hp] at T;refine aA T (aw n) (ah _ _) (aj _ _) ?_;refine Tr.ae (fun h0=>?_) wJ;refine Tr.ab wG (Tr.ab wG (Tr.ab wG ?_));refine Tr.ae (fun q=>Tr.ag ?_) (fun q=>Tr.ag ?_)
   · rw[if_pos q];rfl
   · rw[if_neg (by rw[q];decide)];exact ⟨rfl,rfl⟩
 · obtain ⟨x,h1,rfl⟩:=aA (Q:=fun x=>x=(.exit 0,Es a b (ofNat V)++[(12,.bool false)],bU O U Z V J::H)) (t79 n O U Z V J H a b (ofNat V)) (aw n) (ah _ _) (aj _ _) (by
    refine Tr.ae wJ (fun h0=>Tr.ag rfl))
   exact h1
theorem xf {c:Nat} (hc:0<c) (hm:V≤1000):(mc aC 79 (QH (bt O U Z V J) (pI V J))).Ok (cd c):=by
 obtain ⟨m,rfl⟩:∃ m,c=m+1:=⟨c-1,by omega⟩
 refine my (aR _) (fun args p v hg hp H=>?_);unfold QH at hg;split at hg
 · simp only[nP] at hg;obtain ⟨rfl,rfl⟩:=hg;rw[hp];exact Vo m O U Z V J H _ _ hm
 · cases hg
def dE (p:Nat→Bool) (j:Nat):Int:=if p j=true then 1 else 0
def uR (U V:Nat) (J:Nat→Int) (b:Nat→Nat) (t a j:Nat):Bool:=decide (j<U) && dk (fun a'=>bP U b t a' && pI V J a' j) a
def uS (U V:Nat) (J:Nat→Int) (b:Nat→Nat) (t a c j:Nat):Bool:=uR U V J b t a j || (decide (j<c) && (bP U b t a && pI V J a j))
theorem KI (b:Nat→Nat) (t:Nat):dE (uR U V J b t 0)=fun _=>ofNat 0:=by
 funext j;unfold dE uR;rw[if_neg]
 · rfl
 · intro h;rw[Bool.and_eq_true] at h;obtain ⟨i,hi,_⟩:=(cQ _ _).1 h.2;omega
theorem KJ (b:Nat→Nat) (t a:Nat):uS U V J b t a 0=uR U V J b t a:=by
 funext j;unfold uS;simp
theorem Dt (b:Nat→Nat) (t a:Nat):uS U V J b t a U=uR U V J b t (a+1):=by
 funext j;unfold uS uR;have e:dk (fun a'=>bP U b t a' && pI V J a' j) (a+1)=(dk (fun a'=>bP U b t a' && pI V J a' j) a || (bP U b t a && pI V J a j)):=by
  rw[Bool.eq_iff_iff,Bool.or_eq_true,cQ,cQ];constructor
  · rintro ⟨i,h1,h2⟩;by_cases e:i=a
    · subst e;exact .inr h2
    · exact .inl ⟨i,by omega,h2⟩
  · rintro (⟨i,h1,h2⟩ | h)
    · exact ⟨i,by omega,h2⟩
    · exact ⟨a,by omega,h⟩
 rw[e];cases decide (j<U)<;>simp
theorem G3 {b:Nat→Nat} (hb:b=fun c=>dq J c V) (hp:iL U V J) (t:Nat):uR U V J b t U=bP U b (t+1):=by
 funext j;rw[Bool.eq_iff_iff,gK];unfold uR pI;rw[Bool.and_eq_true,decide_eq_true_iff,cQ];subst hb;constructor
 · rintro ⟨h1,a,h2,h3⟩;rw[Bool.and_eq_true,cQ] at h3;obtain ⟨h3,i,hi,h4⟩:=h3;unfold iC at h4;rw[Bool.and_eq_true,decide_eq_true_iff,decide_eq_true_iff] at h4;exact ⟨h1,a,h3,(m7 J j a V (fun i hi=>(hp i hi).1.1)).2 ⟨i,hi,h4.1.symm,h4.2.symm⟩⟩
 · rintro ⟨h1,a,h2,h3⟩;obtain ⟨i,hi,h4,h5⟩:=(m7 J j a V (fun i hi=>(hp i hi).1.1)).1 h3;refine ⟨h1,a,nS h2,?_⟩;rw[Bool.and_eq_true,cQ];exact ⟨h2,i,hi,by unfold iC;rw[Bool.and_eq_true,decide_eq_true_iff,decide_eq_true_iff];exact ⟨h4.symm,h5.symm⟩⟩
theorem Du (b:Nat→Nat) (t a c:Nat) (h:(bP U b t a && pI V J a c)=true):dh (dE (uS U V J b t a c)) c (ofNat 1)=dE (uS U V J b t a (c+1)):=by
 rw[hJ];funext j;unfold dE uS;by_cases e:j=c
 · subst e;rw[if_pos rfl,h,decide_eq_true wO];rw[if_pos (by simp)];rfl
 · rw[if_neg e];by_cases h2:j<c
   · rw[decide_eq_true h2,decide_eq_true wO]
   · rw[decide_eq_false h2,decide_eq_false wO]
theorem sc (b:Nat→Nat) (t a c:Nat) (h:(bP U b t a && pI V J a c)=false):uS U V J b t a (c+1)=uS U V J b t a c:=by
 funext j;unfold uS;by_cases e:j=c
 · subst e;rw[h];simp
 · by_cases h2:j<c
   · rw[decide_eq_true h2,decide_eq_true wO]
   · rw[decide_eq_false h2,decide_eq_false wO]
theorem BR (p:Nat→Bool) (j:Nat):cq (dE p j) (ofNat 1)=p j:=by
 rw[aQ];unfold dE;cases p j<;>rfl
end
end Go.Eng
end
section
namespace Go.Eng
open Int (ofNat)
open Go.Proofs Go.Eng.Gall
noncomputable def LL (U:Nat):Nat:=b8 (ofNat U)
theorem Cv (U:Nat):LL U=U:=by unfold LL;rw[kd];rfl
theorem NC (n:Nat) (O:Int) (U L:Nat) (Z:Nat→Int) (V:Nat) (J:Nat→Int) (H:aa) (y x:Nat→Int) (t a:Int):aF (bJ n 64 66) (il aC n 0) (eI aK 6) aJ (part Tryd.f64 [1,1,1,1,0,1,0,0,1,0,0,1,0,1,0,0]) (hints (mC 1 U L t a)) (fb O U Z V J [cP L y,cP L x]::H) =
 Tr.ite (bF a (ofNat U)) Tr.bad (Tr.ok (Ex.exit 4,[(1,AV.ptr 0 0 0 0,none),(3,iI U,none),(4,AV.slc 0 1 0 0 1 L (some L),none),(6,AV.int .i64 t,none),(7,AV.slc 0 2 0 0 1 L (some L),none),(8,AV.int .i64 a,none),(33,AV.bool false,some 1)],(bm [(0,dc O U Z V J),(0,al.row (rM y L)),(0,al.row (rM x L))])::H)):=by kernel_rfl
theorem ND (n:Nat) (O:Int) (U L:Nat) (Z:Nat→Int) (V:Nat) (J:Nat→Int) (H:aa) (g:Nat→Int) (y x:Nat→Int) (t a:Int):aF (bJ n 64 66) (il aC n 0) (eI aK 6) aJ (part Tryd.f64 [1,1,1,1,0,1,0,0,1,0,0,1,0,1,0,0]) (hints (mC 2 U L t a)) (fb O U Z V J [cP L g,cP L y,cP L x]::H) =
 Tr.ite (bF a (ofNat U)) Tr.bad (Tr.ok (Ex.exit 4,[(1,AV.ptr 0 0 0 0,none),(3,iI U,none),(4,AV.slc 0 2 0 0 1 L (some L),none),(6,AV.int .i64 t,none),(7,AV.slc 0 3 0 0 1 L (some L),none),(8,AV.int .i64 a,none),(33,AV.bool false,some 1)],(bm [(0,dc O U Z V J),(0,al.row (rM g L)),(0,al.row (rM y L)),(0,al.row (rM x L))])::H)):=by kernel_rfl
theorem NF (n:Nat) (O:Int) (U L:Nat) (Z:Nat→Int) (V:Nat) (J:Nat→Int) (H:aa) (g:Nat→Int) (y:Nat→Int) (t:Int):aF (bJ n 64 66) (il aC n 0) (eI aK 4) aJ (part Tryd.f64 [1,1,1,1,0,1,0,0]) (hints (nB 2 U L 6 t)) (fb O U Z V J [cP L g,cP L y]::H) =
 Tr.ite (bF t (ofNat U)) (Tr.req (Dl (ofNat U) (ofNat U) 8) Tr.bad) (Tr.ok (Ex.exit 2,[(1,AV.ptr 0 0 0 0,none),(3,iI U,none),(4,AV.slc 0 2 0 0 1 L (some L),none),(6,AV.int .i64 t,none),(26,AV.bool false,some 1)],(bm [(0,dc O U Z V J),(0,al.row (rM g L)),(0,al.row (rM y L))])::H)):=by kernel_rfl
section
variable (n:Nat) (O:Int) (U:Nat) (Z:Nat→Int) (V:Nat) (J:Nat→Int) (b:Nat→Nat) (H:aa)
theorem XU (t a:Nat) (hl:U≤10) (hb:V≤1000) (ha:a<U) (ti:Int):exec (bJ (n+1) 64 66) (.block 6 (.loop (part Tryd.f64 [1,1,1,1,0,1,0,0,1,0,0,1,0,1,0,0,1,0,0,1,0,0]))) (po 1 U (LL U) ti (a:Int) (ofNat 0)) (fb O U Z V J [cP (LL U) (dE (bP U b t)),cP (LL U) (dE (uS U V J b t a 0))]::H) =
 some (.normal,po 1 U (LL U) ti (a:Int) (ofNat U)++[(38,.bool false)],fb O U Z V J [cP (LL U) (dE (bP U b t)),cP (LL U) (dE (uS U V J b t a U))]::H):=by
 have eL:=Cv U
 refine jh (n:=n+1) (f:=64) (nt:=66) (c:=part Tryd.f64 [1,1,1,1,0,1,0,0,1,0,0,1,0,1,0,0,1,0,0,1,0,0]) 6 (fun c=>po 1 U (LL U) ti (a:Int) (c:Int)) (fun c=>fb O U Z V J [cP (LL U) (dE (bP U b t)),cP (LL U) (dE (uS U V J b t a c))]::H) U (_,_) wO (fun c hc=>?_) ?_
 · have ec:bj .i64 (c:Int) (ofNat 1)=((c+1:Nat):Int):=dO wO
   have T:=KX (n+1) O U (LL U) Z V J H (dE (bP U b t)) (dE (uS U V J b t a c)) (pI V J) ti (a:Int) (c:Int)
   rw[uP,uP,ec,BR] at T
   refine aA T (bw _ _ (xf O U Z V J wO hb)) (ah _ _) (aj _ _) ?_
   refine Tr.ae (fun h0=>?_) wJ
   refine Tr.ab (by rw[eL];simp (disch:=omega) only[nV,nW];omega) (Tr.ab wG (Tr.ab (by rw[eL];simp (disch:=omega) only[nV,nW];omega) (Tr.ae (fun q=>?_) (fun q=>?_))))
   · refine Tr.ak rfl (Tr.ae (fun r=>?_) (fun r=>?_))
     · refine Tr.ab (by rw[eL];simp (disch:=omega) only[nV,nW];omega) (Tr.ab wG (Tr.ab (by rw[eL];simp (disch:=omega) only[nV,nW];omega) (Tr.ag ⟨rfl,?_⟩)))
       rw[Du U V J b t a c (by rw[q,r];rfl)];rfl
     · refine Tr.ag ⟨rfl,?_⟩
       rw[sc U V J b t a c (by rw[q,r];rfl)];rfl
   · refine Tr.ag ⟨rfl,?_⟩
     rw[sc U V J b t a c (by rw[q];rfl)];rfl
 · obtain ⟨x,h1,rfl⟩:=aA (Q:=fun x=>x=(.exit 6,po 1 U (LL U) ti (a:Int) (ofNat U)++[(38,.bool false)],fb O U Z V J [cP (LL U) (dE (bP U b t)),cP (LL U) (dE (uS U V J b t a U))]::H)) (KX (n+1) O U (LL U) Z V J H (dE (bP U b t)) (dE (uS U V J b t a U)) (pI V J) ti (a:Int) (ofNat U)) (bw _ _ (xf O U Z V J wO hb)) (ah _ _) (aj _ _) (by
    refine Tr.ae wJ (fun h0=>Tr.ag rfl))
   exact h1
theorem XS (t:Nat) (hl:U≤10) (hb:V≤1000) (ti:Int):exec (bJ (n+1) 64 66) (.block 4 (.loop (part Tryd.f64 [1,1,1,1,0,1,0,0,1,0,0,1,0,1,0,0]))) (mC 1 U (LL U) ti (ofNat 0)) (fb O U Z V J [cP (LL U) (dE (bP U b t)),cP (LL U) (dE (uR U V J b t 0))]::H) =
 some (.normal,mC 1 U (LL U) ti (ofNat U)++[(33,.bool false)],fb O U Z V J [cP (LL U) (dE (bP U b t)),cP (LL U) (dE (uR U V J b t U))]::H):=by
 refine jh (n:=n+1) (f:=64) (nt:=66) (c:=part Tryd.f64 [1,1,1,1,0,1,0,0,1,0,0,1,0,1,0,0]) 4 (fun a=>mC 1 U (LL U) ti (a:Int)) (fun a=>fb O U Z V J [cP (LL U) (dE (bP U b t)),cP (LL U) (dE (uR U V J b t a))]::H) U (_,_) wO (fun a ha=>?_) ?_
 · have ec:bj .i64 (a:Int) (ofNat 1)=((a+1:Nat):Int):=dO wO
   have hC:=XU n O U Z V J b H t a hl hb ha ti
   rw[KJ,Dt] at hC
   have T:=P9 (n+1) O U (LL U) Z V J H (dE (bP U b t)) (dE (uR U V J b t a)) (dE (uR U V J b t (a+1))) ti (a:Int)
   rw[ec] at T
   refine aA T (aw _) (aU (ah _ _) Kj (fun x h=>by rw[← Tr.af h];simp only[ev.st,aN];exact hC)) (aj _ _) ?_
   refine Tr.ae (fun h0=>Tr.ak ⟨rfl,rfl⟩ (Tr.ag ⟨rfl,rfl⟩)) wJ
 · obtain ⟨x,h1,rfl⟩:=aA (Q:=fun x=>x=(.exit 4,mC 1 U (LL U) ti (ofNat U)++[(33,.bool false)],fb O U Z V J [cP (LL U) (dE (bP U b t)),cP (LL U) (dE (uR U V J b t U))]::H)) (NC (n+1) O U (LL U) Z V J H (dE (bP U b t)) (dE (uR U V J b t U)) ti (ofNat U)) (aw _) (b9 (ah _ _) 6) (aj _ _) (by
    refine Tr.ae wJ (fun h0=>Tr.ag rfl))
   exact h1
theorem XV (g:Nat→Int) (t a:Nat) (hl:U≤10) (hb:V≤1000) (ha:a<U) (ti:Int):exec (bJ (n+1) 64 66) (.block 6 (.loop (part Tryd.f64 [1,1,1,1,0,1,0,0,1,0,0,1,0,1,0,0,1,0,0,1,0,0]))) (po 2 U (LL U) ti (a:Int) (ofNat 0)) (fb O U Z V J [cP (LL U) g,cP (LL U) (dE (bP U b t)),cP (LL U) (dE (uS U V J b t a 0))]::H) =
 some (.normal,po 2 U (LL U) ti (a:Int) (ofNat U)++[(38,.bool false)],fb O U Z V J [cP (LL U) g,cP (LL U) (dE (bP U b t)),cP (LL U) (dE (uS U V J b t a U))]::H):=by
 have eL:=Cv U
 refine jh (n:=n+1) (f:=64) (nt:=66) (c:=part Tryd.f64 [1,1,1,1,0,1,0,0,1,0,0,1,0,1,0,0,1,0,0,1,0,0]) 6 (fun c=>po 2 U (LL U) ti (a:Int) (c:Int)) (fun c=>fb O U Z V J [cP (LL U) g,cP (LL U) (dE (bP U b t)),cP (LL U) (dE (uS U V J b t a c))]::H) U (_,_) wO (fun c hc=>?_) ?_
 · have ec:bj .i64 (c:Int) (ofNat 1)=((c+1:Nat):Int):=dO wO
   have T:=KY (n+1) O U (LL U) Z V J H g (dE (bP U b t)) (dE (uS U V J b t a c)) (pI V J) ti (a:Int) (c:Int)
   rw[uP,uP,ec,BR] at T
   refine aA T (bw _ _ (xf O U Z V J wO hb)) (ah _ _) (aj _ _) ?_
   refine Tr.ae (fun h0=>?_) wJ
   refine Tr.ab (by rw[eL];simp (disch:=omega) only[nV,nW];omega) (Tr.ab wG (Tr.ab (by rw[eL];simp (disch:=omega) only[nV,nW];omega) (Tr.ae (fun q=>?_) (fun q=>?_))))
   · refine Tr.ak rfl (Tr.ae (fun r=>?_) (fun r=>?_))
     · refine Tr.ab (by rw[eL];simp (disch:=omega) only[nV,nW];omega) (Tr.ab wG (Tr.ab (by rw[eL];simp (disch:=omega) only[nV,nW];omega) (Tr.ag ⟨rfl,?_⟩)))
       rw[Du U V J b t a c (by rw[q,r];rfl)];rfl
     · refine Tr.ag ⟨rfl,?_⟩
       rw[sc U V J b t a c (by rw[q,r];rfl)];rfl
   · refine Tr.ag ⟨rfl,?_⟩
     rw[sc U V J b t a c (by rw[q];rfl)];rfl
 · obtain ⟨x,h1,rfl⟩:=aA (Q:=fun x=>x=(.exit 6,po 2 U (LL U) ti (a:Int) (ofNat U)++[(38,.bool false)],fb O U Z V J [cP (LL U) g,cP (LL U) (dE (bP U b t)),cP (LL U) (dE (uS U V J b t a U))]::H)) (KY (n+1) O U (LL U) Z V J H g (dE (bP U b t)) (dE (uS U V J b t a U)) (pI V J) ti (a:Int) (ofNat U)) (bw _ _ (xf O U Z V J wO hb)) (ah _ _) (aj _ _) (by
    refine Tr.ae wJ (fun h0=>Tr.ag rfl))
   exact h1
theorem XT (g:Nat→Int) (t:Nat) (hl:U≤10) (hb:V≤1000) (ti:Int):exec (bJ (n+1) 64 66) (.block 4 (.loop (part Tryd.f64 [1,1,1,1,0,1,0,0,1,0,0,1,0,1,0,0]))) (mC 2 U (LL U) ti (ofNat 0)) (fb O U Z V J [cP (LL U) g,cP (LL U) (dE (bP U b t)),cP (LL U) (dE (uR U V J b t 0))]::H) =
 some (.normal,mC 2 U (LL U) ti (ofNat U)++[(33,.bool false)],fb O U Z V J [cP (LL U) g,cP (LL U) (dE (bP U b t)),cP (LL U) (dE (uR U V J b t U))]::H):=by
 refine jh (n:=n+1) (f:=64) (nt:=66) (c:=part Tryd.f64 [1,1,1,1,0,1,0,0,1,0,0,1,0,1,0,0]) 4 (fun a=>mC 2 U (LL U) ti (a:Int)) (fun a=>fb O U Z V J [cP (LL U) g,cP (LL U) (dE (bP U b t)),cP (LL U) (dE (uR U V J b t a))]::H) U (_,_) wO (fun a ha=>?_) ?_
 · have ec:bj .i64 (a:Int) (ofNat 1)=((a+1:Nat):Int):=dO wO
   have hC:=XV n O U Z V J b H g t a hl hb ha ti
   rw[KJ,Dt] at hC
   have T:=Qa (n+1) O U (LL U) Z V J H g (dE (bP U b t)) (dE (uR U V J b t a)) (dE (uR U V J b t (a+1))) ti (a:Int)
   rw[ec] at T
   refine aA T (aw _) (aU (ah _ _) Kj (fun x h=>by rw[← Tr.af h];simp only[ev.st,aN];exact hC)) (aj _ _) ?_
   refine Tr.ae (fun h0=>Tr.ak ⟨rfl,rfl⟩ (Tr.ag ⟨rfl,rfl⟩)) wJ
 · obtain ⟨x,h1,rfl⟩:=aA (Q:=fun x=>x=(.exit 4,mC 2 U (LL U) ti (ofNat U)++[(33,.bool false)],fb O U Z V J [cP (LL U) g,cP (LL U) (dE (bP U b t)),cP (LL U) (dE (uR U V J b t U))]::H)) (ND (n+1) O U (LL U) Z V J H g (dE (bP U b t)) (dE (uR U V J b t U)) ti (ofNat U)) (aw _) (b9 (ah _ _) 6) (aj _ _) (by
    refine Tr.ae wJ (fun h0=>Tr.ag rfl))
   exact h1
end
end Go.Eng
end
