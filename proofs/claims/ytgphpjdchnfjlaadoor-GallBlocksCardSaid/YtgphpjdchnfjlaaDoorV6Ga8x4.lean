/- Gall: CheckList: what it answers. -/
import Derived.Test.YtgphpjdchnfjlaaDoorV6Ga3x5
set_option linter.unusedVariables false
set_option linter.unusedSimpArgs false
set_option maxRecDepth 100000
section
namespace Go.Eng
open Int (ofNat)
open Go.Proofs Go.Eng.Gall
theorem yc {c f:Nat} {t:nv} {e:Bool} {C:List AV→Prop} (ht:t.Ok (cd c)) (h:∀ A H,C A→cd c (.fn f) A H=some (.bool e,H)):(ng t f (gB e C)).Ok (cd c):=by
 refine kr ht (fun args p v hg hp H=>?_);unfold gB at hg;simp only[nP] at hg;obtain ⟨rfl,rfl⟩:=hg;exact h _ H hp
theorem Cr {c f:Nat} {t:nv} {S:AV} {C:List AV→Prop} (ht:t.Ok (cd c)) (h:∀ A H,C A→cd c (.fn f) A H=some (S,H)):(ng t f (fun x=>some (C x,S))).Ok (cd c):=by
 refine kr ht (fun args p v hg hp H=>?_);simp only[nP] at hg;obtain ⟨rfl,rfl⟩:=hg;exact h _ H hp
def ij (z:Nat→Int) (a b:Int) (i:Nat):Bool:=decide (a=z (i*2)) && decide (b=z (i*2+1))
def gZ (U:Nat) (z:Nat→Int) (j:Nat):Bool:=decide (z (j*2)=z (j*2+1)) || (!(decide (0≤z (j*2)∧z (j*2)<U) && decide (0≤z (j*2+1)∧z (j*2+1)<U)) || dz (ij z (z (j*2)) (z (j*2+1))) j)
def c7 (O:Int) (U:Nat) (Z:Nat→Int) (V:Nat) (J:Nat→Int):Int:=if U=0∨10<U∨40<V then 6 else if O<1∨100<O∨dz (jg Z) U=true then 3 else if dz (gZ U J) V=true then 2 else if ll U (fun c=>cZ J c V)=true then 16 else 0
theorem SN (n:Nat) (O:Int) (U:Nat) (Z:Nat→Int) (V:Nat) (J:Nat→Int) (H:ab):bu Tryd.prog (cd (n+10)) 100000 22 Tryd.f22 (KtG.kt 22) (il (kZ aJ 59 gW) (n+10) 0) (dC aS 1) aR [(bk O U Z V J,none)] H =
 Tr.ite (bU (bL (bL (cU (ofNat 0) (bH .i64 (ofNat U) (ofNat 1))) (cU (bH .i64 (ofNat U) (ofNat 1)) (ofNat 9))) true)) (Tr.ok ((iI 6,some 1),H)) (Tr.ite (bw (ofNat 40) (ofNat V)) (Tr.ok ((iI 6,some 1),H)) (Tr.ite (bU (bL (bL (cU (ofNat 1) O) (cU O (ofNat 100))) true)) (Tr.ok ((iI 3,some 1),H)) Tr.bad)):=by kernel_rfl
theorem Ux:∀ b,(0,b) ∈ aE (bx Tryd.f86)→b=.loop (part Tryd.f86 [1,0,1,0,0]):=dK (by kernel_rfl)
theorem Uo:∀ b,(1,b) ∈ aE (bx Tryd.f22)→b=.loop (part Tryd.f22 [1,1,1,1,0,1,0,0]):=dK (by kernel_rfl)
section
variable (n:Nat) (m:Nat) (z:Nat→Int) (full:Bool) (a b:Int) (H:ab)
theorem UY (hm:m≤1000):cd (n+1) (.fn 86) [MB m z full,Nf a b] H=some (.int .i64 (yr (ij z a b) m),H):=by
 have lp:=iH (n:=n) (f:=86) (nt:=19) (c:=part Tryd.f86 [1,0,1,0,0]) 0 (fun j=>D0 m z full (j:Int)) (fun _=>JV a b::H) m (ij z a b) (fun j=>([(4,.int .i64 (j:Int))],JV a b::H)) (D0 m z full (ofNat m)++[(9,.bool false)],JV a b::H) wO (fun j hj=>?_) ?_
 · refine bB (n:=n) Tryd.func86 rfl rfl rfl (Xz n m z full a b H ((fN (ij z a b) m 0:Nat):Int) (dz (ij z a b) m)) (aw n) (aM (aj _ _) Ux (fun x hx=>dy hx lp)) (ai _ _) ?_;refine Tr.ak ⟨rfl,rfl⟩ (Tr.ae (fun hc=>Tr.ag ⟨?_,rfl⟩) (fun hc=>Tr.ag ⟨?_,rfl⟩))
   · unfold yr;rw[if_pos hc]
   · unfold yr;rw[if_neg (by rw[hc];decide)];rfl
 · have ej:aQ .i64 (j:Int) (ofNat 1)=((j+1:Nat):Int):=eg wO;have ei:aq 0 (j:Int) 2=j*2:=by rw[bP];omega
   have hp:bL (cK a (z (j*2))) (cK b (z (j*2+1)))=ij z a b j:=by
    rw[bW,bf,bf];unfold ij;rw[Bool.eq_iff_iff];simp
   have T:=t86 n m z full a b H (j:Int);rw[ei,aC,ej,hp] at T;refine av T (aw n) (aj _ _) (ai _ _) ?_;refine Tr.ae (fun h0=>?_) wJ;refine Tr.aa wG (Tr.aa wG (Tr.aa wG ?_));refine Tr.ae (fun q=>Tr.ag ?_) (fun q=>Tr.ag ?_)
   · rw[if_pos q];rfl
   · rw[if_neg (by rw[q];decide)];exact ⟨rfl,rfl⟩
 · obtain ⟨x,h1,rfl⟩:=av (Q:=fun x=>x=(.exit 0,D0 m z full (ofNat m)++[(9,.bool false)],JV a b::H)) (t86 n m z full a b H (ofNat m)) (aw n) (aj _ _) (ai _ _) (by
    refine Tr.ae wJ (fun h0=>Tr.ag rfl))
   exact h1
theorem UL (hm:m≤1000):cd (n+2) (.fn 61) [MB m z full,Nf a b] H=some (.bool (dz (ij z a b) m),H):=by
 have h:=fun H=>UY n m z full a b H hm;refine bB (n:=n+1) Tryd.func61 rfl rfl rfl (Xm (n+1) m z full a b H (yr (ij z a b) m)) (bC _ (n+1) (b7 (bh _) h)) (aj _ _) (ai _ _) ?_;refine Tr.ak rfl (Tr.ag ⟨?_,rfl⟩);rw[wE]
end
section
variable (n:Nat) (O:Int) (U:Nat) (Z:Nat→Int) (V:Nat) (J:Nat→Int) (H:ab)
noncomputable def RC (a b:Int):bJ:={ Ga O U Z V J with bs:=(Ga O U Z V J).bs++[(0,.row (.I .i64 [a,b])),(0,.dead)] }
noncomputable def OC (a b:Int):bJ:={ Ga O U Z V J with bs:=(Ga O U Z V J).bs++[(0,.row (.I .i64 [a,b])),(0,.row (.I .i64 [a,b]))] }
noncomputable def Nd (j:Nat):bJ:=if J (j*2)=J (j*2+1) then RC O U Z V J (J (j*2)) (J (j*2+1)) else OC O U Z V J (J (j*2)) (J (j*2+1))
theorem Ww (h1:1≤U) (hl:U≤10) (hb:V≤40):exec (bO (n+10) 22 69) (.block 1 (.loop (part Tryd.f22 [1,1,1,1,0,1,0,0]))) (A1 U V J (ofNat 0)) (Ga O U Z V J::H) =
 some (cond (dz (gZ U J) V) (.ret,[(2,.int .i64 2)],Nd O U Z V J (fN (gZ U J) V 0)::H) (.normal,A1 U V J (ofNat V)++[(38,.bool false)],Ga O U Z V J::H)):=by
 have s3:bH .i64 (ofNat U) (ofNat 1)=(U:Int)-1:=by rw[eA];exact fW (by show -9223372036854775808≤(U:Int)-1;omega) (by show (U:Int)-1≤_;omega)
 refine iH (n:=n+10) (f:=22) (nt:=69) (c:=part Tryd.f22 [1,1,1,1,0,1,0,0]) 1 (fun j=>A1 U V J (j:Int)) (fun _=>Ga O U Z V J::H) V (gZ U J) (fun j=>([(2,.int .i64 2)],Nd O U Z V J j::H)) (_,_) wO (fun j hj=>?_) ?_
 · have ej:aQ .i64 (j:Int) (ofNat 1)=((j+1:Nat):Int):=eg wO
   have ei:aq 0 (j:Int) 2=j*2:=by rw[bP];omega
   have et:cg (j:Int)=j:=by rw[jK];omega
   have hin:bU (bL (bL (cU (ofNat 0) (J (j*2))) (cU (J (j*2)) (bH .i64 (ofNat U) (ofNat 1)))) (bL (bL (cU (ofNat 0) (J (j*2+1))) (cU (J (j*2+1)) (bH .i64 (ofNat U) (ofNat 1)))) true))=!(decide (0≤J (j*2)∧J (j*2)<U) && decide (0≤J (j*2+1)∧J (j*2+1)<U)):=by
    rw[s3,aO,bW,bW,bW,bW,a7,a7,a7,a7];rw[Bool.eq_iff_iff];simp;omega
   have T:=t22 n O U Z V J H (j:Int) (dz (ij J (J (j*2)) (J (j*2+1))) j) (fun A=>A=[MB j J (bL false (cu j V)),Nf (J (j*2)) (J (j*2+1))])
   rw[ei,aC,ej,et] at T
   rw[hin] at T
   refine av T (bC _ _ (by
    rw[show n+10=n+4+6 by omega];refine sq (n:=n+4) (yc (bh _) (fun A H hA=>?_));subst hA;rw[show n+4+6=n+8+2 by omega];exact UL (n+8) j J _ _ _ H wO)) (aj _ _) (ai _ _) ?_
   refine Tr.ae (fun h0=>?_) wJ
   refine Tr.aa wG (Tr.aa wG (Tr.aa wG (Tr.aa wG (Tr.aa wG ?_))))
   refine Tr.ae (fun q=>?_) (fun q=>?_)
   · have q:J (j*2)=J (j*2+1):=by rw[bf,beq_iff_eq] at q;exact q
     refine Tr.ag ?_
     rw[if_pos (by unfold gZ;rw[decide_eq_true q];rfl)]
     unfold Nd;rw[if_pos q];rfl
   · have q:¬ J (j*2)=J (j*2+1):=by rw[bf,beq_eq_false_iff_ne] at q;exact q
     have hX:Nd O U Z V J j=OC O U Z V J (J (j*2)) (J (j*2+1)):=by unfold Nd;rw[if_neg q]
     refine Tr.aa wG (Tr.aa wG (Tr.ae (fun r=>?_) (fun r=>?_)))
     · refine Tr.ag ?_
       rw[if_pos (by unfold gZ;rw[r];simp),hX];rfl
     · refine Tr.aa wG (Tr.aa wG (Tr.ak rfl (Tr.ae (fun u=>?_) (fun u=>?_))))
       · refine Tr.ag ?_
         rw[if_pos (by unfold gZ;rw[u];simp),hX];rfl
       · refine Tr.ag ?_
         rw[if_neg (by unfold gZ;rw[u,r,decide_eq_false q];simp)]
         exact ⟨rfl,rfl⟩
 · obtain ⟨x,h1,rfl⟩:=av (Q:=fun x=>x=(.exit 1,A1 U V J (ofNat V)++[(38,.bool false)],Ga O U Z V J::H)) (t22 n O U Z V J H (ofNat V) true (fun A=>False)) (bC _ _ (by
    rw[show n+10=n+4+6 by omega];exact sq (n:=n+4) (yc (bh _) (fun A H hA=>hA.elim)))) (aj _ _) (ai _ _) (by
    refine Tr.ae wJ (fun h0=>Tr.ag rfl))
   exact h1
theorem px {U V:Nat} {J:Nat→Int} (h:dz (gZ U J) V=false):fv U V J:=fun j hj=>by
 have:=mD h j hj;unfold gZ at this;simp only[Bool.or_eq_false_iff,Bool.not_eq_false',Bool.and_eq_true,decide_eq_true_eq] at this;exact ⟨this.2.1.1,this.2.1.2⟩
theorem T3 (hl:U≤1000) (hb:V≤1000):cd (n+11) (.fn 22) [bk O U Z V J] H=some (.int .i64 (c7 O U Z V J),H):=by
 have s3:bH .i64 (ofNat U) (ofNat 1)=(U:Int)-1:=by rw[eA];exact fW (by show -9223372036854775808≤(U:Int)-1;omega) (by show (U:Int)-1≤_;omega)
 have hv:=fun h:dz (jg Z) U=false=>(mD h:mY U Z)
 have ht:(ng (ng (kZ (ng aJ 60 (gB (dz (jg Z) U) (fun A=>A=[slA 4 U Z,.fn (.func 58) [] []]))) 59 gW) 62 (fun x=>some (x=[bk O U Z V J]∧(U≤10∧(1≤O∧O≤100)∧mY U Z∧fv U V J),Ng O U Z V J))) 63 (gB (ll U (fun c=>cZ J c V)) (fun A=>A=[Ng O U Z V J]∧(U≤10∧fv U V J)))).Ok (cd (n+10)):=by
  refine yc (Cr ?_ (fun A H hA=>?_)) (fun A H hA=>?_)
  · rw[show n+10=n+4+6 by omega];refine sq (n:=n+4) (yc (bh _) (fun A H hA=>?_));subst hA;rw[show n+4+6=n+10 by omega];exact UK n U Z H hl
  · obtain ⟨rfl,a1,a2,a3,a4⟩:=hA;rw[show n+10=n+3+7 by omega];exact T7 (n+3) O U Z V J H a1 hb a2 a3 a4
  · obtain ⟨rfl,a1,a4⟩:=hA;rw[show n+10=n+8+2 by omega];exact UM (n+8) O U Z V J (cj O U Z) (fun c=>cZ J c V) H a1 (fun c _=>Nat.lt_of_lt_of_le (v7 J c U V (fun i hi=>(a4 i hi).1)) (Nat.pow_le_pow_right (by decide) wO))
 by_cases k0:1≤U∧U≤10∧V≤40
 · obtain ⟨k1,k2,k3⟩:=k0;refine bB (n:=n+10) Tryd.func22 rfl rfl rfl (W8 n O U Z V J H (Nd O U Z V J (fN (gZ U J) V 0)) (dz (jg Z) U) (ll U (fun c=>cZ J c V)) (dz (gZ U J) V) (fun A=>A=[slA 4 U Z,.fn (.func 58) [] []]) (fun A=>A=[bk O U Z V J]∧(U≤10∧(1≤O∧O≤100)∧mY U Z∧fv U V J)) (fun A=>A=[Ng O U Z V J]∧(U≤10∧fv U V J)) (Ng O U Z V J)) (bC _ _ ht) (aM (aj _ _) Uo (fun y h=>dy h (Ww n O U Z V J H k1 k2 k3))) (ai _ _) ?_;have hG:c7 O U Z V J=if O<1∨100<O∨dz (jg Z) U=true then 3 else if dz (gZ U J) V=true then 2 else if ll U (fun c=>cZ J c V)=true then 16 else 0:=by unfold c7;rw[if_neg wO]
   rw[hG,s3];refine Tr.ae (fun q=>?_) (fun q=>?_)
   · exfalso;rw[aO,bW,bW,a7,a7] at q;simp at q;omega
   refine Tr.ae wJ (fun q=>?_);refine Tr.ae (fun q=>?_) (fun q=>?_)
   · rw[aO,bW,bW,a7,a7] at q;simp at q;rw[if_pos wO];exact Tr.ag ⟨rfl,rfl⟩
   · rw[aO,bW,bW,a7,a7] at q;simp at q;refine Tr.ak rfl (Tr.ae (fun r=>?_) (fun r=>?_))
     · rw[if_pos (.inr (.inr r))];exact Tr.ag ⟨rfl,rfl⟩
     · rw[if_neg (by rintro (h | h | h);omega;omega;rw[r] at h;cases h)];refine Tr.ak ⟨by rw[← s3],by rw[← s3]⟩ (Tr.ae (fun u=>?_) (fun u=>?_))
       · rw[if_pos u];exact Tr.ag ⟨rfl,rfl⟩
       · rw[if_neg (by rw[u];decide)];refine Tr.ak ⟨rfl,k2,by omega,hv r,px u⟩ (Tr.ak ⟨rfl,k2,px u⟩ (Tr.ae (fun w=>?_) (fun w=>?_)))
         · rw[if_pos w];exact Tr.ag ⟨rfl,rfl⟩
         · rw[if_neg (by rw[w];decide)];exact Tr.ag ⟨rfl,rfl⟩
 · refine bB (n:=n+10) Tryd.func22 rfl rfl rfl (SN n O U Z V J H) (bC _ _ (by
    rw[show n+10=n+4+6 by omega];exact sq (n:=n+4) (bh _))) (bN (aj _ _) 1) (ai _ _) ?_
   have hG:c7 O U Z V J=6:=by unfold c7;rw[if_pos wO]
   rw[hG,s3];refine Tr.ae (fun q=>Tr.ag ⟨rfl,rfl⟩) (fun q=>?_);refine Tr.ae (fun q=>Tr.ag ⟨rfl,rfl⟩) (fun q2=>?_);exfalso;rw[aO,bW,bW,a7,a7] at q;simp at q;simp (disch:=omega) only[nV,nW] at q2;omega
end
end Go.Eng
end
section
namespace Go.Eng
open Int (ofNat)
open Go.Proofs
noncomputable def qH (O:Int) (U:Nat) (Z:Nat→Int) (V:Nat) (J:Nat→Int):bJ:=⟨false,[(0,.row (.G [.int .i64 O,slA 4 U Z,slA 2 V J]))]⟩
noncomputable def DY (a b j:Int):aA:=[(1,.int .i64 a),(2,.int .i64 b),(3,.ptr 0 0 0 0),(7,.int .i64 j)]
noncomputable def dA (O:Int) (U:Nat) (Z:Nat→Int) (V:Nat) (J:Nat→Int) (bs:List (Nat×an)):bJ:=⟨false,(0,.row (.G [.int .i64 O,slA 4 U Z,slA 2 V J]))::bs⟩
noncomputable def cI (L:Nat) (y:Nat→Int):Nat×an:=(0,.row (.M [.arr .i64 y L]))
noncomputable def m5 (i U L:Nat) (s:Nat) (j:Int):aA:=[(1,.ptr 0 0 0 0),(3,.int .i64 (ofNat U)),(4,.slc 0 i 0 0 1 L (some L)),(s,.int .i64 j)]
noncomputable def A2 (U L:Nat) (j:Int):aA:=[(3,.int .i64 (ofNat U)),(4,.slc 0 2 0 0 1 L (some L)),(10,.int .i64 j)]
noncomputable def lO (i U L:Nat) (t a:Int):aA:=[(1,.ptr 0 0 0 0),(3,.int .i64 (ofNat U)),(4,.slc 0 i 0 0 1 L (some L)),(6,.int .i64 t),(7,.slc 0 (Nat.succ i) 0 0 1 L (some L)),(8,.int .i64 a)]
noncomputable def oQ (i U L:Nat) (t a c:Int):aA:=lO i U L t a++[(9,.int .i64 c)]
noncomputable def PT (A:AV) (P:Int→Int→Bool):List AV→Option (Prop×AV)
 | [B,.int .i64 a,.int .i64 c]=>some (B=A,.bool (P a c))
 | _=>none
theorem t79 (n:Nat) (O:Int) (U:Nat) (Z:Nat→Int) (V:Nat) (J:Nat→Int) (H:ab) (a b j:Int):aH (bO n 79 24) (il aJ n 0) aS aR (part Tryd.f79 [1,0,1,0,0]) (hints (DY a b j)) (qH O U Z V J::H) =
 Tr.ite (bw j (ofNat V)) (Tr.req (b8 j V) (Tr.req (bR (aq 0 j 2) (bD V 2)) (Tr.req (bR (ar (aq 0 j 2) 1) (bD V 2)) (Tr.ite (bL (cK (J (aq 0 j 2)) a) (cK (J (ar (aq 0 j 2) 1)) b)) (Tr.ok (Ex.ret,[(6,AV.bool true,some 1)],(bK [(0,cW O U Z V J)])::H)) (Tr.ok (Ex.normal,[(1,AV.int .i64 a,none),(2,AV.int .i64 b,none),(3,AV.ptr 0 0 0 0,none),(7,AV.int .i64 (aQ .i64 j (ofNat 1)),none)],(bK [(0,cW O U Z V J)])::H)))))) (Tr.ok (Ex.exit 0,[(1,AV.int .i64 a,none),(2,AV.int .i64 b,none),(3,AV.ptr 0 0 0 0,none),(7,AV.int .i64 j,none),(12,AV.bool false,some 1)],(bK [(0,cW O U Z V J)])::H)):=by kernel_rfl
theorem Xu (n:Nat) (O:Int) (U:Nat) (Z:Nat→Int) (V:Nat) (J:Nat→Int) (H:ab) (a b:Int) (e:Bool):bu Tryd.prog (cd n) 100000 79 Tryd.f79 (KtG.kt 79) (il aJ n 0) (cw aS 0 (DY a b (ofNat 0)) (qH O U Z V J::H) (.ite e (.ok (.ret,[(6,.bool true,none)],qH O U Z V J::H)) (.ok (.normal,hints (DY a b (ofNat V)++[(12,.bool false)]),qH O U Z V J::H)))) aR [(bk O U Z V J,none),(.int .i64 a,none),(.int .i64 b,none)] H =
 Tr.reqP ([(1,AV.int .i64 a),(2,AV.int .i64 b),(3,AV.ptr 0 0 0 0),(7,iI 0)]=[(1,AV.int .i64 a),(2,AV.int .i64 b),(3,AV.ptr 0 0 0 0),(7,iI 0)]∧(bK [(0,cW O U Z V J)])::H=(bK [(0,cW O U Z V J)])::H) (Tr.ite e (Tr.ok ((AV.bool true,none),H)) (Tr.ok ((AV.bool false,some 1),H))):=by kernel_rfl
theorem Ph (n:Nat) (O:Int) (U L:Nat) (Z:Nat→Int) (V:Nat) (J:Nat→Int) (H:ab) (y:Nat→Int) (j:Int):aH (bO n 64 66) (il aJ n 0) aS aR (part Tryd.f64 [1,1,1,0,1,0,0]) (hints (m5 1 U L 5 j)) (dA O U Z V J [cI L y]::H) =
 Tr.ite (bw j (ofNat U)) (Tr.req (b8 j L) (Tr.req (cu 0 0) (Tr.req (bR (aq 0 j 1) L) (Tr.ok (Ex.normal,[(1,AV.ptr 0 0 0 0,none),(3,iI U,none),(4,AV.slc 0 1 0 0 1 L (some L),none),(5,AV.int .i64 (aQ .i64 j (ofNat 1)),none)],(bK [(0,cW O U Z V J),(0,an.row (rM (ft y (aq 0 j 1) (ofNat 1)) L))])::H))))) (Tr.ok (Ex.exit 0,[(1,AV.ptr 0 0 0 0,none),(3,iI U,none),(4,AV.slc 0 1 0 0 1 L (some L),none),(5,AV.int .i64 j,none),(18,AV.bool false,some 1)],(bK [(0,cW O U Z V J),(0,an.row (rM y L))])::H)):=by kernel_rfl
theorem J8 (n:Nat) (O:Int) (U L:Nat) (Z:Nat→Int) (V:Nat) (J:Nat→Int) (H:ab) (y x:Nat→Int) (P:Int→Int→Bool) (t a c:Int):aH (bO n 64 66) (il (ng aJ 79 (PT (bk O U Z V J) P)) n 0) aS aR (part Tryd.f64 [1,1,1,1,0,1,0,0,1,0,0,1,0,1,0,0,1,0,0,1,0,0]) (hints (oQ 1 U L t a c)) (dA O U Z V J [cI L y,cI L x]::H) =
 (fun (Z0:aD)=>((fun (Z1:bJ)=>Tr.ite (bw c (ofNat U)) (Tr.req (b8 a L) (Tr.req (cu 0 0) (Tr.req (bR (aq 0 a 1) L) (Tr.ite (cK (y (aq 0 a 1)) (ofNat 1)) (Tr.reqP (bk O U Z V J=bk O U Z V J) (Tr.ite (P a c) (Tr.req (b8 c L) (Tr.req (cu 0 0) (Tr.req (bR (aq 0 c 1) L) (Tr.ok (Ex.normal,Z0,(bK [(0,cW O U Z V J),(0,an.row (rM y L)),(0,an.row (rM (ft x (aq 0 c 1) (ofNat 1)) L))])::H))))) (Tr.ok (Ex.normal,Z0,Z1::H)))) (Tr.ok (Ex.normal,Z0,Z1::H)))))) (Tr.ok (Ex.exit 6,[(1,AV.ptr 0 0 0 0,none),(3,iI U,none),(4,AV.slc 0 1 0 0 1 L (some L),none),(6,AV.int .i64 t,none),(7,AV.slc 0 2 0 0 1 L (some L),none),(8,AV.int .i64 a,none),(9,AV.int .i64 c,none),(38,AV.bool false,some 1)],Z1::H))) (bK [(0,cW O U Z V J),(0,an.row (rM y L)),(0,an.row (rM x L))]))) [(1,AV.ptr 0 0 0 0,none),(3,iI U,none),(4,AV.slc 0 1 0 0 1 L (some L),none),(6,AV.int .i64 t,none),(7,AV.slc 0 2 0 0 1 L (some L),none),(8,AV.int .i64 a,none),(9,AV.int .i64 (aQ .i64 c (ofNat 1)),none)]:=by kernel_rfl
theorem Pj (n:Nat) (O:Int) (U L:Nat) (Z:Nat→Int) (V:Nat) (J:Nat→Int) (H:ab) (y x x':Nat→Int) (t a:Int):aH (bO n 64 66) (il aJ n 0) (cw aS 6 (oQ 1 U L t a (ofNat 0)) (dA O U Z V J [cI L y,cI L x]::H) (.ok (.normal,hints (oQ 1 U L t a (ofNat U)++[(38,.bool false)]),(dA O U Z V J [cI L y,cI L x']::H)))) aR (part Tryd.f64 [1,1,1,1,0,1,0,0,1,0,0,1,0,1,0,0]) (hints (lO 1 U L t a)) (dA O U Z V J [cI L y,cI L x]::H) =
 (fun (Z0:aA)=>((fun (Z1:bJ)=>Tr.ite (bw a (ofNat U)) (Tr.reqP (Z0=Z0∧Z1::H=Z1::H) (Tr.ok (Ex.normal,[(1,AV.ptr 0 0 0 0,none),(3,iI U,none),(4,AV.slc 0 1 0 0 1 L (some L),none),(6,AV.int .i64 t,none),(7,AV.slc 0 2 0 0 1 L (some L),none),(8,AV.int .i64 (aQ .i64 a (ofNat 1)),none)],(bK [(0,cW O U Z V J),(0,an.row (rM y L)),(0,an.row (rM x' L))])::H))) (Tr.ok (Ex.exit 4,[(1,AV.ptr 0 0 0 0,none),(3,iI U,none),(4,AV.slc 0 1 0 0 1 L (some L),none),(6,AV.int .i64 t,none),(7,AV.slc 0 2 0 0 1 L (some L),none),(8,AV.int .i64 a,none),(33,AV.bool false,some 1)],Z1::H))) (bK [(0,cW O U Z V J),(0,an.row (rM y L)),(0,an.row (rM x L))]))) [(1,AV.ptr 0 0 0 0),(3,iI U),(4,AV.slc 0 1 0 0 1 L (some L)),(6,AV.int .i64 t),(7,AV.slc 0 2 0 0 1 L (some L)),(8,AV.int .i64 a),(9,iI 0)]:=by kernel_rfl
theorem Pm (n:Nat) (O:Int) (U:Nat) (Z:Nat→Int) (V:Nat) (J:Nat→Int) (H:ab) (y x':Nat→Int) (t:Int):aH (bO n 64 66) (il aJ n 0) (cw aS 4 (lO 1 U (cg (ofNat U)) t (ofNat 0)) (dA O U Z V J [cI (cg (ofNat U)) y,cI (cg (ofNat U)) (fun _=>ofNat 0)]::H) (.ok (.normal,hints (lO 1 U (cg (ofNat U)) t (ofNat U)++[(33,.bool false)]),(dA O U Z V J [cI (cg (ofNat U)) y,cI (cg (ofNat U)) x']::H)))) aR (part Tryd.f64 [1,1,1,1,0,1,0,0]) (hints (m5 1 U (cg (ofNat U)) 6 t)) (dA O U Z V J [cI (cg (ofNat U)) y]::H) =
 (fun (Z0:aA)=>((fun (Z1:bJ)=>Tr.ite (bw t (ofNat U)) (Tr.req (Ec (ofNat U) (ofNat U) 8) (Tr.reqP (Z0=Z0∧Z1::H=Z1::H) (Tr.ok (Ex.normal,[(1,AV.ptr 0 0 0 0,none),(3,iI U,none),(4,AV.slc 0 2 0 0 1 (cg (ofNat U)) (some (cg (ofNat U))),none),(6,AV.int .i64 (aQ .i64 t (ofNat 1)),none)],(bK [(0,cW O U Z V J),(0,an.row (rM y (cg (ofNat U)))),(0,an.row (rM x' (cg (ofNat U))))])::H)))) (Tr.ok (Ex.exit 2,[(1,AV.ptr 0 0 0 0,none),(3,iI U,none),(4,AV.slc 0 1 0 0 1 (cg (ofNat U)) (some (cg (ofNat U))),none),(6,AV.int .i64 t,none),(26,AV.bool false,some 1)],(bK [(0,cW O U Z V J),(0,an.row (rM y (cg (ofNat U))))])::H))) (bK [(0,cW O U Z V J),(0,an.row (rM y (cg (ofNat U)))),(0,an.row (rM (fun x=>ofNat 0) (cg (ofNat U))))]))) [(1,AV.ptr 0 0 0 0),(3,iI U),(4,AV.slc 0 1 0 0 1 (cg (ofNat U)) (some (cg (ofNat U)))),(6,AV.int .i64 t),(7,AV.slc 0 2 0 0 1 (cg (ofNat U)) (some (cg (ofNat U)))),(8,iI 0)]:=by kernel_rfl
theorem J9 (n:Nat) (O:Int) (U L:Nat) (Z:Nat→Int) (V:Nat) (J:Nat→Int) (H:ab) (g:Nat→Int) (y x:Nat→Int) (P:Int→Int→Bool) (t a c:Int):aH (bO n 64 66) (il (ng aJ 79 (PT (bk O U Z V J) P)) n 0) aS aR (part Tryd.f64 [1,1,1,1,0,1,0,0,1,0,0,1,0,1,0,0,1,0,0,1,0,0]) (hints (oQ 2 U L t a c)) (dA O U Z V J [cI L g,cI L y,cI L x]::H) =
 (fun (Z0:aD)=>((fun (Z1:bJ)=>Tr.ite (bw c (ofNat U)) (Tr.req (b8 a L) (Tr.req (cu 0 0) (Tr.req (bR (aq 0 a 1) L) (Tr.ite (cK (y (aq 0 a 1)) (ofNat 1)) (Tr.reqP (bk O U Z V J=bk O U Z V J) (Tr.ite (P a c) (Tr.req (b8 c L) (Tr.req (cu 0 0) (Tr.req (bR (aq 0 c 1) L) (Tr.ok (Ex.normal,Z0,(bK [(0,cW O U Z V J),(0,an.row (rM g L)),(0,an.row (rM y L)),(0,an.row (rM (ft x (aq 0 c 1) (ofNat 1)) L))])::H))))) (Tr.ok (Ex.normal,Z0,Z1::H)))) (Tr.ok (Ex.normal,Z0,Z1::H)))))) (Tr.ok (Ex.exit 6,[(1,AV.ptr 0 0 0 0,none),(3,iI U,none),(4,AV.slc 0 2 0 0 1 L (some L),none),(6,AV.int .i64 t,none),(7,AV.slc 0 3 0 0 1 L (some L),none),(8,AV.int .i64 a,none),(9,AV.int .i64 c,none),(38,AV.bool false,some 1)],Z1::H))) (bK [(0,cW O U Z V J),(0,an.row (rM g L)),(0,an.row (rM y L)),(0,an.row (rM x L))]))) [(1,AV.ptr 0 0 0 0,none),(3,iI U,none),(4,AV.slc 0 2 0 0 1 L (some L),none),(6,AV.int .i64 t,none),(7,AV.slc 0 3 0 0 1 L (some L),none),(8,AV.int .i64 a,none),(9,AV.int .i64 (aQ .i64 c (ofNat 1)),none)]:=by kernel_rfl
theorem Pk (n:Nat) (O:Int) (U L:Nat) (Z:Nat→Int) (V:Nat) (J:Nat→Int) (H:ab) (g:Nat→Int) (y x x':Nat→Int) (t a:Int):aH (bO n 64 66) (il aJ n 0) (cw aS 6 (oQ 2 U L t a (ofNat 0)) (dA O U Z V J [cI L g,cI L y,cI L x]::H) (.ok (.normal,hints (oQ 2 U L t a (ofNat U)++[(38,.bool false)]),(dA O U Z V J [cI L g,cI L y,cI L x']::H)))) aR (part Tryd.f64 [1,1,1,1,0,1,0,0,1,0,0,1,0,1,0,0]) (hints (lO 2 U L t a)) (dA O U Z V J [cI L g,cI L y,cI L x]::H) =
 (fun (Z0:bJ)=>((fun (Z1:aA)=>Tr.ite (bw a (ofNat U)) (Tr.reqP (Z1=Z1∧Z0::H=Z0::H) (Tr.ok (Ex.normal,[(1,AV.ptr 0 0 0 0,none),(3,iI U,none),(4,AV.slc 0 2 0 0 1 L (some L),none),(6,AV.int .i64 t,none),(7,AV.slc 0 3 0 0 1 L (some L),none),(8,AV.int .i64 (aQ .i64 a (ofNat 1)),none)],(bK [(0,cW O U Z V J),(0,an.row (rM g L)),(0,an.row (rM y L)),(0,an.row (rM x' L))])::H))) (Tr.ok (Ex.exit 4,[(1,AV.ptr 0 0 0 0,none),(3,iI U,none),(4,AV.slc 0 2 0 0 1 L (some L),none),(6,AV.int .i64 t,none),(7,AV.slc 0 3 0 0 1 L (some L),none),(8,AV.int .i64 a,none),(33,AV.bool false,some 1)],Z0::H))) [(1,AV.ptr 0 0 0 0),(3,iI U),(4,AV.slc 0 2 0 0 1 L (some L)),(6,AV.int .i64 t),(7,AV.slc 0 3 0 0 1 L (some L)),(8,AV.int .i64 a),(9,iI 0)])) (bK [(0,cW O U Z V J),(0,an.row (rM g L)),(0,an.row (rM y L)),(0,an.row (rM x L))]):=by kernel_rfl
theorem Pn (n:Nat) (O:Int) (U:Nat) (Z:Nat→Int) (V:Nat) (J:Nat→Int) (H:ab) (g:Nat→Int) (y x':Nat→Int) (t:Int):aH (bO n 64 66) (il aJ n 0) (cw aS 4 (lO 2 U (cg (ofNat U)) t (ofNat 0)) (dA O U Z V J [cI (cg (ofNat U)) g,cI (cg (ofNat U)) y,cI (cg (ofNat U)) (fun _=>ofNat 0)]::H) (.ok (.normal,hints (lO 2 U (cg (ofNat U)) t (ofNat U)++[(33,.bool false)]),(dA O U Z V J [cI (cg (ofNat U)) g,cI (cg (ofNat U)) y,cI (cg (ofNat U)) x']::H)))) aR (part Tryd.f64 [1,1,1,1,0,1,0,0]) (hints (m5 2 U (cg (ofNat U)) 6 t)) (dA O U Z V J [cI (cg (ofNat U)) g,cI (cg (ofNat U)) y]::H) =
 (fun (Z0:aA)=>((fun (Z1:bJ)=>Tr.ite (bw t (ofNat U)) (Tr.req (Ec (ofNat U) (ofNat U) 8) (Tr.reqP (Z0=Z0∧Z1::H=Z1::H) (Tr.ok (Ex.normal,[(1,AV.ptr 0 0 0 0,none),(3,iI U,none),(4,AV.slc 0 3 0 0 1 (cg (ofNat U)) (some (cg (ofNat U))),none),(6,AV.int .i64 (aQ .i64 t (ofNat 1)),none)],(bK [(0,cW O U Z V J),(0,an.row (rM g (cg (ofNat U)))),(0,an.row (rM y (cg (ofNat U)))),(0,an.row (rM x' (cg (ofNat U))))])::H)))) (Tr.ok (Ex.exit 2,[(1,AV.ptr 0 0 0 0,none),(3,iI U,none),(4,AV.slc 0 2 0 0 1 (cg (ofNat U)) (some (cg (ofNat U))),none),(6,AV.int .i64 t,none),(26,AV.bool false,some 1)],(bK [(0,cW O U Z V J),(0,an.row (rM g (cg (ofNat U)))),(0,an.row (rM y (cg (ofNat U))))])::H))) (bK [(0,cW O U Z V J),(0,an.row (rM g (cg (ofNat U)))),(0,an.row (rM y (cg (ofNat U)))),(0,an.row (rM (fun x=>ofNat 0) (cg (ofNat U))))]))) [(1,AV.ptr 0 0 0 0),(3,iI U),(4,AV.slc 0 2 0 0 1 (cg (ofNat U)) (some (cg (ofNat U)))),(6,AV.int .i64 t),(7,AV.slc 0 3 0 0 1 (cg (ofNat U)) (some (cg (ofNat U)))),(8,iI 0)]:=by kernel_rfl
end Go.Eng
end
section
namespace Go.Eng
open Int (ofNat)
open Go.Proofs Go.Eng.Gall
def rF (V:Nat) (J:Nat→Int) (a c:Int):Bool:=dz (ij J a c) V
theorem Uv:∀ b,(0,b) ∈ aE (bx Tryd.f79)→b=.loop (part Tryd.f79 [1,0,1,0,0]):=dK (by kernel_rfl)
theorem Nt:∀ b,(0,b) ∈ aE (bx Tryd.f64)→b=.loop (part Tryd.f64 [1,1,1,0,1,0,0]):=dK (by kernel_rfl)
theorem Nu:∀ b,(2,b) ∈ aE (bx Tryd.f64)→b=.loop (part Tryd.f64 [1,1,1,1,0,1,0,0]):=dK (by kernel_rfl)
theorem Nv:∀ b,(8,b) ∈ aE (bx Tryd.f64)→b=.loop (part Tryd.f64 [1,1,1,1,1,0,1,0,0]):=dK (by kernel_rfl)
theorem JD:∀ b,(4,b) ∈ aE (part Tryd.f64 [1,1,1,1,0,1,0,0])→b=.loop (part Tryd.f64 [1,1,1,1,0,1,0,0,1,0,0,1,0,1,0,0]):=dK (by kernel_rfl)
theorem JE:∀ b,(6,b) ∈ aE (part Tryd.f64 [1,1,1,1,0,1,0,0,1,0,0,1,0,1,0,0])→b=.loop (part Tryd.f64 [1,1,1,1,0,1,0,0,1,0,0,1,0,1,0,0,1,0,0,1,0,0]):=dK (by kernel_rfl)
theorem Pl (n:Nat) (O:Int) (U L:Nat) (Z:Nat→Int) (V:Nat) (J:Nat→Int) (H:ab) (g y:Nat→Int) (j:Int):aH (bO n 64 66) (il aJ n 0) aS aR (part Tryd.f64 [1,1,1,1,1,0,1,0,0]) (hints (A2 U L j)) (dA O U Z V J [cI L g,cI L y]::H) =
 (fun (Z0:bJ)=>Tr.ite (bw j (ofNat U)) (Tr.req (b8 j L) (Tr.req (cu 0 0) (Tr.req (bR (aq 0 j 1) L) (Tr.ite (cK (y (aq 0 j 1)) (ofNat 1)) (Tr.ok (Ex.ret,[(2,AV.bool true,some 1)],Z0::H)) (Tr.ok (Ex.normal,[(3,iI U,none),(4,AV.slc 0 2 0 0 1 L (some L),none),(10,AV.int .i64 (aQ .i64 j (ofNat 1)),none)],Z0::H)))))) (Tr.ok (Ex.exit 8,[(3,iI U,none),(4,AV.slc 0 2 0 0 1 L (some L),none),(10,AV.int .i64 j,none),(58,AV.bool false,some 1)],Z0::H))) (bK [(0,cW O U Z V J),(0,an.row (rM g L)),(0,an.row (rM y L))]):=by kernel_rfl
theorem u64 (n:Nat) (O:Int) (U:Nat) (Z:Nat→Int) (V:Nat) (J:Nat→Int) (H:ab) (y0 g y:Nat→Int) (e:Bool):bu Tryd.prog (cd n) 100000 64 Tryd.f64 (KtG.kt 64) (il aJ n 0) (cw (cw (cw aS 0 (m5 1 U (cg (ofNat U)) 5 (ofNat 0)) (dA O U Z V J [cI (cg (ofNat U)) (fun _=>ofNat 0)]::H) (.ok (.normal,hints (m5 1 U (cg (ofNat U)) 5 (ofNat U)++[(18,.bool false)]),dA O U Z V J [cI (cg (ofNat U)) y0]::H))) 2 (m5 1 U (cg (ofNat U)) 6 (ofNat 0)) (dA O U Z V J [cI (cg (ofNat U)) y0]::H) (.ok (.normal,hints (m5 2 U (cg (ofNat U)) 6 (ofNat U)++[(26,.bool false)]),dA O U Z V J [cI (cg (ofNat U)) g,cI (cg (ofNat U)) y]::H))) 8 (A2 U (cg (ofNat U)) (ofNat 0)) (dA O U Z V J [cI (cg (ofNat U)) g,cI (cg (ofNat U)) y]::H) (.ite e (.ok (.ret,[(2,.bool true,none)],dA O U Z V J [cI (cg (ofNat U)) g,cI (cg (ofNat U)) y]::H)) (.ok (.normal,hints (A2 U (cg (ofNat U)) (ofNat U)++[(58,.bool false)]),dA O U Z V J [cI (cg (ofNat U)) g,cI (cg (ofNat U)) y]::H)))) aR [(bk O U Z V J,none)] H =
 (fun (Z0:Nat×AV)=>((fun (Z1:bJ)=>((fun (Z2:aA)=>((fun (Z3:bJ)=>Tr.req (Ec (ofNat U) (ofNat U) 8) (Tr.reqP ([(1,AV.ptr 0 0 0 0),(3,iI U),Z0,(5,iI 0)]=[(1,AV.ptr 0 0 0 0),(3,iI U),Z0,(5,iI 0)]∧Z3::H=Z3::H) (Tr.reqP ([(1,AV.ptr 0 0 0 0),(3,iI U),Z0,(6,iI 0)]=[(1,AV.ptr 0 0 0 0),(3,iI U),Z0,(6,iI 0)]∧(bK [(0,cW O U Z V J),(0,an.row (rM y0 (cg (ofNat U))))])::H=(bK [(0,cW O U Z V J),(0,an.row (rM y0 (cg (ofNat U))))])::H) (Tr.reqP (Z2=Z2∧Z1::H=Z1::H) (Tr.ite e (Tr.ok ((AV.bool true,none),H)) (Tr.ok ((AV.bool false,some 1),H))))))) (bK [(0,cW O U Z V J),(0,an.row (rM (fun x=>ofNat 0) (cg (ofNat U))))]))) [(3,iI U),(4,AV.slc 0 2 0 0 1 (cg (ofNat U)) (some (cg (ofNat U)))),(10,iI 0)])) (bK [(0,cW O U Z V J),(0,an.row (rM g (cg (ofNat U)))),(0,an.row (rM y (cg (ofNat U))))]))) (4,AV.slc 0 1 0 0 1 (cg (ofNat U)) (some (cg (ofNat U)))):=by kernel_rfl
section
variable (n:Nat) (O:Int) (U:Nat) (Z:Nat→Int) (V:Nat) (J:Nat→Int) (H:ab)
theorem Ql (a b:Int) (hm:V≤1000):cd (n+1) (.fn 79) [bk O U Z V J,.int .i64 a,.int .i64 b] H=some (.bool (rF V J a b),H):=by
 have lp:=iH (n:=n) (f:=79) (nt:=24) (c:=part Tryd.f79 [1,0,1,0,0]) 0 (fun j=>DY a b (j:Int)) (fun _=>qH O U Z V J::H) V (ij J a b) (fun j=>([(6,.bool true)],qH O U Z V J::H)) (DY a b (ofNat V)++[(12,.bool false)],qH O U Z V J::H) wO (fun j hj=>?_) ?_
 · refine bB (n:=n) Tryd.func79 rfl rfl rfl (Xu n O U Z V J H a b (dz (ij J a b) V)) (aw n) (aM (aj _ _) Uv (fun x hx=>dy hx lp)) (ai _ _) ?_;refine Tr.ak ⟨rfl,rfl⟩ (Tr.ae (fun hc=>Tr.ag ⟨?_,rfl⟩) (fun hc=>Tr.ag ⟨?_,rfl⟩))
   · unfold rF;rw[hc]
   · unfold rF;rw[hc]
 · have ej:aQ .i64 (j:Int) (ofNat 1)=((j+1:Nat):Int):=eg wO;have ei:aq 0 (j:Int) 2=j*2:=by rw[bP];omega
   have hp:bL (cK (J (j*2)) a) (cK (J (j*2+1)) b)=ij J a b j:=by
    rw[bW,bf,bf];unfold ij;rw[Bool.eq_iff_iff];simp;constructor<;>(rintro ⟨h1,h2⟩;exact ⟨h1.symm,h2.symm⟩)
   have T:=t79 n O U Z V J H a b (j:Int);rw[ei,aC,ej,hp] at T;refine av T (aw n) (aj _ _) (ai _ _) ?_;refine Tr.ae (fun h0=>?_) wJ;refine Tr.aa wG (Tr.aa wG (Tr.aa wG ?_));refine Tr.ae (fun q=>Tr.ag ?_) (fun q=>Tr.ag ?_)
   · rw[if_pos q];rfl
   · rw[if_neg (by rw[q];decide)];exact ⟨rfl,rfl⟩
 · obtain ⟨x,h1,rfl⟩:=av (Q:=fun x=>x=(.exit 0,DY a b (ofNat V)++[(12,.bool false)],qH O U Z V J::H)) (t79 n O U Z V J H a b (ofNat V)) (aw n) (aj _ _) (ai _ _) (by
    refine Tr.ae wJ (fun h0=>Tr.ag rfl))
   exact h1
theorem wx {c:Nat} (hc:0<c) (hm:V≤1000):(ng aJ 79 (PT (bk O U Z V J) (rF V J))).Ok (cd c):=by
 obtain ⟨m,rfl⟩:∃ m,c=m+1:=⟨c-1,by omega⟩
 refine kr (bh _) (fun args p v hg hp H=>?_);unfold PT at hg;split at hg
 · simp only[nP] at hg;obtain ⟨rfl,rfl⟩:=hg;rw[hp];exact Ql m O U Z V J H _ _ hm
 · cases hg
def dq (p:Nat→Bool) (j:Nat):Int:=if p j=true then 1 else 0
def ui (U V:Nat) (J:Nat→Int) (b:Nat→Nat) (t a j:Nat):Bool:=decide (j<U) && dz (fun a'=>bS U b t a' && rF V J a' j) a
def uj (U V:Nat) (J:Nat→Int) (b:Nat→Nat) (t a c j:Nat):Bool:=ui U V J b t a j || (decide (j<c) && (bS U b t a && rF V J a j))
theorem JW (b:Nat→Nat) (t:Nat):dq (ui U V J b t 0)=fun _=>ofNat 0:=by
 funext j;unfold dq ui;rw[if_neg]
 · rfl
 · intro h;rw[Bool.and_eq_true] at h;obtain ⟨i,hi,_⟩:=(dI _ _).1 h.2;omega
theorem JX (b:Nat→Nat) (t a:Nat):uj U V J b t a 0=ui U V J b t a:=by
 funext j;unfold uj;simp
theorem CX (b:Nat→Nat) (t a:Nat):uj U V J b t a U=ui U V J b t (a+1):=by
 funext j;unfold uj ui;have e:dz (fun a'=>bS U b t a' && rF V J a' j) (a+1)=(dz (fun a'=>bS U b t a' && rF V J a' j) a || (bS U b t a && rF V J a j)):=by
  rw[Bool.eq_iff_iff,Bool.or_eq_true,dI,dI];constructor
  · rintro ⟨i,h1,h2⟩;by_cases e:i=a
    · subst e;exact .inr h2
    · exact .inl ⟨i,by omega,h2⟩
  · rintro (⟨i,h1,h2⟩ | h)
    · exact ⟨i,by omega,h2⟩
    · exact ⟨a,by omega,h⟩
 rw[e];cases decide (j<U)<;>simp
theorem Gm {b:Nat→Nat} (hb:b=fun c=>cZ J c V) (hp:fv U V J) (t:Nat):ui U V J b t U=bS U b (t+1):=by
 funext j;rw[Bool.eq_iff_iff,gk];unfold ui rF;rw[Bool.and_eq_true,decide_eq_true_iff,dI];subst hb;constructor
 · rintro ⟨h1,a,h2,h3⟩;rw[Bool.and_eq_true,dI] at h3;obtain ⟨h3,i,hi,h4⟩:=h3;unfold ij at h4;rw[Bool.and_eq_true,decide_eq_true_iff,decide_eq_true_iff] at h4;exact ⟨h1,a,h3,(jj J j a V (fun i hi=>(hp i hi).1.1)).2 ⟨i,hi,h4.1.symm,h4.2.symm⟩⟩
 · rintro ⟨h1,a,h2,h3⟩;obtain ⟨i,hi,h4,h5⟩:=(jj J j a V (fun i hi=>(hp i hi).1.1)).1 h3;refine ⟨h1,a,nk h2,?_⟩;rw[Bool.and_eq_true,dI];exact ⟨h2,i,hi,by unfold ij;rw[Bool.and_eq_true,decide_eq_true_iff,decide_eq_true_iff];exact ⟨h4.symm,h5.symm⟩⟩
theorem CY (b:Nat→Nat) (t a c:Nat) (h:(bS U b t a && rF V J a c)=true):ft (dq (uj U V J b t a c)) c (ofNat 1)=dq (uj U V J b t a (c+1)):=by
 rw[jB];funext j;unfold dq uj;by_cases e:j=c
 · subst e;rw[if_pos rfl,h,decide_eq_true wO];rw[if_pos (by simp)];rfl
 · rw[if_neg e];by_cases h2:j<c
   · rw[decide_eq_true h2,decide_eq_true wO]
   · rw[decide_eq_false h2,decide_eq_false wO]
theorem rB (b:Nat→Nat) (t a c:Nat) (h:(bS U b t a && rF V J a c)=false):uj U V J b t a (c+1)=uj U V J b t a c:=by
 funext j;unfold uj;by_cases e:j=c
 · subst e;rw[h];simp
 · by_cases h2:j<c
   · rw[decide_eq_true h2,decide_eq_true wO]
   · rw[decide_eq_false h2,decide_eq_false wO]
theorem Bo (p:Nat→Bool) (j:Nat):cK (dq p j) (ofNat 1)=p j:=by
 rw[bf];unfold dq;cases p j<;>rfl
end
end Go.Eng
end
section
namespace Go.Eng
open Int (ofNat)
open Go.Proofs Go.Eng.Gall
noncomputable def LL (U:Nat):Nat:=cg (ofNat U)
theorem BW (U:Nat):LL U=U:=by unfold LL;rw[jK];rfl
theorem MN (n:Nat) (O:Int) (U L:Nat) (Z:Nat→Int) (V:Nat) (J:Nat→Int) (H:ab) (y x:Nat→Int) (t a:Int):aH (bO n 64 66) (il aJ n 0) (dC aS 6) aR (part Tryd.f64 [1,1,1,1,0,1,0,0,1,0,0,1,0,1,0,0]) (hints (lO 1 U L t a)) (dA O U Z V J [cI L y,cI L x]::H) =
 Tr.ite (bw a (ofNat U)) Tr.bad (Tr.ok (Ex.exit 4,[(1,AV.ptr 0 0 0 0,none),(3,iI U,none),(4,AV.slc 0 1 0 0 1 L (some L),none),(6,AV.int .i64 t,none),(7,AV.slc 0 2 0 0 1 L (some L),none),(8,AV.int .i64 a,none),(33,AV.bool false,some 1)],(bK [(0,cW O U Z V J),(0,an.row (rM y L)),(0,an.row (rM x L))])::H)):=by kernel_rfl
theorem MO (n:Nat) (O:Int) (U L:Nat) (Z:Nat→Int) (V:Nat) (J:Nat→Int) (H:ab) (g:Nat→Int) (y x:Nat→Int) (t a:Int):aH (bO n 64 66) (il aJ n 0) (dC aS 6) aR (part Tryd.f64 [1,1,1,1,0,1,0,0,1,0,0,1,0,1,0,0]) (hints (lO 2 U L t a)) (dA O U Z V J [cI L g,cI L y,cI L x]::H) =
 Tr.ite (bw a (ofNat U)) Tr.bad (Tr.ok (Ex.exit 4,[(1,AV.ptr 0 0 0 0,none),(3,iI U,none),(4,AV.slc 0 2 0 0 1 L (some L),none),(6,AV.int .i64 t,none),(7,AV.slc 0 3 0 0 1 L (some L),none),(8,AV.int .i64 a,none),(33,AV.bool false,some 1)],(bK [(0,cW O U Z V J),(0,an.row (rM g L)),(0,an.row (rM y L)),(0,an.row (rM x L))])::H)):=by kernel_rfl
theorem MP (n:Nat) (O:Int) (U L:Nat) (Z:Nat→Int) (V:Nat) (J:Nat→Int) (H:ab) (g:Nat→Int) (y:Nat→Int) (t:Int):aH (bO n 64 66) (il aJ n 0) (dC aS 4) aR (part Tryd.f64 [1,1,1,1,0,1,0,0]) (hints (m5 2 U L 6 t)) (dA O U Z V J [cI L g,cI L y]::H) =
 Tr.ite (bw t (ofNat U)) (Tr.req (Ec (ofNat U) (ofNat U) 8) Tr.bad) (Tr.ok (Ex.exit 2,[(1,AV.ptr 0 0 0 0,none),(3,iI U,none),(4,AV.slc 0 2 0 0 1 L (some L),none),(6,AV.int .i64 t,none),(26,AV.bool false,some 1)],(bK [(0,cW O U Z V J),(0,an.row (rM g L)),(0,an.row (rM y L))])::H)):=by kernel_rfl
section
variable (n:Nat) (O:Int) (U:Nat) (Z:Nat→Int) (V:Nat) (J:Nat→Int) (b:Nat→Nat) (H:ab)
theorem WD (t a:Nat) (hl:U≤10) (hb:V≤1000) (ha:a<U) (ti:Int):exec (bO (n+1) 64 66) (.block 6 (.loop (part Tryd.f64 [1,1,1,1,0,1,0,0,1,0,0,1,0,1,0,0,1,0,0,1,0,0]))) (oQ 1 U (LL U) ti (a:Int) (ofNat 0)) (dA O U Z V J [cI (LL U) (dq (bS U b t)),cI (LL U) (dq (uj U V J b t a 0))]::H) =
 some (.normal,oQ 1 U (LL U) ti (a:Int) (ofNat U)++[(38,.bool false)],dA O U Z V J [cI (LL U) (dq (bS U b t)),cI (LL U) (dq (uj U V J b t a U))]::H):=by
 have eL:=BW U
 refine fZ (n:=n+1) (f:=64) (nt:=66) (c:=part Tryd.f64 [1,1,1,1,0,1,0,0,1,0,0,1,0,1,0,0,1,0,0,1,0,0]) 6 (fun c=>oQ 1 U (LL U) ti (a:Int) (c:Int)) (fun c=>dA O U Z V J [cI (LL U) (dq (bS U b t)),cI (LL U) (dq (uj U V J b t a c))]::H) U (_,_) wO (fun c hc=>?_) ?_
 · have ec:aQ .i64 (c:Int) (ofNat 1)=((c+1:Nat):Int):=eg wO
   have T:=J8 (n+1) O U (LL U) Z V J H (dq (bS U b t)) (dq (uj U V J b t a c)) (rF V J) ti (a:Int) (c:Int)
   rw[vu,vu,ec,Bo] at T
   refine av T (bC _ _ (wx O U Z V J wO hb)) (aj _ _) (ai _ _) ?_
   refine Tr.ae (fun h0=>?_) wJ
   refine Tr.aa (by rw[eL];simp (disch:=omega) only[nV,nW];omega) (Tr.aa wG (Tr.aa (by rw[eL];simp (disch:=omega) only[nV,nW];omega) (Tr.ae (fun q=>?_) (fun q=>?_))))
   · refine Tr.ak rfl (Tr.ae (fun r=>?_) (fun r=>?_))
     · refine Tr.aa (by rw[eL];simp (disch:=omega) only[nV,nW];omega) (Tr.aa wG (Tr.aa (by rw[eL];simp (disch:=omega) only[nV,nW];omega) (Tr.ag ⟨rfl,?_⟩)))
       rw[CY U V J b t a c (by rw[q,r];rfl)];rfl
     · refine Tr.ag ⟨rfl,?_⟩
       rw[rB U V J b t a c (by rw[q,r];rfl)];rfl
   · refine Tr.ag ⟨rfl,?_⟩
     rw[rB U V J b t a c (by rw[q];rfl)];rfl
 · obtain ⟨x,h1,rfl⟩:=av (Q:=fun x=>x=(.exit 6,oQ 1 U (LL U) ti (a:Int) (ofNat U)++[(38,.bool false)],dA O U Z V J [cI (LL U) (dq (bS U b t)),cI (LL U) (dq (uj U V J b t a U))]::H)) (J8 (n+1) O U (LL U) Z V J H (dq (bS U b t)) (dq (uj U V J b t a U)) (rF V J) ti (a:Int) (ofNat U)) (bC _ _ (wx O U Z V J wO hb)) (aj _ _) (ai _ _) (by
    refine Tr.ae wJ (fun h0=>Tr.ag rfl))
   exact h1
theorem WB (t:Nat) (hl:U≤10) (hb:V≤1000) (ti:Int):exec (bO (n+1) 64 66) (.block 4 (.loop (part Tryd.f64 [1,1,1,1,0,1,0,0,1,0,0,1,0,1,0,0]))) (lO 1 U (LL U) ti (ofNat 0)) (dA O U Z V J [cI (LL U) (dq (bS U b t)),cI (LL U) (dq (ui U V J b t 0))]::H) =
 some (.normal,lO 1 U (LL U) ti (ofNat U)++[(33,.bool false)],dA O U Z V J [cI (LL U) (dq (bS U b t)),cI (LL U) (dq (ui U V J b t U))]::H):=by
 refine fZ (n:=n+1) (f:=64) (nt:=66) (c:=part Tryd.f64 [1,1,1,1,0,1,0,0,1,0,0,1,0,1,0,0]) 4 (fun a=>lO 1 U (LL U) ti (a:Int)) (fun a=>dA O U Z V J [cI (LL U) (dq (bS U b t)),cI (LL U) (dq (ui U V J b t a))]::H) U (_,_) wO (fun a ha=>?_) ?_
 · have ec:aQ .i64 (a:Int) (ofNat 1)=((a+1:Nat):Int):=eg wO
   have hC:=WD n O U Z V J b H t a hl hb ha ti
   rw[JX,CX] at hC
   have T:=Pj (n+1) O U (LL U) Z V J H (dq (bS U b t)) (dq (ui U V J b t a)) (dq (ui U V J b t (a+1))) ti (a:Int)
   rw[ec] at T
   refine av T (aw _) (aM (aj _ _) JE (fun x h=>by rw[← Tr.af h];simp only[dY.st,aG];exact hC)) (ai _ _) ?_
   refine Tr.ae (fun h0=>Tr.ak ⟨rfl,rfl⟩ (Tr.ag ⟨rfl,rfl⟩)) wJ
 · obtain ⟨x,h1,rfl⟩:=av (Q:=fun x=>x=(.exit 4,lO 1 U (LL U) ti (ofNat U)++[(33,.bool false)],dA O U Z V J [cI (LL U) (dq (bS U b t)),cI (LL U) (dq (ui U V J b t U))]::H)) (MN (n+1) O U (LL U) Z V J H (dq (bS U b t)) (dq (ui U V J b t U)) ti (ofNat U)) (aw _) (bN (aj _ _) 6) (ai _ _) (by
    refine Tr.ae wJ (fun h0=>Tr.ag rfl))
   exact h1
theorem WE (g:Nat→Int) (t a:Nat) (hl:U≤10) (hb:V≤1000) (ha:a<U) (ti:Int):exec (bO (n+1) 64 66) (.block 6 (.loop (part Tryd.f64 [1,1,1,1,0,1,0,0,1,0,0,1,0,1,0,0,1,0,0,1,0,0]))) (oQ 2 U (LL U) ti (a:Int) (ofNat 0)) (dA O U Z V J [cI (LL U) g,cI (LL U) (dq (bS U b t)),cI (LL U) (dq (uj U V J b t a 0))]::H) =
 some (.normal,oQ 2 U (LL U) ti (a:Int) (ofNat U)++[(38,.bool false)],dA O U Z V J [cI (LL U) g,cI (LL U) (dq (bS U b t)),cI (LL U) (dq (uj U V J b t a U))]::H):=by
 have eL:=BW U
 refine fZ (n:=n+1) (f:=64) (nt:=66) (c:=part Tryd.f64 [1,1,1,1,0,1,0,0,1,0,0,1,0,1,0,0,1,0,0,1,0,0]) 6 (fun c=>oQ 2 U (LL U) ti (a:Int) (c:Int)) (fun c=>dA O U Z V J [cI (LL U) g,cI (LL U) (dq (bS U b t)),cI (LL U) (dq (uj U V J b t a c))]::H) U (_,_) wO (fun c hc=>?_) ?_
 · have ec:aQ .i64 (c:Int) (ofNat 1)=((c+1:Nat):Int):=eg wO
   have T:=J9 (n+1) O U (LL U) Z V J H g (dq (bS U b t)) (dq (uj U V J b t a c)) (rF V J) ti (a:Int) (c:Int)
   rw[vu,vu,ec,Bo] at T
   refine av T (bC _ _ (wx O U Z V J wO hb)) (aj _ _) (ai _ _) ?_
   refine Tr.ae (fun h0=>?_) wJ
   refine Tr.aa (by rw[eL];simp (disch:=omega) only[nV,nW];omega) (Tr.aa wG (Tr.aa (by rw[eL];simp (disch:=omega) only[nV,nW];omega) (Tr.ae (fun q=>?_) (fun q=>?_))))
   · refine Tr.ak rfl (Tr.ae (fun r=>?_) (fun r=>?_))
     · refine Tr.aa (by rw[eL];simp (disch:=omega) only[nV,nW];omega) (Tr.aa wG (Tr.aa (by rw[eL];simp (disch:=omega) only[nV,nW];omega) (Tr.ag ⟨rfl,?_⟩)))
       rw[CY U V J b t a c (by rw[q,r];rfl)];rfl
     · refine Tr.ag ⟨rfl,?_⟩
       rw[rB U V J b t a c (by rw[q,r];rfl)];rfl
   · refine Tr.ag ⟨rfl,?_⟩
     rw[rB U V J b t a c (by rw[q];rfl)];rfl
 · obtain ⟨x,h1,rfl⟩:=av (Q:=fun x=>x=(.exit 6,oQ 2 U (LL U) ti (a:Int) (ofNat U)++[(38,.bool false)],dA O U Z V J [cI (LL U) g,cI (LL U) (dq (bS U b t)),cI (LL U) (dq (uj U V J b t a U))]::H)) (J9 (n+1) O U (LL U) Z V J H g (dq (bS U b t)) (dq (uj U V J b t a U)) (rF V J) ti (a:Int) (ofNat U)) (bC _ _ (wx O U Z V J wO hb)) (aj _ _) (ai _ _) (by
    refine Tr.ae wJ (fun h0=>Tr.ag rfl))
   exact h1
theorem WC (g:Nat→Int) (t:Nat) (hl:U≤10) (hb:V≤1000) (ti:Int):exec (bO (n+1) 64 66) (.block 4 (.loop (part Tryd.f64 [1,1,1,1,0,1,0,0,1,0,0,1,0,1,0,0]))) (lO 2 U (LL U) ti (ofNat 0)) (dA O U Z V J [cI (LL U) g,cI (LL U) (dq (bS U b t)),cI (LL U) (dq (ui U V J b t 0))]::H) =
 some (.normal,lO 2 U (LL U) ti (ofNat U)++[(33,.bool false)],dA O U Z V J [cI (LL U) g,cI (LL U) (dq (bS U b t)),cI (LL U) (dq (ui U V J b t U))]::H):=by
 refine fZ (n:=n+1) (f:=64) (nt:=66) (c:=part Tryd.f64 [1,1,1,1,0,1,0,0,1,0,0,1,0,1,0,0]) 4 (fun a=>lO 2 U (LL U) ti (a:Int)) (fun a=>dA O U Z V J [cI (LL U) g,cI (LL U) (dq (bS U b t)),cI (LL U) (dq (ui U V J b t a))]::H) U (_,_) wO (fun a ha=>?_) ?_
 · have ec:aQ .i64 (a:Int) (ofNat 1)=((a+1:Nat):Int):=eg wO
   have hC:=WE n O U Z V J b H g t a hl hb ha ti
   rw[JX,CX] at hC
   have T:=Pk (n+1) O U (LL U) Z V J H g (dq (bS U b t)) (dq (ui U V J b t a)) (dq (ui U V J b t (a+1))) ti (a:Int)
   rw[ec] at T
   refine av T (aw _) (aM (aj _ _) JE (fun x h=>by rw[← Tr.af h];simp only[dY.st,aG];exact hC)) (ai _ _) ?_
   refine Tr.ae (fun h0=>Tr.ak ⟨rfl,rfl⟩ (Tr.ag ⟨rfl,rfl⟩)) wJ
 · obtain ⟨x,h1,rfl⟩:=av (Q:=fun x=>x=(.exit 4,lO 2 U (LL U) ti (ofNat U)++[(33,.bool false)],dA O U Z V J [cI (LL U) g,cI (LL U) (dq (bS U b t)),cI (LL U) (dq (ui U V J b t U))]::H)) (MO (n+1) O U (LL U) Z V J H g (dq (bS U b t)) (dq (ui U V J b t U)) ti (ofNat U)) (aw _) (bN (aj _ _) 6) (ai _ _) (by
    refine Tr.ae wJ (fun h0=>Tr.ag rfl))
   exact h1
end
end Go.Eng
end
