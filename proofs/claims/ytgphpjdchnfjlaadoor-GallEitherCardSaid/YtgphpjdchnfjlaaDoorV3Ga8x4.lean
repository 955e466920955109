/- Gall: CheckList: what it answers. -/
import Derived.Test.YtgphpjdchnfjlaaDoorV3Ga3x5
set_option linter.unusedVariables false
set_option linter.unusedSimpArgs false
set_option maxRecDepth 100000
section
namespace Go.Eng
open Go.Proofs Go.Eng.Gall
theorem yD {c f:Nat} {t:mW} {e:Bool} {C:List AV→Prop} (ht:t.Ok (cd c)) (h:∀ A H,C A→cd c (.fn f) A H=some (.bool e,H)):(lX t f (gB e C)).Ok (cd c):=by
 refine jV ht (fun args p v hg hp H=>?_);unfold gB at hg;simp only[nP] at hg;obtain ⟨rfl,rfl⟩:=hg;exact h _ H hp
theorem Gm {c f:Nat} {t:mW} {S:AV} {C:List AV→Prop} (ht:t.Ok (cd c)) (h:∀ A H,C A→cd c (.fn f) A H=some (S,H)):(lX t f (fun x=>some (C x,S))).Ok (cd c):=by
 refine jV ht (fun args p v hg hp H=>?_);simp only[nP] at hg;obtain ⟨rfl,rfl⟩:=hg;exact h _ H hp
def iq (z:Nat→Int) (a b:Int) (i:Nat):Bool:=decide (a=z (i*2)) && decide (b=z (i*2+1))
def gw (lc:Nat) (z:Nat→Int) (j:Nat):Bool:=decide (z (j*2)=z (j*2+1)) || (!(decide (0≤z (j*2)∧z (j*2)<lc) && decide (0≤z (j*2+1)∧z (j*2+1)<lc)) || cC (iq z (z (j*2)) (z (j*2+1))) j)
def dg (dr:Int) (lc:Nat) (zc:Nat→Int) (lb:Nat) (zb:Nat→Int):Int:=if lc=0∨10<lc∨40<lb then 6 else if dr<1∨100<dr∨cC (jx zc) lc=true then 3 else if cC (gw lc zb) lb=true then 2 else if lS lc (fun c=>cH zb c lb)=true then 16 else 0
theorem TE (n:Nat) (dr:Int) (lc:Nat) (zc:Nat→Int) (lb:Nat) (zb:Nat→Int) (H:ab):bj Tryd.prog (cd (n+10)) 100000 22 Tryd.f22 (KtG.kt 22) (il (lL aD 59 gW) (n+10) 0) (eF aL 1) aJ [(bn dr lc zc lb zb,none)] H =
 Tr.ite (bx (bO (bO (c8 (Int.ofNat 0) (bN .i64 (Int.ofNat lc) (Int.ofNat 1))) (c8 (bN .i64 (Int.ofNat lc) (Int.ofNat 1)) (Int.ofNat 9))) true)) (Tr.ok ((iI 6,some 1),H)) (Tr.ite (bD (Int.ofNat 40) (Int.ofNat lb)) (Tr.ok ((iI 6,some 1),H)) (Tr.ite (bx (bO (bO (c8 (Int.ofNat 1) dr) (c8 dr (Int.ofNat 100))) true)) (Tr.ok ((iI 3,some 1),H)) Tr.bad)):=by kernel_rfl
theorem Vr:∀ b,(0,b) ∈ aE (aV Tryd.f86)→b=.loop (part Tryd.f86 [1,0,1,0,0]):=dz (by kernel_rfl)
theorem Vj:∀ b,(1,b) ∈ aE (aV Tryd.f22)→b=.loop (part Tryd.f22 [1,1,1,1,0,1,0,0]):=dz (by kernel_rfl)
section
variable (n:Nat) (m:Nat) (z:Nat→Int) (full:Bool) (a b:Int) (H:ab)
theorem VY (hm:m≤1000):cd (n+1) (.fn 86) [Nd m z full,NH a b] H=some (.int .i64 (yS (iq z a b) m),H):=by
 have lp:=eA (n:=n) (f:=86) (nt:=19) (c:=part Tryd.f86 [1,0,1,0,0]) 0 (fun j=>Eo m z full (j:Int)) (fun _=>Kw a b::H) m (iq z a b) (fun j=>([(4,.int .i64 (j:Int))],Kw a b::H)) (Eo m z full (Int.ofNat m)++[(9,.bool false)],Kw a b::H) (by omega) (fun j hj=>?_) ?_
 · refine br (n:=n) Tryd.func86 rfl rfl rfl (YH n m z full a b H ((fN (iq z a b) m 0:Nat):Int) (cC (iq z a b) m)) (av n) (aP (ai _ _) Vr (fun x hx=>b7 hx lp)) (aj _ _) ?_;refine Tr.ak ⟨rfl,rfl⟩ (Tr.ae (fun hc=>Tr.ag ⟨?_,rfl⟩) (fun hc=>Tr.ag ⟨?_,rfl⟩))
   · unfold yS;rw[if_pos hc]
   · unfold yS;rw[if_neg (by rw[hc];decide)];rfl
 · have ej:bh .i64 (j:Int) (Int.ofNat 1)=((j+1:Nat):Int):=dJ (by omega);have ei:aq 0 (j:Int) 2=j*2:=by rw[bG];omega
   have hp:bO (cw a (z (j*2))) (cw b (z (j*2+1)))=iq z a b j:=by
    rw[bT,aQ,aQ];unfold iq;rw[Bool.eq_iff_iff];simp
   have T:=t86 n m z full a b H (j:Int);rw[ei,aI,ej,hp] at T;refine ay T (av n) (ai _ _) (aj _ _) ?_;refine Tr.ae (fun h0=>?_) wJ;refine Tr.aa wG (Tr.aa wG (Tr.aa wG ?_));refine Tr.ae (fun q=>Tr.ag ?_) (fun q=>Tr.ag ?_)
   · rw[if_pos q];rfl
   · rw[if_neg (by rw[q];decide)];exact ⟨rfl,rfl⟩
 · obtain ⟨x,h1,rfl⟩:=ay (Q:=fun x=>x=(.exit 0,Eo m z full (Int.ofNat m)++[(9,.bool false)],Kw a b::H)) (t86 n m z full a b H (Int.ofNat m)) (av n) (ai _ _) (aj _ _) (by
    refine Tr.ae wJ (fun h0=>Tr.ag rfl))
   exact h1
theorem VJ (hm:m≤1000):cd (n+2) (.fn 61) [Nd m z full,NH a b] H=some (.bool (cC (iq z a b) m),H):=by
 have h:=fun H=>VY n m z full a b H hm;refine br (n:=n+1) Tryd.func61 rfl rfl rfl (Yo (n+1) m z full a b H (yS (iq z a b) m)) (bo _ (n+1) (bR (aW _) h)) (ai _ _) (aj _ _) ?_;refine Tr.ak rfl (Tr.ag ⟨?_,rfl⟩);rw[xf]
end
section
variable (n:Nat) (dr:Int) (lc:Nat) (zc:Nat→Int) (lb:Nat) (zb:Nat→Int) (H:ab)
noncomputable def Sk (a b:Int):bF:={ GI dr lc zc lb zb with bs:=(GI dr lc zc lb zb).bs++[(0,.row (.I .i64 [a,b])),(0,.dead)] }
noncomputable def O3 (a b:Int):bF:={ GI dr lc zc lb zb with bs:=(GI dr lc zc lb zb).bs++[(0,.row (.I .i64 [a,b])),(0,.row (.I .i64 [a,b]))] }
noncomputable def NG (j:Nat):bF:=if zb (j*2)=zb (j*2+1) then Sk dr lc zc lb zb (zb (j*2)) (zb (j*2+1)) else O3 dr lc zc lb zb (zb (j*2)) (zb (j*2+1))
theorem XC (h1:1≤lc) (hl:lc≤10) (hb:lb≤40):exec (bL (n+10) 22 69) (.block 1 (.loop (part Tryd.f22 [1,1,1,1,0,1,0,0]))) (Bs lc lb zb (Int.ofNat 0)) (GI dr lc zc lb zb::H) =
 some (cond (cC (gw lc zb) lb) (.ret,[(2,.int .i64 2)],NG dr lc zc lb zb (fN (gw lc zb) lb 0)::H) (.normal,Bs lc lb zb (Int.ofNat lb)++[(38,.bool false)],GI dr lc zc lb zb::H)):=by
 have s3:bN .i64 (Int.ofNat lc) (Int.ofNat 1)=(lc:Int)-1:=by rw[eG];exact im (by show -9223372036854775808≤(lc:Int)-1;omega) (by show (lc:Int)-1≤_;omega)
 refine eA (n:=n+10) (f:=22) (nt:=69) (c:=part Tryd.f22 [1,1,1,1,0,1,0,0]) 1 (fun j=>Bs lc lb zb (j:Int)) (fun _=>GI dr lc zc lb zb::H) lb (gw lc zb) (fun j=>([(2,.int .i64 2)],NG dr lc zc lb zb j::H)) (_,_) (by omega) (fun j hj=>?_) ?_
 · have ej:bh .i64 (j:Int) (Int.ofNat 1)=((j+1:Nat):Int):=dJ (by omega)
   have ei:aq 0 (j:Int) 2=j*2:=by rw[bG];omega
   have et:b5 (j:Int)=j:=by rw[j6];omega
   have hin:bx (bO (bO (c8 (Int.ofNat 0) (zb (j*2))) (c8 (zb (j*2)) (bN .i64 (Int.ofNat lc) (Int.ofNat 1)))) (bO (bO (c8 (Int.ofNat 0) (zb (j*2+1))) (c8 (zb (j*2+1)) (bN .i64 (Int.ofNat lc) (Int.ofNat 1)))) true))=!(decide (0≤zb (j*2)∧zb (j*2)<lc) && decide (0≤zb (j*2+1)∧zb (j*2+1)<lc)):=by
    rw[s3,aB,bT,bT,bT,bT,bf,bf,bf,bf];rw[Bool.eq_iff_iff];simp;omega
   have T:=t22 n dr lc zc lb zb H (j:Int) (cC (iq zb (zb (j*2)) (zb (j*2+1))) j) (fun A=>A=[Nd j zb (bO false (cD j lb)),NH (zb (j*2)) (zb (j*2+1))])
   rw[ei,aI,ej,et] at T
   rw[hin] at T
   refine ay T (bo _ _ (by
    rw[show n+10=n+4+6 by omega];refine sN (n:=n+4) (yD (aW _) (fun A H hA=>?_));subst hA;rw[show n+4+6=n+8+2 by omega];exact VJ (n+8) j zb _ _ _ H (by omega))) (ai _ _) (aj _ _) ?_
   refine Tr.ae (fun h0=>?_) wJ
   refine Tr.aa wG (Tr.aa wG (Tr.aa wG (Tr.aa wG (Tr.aa wG ?_))))
   refine Tr.ae (fun q=>?_) (fun q=>?_)
   · have q:zb (j*2)=zb (j*2+1):=by rw[aQ,beq_iff_eq] at q;exact q
     refine Tr.ag ?_
     rw[if_pos (by unfold gw;rw[decide_eq_true q];rfl)]
     unfold NG;rw[if_pos q];rfl
   · have q:¬ zb (j*2)=zb (j*2+1):=by rw[aQ,beq_eq_false_iff_ne] at q;exact q
     have hX:NG dr lc zc lb zb j=O3 dr lc zc lb zb (zb (j*2)) (zb (j*2+1)):=by unfold NG;rw[if_neg q]
     refine Tr.aa wG (Tr.aa wG (Tr.ae (fun r=>?_) (fun r=>?_)))
     · refine Tr.ag ?_
       rw[if_pos (by unfold gw;rw[r];simp),hX];rfl
     · refine Tr.aa wG (Tr.aa wG (Tr.ak rfl (Tr.ae (fun u=>?_) (fun u=>?_))))
       · refine Tr.ag ?_
         rw[if_pos (by unfold gw;rw[u];simp),hX];rfl
       · refine Tr.ag ?_
         rw[if_neg (by unfold gw;rw[u,r,decide_eq_false q];simp)]
         exact ⟨rfl,rfl⟩
 · obtain ⟨x,h1,rfl⟩:=ay (Q:=fun x=>x=(.exit 1,Bs lc lb zb (Int.ofNat lb)++[(38,.bool false)],GI dr lc zc lb zb::H)) (t22 n dr lc zc lb zb H (Int.ofNat lb) true (fun A=>False)) (bo _ _ (by
    rw[show n+10=n+4+6 by omega];exact sN (n:=n+4) (yD (aW _) (fun A H hA=>hA.elim)))) (ai _ _) (aj _ _) (by
    refine Tr.ae wJ (fun h0=>Tr.ag rfl))
   exact h1
theorem pU {lc lb:Nat} {zb:Nat→Int} (h:cC (gw lc zb) lb=false):fi lc lb zb:=fun j hj=>by
 have:=iE h j hj;unfold gw at this;simp only[Bool.or_eq_false_iff,Bool.not_eq_false',Bool.and_eq_true,decide_eq_true_eq] at this;exact ⟨this.2.1.1,this.2.1.2⟩
theorem UU (hl:lc≤1000) (hb:lb≤1000):cd (n+11) (.fn 22) [bn dr lc zc lb zb] H=some (.int .i64 (dg dr lc zc lb zb),H):=by
 have s3:bN .i64 (Int.ofNat lc) (Int.ofNat 1)=(lc:Int)-1:=by rw[eG];exact im (by show -9223372036854775808≤(lc:Int)-1;omega) (by show (lc:Int)-1≤_;omega)
 have hv:=fun h:cC (jx zc) lc=false=>(iE h:p8 lc zc)
 have ht:(lX (lX (lL (lX aD 60 (gB (cC (jx zc) lc) (fun A=>A=[slA 4 lc zc,.fn (.func 58) [] []]))) 59 gW) 62 (fun x=>some (x=[bn dr lc zc lb zb]∧(lc≤10∧(1≤dr∧dr≤100)∧p8 lc zc∧fi lc lb zb),NI dr lc zc lb zb))) 63 (gB (lS lc (fun c=>cH zb c lb)) (fun A=>A=[NI dr lc zc lb zb]∧(lc≤10∧fi lc lb zb)))).Ok (cd (n+10)):=by
  refine yD (Gm ?_ (fun A H hA=>?_)) (fun A H hA=>?_)
  · rw[show n+10=n+4+6 by omega];refine sN (n:=n+4) (yD (aW _) (fun A H hA=>?_));subst hA;rw[show n+4+6=n+10 by omega];exact VI n lc zc H hl
  · obtain ⟨rfl,a1,a2,a3,a4⟩:=hA;rw[show n+10=n+3+7 by omega];exact UX (n+3) dr lc zc lb zb H a1 hb a2 a3 a4
  · obtain ⟨rfl,a1,a4⟩:=hA;rw[show n+10=n+8+2 by omega];exact VK (n+8) dr lc zc lb zb (bK dr lc zc) (fun c=>cH zb c lb) H a1 (fun c _=>Nat.lt_of_lt_of_le (qd zb c lc lb (fun i hi=>(a4 i hi).1)) (Nat.pow_le_pow_right (by decide) (by omega)))
 by_cases k0:1≤lc∧lc≤10∧lb≤40
 · obtain ⟨k1,k2,k3⟩:=k0;refine br (n:=n+10) Tryd.func22 rfl rfl rfl (Yb n dr lc zc lb zb H (NG dr lc zc lb zb (fN (gw lc zb) lb 0)) (cC (jx zc) lc) (lS lc (fun c=>cH zb c lb)) (cC (gw lc zb) lb) (fun A=>A=[slA 4 lc zc,.fn (.func 58) [] []]) (fun A=>A=[bn dr lc zc lb zb]∧(lc≤10∧(1≤dr∧dr≤100)∧p8 lc zc∧fi lc lb zb)) (fun A=>A=[NI dr lc zc lb zb]∧(lc≤10∧fi lc lb zb)) (NI dr lc zc lb zb)) (bo _ _ ht) (aP (ai _ _) Vj (fun y h=>b7 h (XC n dr lc zc lb zb H k1 k2 k3))) (aj _ _) ?_;have hG:dg dr lc zc lb zb=if dr<1∨100<dr∨cC (jx zc) lc=true then 3 else if cC (gw lc zb) lb=true then 2 else if lS lc (fun c=>cH zb c lb)=true then 16 else 0:=by unfold dg;rw[if_neg (by omega)]
   rw[hG,s3];refine Tr.ae (fun q=>?_) (fun q=>?_)
   · exfalso;rw[aB,bT,bT,bf,bf] at q;simp at q;omega
   refine Tr.ae wJ (fun q=>?_);refine Tr.ae (fun q=>?_) (fun q=>?_)
   · rw[aB,bT,bT,bf,bf] at q;simp at q;rw[if_pos (by omega)];exact Tr.ag ⟨rfl,rfl⟩
   · rw[aB,bT,bT,bf,bf] at q;simp at q;refine Tr.ak rfl (Tr.ae (fun r=>?_) (fun r=>?_))
     · rw[if_pos (.inr (.inr r))];exact Tr.ag ⟨rfl,rfl⟩
     · rw[if_neg (by rintro (h | h | h);omega;omega;rw[r] at h;cases h)];refine Tr.ak ⟨by rw[← s3],by rw[← s3]⟩ (Tr.ae (fun u=>?_) (fun u=>?_))
       · rw[if_pos u];exact Tr.ag ⟨rfl,rfl⟩
       · rw[if_neg (by rw[u];decide)];refine Tr.ak ⟨rfl,k2,by omega,hv r,pU u⟩ (Tr.ak ⟨rfl,k2,pU u⟩ (Tr.ae (fun w=>?_) (fun w=>?_)))
         · rw[if_pos w];exact Tr.ag ⟨rfl,rfl⟩
         · rw[if_neg (by rw[w];decide)];exact Tr.ag ⟨rfl,rfl⟩
 · refine br (n:=n+10) Tryd.func22 rfl rfl rfl (TE n dr lc zc lb zb H) (bo _ _ (by
    rw[show n+10=n+4+6 by omega];exact sN (n:=n+4) (aW _))) (b8 (ai _ _) 1) (aj _ _) ?_
   have hG:dg dr lc zc lb zb=6:=by unfold dg;rw[if_pos (by omega)]
   rw[hG,s3];refine Tr.ae (fun q=>Tr.ag ⟨rfl,rfl⟩) (fun q=>?_);refine Tr.ae (fun q=>Tr.ag ⟨rfl,rfl⟩) (fun q2=>?_);exfalso;rw[aB,bT,bT,bf,bf] at q;simp at q;simp (disch:=omega) only[nV,nW] at q2;omega
end
end Go.Eng
end
section
namespace Go.Eng
open Go.Proofs
noncomputable def dq (dr:Int) (lc:Nat) (zc:Nat→Int) (lb:Nat) (zb:Nat→Int):bF:=⟨false,[(0,.row (.G [.int .i64 dr,slA 4 lc zc,slA 2 lb zb]))]⟩
noncomputable def Em (a b j:Int):aF:=[(1,.int .i64 a),(2,.int .i64 b),(3,.ptr 0 0 0 0),(7,.int .i64 j)]
noncomputable def dG (dr:Int) (lc:Nat) (zc:Nat→Int) (lb:Nat) (zb:Nat→Int) (bs:List (Nat×an)):bF:=⟨false,(0,.row (.G [.int .i64 dr,slA 4 lc zc,slA 2 lb zb]))::bs⟩
noncomputable def cK (L:Nat) (y:Nat→Int):Nat×an:=(0,.row (.M [.arr .i64 y L]))
noncomputable def nC (i lc L:Nat) (s:Nat) (j:Int):aF:=[(1,.ptr 0 0 0 0),(3,.int .i64 (Int.ofNat lc)),(4,.slc 0 i 0 0 1 L (some L)),(s,.int .i64 j)]
noncomputable def Bw (lc L:Nat) (j:Int):aF:=[(3,.int .i64 (Int.ofNat lc)),(4,.slc 0 2 0 0 1 L (some L)),(10,.int .i64 j)]
noncomputable def mn (i lc L:Nat) (t a:Int):aF:=[(1,.ptr 0 0 0 0),(3,.int .i64 (Int.ofNat lc)),(4,.slc 0 i 0 0 1 L (some L)),(6,.int .i64 t),(7,.slc 0 (Nat.succ i) 0 0 1 L (some L)),(8,.int .i64 a)]
noncomputable def pj (i lc L:Nat) (t a c:Int):aF:=mn i lc L t a++[(9,.int .i64 c)]
noncomputable def Qt (A:AV) (P:Int→Int→Bool):List AV→Option (Prop×AV)
 | [B,.int .i64 a,.int .i64 c]=>some (B=A,.bool (P a c))
 | _=>none
theorem t79 (n:Nat) (dr:Int) (lc:Nat) (zc:Nat→Int) (lb:Nat) (zb:Nat→Int) (H:ab) (a b j:Int):aH (bL n 79 24) (il aD n 0) aL aJ (part Tryd.f79 [1,0,1,0,0]) (hints (Em a b j)) (dq dr lc zc lb zb::H) =
 Tr.ite (bD j (Int.ofNat lb)) (Tr.req (cj j lb) (Tr.req (bW (aq 0 j 2) (bU lb 2)) (Tr.req (bW (ar (aq 0 j 2) 1) (bU lb 2)) (Tr.ite (bO (cw (zb (aq 0 j 2)) a) (cw (zb (ar (aq 0 j 2) 1)) b)) (Tr.ok (Ex.ret,[(6,AV.bool true,some 1)],(bA [(0,dh dr lc zc lb zb)])::H)) (Tr.ok (Ex.normal,[(1,AV.int .i64 a,none),(2,AV.int .i64 b,none),(3,AV.ptr 0 0 0 0,none),(7,AV.int .i64 (bh .i64 j (Int.ofNat 1)),none)],(bA [(0,dh dr lc zc lb zb)])::H)))))) (Tr.ok (Ex.exit 0,[(1,AV.int .i64 a,none),(2,AV.int .i64 b,none),(3,AV.ptr 0 0 0 0,none),(7,AV.int .i64 j,none),(12,AV.bool false,some 1)],(bA [(0,dh dr lc zc lb zb)])::H)):=by kernel_rfl
theorem YC (n:Nat) (dr:Int) (lc:Nat) (zc:Nat→Int) (lb:Nat) (zb:Nat→Int) (H:ab) (a b:Int) (e:Bool):bj Tryd.prog (cd n) 100000 79 Tryd.f79 (KtG.kt 79) (il aD n 0) (cr aL 0 (Em a b (Int.ofNat 0)) (dq dr lc zc lb zb::H) (.ite e (.ok (.ret,[(6,.bool true,none)],dq dr lc zc lb zb::H)) (.ok (.normal,hints (Em a b (Int.ofNat lb)++[(12,.bool false)]),dq dr lc zc lb zb::H)))) aJ [(bn dr lc zc lb zb,none),(.int .i64 a,none),(.int .i64 b,none)] H =
 Tr.reqP ([(1,AV.int .i64 a),(2,AV.int .i64 b),(3,AV.ptr 0 0 0 0),(7,iI 0)]=[(1,AV.int .i64 a),(2,AV.int .i64 b),(3,AV.ptr 0 0 0 0),(7,iI 0)]∧(bA [(0,dh dr lc zc lb zb)])::H=(bA [(0,dh dr lc zc lb zb)])::H) (Tr.ite e (Tr.ok ((AV.bool true,none),H)) (Tr.ok ((AV.bool false,some 1),H))):=by kernel_rfl
theorem PS (n:Nat) (dr:Int) (lc L:Nat) (zc:Nat→Int) (lb:Nat) (zb:Nat→Int) (H:ab) (y:Nat→Int) (j:Int):aH (bL n 64 66) (il aD n 0) aL aJ (part Tryd.f64 [1,1,1,0,1,0,0]) (hints (nC 1 lc L 5 j)) (dG dr lc zc lb zb [cK L y]::H) =
 Tr.ite (bD j (Int.ofNat lc)) (Tr.req (cj j L) (Tr.req (cD 0 0) (Tr.req (bW (aq 0 j 1) L) (Tr.ok (Ex.normal,[(1,AV.ptr 0 0 0 0,none),(3,iI lc,none),(4,AV.slc 0 1 0 0 1 L (some L),none),(5,AV.int .i64 (bh .i64 j (Int.ofNat 1)),none)],(bA [(0,dh dr lc zc lb zb),(0,an.row (rM (dQ y (aq 0 j 1) (Int.ofNat 1)) L))])::H))))) (Tr.ok (Ex.exit 0,[(1,AV.ptr 0 0 0 0,none),(3,iI lc,none),(4,AV.slc 0 1 0 0 1 L (some L),none),(5,AV.int .i64 j,none),(18,AV.bool false,some 1)],(bA [(0,dh dr lc zc lb zb),(0,an.row (rM y L))])::H)):=by kernel_rfl
theorem KJ (n:Nat) (dr:Int) (lc L:Nat) (zc:Nat→Int) (lb:Nat) (zb:Nat→Int) (H:ab) (y x:Nat→Int) (P:Int→Int→Bool) (t a c:Int):aH (bL n 64 66) (il (lX aD 79 (Qt (bn dr lc zc lb zb) P)) n 0) aL aJ (part Tryd.f64 [1,1,1,1,0,1,0,0,1,0,0,1,0,1,0,0,1,0,0,1,0,0]) (hints (pj 1 lc L t a c)) (dG dr lc zc lb zb [cK L y,cK L x]::H) =
 (fun (Z0:aS)=>((fun (Z1:bF)=>Tr.ite (bD c (Int.ofNat lc)) (Tr.req (cj a L) (Tr.req (cD 0 0) (Tr.req (bW (aq 0 a 1) L) (Tr.ite (cw (y (aq 0 a 1)) (Int.ofNat 1)) (Tr.reqP (bn dr lc zc lb zb=bn dr lc zc lb zb) (Tr.ite (P a c) (Tr.req (cj c L) (Tr.req (cD 0 0) (Tr.req (bW (aq 0 c 1) L) (Tr.ok (Ex.normal,Z0,(bA [(0,dh dr lc zc lb zb),(0,an.row (rM y L)),(0,an.row (rM (dQ x (aq 0 c 1) (Int.ofNat 1)) L))])::H))))) (Tr.ok (Ex.normal,Z0,Z1::H)))) (Tr.ok (Ex.normal,Z0,Z1::H)))))) (Tr.ok (Ex.exit 6,[(1,AV.ptr 0 0 0 0,none),(3,iI lc,none),(4,AV.slc 0 1 0 0 1 L (some L),none),(6,AV.int .i64 t,none),(7,AV.slc 0 2 0 0 1 L (some L),none),(8,AV.int .i64 a,none),(9,AV.int .i64 c,none),(38,AV.bool false,some 1)],Z1::H))) (bA [(0,dh dr lc zc lb zb),(0,an.row (rM y L)),(0,an.row (rM x L))]))) [(1,AV.ptr 0 0 0 0,none),(3,iI lc,none),(4,AV.slc 0 1 0 0 1 L (some L),none),(6,AV.int .i64 t,none),(7,AV.slc 0 2 0 0 1 L (some L),none),(8,AV.int .i64 a,none),(9,AV.int .i64 (bh .i64 c (Int.ofNat 1)),none)]:=by kernel_rfl
theorem PT (n:Nat) (dr:Int) (lc L:Nat) (zc:Nat→Int) (lb:Nat) (zb:Nat→Int) (H:ab) (y x x':Nat→Int) (t a:Int):aH (bL n 64 66) (il aD n 0) (cr aL 6 (pj 1 lc L t a (Int.ofNat 0)) (dG dr lc zc lb zb [cK L y,cK L x]::H) (.ok (.normal,hints (pj 1 lc L t a (Int.ofNat lc)++[(38,.bool false)]),(dG dr lc zc lb zb [cK L y,cK L x']::H)))) aJ (part Tryd.f64 [1,1,1,1,0,1,0,0,1,0,0,1,0,1,0,0]) (hints (mn 1 lc L t a)) (dG dr lc zc lb zb [cK L y,cK L x]::H) =
 (fun (Z0:aF)=>((fun (Z1:bF)=>Tr.ite (bD a (Int.ofNat lc)) (Tr.reqP (Z0=Z0∧Z1::H=Z1::H) (Tr.ok (Ex.normal,[(1,AV.ptr 0 0 0 0,none),(3,iI lc,none),(4,AV.slc 0 1 0 0 1 L (some L),none),(6,AV.int .i64 t,none),(7,AV.slc 0 2 0 0 1 L (some L),none),(8,AV.int .i64 (bh .i64 a (Int.ofNat 1)),none)],(bA [(0,dh dr lc zc lb zb),(0,an.row (rM y L)),(0,an.row (rM x' L))])::H))) (Tr.ok (Ex.exit 4,[(1,AV.ptr 0 0 0 0,none),(3,iI lc,none),(4,AV.slc 0 1 0 0 1 L (some L),none),(6,AV.int .i64 t,none),(7,AV.slc 0 2 0 0 1 L (some L),none),(8,AV.int .i64 a,none),(33,AV.bool false,some 1)],Z1::H))) (bA [(0,dh dr lc zc lb zb),(0,an.row (rM y L)),(0,an.row (rM x L))]))) [(1,AV.ptr 0 0 0 0),(3,iI lc),(4,AV.slc 0 1 0 0 1 L (some L)),(6,AV.int .i64 t),(7,AV.slc 0 2 0 0 1 L (some L)),(8,AV.int .i64 a),(9,iI 0)]:=by kernel_rfl
theorem PW (n:Nat) (dr:Int) (lc:Nat) (zc:Nat→Int) (lb:Nat) (zb:Nat→Int) (H:ab) (y x':Nat→Int) (t:Int):aH (bL n 64 66) (il aD n 0) (cr aL 4 (mn 1 lc (b5 (Int.ofNat lc)) t (Int.ofNat 0)) (dG dr lc zc lb zb [cK (b5 (Int.ofNat lc)) y,cK (b5 (Int.ofNat lc)) (fun _=>Int.ofNat 0)]::H) (.ok (.normal,hints (mn 1 lc (b5 (Int.ofNat lc)) t (Int.ofNat lc)++[(33,.bool false)]),(dG dr lc zc lb zb [cK (b5 (Int.ofNat lc)) y,cK (b5 (Int.ofNat lc)) x']::H)))) aJ (part Tryd.f64 [1,1,1,1,0,1,0,0]) (hints (nC 1 lc (b5 (Int.ofNat lc)) 6 t)) (dG dr lc zc lb zb [cK (b5 (Int.ofNat lc)) y]::H) =
 (fun (Z0:aF)=>((fun (Z1:bF)=>Tr.ite (bD t (Int.ofNat lc)) (Tr.req (Dm (Int.ofNat lc) (Int.ofNat lc) 8) (Tr.reqP (Z0=Z0∧Z1::H=Z1::H) (Tr.ok (Ex.normal,[(1,AV.ptr 0 0 0 0,none),(3,iI lc,none),(4,AV.slc 0 2 0 0 1 (b5 (Int.ofNat lc)) (some (b5 (Int.ofNat lc))),none),(6,AV.int .i64 (bh .i64 t (Int.ofNat 1)),none)],(bA [(0,dh dr lc zc lb zb),(0,an.row (rM y (b5 (Int.ofNat lc)))),(0,an.row (rM x' (b5 (Int.ofNat lc))))])::H)))) (Tr.ok (Ex.exit 2,[(1,AV.ptr 0 0 0 0,none),(3,iI lc,none),(4,AV.slc 0 1 0 0 1 (b5 (Int.ofNat lc)) (some (b5 (Int.ofNat lc))),none),(6,AV.int .i64 t,none),(26,AV.bool false,some 1)],(bA [(0,dh dr lc zc lb zb),(0,an.row (rM y (b5 (Int.ofNat lc))))])::H))) (bA [(0,dh dr lc zc lb zb),(0,an.row (rM y (b5 (Int.ofNat lc)))),(0,an.row (rM (fun x=>Int.ofNat 0) (b5 (Int.ofNat lc))))]))) [(1,AV.ptr 0 0 0 0),(3,iI lc),(4,AV.slc 0 1 0 0 1 (b5 (Int.ofNat lc)) (some (b5 (Int.ofNat lc)))),(6,AV.int .i64 t),(7,AV.slc 0 2 0 0 1 (b5 (Int.ofNat lc)) (some (b5 (Int.ofNat lc)))),(8,iI 0)]:=by kernel_rfl
theorem KL (n:Nat) (dr:Int) (lc L:Nat) (zc:Nat→Int) (lb:Nat) (zb:Nat→Int) (H:ab) (g:Nat→Int) (y x:Nat→Int) (P:Int→Int→Bool) (t a c:Int):aH (bL n 64 66) (il (lX aD 79 (Qt (bn dr lc zc lb zb) P)) n 0) aL aJ (part Tryd.f64 [1,1,1,1,0,1,0,0,1,0,0,1,0,1,0,0,1,0,0,1,0,0]) (hints (pj 2 lc L t a c)) (dG dr lc zc lb zb [cK L g,cK L y,cK L x]::H) =
 (fun (Z0:aS)=>((fun (Z1:bF)=>Tr.ite (bD c (Int.ofNat lc)) (Tr.req (cj a L) (Tr.req (cD 0 0) (Tr.req (bW (aq 0 a 1) L) (Tr.ite (cw (y (aq 0 a 1)) (Int.ofNat 1)) (Tr.reqP (bn dr lc zc lb zb=bn dr lc zc lb zb) (Tr.ite (P a c) (Tr.req (cj c L) (Tr.req (cD 0 0) (Tr.req (bW (aq 0 c 1) L) (Tr.ok (Ex.normal,Z0,(bA [(0,dh dr lc zc lb zb),(0,an.row (rM g L)),(0,an.row (rM y L)),(0,an.row (rM (dQ x (aq 0 c 1) (Int.ofNat 1)) L))])::H))))) (Tr.ok (Ex.normal,Z0,Z1::H)))) (Tr.ok (Ex.normal,Z0,Z1::H)))))) (Tr.ok (Ex.exit 6,[(1,AV.ptr 0 0 0 0,none),(3,iI lc,none),(4,AV.slc 0 2 0 0 1 L (some L),none),(6,AV.int .i64 t,none),(7,AV.slc 0 3 0 0 1 L (some L),none),(8,AV.int .i64 a,none),(9,AV.int .i64 c,none),(38,AV.bool false,some 1)],Z1::H))) (bA [(0,dh dr lc zc lb zb),(0,an.row (rM g L)),(0,an.row (rM y L)),(0,an.row (rM x L))]))) [(1,AV.ptr 0 0 0 0,none),(3,iI lc,none),(4,AV.slc 0 2 0 0 1 L (some L),none),(6,AV.int .i64 t,none),(7,AV.slc 0 3 0 0 1 L (some L),none),(8,AV.int .i64 a,none),(9,AV.int .i64 (bh .i64 c (Int.ofNat 1)),none)]:=by kernel_rfl
theorem PU (n:Nat) (dr:Int) (lc L:Nat) (zc:Nat→Int) (lb:Nat) (zb:Nat→Int) (H:ab) (g:Nat→Int) (y x x':Nat→Int) (t a:Int):aH (bL n 64 66) (il aD n 0) (cr aL 6 (pj 2 lc L t a (Int.ofNat 0)) (dG dr lc zc lb zb [cK L g,cK L y,cK L x]::H) (.ok (.normal,hints (pj 2 lc L t a (Int.ofNat lc)++[(38,.bool false)]),(dG dr lc zc lb zb [cK L g,cK L y,cK L x']::H)))) aJ (part Tryd.f64 [1,1,1,1,0,1,0,0,1,0,0,1,0,1,0,0]) (hints (mn 2 lc L t a)) (dG dr lc zc lb zb [cK L g,cK L y,cK L x]::H) =
 (fun (Z0:bF)=>((fun (Z1:aF)=>Tr.ite (bD a (Int.ofNat lc)) (Tr.reqP (Z1=Z1∧Z0::H=Z0::H) (Tr.ok (Ex.normal,[(1,AV.ptr 0 0 0 0,none),(3,iI lc,none),(4,AV.slc 0 2 0 0 1 L (some L),none),(6,AV.int .i64 t,none),(7,AV.slc 0 3 0 0 1 L (some L),none),(8,AV.int .i64 (bh .i64 a (Int.ofNat 1)),none)],(bA [(0,dh dr lc zc lb zb),(0,an.row (rM g L)),(0,an.row (rM y L)),(0,an.row (rM x' L))])::H))) (Tr.ok (Ex.exit 4,[(1,AV.ptr 0 0 0 0,none),(3,iI lc,none),(4,AV.slc 0 2 0 0 1 L (some L),none),(6,AV.int .i64 t,none),(7,AV.slc 0 3 0 0 1 L (some L),none),(8,AV.int .i64 a,none),(33,AV.bool false,some 1)],Z0::H))) [(1,AV.ptr 0 0 0 0),(3,iI lc),(4,AV.slc 0 2 0 0 1 L (some L)),(6,AV.int .i64 t),(7,AV.slc 0 3 0 0 1 L (some L)),(8,AV.int .i64 a),(9,iI 0)])) (bA [(0,dh dr lc zc lb zb),(0,an.row (rM g L)),(0,an.row (rM y L)),(0,an.row (rM x L))]):=by kernel_rfl
theorem PX (n:Nat) (dr:Int) (lc:Nat) (zc:Nat→Int) (lb:Nat) (zb:Nat→Int) (H:ab) (g:Nat→Int) (y x':Nat→Int) (t:Int):aH (bL n 64 66) (il aD n 0) (cr aL 4 (mn 2 lc (b5 (Int.ofNat lc)) t (Int.ofNat 0)) (dG dr lc zc lb zb [cK (b5 (Int.ofNat lc)) g,cK (b5 (Int.ofNat lc)) y,cK (b5 (Int.ofNat lc)) (fun _=>Int.ofNat 0)]::H) (.ok (.normal,hints (mn 2 lc (b5 (Int.ofNat lc)) t (Int.ofNat lc)++[(33,.bool false)]),(dG dr lc zc lb zb [cK (b5 (Int.ofNat lc)) g,cK (b5 (Int.ofNat lc)) y,cK (b5 (Int.ofNat lc)) x']::H)))) aJ (part Tryd.f64 [1,1,1,1,0,1,0,0]) (hints (nC 2 lc (b5 (Int.ofNat lc)) 6 t)) (dG dr lc zc lb zb [cK (b5 (Int.ofNat lc)) g,cK (b5 (Int.ofNat lc)) y]::H) =
 (fun (Z0:aF)=>((fun (Z1:bF)=>Tr.ite (bD t (Int.ofNat lc)) (Tr.req (Dm (Int.ofNat lc) (Int.ofNat lc) 8) (Tr.reqP (Z0=Z0∧Z1::H=Z1::H) (Tr.ok (Ex.normal,[(1,AV.ptr 0 0 0 0,none),(3,iI lc,none),(4,AV.slc 0 3 0 0 1 (b5 (Int.ofNat lc)) (some (b5 (Int.ofNat lc))),none),(6,AV.int .i64 (bh .i64 t (Int.ofNat 1)),none)],(bA [(0,dh dr lc zc lb zb),(0,an.row (rM g (b5 (Int.ofNat lc)))),(0,an.row (rM y (b5 (Int.ofNat lc)))),(0,an.row (rM x' (b5 (Int.ofNat lc))))])::H)))) (Tr.ok (Ex.exit 2,[(1,AV.ptr 0 0 0 0,none),(3,iI lc,none),(4,AV.slc 0 2 0 0 1 (b5 (Int.ofNat lc)) (some (b5 (Int.ofNat lc))),none),(6,AV.int .i64 t,none),(26,AV.bool false,some 1)],(bA [(0,dh dr lc zc lb zb),(0,an.row (rM g (b5 (Int.ofNat lc)))),(0,an.row (rM y (b5 (Int.ofNat lc))))])::H))) (bA [(0,dh dr lc zc lb zb),(0,an.row (rM g (b5 (Int.ofNat lc)))),(0,an.row (rM y (b5 (Int.ofNat lc)))),(0,an.row (rM (fun x=>Int.ofNat 0) (b5 (Int.ofNat lc))))]))) [(1,AV.ptr 0 0 0 0),(3,iI lc),(4,AV.slc 0 2 0 0 1 (b5 (Int.ofNat lc)) (some (b5 (Int.ofNat lc)))),(6,AV.int .i64 t),(7,AV.slc 0 3 0 0 1 (b5 (Int.ofNat lc)) (some (b5 (Int.ofNat lc)))),(8,iI 0)]:=by kernel_rfl
end Go.Eng
end
section
namespace Go.Eng
open Go.Proofs Go.Eng.Gall
def pI (lb:Nat) (zb:Nat→Int) (a c:Int):Bool:=cC (iq zb a c) lb
theorem Vp:∀ b,(0,b) ∈ aE (aV Tryd.f79)→b=.loop (part Tryd.f79 [1,0,1,0,0]):=dz (by kernel_rfl)
theorem NZ:∀ b,(0,b) ∈ aE (aV Tryd.f64)→b=.loop (part Tryd.f64 [1,1,1,0,1,0,0]):=dz (by kernel_rfl)
theorem N0:∀ b,(2,b) ∈ aE (aV Tryd.f64)→b=.loop (part Tryd.f64 [1,1,1,1,0,1,0,0]):=dz (by kernel_rfl)
theorem N1:∀ b,(8,b) ∈ aE (aV Tryd.f64)→b=.loop (part Tryd.f64 [1,1,1,1,1,0,1,0,0]):=dz (by kernel_rfl)
theorem J7:∀ b,(4,b) ∈ aE (part Tryd.f64 [1,1,1,1,0,1,0,0])→b=.loop (part Tryd.f64 [1,1,1,1,0,1,0,0,1,0,0,1,0,1,0,0]):=dz (by kernel_rfl)
theorem J8:∀ b,(6,b) ∈ aE (part Tryd.f64 [1,1,1,1,0,1,0,0,1,0,0,1,0,1,0,0])→b=.loop (part Tryd.f64 [1,1,1,1,0,1,0,0,1,0,0,1,0,1,0,0,1,0,0,1,0,0]):=dz (by kernel_rfl)
theorem PV (n:Nat) (dr:Int) (lc L:Nat) (zc:Nat→Int) (lb:Nat) (zb:Nat→Int) (H:ab) (g y:Nat→Int) (j:Int):aH (bL n 64 66) (il aD n 0) aL aJ (part Tryd.f64 [1,1,1,1,1,0,1,0,0]) (hints (Bw lc L j)) (dG dr lc zc lb zb [cK L g,cK L y]::H) =
 (fun (Z0:bF)=>Tr.ite (bD j (Int.ofNat lc)) (Tr.req (cj j L) (Tr.req (cD 0 0) (Tr.req (bW (aq 0 j 1) L) (Tr.ite (cw (y (aq 0 j 1)) (Int.ofNat 1)) (Tr.ok (Ex.ret,[(2,AV.bool true,some 1)],Z0::H)) (Tr.ok (Ex.normal,[(3,iI lc,none),(4,AV.slc 0 2 0 0 1 L (some L),none),(10,AV.int .i64 (bh .i64 j (Int.ofNat 1)),none)],Z0::H)))))) (Tr.ok (Ex.exit 8,[(3,iI lc,none),(4,AV.slc 0 2 0 0 1 L (some L),none),(10,AV.int .i64 j,none),(58,AV.bool false,some 1)],Z0::H))) (bA [(0,dh dr lc zc lb zb),(0,an.row (rM g L)),(0,an.row (rM y L))]):=by kernel_rfl
theorem u64 (n:Nat) (dr:Int) (lc:Nat) (zc:Nat→Int) (lb:Nat) (zb:Nat→Int) (H:ab) (y0 g y:Nat→Int) (e:Bool):bj Tryd.prog (cd n) 100000 64 Tryd.f64 (KtG.kt 64) (il aD n 0) (cr (cr (cr aL 0 (nC 1 lc (b5 (Int.ofNat lc)) 5 (Int.ofNat 0)) (dG dr lc zc lb zb [cK (b5 (Int.ofNat lc)) (fun _=>Int.ofNat 0)]::H) (.ok (.normal,hints (nC 1 lc (b5 (Int.ofNat lc)) 5 (Int.ofNat lc)++[(18,.bool false)]),dG dr lc zc lb zb [cK (b5 (Int.ofNat lc)) y0]::H))) 2 (nC 1 lc (b5 (Int.ofNat lc)) 6 (Int.ofNat 0)) (dG dr lc zc lb zb [cK (b5 (Int.ofNat lc)) y0]::H) (.ok (.normal,hints (nC 2 lc (b5 (Int.ofNat lc)) 6 (Int.ofNat lc)++[(26,.bool false)]),dG dr lc zc lb zb [cK (b5 (Int.ofNat lc)) g,cK (b5 (Int.ofNat lc)) y]::H))) 8 (Bw lc (b5 (Int.ofNat lc)) (Int.ofNat 0)) (dG dr lc zc lb zb [cK (b5 (Int.ofNat lc)) g,cK (b5 (Int.ofNat lc)) y]::H) (.ite e (.ok (.ret,[(2,.bool true,none)],dG dr lc zc lb zb [cK (b5 (Int.ofNat lc)) g,cK (b5 (Int.ofNat lc)) y]::H)) (.ok (.normal,hints (Bw lc (b5 (Int.ofNat lc)) (Int.ofNat lc)++[(58,.bool false)]),dG dr lc zc lb zb [cK (b5 (Int.ofNat lc)) g,cK (b5 (Int.ofNat lc)) y]::H)))) aJ [(bn dr lc zc lb zb,none)] H =
 (fun (Z0:Nat×AV)=>((fun (Z1:bF)=>((fun (Z2:aF)=>((fun (Z3:bF)=>Tr.req (Dm (Int.ofNat lc) (Int.ofNat lc) 8) (Tr.reqP ([(1,AV.ptr 0 0 0 0),(3,iI lc),Z0,(5,iI 0)]=[(1,AV.ptr 0 0 0 0),(3,iI lc),Z0,(5,iI 0)]∧Z3::H=Z3::H) (Tr.reqP ([(1,AV.ptr 0 0 0 0),(3,iI lc),Z0,(6,iI 0)]=[(1,AV.ptr 0 0 0 0),(3,iI lc),Z0,(6,iI 0)]∧(bA [(0,dh dr lc zc lb zb),(0,an.row (rM y0 (b5 (Int.ofNat lc))))])::H=(bA [(0,dh dr lc zc lb zb),(0,an.row (rM y0 (b5 (Int.ofNat lc))))])::H) (Tr.reqP (Z2=Z2∧Z1::H=Z1::H) (Tr.ite e (Tr.ok ((AV.bool true,none),H)) (Tr.ok ((AV.bool false,some 1),H))))))) (bA [(0,dh dr lc zc lb zb),(0,an.row (rM (fun x=>Int.ofNat 0) (b5 (Int.ofNat lc))))]))) [(3,iI lc),(4,AV.slc 0 2 0 0 1 (b5 (Int.ofNat lc)) (some (b5 (Int.ofNat lc)))),(10,iI 0)])) (bA [(0,dh dr lc zc lb zb),(0,an.row (rM g (b5 (Int.ofNat lc)))),(0,an.row (rM y (b5 (Int.ofNat lc))))]))) (4,AV.slc 0 1 0 0 1 (b5 (Int.ofNat lc)) (some (b5 (Int.ofNat lc)))):=by kernel_rfl
section
variable (n:Nat) (dr:Int) (lc:Nat) (zc:Nat→Int) (lb:Nat) (zb:Nat→Int) (H:ab)
theorem U0 (a b:Int) (hm:lb≤1000):cd (n+1) (.fn 79) [bn dr lc zc lb zb,.int .i64 a,.int .i64 b] H=some (.bool (pI lb zb a b),H):=by
 have lp:=eA (n:=n) (f:=79) (nt:=24) (c:=part Tryd.f79 [1,0,1,0,0]) 0 (fun j=>Em a b (j:Int)) (fun _=>dq dr lc zc lb zb::H) lb (iq zb a b) (fun j=>([(6,.bool true)],dq dr lc zc lb zb::H)) (Em a b (Int.ofNat lb)++[(12,.bool false)],dq dr lc zc lb zb::H) (by omega) (fun j hj=>?_) ?_
 · refine br (n:=n) Tryd.func79 rfl rfl rfl (YC n dr lc zc lb zb H a b (cC (iq zb a b) lb)) (av n) (aP (ai _ _) Vp (fun x hx=>b7 hx lp)) (aj _ _) ?_;refine Tr.ak ⟨rfl,rfl⟩ (Tr.ae (fun hc=>Tr.ag ⟨?_,rfl⟩) (fun hc=>Tr.ag ⟨?_,rfl⟩))
   · unfold pI;rw[hc]
   · unfold pI;rw[hc]
 · have ej:bh .i64 (j:Int) (Int.ofNat 1)=((j+1:Nat):Int):=dJ (by omega);have ei:aq 0 (j:Int) 2=j*2:=by rw[bG];omega
   have hp:bO (cw (zb (j*2)) a) (cw (zb (j*2+1)) b)=iq zb a b j:=by
    rw[bT,aQ,aQ];unfold iq;rw[Bool.eq_iff_iff];simp;constructor<;>(rintro ⟨h1,h2⟩;exact ⟨h1.symm,h2.symm⟩)
   have T:=t79 n dr lc zc lb zb H a b (j:Int);rw[ei,aI,ej,hp] at T;refine ay T (av n) (ai _ _) (aj _ _) ?_;refine Tr.ae (fun h0=>?_) wJ;refine Tr.aa wG (Tr.aa wG (Tr.aa wG ?_));refine Tr.ae (fun q=>Tr.ag ?_) (fun q=>Tr.ag ?_)
   · rw[if_pos q];rfl
   · rw[if_neg (by rw[q];decide)];exact ⟨rfl,rfl⟩
 · obtain ⟨x,h1,rfl⟩:=ay (Q:=fun x=>x=(.exit 0,Em a b (Int.ofNat lb)++[(12,.bool false)],dq dr lc zc lb zb::H)) (t79 n dr lc zc lb zb H a b (Int.ofNat lb)) (av n) (ai _ _) (aj _ _) (by
    refine Tr.ae wJ (fun h0=>Tr.ag rfl))
   exact h1
theorem w7 {c:Nat} (hc:0<c) (hm:lb≤1000):(lX aD 79 (Qt (bn dr lc zc lb zb) (pI lb zb))).Ok (cd c):=by
 obtain ⟨m,rfl⟩:∃ m,c=m+1:=⟨c-1,by omega⟩
 refine jV (aW _) (fun args p v hg hp H=>?_);unfold Qt at hg;split at hg
 · simp only[nP] at hg;obtain ⟨rfl,rfl⟩:=hg;rw[hp];exact U0 m dr lc zc lb zb H _ _ hm
 · cases hg
def dy (p:Nat→Bool) (j:Nat):Int:=if p j=true then 1 else 0
def uH (lc lb:Nat) (zb:Nat→Int) (b:Nat→Nat) (t a j:Nat):Bool:=decide (j<lc) && cC (fun a'=>bQ lc b t a' && pI lb zb a' j) a
def uI (lc lb:Nat) (zb:Nat→Int) (b:Nat→Nat) (t a c j:Nat):Bool:=uH lc lb zb b t a j || (decide (j<c) && (bQ lc b t a && pI lb zb a j))
theorem Kx (b:Nat→Nat) (t:Nat):dy (uH lc lb zb b t 0)=fun _=>Int.ofNat 0:=by
 funext j;unfold dy uH;rw[if_neg]
 · rfl
 · intro h;rw[Bool.and_eq_true] at h;obtain ⟨i,hi,_⟩:=(cQ _ _).1 h.2;omega
theorem Ky (b:Nat→Nat) (t a:Nat):uI lc lb zb b t a 0=uH lc lb zb b t a:=by
 funext j;unfold uI;simp
theorem Dt (b:Nat→Nat) (t a:Nat):uI lc lb zb b t a lc=uH lc lb zb b t (a+1):=by
 funext j;unfold uI uH;have e:cC (fun a'=>bQ lc b t a' && pI lb zb a' j) (a+1)=(cC (fun a'=>bQ lc b t a' && pI lb zb a' j) a || (bQ lc b t a && pI lb zb a j)):=by
  rw[Bool.eq_iff_iff,Bool.or_eq_true,cQ,cQ];constructor
  · rintro ⟨i,h1,h2⟩;by_cases e:i=a
    · subst e;exact .inr h2
    · exact .inl ⟨i,by omega,h2⟩
  · rintro (⟨i,h1,h2⟩ | h)
    · exact ⟨i,by omega,h2⟩
    · exact ⟨a,by omega,h⟩
 rw[e];cases decide (j<lc)<;>simp
theorem GW {b:Nat→Nat} (hb:b=fun c=>cH zb c lb) (hp:fi lc lb zb) (t:Nat):uH lc lb zb b t lc=bQ lc b (t+1):=by
 funext j;rw[Bool.eq_iff_iff,gy];unfold uH pI;rw[Bool.and_eq_true,decide_eq_true_iff,cQ];subst hb;constructor
 · rintro ⟨h1,a,h2,h3⟩;rw[Bool.and_eq_true,cQ] at h3;obtain ⟨h3,i,hi,h4⟩:=h3;unfold iq at h4;rw[Bool.and_eq_true,decide_eq_true_iff,decide_eq_true_iff] at h4;exact ⟨h1,a,h3,(jz zb j a lb (fun i hi=>(hp i hi).1.1)).2 ⟨i,hi,h4.1.symm,h4.2.symm⟩⟩
 · rintro ⟨h1,a,h2,h3⟩;obtain ⟨i,hi,h4,h5⟩:=(jz zb j a lb (fun i hi=>(hp i hi).1.1)).1 h3;refine ⟨h1,a,nS h2,?_⟩;rw[Bool.and_eq_true,cQ];exact ⟨h2,i,hi,by unfold iq;rw[Bool.and_eq_true,decide_eq_true_iff,decide_eq_true_iff];exact ⟨h4.symm,h5.symm⟩⟩
theorem Du (b:Nat→Nat) (t a c:Nat) (h:(bQ lc b t a && pI lb zb a c)=true):dQ (dy (uI lc lb zb b t a c)) c (Int.ofNat 1)=dy (uI lc lb zb b t a (c+1)):=by
 rw[jR];funext j;unfold dy uI;by_cases e:j=c
 · subst e;rw[if_pos rfl,h,decide_eq_true (by omega)];rw[if_pos (by simp)];rfl
 · rw[if_neg e];by_cases h2:j<c
   · rw[decide_eq_true h2,decide_eq_true (by omega)]
   · rw[decide_eq_false h2,decide_eq_false (by omega)]
theorem r7 (b:Nat→Nat) (t a c:Nat) (h:(bQ lc b t a && pI lb zb a c)=false):uI lc lb zb b t a (c+1)=uI lc lb zb b t a c:=by
 funext j;unfold uI;by_cases e:j=c
 · subst e;rw[h];simp
 · by_cases h2:j<c
   · rw[decide_eq_true h2,decide_eq_true (by omega)]
   · rw[decide_eq_false h2,decide_eq_false (by omega)]
theorem BO (p:Nat→Bool) (j:Nat):cw (dy p j) (Int.ofNat 1)=p j:=by
 rw[aQ];unfold dy;cases p j<;>rfl
end
end Go.Eng
end
section
namespace Go.Eng
open Go.Proofs Go.Eng.Gall
noncomputable def LL (lc:Nat):Nat:=b5 (Int.ofNat lc)
theorem Cs (lc:Nat):LL lc=lc:=by unfold LL;rw[j6];rfl
theorem Nm (n:Nat) (dr:Int) (lc L:Nat) (zc:Nat→Int) (lb:Nat) (zb:Nat→Int) (H:ab) (y x:Nat→Int) (t a:Int):aH (bL n 64 66) (il aD n 0) (eF aL 6) aJ (part Tryd.f64 [1,1,1,1,0,1,0,0,1,0,0,1,0,1,0,0]) (hints (mn 1 lc L t a)) (dG dr lc zc lb zb [cK L y,cK L x]::H) =
 Tr.ite (bD a (Int.ofNat lc)) Tr.bad (Tr.ok (Ex.exit 4,[(1,AV.ptr 0 0 0 0,none),(3,iI lc,none),(4,AV.slc 0 1 0 0 1 L (some L),none),(6,AV.int .i64 t,none),(7,AV.slc 0 2 0 0 1 L (some L),none),(8,AV.int .i64 a,none),(33,AV.bool false,some 1)],(bA [(0,dh dr lc zc lb zb),(0,an.row (rM y L)),(0,an.row (rM x L))])::H)):=by kernel_rfl
theorem Nn (n:Nat) (dr:Int) (lc L:Nat) (zc:Nat→Int) (lb:Nat) (zb:Nat→Int) (H:ab) (g:Nat→Int) (y x:Nat→Int) (t a:Int):aH (bL n 64 66) (il aD n 0) (eF aL 6) aJ (part Tryd.f64 [1,1,1,1,0,1,0,0,1,0,0,1,0,1,0,0]) (hints (mn 2 lc L t a)) (dG dr lc zc lb zb [cK L g,cK L y,cK L x]::H) =
 Tr.ite (bD a (Int.ofNat lc)) Tr.bad (Tr.ok (Ex.exit 4,[(1,AV.ptr 0 0 0 0,none),(3,iI lc,none),(4,AV.slc 0 2 0 0 1 L (some L),none),(6,AV.int .i64 t,none),(7,AV.slc 0 3 0 0 1 L (some L),none),(8,AV.int .i64 a,none),(33,AV.bool false,some 1)],(bA [(0,dh dr lc zc lb zb),(0,an.row (rM g L)),(0,an.row (rM y L)),(0,an.row (rM x L))])::H)):=by kernel_rfl
theorem No (n:Nat) (dr:Int) (lc L:Nat) (zc:Nat→Int) (lb:Nat) (zb:Nat→Int) (H:ab) (g:Nat→Int) (y:Nat→Int) (t:Int):aH (bL n 64 66) (il aD n 0) (eF aL 4) aJ (part Tryd.f64 [1,1,1,1,0,1,0,0]) (hints (nC 2 lc L 6 t)) (dG dr lc zc lb zb [cK L g,cK L y]::H) =
 Tr.ite (bD t (Int.ofNat lc)) (Tr.req (Dm (Int.ofNat lc) (Int.ofNat lc) 8) Tr.bad) (Tr.ok (Ex.exit 2,[(1,AV.ptr 0 0 0 0,none),(3,iI lc,none),(4,AV.slc 0 2 0 0 1 L (some L),none),(6,AV.int .i64 t,none),(26,AV.bool false,some 1)],(bA [(0,dh dr lc zc lb zb),(0,an.row (rM g L)),(0,an.row (rM y L))])::H)):=by kernel_rfl
section
variable (n:Nat) (dr:Int) (lc:Nat) (zc:Nat→Int) (lb:Nat) (zb:Nat→Int) (b:Nat→Nat) (H:ab)
theorem XI (t a:Nat) (hl:lc≤10) (hb:lb≤1000) (ha:a<lc) (ti:Int):exec (bL (n+1) 64 66) (.block 6 (.loop (part Tryd.f64 [1,1,1,1,0,1,0,0,1,0,0,1,0,1,0,0,1,0,0,1,0,0]))) (pj 1 lc (LL lc) ti (a:Int) (Int.ofNat 0)) (dG dr lc zc lb zb [cK (LL lc) (dy (bQ lc b t)),cK (LL lc) (dy (uI lc lb zb b t a 0))]::H) =
 some (.normal,pj 1 lc (LL lc) ti (a:Int) (Int.ofNat lc)++[(38,.bool false)],dG dr lc zc lb zb [cK (LL lc) (dy (bQ lc b t)),cK (LL lc) (dy (uI lc lb zb b t a lc))]::H):=by
 have eL:=Cs lc
 refine iG (n:=n+1) (f:=64) (nt:=66) (c:=part Tryd.f64 [1,1,1,1,0,1,0,0,1,0,0,1,0,1,0,0,1,0,0,1,0,0]) 6 (fun c=>pj 1 lc (LL lc) ti (a:Int) (c:Int)) (fun c=>dG dr lc zc lb zb [cK (LL lc) (dy (bQ lc b t)),cK (LL lc) (dy (uI lc lb zb b t a c))]::H) lc (_,_) (by omega) (fun c hc=>?_) ?_
 · have ec:bh .i64 (c:Int) (Int.ofNat 1)=((c+1:Nat):Int):=dJ (by omega)
   have T:=KJ (n+1) dr lc (LL lc) zc lb zb H (dy (bQ lc b t)) (dy (uI lc lb zb b t a c)) (pI lb zb) ti (a:Int) (c:Int)
   rw[qt,qt,ec,BO] at T
   refine ay T (bo _ _ (w7 dr lc zc lb zb (by omega) hb)) (ai _ _) (aj _ _) ?_
   refine Tr.ae (fun h0=>?_) wJ
   refine Tr.aa (by rw[eL];simp (disch:=omega) only[nV,nW];omega) (Tr.aa wG (Tr.aa (by rw[eL];simp (disch:=omega) only[nV,nW];omega) (Tr.ae (fun q=>?_) (fun q=>?_))))
   · refine Tr.ak rfl (Tr.ae (fun r=>?_) (fun r=>?_))
     · refine Tr.aa (by rw[eL];simp (disch:=omega) only[nV,nW];omega) (Tr.aa wG (Tr.aa (by rw[eL];simp (disch:=omega) only[nV,nW];omega) (Tr.ag ⟨rfl,?_⟩)))
       rw[Du lc lb zb b t a c (by rw[q,r];rfl)];rfl
     · refine Tr.ag ⟨rfl,?_⟩
       rw[r7 lc lb zb b t a c (by rw[q,r];rfl)];rfl
   · refine Tr.ag ⟨rfl,?_⟩
     rw[r7 lc lb zb b t a c (by rw[q];rfl)];rfl
 · obtain ⟨x,h1,rfl⟩:=ay (Q:=fun x=>x=(.exit 6,pj 1 lc (LL lc) ti (a:Int) (Int.ofNat lc)++[(38,.bool false)],dG dr lc zc lb zb [cK (LL lc) (dy (bQ lc b t)),cK (LL lc) (dy (uI lc lb zb b t a lc))]::H)) (KJ (n+1) dr lc (LL lc) zc lb zb H (dy (bQ lc b t)) (dy (uI lc lb zb b t a lc)) (pI lb zb) ti (a:Int) (Int.ofNat lc)) (bo _ _ (w7 dr lc zc lb zb (by omega) hb)) (ai _ _) (aj _ _) (by
    refine Tr.ae wJ (fun h0=>Tr.ag rfl))
   exact h1
theorem XG (t:Nat) (hl:lc≤10) (hb:lb≤1000) (ti:Int):exec (bL (n+1) 64 66) (.block 4 (.loop (part Tryd.f64 [1,1,1,1,0,1,0,0,1,0,0,1,0,1,0,0]))) (mn 1 lc (LL lc) ti (Int.ofNat 0)) (dG dr lc zc lb zb [cK (LL lc) (dy (bQ lc b t)),cK (LL lc) (dy (uH lc lb zb b t 0))]::H) =
 some (.normal,mn 1 lc (LL lc) ti (Int.ofNat lc)++[(33,.bool false)],dG dr lc zc lb zb [cK (LL lc) (dy (bQ lc b t)),cK (LL lc) (dy (uH lc lb zb b t lc))]::H):=by
 refine iG (n:=n+1) (f:=64) (nt:=66) (c:=part Tryd.f64 [1,1,1,1,0,1,0,0,1,0,0,1,0,1,0,0]) 4 (fun a=>mn 1 lc (LL lc) ti (a:Int)) (fun a=>dG dr lc zc lb zb [cK (LL lc) (dy (bQ lc b t)),cK (LL lc) (dy (uH lc lb zb b t a))]::H) lc (_,_) (by omega) (fun a ha=>?_) ?_
 · have ec:bh .i64 (a:Int) (Int.ofNat 1)=((a+1:Nat):Int):=dJ (by omega)
   have hC:=XI n dr lc zc lb zb b H t a hl hb ha ti
   rw[Ky,Dt] at hC
   have T:=PT (n+1) dr lc (LL lc) zc lb zb H (dy (bQ lc b t)) (dy (uH lc lb zb b t a)) (dy (uH lc lb zb b t (a+1))) ti (a:Int)
   rw[ec] at T
   refine ay T (av _) (aP (ai _ _) J8 (fun x h=>by rw[← Tr.af h];simp only[eI.st,aT];exact hC)) (aj _ _) ?_
   refine Tr.ae (fun h0=>Tr.ak ⟨rfl,rfl⟩ (Tr.ag ⟨rfl,rfl⟩)) wJ
 · obtain ⟨x,h1,rfl⟩:=ay (Q:=fun x=>x=(.exit 4,mn 1 lc (LL lc) ti (Int.ofNat lc)++[(33,.bool false)],dG dr lc zc lb zb [cK (LL lc) (dy (bQ lc b t)),cK (LL lc) (dy (uH lc lb zb b t lc))]::H)) (Nm (n+1) dr lc (LL lc) zc lb zb H (dy (bQ lc b t)) (dy (uH lc lb zb b t lc)) ti (Int.ofNat lc)) (av _) (b8 (ai _ _) 6) (aj _ _) (by
    refine Tr.ae wJ (fun h0=>Tr.ag rfl))
   exact h1
theorem XJ (g:Nat→Int) (t a:Nat) (hl:lc≤10) (hb:lb≤1000) (ha:a<lc) (ti:Int):exec (bL (n+1) 64 66) (.block 6 (.loop (part Tryd.f64 [1,1,1,1,0,1,0,0,1,0,0,1,0,1,0,0,1,0,0,1,0,0]))) (pj 2 lc (LL lc) ti (a:Int) (Int.ofNat 0)) (dG dr lc zc lb zb [cK (LL lc) g,cK (LL lc) (dy (bQ lc b t)),cK (LL lc) (dy (uI lc lb zb b t a 0))]::H) =
 some (.normal,pj 2 lc (LL lc) ti (a:Int) (Int.ofNat lc)++[(38,.bool false)],dG dr lc zc lb zb [cK (LL lc) g,cK (LL lc) (dy (bQ lc b t)),cK (LL lc) (dy (uI lc lb zb b t a lc))]::H):=by
 have eL:=Cs lc
 refine iG (n:=n+1) (f:=64) (nt:=66) (c:=part Tryd.f64 [1,1,1,1,0,1,0,0,1,0,0,1,0,1,0,0,1,0,0,1,0,0]) 6 (fun c=>pj 2 lc (LL lc) ti (a:Int) (c:Int)) (fun c=>dG dr lc zc lb zb [cK (LL lc) g,cK (LL lc) (dy (bQ lc b t)),cK (LL lc) (dy (uI lc lb zb b t a c))]::H) lc (_,_) (by omega) (fun c hc=>?_) ?_
 · have ec:bh .i64 (c:Int) (Int.ofNat 1)=((c+1:Nat):Int):=dJ (by omega)
   have T:=KL (n+1) dr lc (LL lc) zc lb zb H g (dy (bQ lc b t)) (dy (uI lc lb zb b t a c)) (pI lb zb) ti (a:Int) (c:Int)
   rw[qt,qt,ec,BO] at T
   refine ay T (bo _ _ (w7 dr lc zc lb zb (by omega) hb)) (ai _ _) (aj _ _) ?_
   refine Tr.ae (fun h0=>?_) wJ
   refine Tr.aa (by rw[eL];simp (disch:=omega) only[nV,nW];omega) (Tr.aa wG (Tr.aa (by rw[eL];simp (disch:=omega) only[nV,nW];omega) (Tr.ae (fun q=>?_) (fun q=>?_))))
   · refine Tr.ak rfl (Tr.ae (fun r=>?_) (fun r=>?_))
     · refine Tr.aa (by rw[eL];simp (disch:=omega) only[nV,nW];omega) (Tr.aa wG (Tr.aa (by rw[eL];simp (disch:=omega) only[nV,nW];omega) (Tr.ag ⟨rfl,?_⟩)))
       rw[Du lc lb zb b t a c (by rw[q,r];rfl)];rfl
     · refine Tr.ag ⟨rfl,?_⟩
       rw[r7 lc lb zb b t a c (by rw[q,r];rfl)];rfl
   · refine Tr.ag ⟨rfl,?_⟩
     rw[r7 lc lb zb b t a c (by rw[q];rfl)];rfl
 · obtain ⟨x,h1,rfl⟩:=ay (Q:=fun x=>x=(.exit 6,pj 2 lc (LL lc) ti (a:Int) (Int.ofNat lc)++[(38,.bool false)],dG dr lc zc lb zb [cK (LL lc) g,cK (LL lc) (dy (bQ lc b t)),cK (LL lc) (dy (uI lc lb zb b t a lc))]::H)) (KL (n+1) dr lc (LL lc) zc lb zb H g (dy (bQ lc b t)) (dy (uI lc lb zb b t a lc)) (pI lb zb) ti (a:Int) (Int.ofNat lc)) (bo _ _ (w7 dr lc zc lb zb (by omega) hb)) (ai _ _) (aj _ _) (by
    refine Tr.ae wJ (fun h0=>Tr.ag rfl))
   exact h1
theorem XH (g:Nat→Int) (t:Nat) (hl:lc≤10) (hb:lb≤1000) (ti:Int):exec (bL (n+1) 64 66) (.block 4 (.loop (part Tryd.f64 [1,1,1,1,0,1,0,0,1,0,0,1,0,1,0,0]))) (mn 2 lc (LL lc) ti (Int.ofNat 0)) (dG dr lc zc lb zb [cK (LL lc) g,cK (LL lc) (dy (bQ lc b t)),cK (LL lc) (dy (uH lc lb zb b t 0))]::H) =
 some (.normal,mn 2 lc (LL lc) ti (Int.ofNat lc)++[(33,.bool false)],dG dr lc zc lb zb [cK (LL lc) g,cK (LL lc) (dy (bQ lc b t)),cK (LL lc) (dy (uH lc lb zb b t lc))]::H):=by
 refine iG (n:=n+1) (f:=64) (nt:=66) (c:=part Tryd.f64 [1,1,1,1,0,1,0,0,1,0,0,1,0,1,0,0]) 4 (fun a=>mn 2 lc (LL lc) ti (a:Int)) (fun a=>dG dr lc zc lb zb [cK (LL lc) g,cK (LL lc) (dy (bQ lc b t)),cK (LL lc) (dy (uH lc lb zb b t a))]::H) lc (_,_) (by omega) (fun a ha=>?_) ?_
 · have ec:bh .i64 (a:Int) (Int.ofNat 1)=((a+1:Nat):Int):=dJ (by omega)
   have hC:=XJ n dr lc zc lb zb b H g t a hl hb ha ti
   rw[Ky,Dt] at hC
   have T:=PU (n+1) dr lc (LL lc) zc lb zb H g (dy (bQ lc b t)) (dy (uH lc lb zb b t a)) (dy (uH lc lb zb b t (a+1))) ti (a:Int)
   rw[ec] at T
   refine ay T (av _) (aP (ai _ _) J8 (fun x h=>by rw[← Tr.af h];simp only[eI.st,aT];exact hC)) (aj _ _) ?_
   refine Tr.ae (fun h0=>Tr.ak ⟨rfl,rfl⟩ (Tr.ag ⟨rfl,rfl⟩)) wJ
 · obtain ⟨x,h1,rfl⟩:=ay (Q:=fun x=>x=(.exit 4,mn 2 lc (LL lc) ti (Int.ofNat lc)++[(33,.bool false)],dG dr lc zc lb zb [cK (LL lc) g,cK (LL lc) (dy (bQ lc b t)),cK (LL lc) (dy (uH lc lb zb b t lc))]::H)) (Nn (n+1) dr lc (LL lc) zc lb zb H g (dy (bQ lc b t)) (dy (uH lc lb zb b t lc)) ti (Int.ofNat lc)) (av _) (b8 (ai _ _) 6) (aj _ _) (by
    refine Tr.ae wJ (fun h0=>Tr.ag rfl))
   exact h1
end
end Go.Eng
end
