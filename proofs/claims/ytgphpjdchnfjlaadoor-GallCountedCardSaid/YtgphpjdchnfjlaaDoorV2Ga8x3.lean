/- Gall: CheckList: what it answers. -/
import Derived.Test.YtgphpjdchnfjlaaDoorV2Ga3x5
set_option linter.unusedVariables false
set_option linter.unusedSimpArgs false
set_option maxRecDepth 100000
section
namespace Go.Eng
open Go.Proofs Go.Eng.Gall
theorem xA {c f:Nat} {t:mZ} {e:Bool} {C:List AV→Prop} (ht:t.Ok (cd c)) (h:∀ A H,C A→cd c (.fn f) A H=some (.bool e,H)):(oa t f (gB e C)).Ok (cd c):=by
 refine lH ht (fun args p v hg hp H=>?_)
 unfold gB at hg
 simp only[nP] at hg
 obtain ⟨rfl,rfl⟩:=hg
 exact h _ H hp
theorem qj {c f:Nat} {t:mZ} {S:AV} {C:List AV→Prop} (ht:t.Ok (cd c)) (h:∀ A H,C A→cd c (.fn f) A H=some (S,H)):(oa t f (fun x=>some (C x,S))).Ok (cd c):=by
 refine lH ht (fun args p v hg hp H=>?_)
 simp only[nP] at hg
 obtain ⟨rfl,rfl⟩:=hg
 exact h _ H hp
def eB (z:Nat→Int) (a b:Int) (i:Nat):Bool:=decide (a=z (i*2)) && decide (b=z (i*2+1))
def fZ (lc:Nat) (z:Nat→Int) (j:Nat):Bool:=decide (z (j*2)=z (j*2+1)) || (!(decide (0≤z (j*2)∧z (j*2)<lc) && decide (0≤z (j*2+1)∧z (j*2+1)<lc)) || eK (eB z (z (j*2)) (z (j*2+1))) j)
def dX (dr:Int) (lc:Nat) (zc:Nat→Int) (lb:Nat) (zb:Nat→Int):Int:=if lc=0∨10<lc∨40<lb then 6 else if dr<1∨100<dr∨eK (jo zc) lc=true then 3 else if eK (fZ lc zb) lb=true then 2 else if fB lc (fun c=>cI zb c lb)=true then 16 else 0
theorem Qw (n:Nat) (dr:Int) (lc:Nat) (zc:Nat→Int) (lb:Nat) (zb:Nat→Int) (H:aa):bE Tryd.prog (cd (n+10)) 100000 22 Tryd.f22 (KtG.kt 22) (il (m4 a6 59 gW) (n+10) 0) (jB bp 1) br [(di dr lc zc lb zb,none)] H =
 Tr.ite (bL (b7 (b7 (dN (Int.ofNat 0) (bX .i64 (Int.ofNat lc) (Int.ofNat 1))) (dN (bX .i64 (Int.ofNat lc) (Int.ofNat 1)) (Int.ofNat 9))) true)) (Tr.ok ((AV.int .i64 (Int.ofNat 6),some 1),H)) (Tr.ite (bO (Int.ofNat 40) (Int.ofNat lb)) (Tr.ok ((AV.int .i64 (Int.ofNat 6),some 1),H)) (Tr.ite (bL (b7 (b7 (dN (Int.ofNat 1) dr) (dN dr (Int.ofNat 100))) true)) (Tr.ok ((AV.int .i64 (Int.ofNat 3),some 1),H)) Tr.bad)):=by kernel_rfl
theorem RY:∀ b,(0,b) ∈ aO (bz Tryd.f86)→b=.loop (part Tryd.f86 [1,0,1,0,0]):=gk (by kernel_rfl)
theorem RS:∀ b,(1,b) ∈ aO (bz Tryd.f22)→b=.loop (part Tryd.f22 [1,1,1,1,0,1,0,0]):=gk (by kernel_rfl)
section
variable (n:Nat) (m:Nat) (z:Nat→Int) (full:Bool) (a b:Int) (H:aa)
theorem Sg (hm:m≤1000):cd (n+1) (.fn 86) [Li m z full,LD a b] H=some (.int .i64 (BP (eB z a b) m),H):=by
 have lp:=lK (n:=n) (f:=86) (nt:=19) (c:=part Tryd.f86 [1,0,1,0,0]) 0 (fun j=>C6 m z full (j:Int)) (fun _=>IP a b::H) m (eB z a b) (fun j=>([(4,.int .i64 (j:Int))],IP a b::H)) (C6 m z full (Int.ofNat m)++[(9,.bool false)],IP a b::H) (by omega) (fun j hj=>?_) ?_
 · refine bV (n:=n) Tryd.func86 rfl rfl rfl (UB n m z full a b H ((fN (eB z a b) m 0:Nat):Int) (eK (eB z a b) m)) (aJ n) (a8 (ak _ _) RY (fun x hx=>eX hx lp)) (al _ _) ?_
   refine Tr.aj ⟨rfl,rfl⟩ (Tr.af (fun hc=>Tr.ah ⟨?_,rfl⟩) (fun hc=>Tr.ah ⟨?_,rfl⟩))
   · unfold BP;rw[if_pos hc]
   · unfold BP;rw[if_neg (by rw[hc];decide)];rfl
 · have ej:bg .i64 (j:Int) (Int.ofNat 1)=((j+1:Nat):Int):=gr (by omega)
   have ei:aC 0 (j:Int) 2=j*2:=by rw[bY];omega
   have hp:b7 (cJ a (z (j*2))) (cJ b (z (j*2+1)))=eB z a b j:=by
    rw[bS,aT,aT];unfold eB
    rw[Bool.eq_iff_iff];simp
   have T:=t86 n m z full a b H (j:Int)
   rw[ei,aH,ej,hp] at T
   refine aK T (aJ n) (ak _ _) (al _ _) ?_
   refine Tr.af (fun h0=>?_) (fun h0=>by simp (disch:=omega) only[nV,nW] at h0;omega)
   refine Tr.ab (by simp (disch:=omega) only[nV,nW];omega) (Tr.ab (by simp (disch:=omega) only[nV,nW];omega) (Tr.ab (by simp (disch:=omega) only[nV,nW];omega) ?_))
   refine Tr.af (fun q=>Tr.ah ?_) (fun q=>Tr.ah ?_)
   · rw[if_pos q];rfl
   · rw[if_neg (by rw[q];decide)];exact ⟨rfl,rfl⟩
 · obtain ⟨x,h1,rfl⟩:=aK (Q:=fun x=>x=(.exit 0,C6 m z full (Int.ofNat m)++[(9,.bool false)],IP a b::H)) (t86 n m z full a b H (Int.ofNat m)) (aJ n) (ak _ _) (al _ _) (by
    refine Tr.af (fun h0=>by simp (disch:=omega) only[nV,nW] at h0;omega) (fun h0=>Tr.ah rfl))
   exact h1
theorem Sa (hm:m≤1000):cd (n+2) (.fn 61) [Li m z full,LD a b] H=some (.bool (eK (eB z a b) m),H):=by
 have h:=fun H=>Sg n m z full a b H hm
 refine bV (n:=n+1) Tryd.func61 rfl rfl rfl (Ut (n+1) m z full a b H (BP (eB z a b) m)) (bZ _ (n+1) (iz (bx _) h)) (ak _ _) (al _ _) ?_
 refine Tr.aj rfl (Tr.ah ⟨?_,rfl⟩)
 rw[Ap]
end
section
variable (n:Nat) (dr:Int) (lc:Nat) (zc:Nat→Int) (lb:Nat) (zb:Nat→Int) (H:aa)
noncomputable def Pt (a b:Int):bA:={ E0 dr lc zc lb zb with bs:=(E0 dr lc zc lb zb).bs++[(0,.row (.I .i64 [a,b])),(0,.dead)] }
noncomputable def MR (a b:Int):bA:={ E0 dr lc zc lb zb with bs:=(E0 dr lc zc lb zb).bs++[(0,.row (.I .i64 [a,b])),(0,.row (.I .i64 [a,b]))] }
noncomputable def LC (j:Nat):bA:=if zb (j*2)=zb (j*2+1) then Pt dr lc zc lb zb (zb (j*2)) (zb (j*2+1)) else MR dr lc zc lb zb (zb (j*2)) (zb (j*2+1))
theorem TQ (h1:1≤lc) (hl:lc≤10) (hb:lb≤40):exec (cj (n+10) 22 69) (.block 1 (.loop (part Tryd.f22 [1,1,1,1,0,1,0,0]))) (Ag lc lb zb (Int.ofNat 0)) (E0 dr lc zc lb zb::H) =
 some (cond (eK (fZ lc zb) lb) (.ret,[(2,.int .i64 2)],LC dr lc zc lb zb (fN (fZ lc zb) lb 0)::H) (.normal,Ag lc lb zb (Int.ofNat lb)++[(38,.bool false)],E0 dr lc zc lb zb::H)):=by
 have s3:bX .i64 (Int.ofNat lc) (Int.ofNat 1)=(lc:Int)-1:=by rw[dT];exact jG (by show -9223372036854775808≤(lc:Int)-1;omega) (by show (lc:Int)-1≤_;omega)
 refine lK (n:=n+10) (f:=22) (nt:=69) (c:=part Tryd.f22 [1,1,1,1,0,1,0,0]) 1 (fun j=>Ag lc lb zb (j:Int)) (fun _=>E0 dr lc zc lb zb::H) lb (fZ lc zb) (fun j=>([(2,.int .i64 2)],LC dr lc zc lb zb j::H)) (_,_) (by omega) (fun j hj=>?_) ?_
 · have ej:bg .i64 (j:Int) (Int.ofNat 1)=((j+1:Nat):Int):=gr (by omega)
   have ei:aC 0 (j:Int) 2=j*2:=by rw[bY];omega
   have et:bR (j:Int)=j:=by rw[lf];omega
   have hin:bL (b7 (b7 (dN (Int.ofNat 0) (zb (j*2))) (dN (zb (j*2)) (bX .i64 (Int.ofNat lc) (Int.ofNat 1)))) (b7 (b7 (dN (Int.ofNat 0) (zb (j*2+1))) (dN (zb (j*2+1)) (bX .i64 (Int.ofNat lc) (Int.ofNat 1)))) true))=!(decide (0≤zb (j*2)∧zb (j*2)<lc) && decide (0≤zb (j*2+1)∧zb (j*2+1)<lc)):=by
    rw[s3,aY,bS,bS,bS,bS,bt,bt,bt,bt]
    rw[Bool.eq_iff_iff]
    simp
    omega
   have T:=t22 n dr lc zc lb zb H (j:Int) (eK (eB zb (zb (j*2)) (zb (j*2+1))) j) (fun A=>A=[Li j zb (b7 false (cG j lb)),LD (zb (j*2)) (zb (j*2+1))])
   rw[ei,aH,ej,et] at T
   rw[hin] at T
   refine aK T (bZ _ _ (by
    rw[show n+10=n+4+6 by omega]
    refine xB (n:=n+4) (xA (bx _) (fun A H hA=>?_))
    subst hA
    rw[show n+4+6=n+8+2 by omega]
    exact Sa (n+8) j zb _ _ _ H (by omega))) (ak _ _) (al _ _) ?_
   refine Tr.af (fun h0=>?_) (fun h0=>by simp (disch:=omega) only[nV,nW] at h0;omega)
   refine Tr.ab (by simp (disch:=omega) only[nV,nW];omega) (Tr.ab (by simp (disch:=omega) only[nV,nW];omega) (Tr.ab (by simp (disch:=omega) only[nV,nW];omega) (Tr.ab (by simp (disch:=omega) only[nV,nW];omega) (Tr.ab (by simp (disch:=omega) only[nV,nW];omega) ?_))))
   refine Tr.af (fun q=>?_) (fun q=>?_)
   · have q:zb (j*2)=zb (j*2+1):=by rw[aT,beq_iff_eq] at q;exact q
     refine Tr.ah ?_
     rw[if_pos (by unfold fZ;rw[decide_eq_true q];rfl)]
     unfold LC;rw[if_pos q];rfl
   · have q:¬ zb (j*2)=zb (j*2+1):=by rw[aT,beq_eq_false_iff_ne] at q;exact q
     have hX:LC dr lc zc lb zb j=MR dr lc zc lb zb (zb (j*2)) (zb (j*2+1)):=by unfold LC;rw[if_neg q]
     refine Tr.ab (by simp (disch:=omega) only[nV,nW];omega) (Tr.ab (by simp (disch:=omega) only[nV,nW];omega) (Tr.af (fun r=>?_) (fun r=>?_)))
     · refine Tr.ah ?_
       rw[if_pos (by unfold fZ;rw[r];simp),hX];rfl
     · refine Tr.ab (by simp (disch:=omega) only[nV,nW];omega) (Tr.ab (by simp (disch:=omega) only[nV,nW];omega) (Tr.aj rfl (Tr.af (fun u=>?_) (fun u=>?_))))
       · refine Tr.ah ?_
         rw[if_pos (by unfold fZ;rw[u];simp),hX];rfl
       · refine Tr.ah ?_
         rw[if_neg (by unfold fZ;rw[u,r,decide_eq_false q];simp)]
         exact ⟨rfl,rfl⟩
 · obtain ⟨x,h1,rfl⟩:=aK (Q:=fun x=>x=(.exit 1,Ag lc lb zb (Int.ofNat lb)++[(38,.bool false)],E0 dr lc zc lb zb::H)) (t22 n dr lc zc lb zb H (Int.ofNat lb) true (fun A=>False)) (bZ _ _ (by
    rw[show n+10=n+4+6 by omega]
    exact xB (n:=n+4) (xA (bx _) (fun A H hA=>hA.elim)))) (ak _ _) (al _ _) (by
    refine Tr.af (fun h0=>by simp (disch:=omega) only[nV,nW] at h0;omega) (fun h0=>Tr.ah rfl))
   exact h1
theorem pc {lc lb:Nat} {zb:Nat→Int} (h:eK (fZ lc zb) lb=false):fH lc lb zb:=fun j hj=>by
 have:=q8 h j hj
 unfold fZ at this
 simp only[Bool.or_eq_false_iff,Bool.not_eq_false',Bool.and_eq_true,decide_eq_true_eq] at this
 exact ⟨this.2.1.1,this.2.1.2⟩
theorem Ob (hl:lc≤1000) (hb:lb≤1000):cd (n+11) (.fn 22) [di dr lc zc lb zb] H=some (.int .i64 (dX dr lc zc lb zb),H):=by
 have s3:bX .i64 (Int.ofNat lc) (Int.ofNat 1)=(lc:Int)-1:=by rw[dT];exact jG (by show -9223372036854775808≤(lc:Int)-1;omega) (by show (lc:Int)-1≤_;omega)
 have hv:=fun h:eK (jo zc) lc=false=>(q8 h:wZ lc zc)
 have ht:(oa (oa (m4 (oa a6 60 (gB (eK (jo zc) lc) (fun A=>A=[slA 4 lc zc,.fn (.func 58) [] []]))) 59 gW) 62 (fun x=>some (x=[di dr lc zc lb zb]∧(lc≤10∧(1≤dr∧dr≤100)∧wZ lc zc∧fH lc lb zb),H4 dr lc zc lb zb))) 63 (gB (fB lc (fun c=>cI zb c lb)) (fun A=>A=[H4 dr lc zc lb zb]∧(lc≤10∧fH lc lb zb)))).Ok (cd (n+10)):=by
  refine xA (qj ?_ (fun A H hA=>?_)) (fun A H hA=>?_)
  · rw[show n+10=n+4+6 by omega]
    refine xB (n:=n+4) (xA (bx _) (fun A H hA=>?_))
    subst hA
    rw[show n+4+6=n+10 by omega]
    exact R9 n lc zc H hl
  · obtain ⟨rfl,a1,a2,a3,a4⟩:=hA
    rw[show n+10=n+3+7 by omega]
    exact Oh (n+3) dr lc zc lb zb H a1 hb a2 a3 a4
  · obtain ⟨rfl,a1,a4⟩:=hA
    rw[show n+10=n+8+2 by omega]
    exact RC (n+8) dr lc zc lb zb (fc dr lc zc) (fun c=>cI zb c lb) H a1 (fun c _=>Nat.lt_of_lt_of_le (pq zb c lc lb (fun i hi=>(a4 i hi).1)) (Nat.pow_le_pow_right (by decide) (by omega)))
 by_cases k0:1≤lc∧lc≤10∧lb≤40
 · obtain ⟨k1,k2,k3⟩:=k0
   refine bV (n:=n+10) Tryd.func22 rfl rfl rfl (Uo n dr lc zc lb zb H (LC dr lc zc lb zb (fN (fZ lc zb) lb 0)) (eK (jo zc) lc) (fB lc (fun c=>cI zb c lb)) (eK (fZ lc zb) lb) (fun A=>A=[slA 4 lc zc,.fn (.func 58) [] []]) (fun A=>A=[di dr lc zc lb zb]∧(lc≤10∧(1≤dr∧dr≤100)∧wZ lc zc∧fH lc lb zb)) (fun A=>A=[H4 dr lc zc lb zb]∧(lc≤10∧fH lc lb zb)) (H4 dr lc zc lb zb)) (bZ _ _ ht) (a8 (ak _ _) RS (fun y h=>eX h (TQ n dr lc zc lb zb H k1 k2 k3))) (al _ _) ?_
   have hG:dX dr lc zc lb zb=if dr<1∨100<dr∨eK (jo zc) lc=true then 3 else if eK (fZ lc zb) lb=true then 2 else if fB lc (fun c=>cI zb c lb)=true then 16 else 0:=by unfold dX;rw[if_neg (by omega)]
   rw[hG,s3]
   refine Tr.af (fun q=>?_) (fun q=>?_)
   · exfalso
     rw[aY,bS,bS,bt,bt] at q
     simp at q
     omega
   refine Tr.af (fun q=>by exfalso;simp (disch:=omega) only[nV,nW] at q;omega) (fun q=>?_)
   refine Tr.af (fun q=>?_) (fun q=>?_)
   · rw[aY,bS,bS,bt,bt] at q
     simp at q
     rw[if_pos (by omega)]
     exact Tr.ah ⟨rfl,rfl⟩
   · rw[aY,bS,bS,bt,bt] at q
     simp at q
     refine Tr.aj rfl (Tr.af (fun r=>?_) (fun r=>?_))
     · rw[if_pos (.inr (.inr r))]
       exact Tr.ah ⟨rfl,rfl⟩
     · rw[if_neg (by rintro (h | h | h);omega;omega;rw[r] at h;cases h)]
       refine Tr.aj ⟨by rw[← s3],by rw[← s3]⟩ (Tr.af (fun u=>?_) (fun u=>?_))
       · rw[if_pos u]
         exact Tr.ah ⟨rfl,rfl⟩
       · rw[if_neg (by rw[u];decide)]
         refine Tr.aj ⟨rfl,k2,by omega,hv r,pc u⟩ (Tr.aj ⟨rfl,k2,pc u⟩ (Tr.af (fun w=>?_) (fun w=>?_)))
         · rw[if_pos w];exact Tr.ah ⟨rfl,rfl⟩
         · rw[if_neg (by rw[w];decide)];exact Tr.ah ⟨rfl,rfl⟩
 · refine bV (n:=n+10) Tryd.func22 rfl rfl rfl (Qw n dr lc zc lb zb H) (bZ _ _ (by
    rw[show n+10=n+4+6 by omega]
    exact xB (n:=n+4) (bx _))) (dJ (ak _ _) 1) (al _ _) ?_
   have hG:dX dr lc zc lb zb=6:=by unfold dX;rw[if_pos (by omega)]
   rw[hG,s3]
   refine Tr.af (fun q=>Tr.ah ⟨rfl,rfl⟩) (fun q=>?_)
   refine Tr.af (fun q=>Tr.ah ⟨rfl,rfl⟩) (fun q2=>?_)
   exfalso
   rw[aY,bS,bS,bt,bt] at q
   simp at q
   simp (disch:=omega) only[nV,nW] at q2
   omega
end
end Go.Eng
end
section
namespace Go.Eng
open Go.Proofs
noncomputable def ik (dr:Int) (lc:Nat) (zc:Nat→Int) (lb:Nat) (zb:Nat→Int):bA:=⟨false,[(0,.row (.G [.int .i64 dr,slA 4 lc zc,slA 2 lb zb]))]⟩
noncomputable def C4 (a b j:Int):az:=[(1,.int .i64 a),(2,.int .i64 b),(3,.ptr 0 0 0 0),(7,.int .i64 j)]
noncomputable def eF (dr:Int) (lc:Nat) (zc:Nat→Int) (lb:Nat) (zb:Nat→Int) (bs:List (Nat×aq)):bA:=⟨false,(0,.row (.G [.int .i64 dr,slA 4 lc zc,slA 2 lb zb]))::bs⟩
noncomputable def cr (L:Nat) (y:Nat→Int):Nat×aq:=(0,.row (.M [.arr .i64 y L]))
noncomputable def mV (i lc L:Nat) (s:Nat) (j:Int):az:=[(1,.ptr 0 0 0 0),(3,.int .i64 (Int.ofNat lc)),(4,.slc 0 i 0 0 1 L (some L)),(s,.int .i64 j)]
noncomputable def Ah (lc L:Nat) (j:Int):az:=[(3,.int .i64 (Int.ofNat lc)),(4,.slc 0 2 0 0 1 L (some L)),(10,.int .i64 j)]
noncomputable def lM (i lc L:Nat) (t a:Int):az:=[(1,.ptr 0 0 0 0),(3,.int .i64 (Int.ofNat lc)),(4,.slc 0 i 0 0 1 L (some L)),(6,.int .i64 t),(7,.slc 0 (Nat.succ i) 0 0 1 L (some L)),(8,.int .i64 a)]
noncomputable def oE (i lc L:Nat) (t a c:Int):az:=lM i lc L t a++[(9,.int .i64 c)]
noncomputable def NY (A:AV) (P:Int→Int→Bool):List AV→Option (Prop×AV)
 | [B,.int .i64 a,.int .i64 c]=>some (B=A,.bool (P a c))
 | _=>none
theorem t79 (n:Nat) (dr:Int) (lc:Nat) (zc:Nat→Int) (lb:Nat) (zb:Nat→Int) (H:aa) (a b j:Int):aW (cj n 79 24) (il a6 n 0) bp br (part Tryd.f79 [1,0,1,0,0]) (hints (C4 a b j)) (ik dr lc zc lb zb::H) =
 (fun (Z0:bA)=>Tr.ite (bO j (Int.ofNat lb)) (Tr.req (dj j lb) (Tr.req (cZ (aC 0 j 2) (ar lb 2)) (Tr.req (cZ (av (aC 0 j 2) 1) (ar lb 2)) (Tr.ite (b7 (cJ (zb (aC 0 j 2)) a) (cJ (zb (av (aC 0 j 2) 1)) b)) (Tr.ok (Ex.ret,[(6,AV.bool true,some 1)],Z0::H)) (Tr.ok (Ex.normal,[(1,AV.int .i64 a,none),(2,AV.int .i64 b,none),(3,AV.ptr 0 0 0 0,none),(7,AV.int .i64 (bg .i64 j (Int.ofNat 1)),none)],Z0::H)))))) (Tr.ok (Ex.exit 0,[(1,AV.int .i64 a,none),(2,AV.int .i64 b,none),(3,AV.ptr 0 0 0 0,none),(7,AV.int .i64 j,none),(12,AV.bool false,some 1)],Z0::H))) { lock:=false,bs:=[(0,aq.row (Row.G [AV.int .i64 dr,AV.slcT none (Row.M [an.arr .i64 zc (ar lc 4)]) 4 lc false,AV.slcT none (Row.M [an.arr .i64 zb (ar lb 2)]) 2 lb false]))] }:=by kernel_rfl
theorem Ux (n:Nat) (dr:Int) (lc:Nat) (zc:Nat→Int) (lb:Nat) (zb:Nat→Int) (H:aa) (a b:Int) (e:Bool):bE Tryd.prog (cd n) 100000 79 Tryd.f79 (KtG.kt 79) (il a6 n 0) (dc bp 0 (C4 a b (Int.ofNat 0)) (ik dr lc zc lb zb::H) (.ite e (.ok (.ret,[(6,.bool true,none)],ik dr lc zc lb zb::H)) (.ok (.normal,hints (C4 a b (Int.ofNat lb)++[(12,.bool false)]),ik dr lc zc lb zb::H)))) br [(di dr lc zc lb zb,none),(.int .i64 a,none),(.int .i64 b,none)] H =
 (fun (Z0:bA)=>((fun (Z1:az)=>Tr.reqP (Z1=Z1∧Z0::H=Z0::H) (Tr.ite e (Tr.ok ((AV.bool true,none),H)) (Tr.ok ((AV.bool false,some 1),H)))) [(1,AV.int .i64 a),(2,AV.int .i64 b),(3,AV.ptr 0 0 0 0),(7,AV.int .i64 (Int.ofNat 0))])) { lock:=false,bs:=[(0,aq.row (Row.G [AV.int .i64 dr,AV.slcT none (Row.M [an.arr .i64 zc (ar lc 4)]) 4 lc false,AV.slcT none (Row.M [an.arr .i64 zb (ar lb 2)]) 2 lb false]))] }:=by kernel_rfl
theorem Ns (n:Nat) (dr:Int) (lc L:Nat) (zc:Nat→Int) (lb:Nat) (zb:Nat→Int) (H:aa) (y:Nat→Int) (j:Int):aW (cj n 64 66) (il a6 n 0) bp br (part Tryd.f64 [1,1,1,0,1,0,0]) (hints (mV 1 lc L 5 j)) (eF dr lc zc lb zb [cr L y]::H) =
 (fun (Z0:Nat×aq)=>Tr.ite (bO j (Int.ofNat lc)) (Tr.req (dj j L) (Tr.req (cG 0 0) (Tr.req (cZ (aC 0 j 1) L) (Tr.ok (Ex.normal,[(1,AV.ptr 0 0 0 0,none),(3,AV.int .i64 (Int.ofNat lc),none),(4,AV.slc 0 1 0 0 1 L (some L),none),(5,AV.int .i64 (bg .i64 j (Int.ofNat 1)),none)],{ lock:=false,bs:=[Z0,(0,aq.row (Row.M [an.arr .i64 (eW y (aC 0 j 1) (Int.ofNat 1)) L]))] } :: H))))) (Tr.ok (Ex.exit 0,[(1,AV.ptr 0 0 0 0,none),(3,AV.int .i64 (Int.ofNat lc),none),(4,AV.slc 0 1 0 0 1 L (some L),none),(5,AV.int .i64 j,none),(18,AV.bool false,some 1)],{ lock:=false,bs:=[Z0,(0,aq.row (Row.M [an.arr .i64 y L]))] } :: H))) (0,aq.row (Row.G [AV.int .i64 dr,AV.slcT none (Row.M [an.arr .i64 zc (ar lc 4)]) 4 lc false,AV.slcT none (Row.M [an.arr .i64 zb (ar lb 2)]) 2 lb false])):=by kernel_rfl
theorem I1 (n:Nat) (dr:Int) (lc L:Nat) (zc:Nat→Int) (lb:Nat) (zb:Nat→Int) (H:aa) (y x:Nat→Int) (P:Int→Int→Bool) (t a c:Int):aW (cj n 64 66) (il (oa a6 79 (NY (di dr lc zc lb zb) P)) n 0) bp br (part Tryd.f64 [1,1,1,1,0,1,0,0,1,0,0,1,0,1,0,0,1,0,0,1,0,0]) (hints (oE 1 lc L t a c)) (eF dr lc zc lb zb [cr L y,cr L x]::H) =
 (fun (Z0:Row)=>((fun (Z1:aI)=>((fun (Z2:bA)=>Tr.ite (bO c (Int.ofNat lc)) (Tr.req (dj a L) (Tr.req (cG 0 0) (Tr.req (cZ (aC 0 a 1) L) (Tr.ite (cJ (y (aC 0 a 1)) (Int.ofNat 1)) (Tr.reqP (AV.agg Z0=AV.agg Z0) (Tr.ite (P a c) (Tr.req (dj c L) (Tr.req (cG 0 0) (Tr.req (cZ (aC 0 c 1) L) (Tr.ok (Ex.normal,Z1,{ lock:=false,bs:=[(0,aq.row Z0),(0,aq.row (Row.M [an.arr .i64 y L])),(0,aq.row (Row.M [an.arr .i64 (eW x (aC 0 c 1) (Int.ofNat 1)) L]))] } :: H))))) (Tr.ok (Ex.normal,Z1,Z2::H)))) (Tr.ok (Ex.normal,Z1,Z2::H)))))) (Tr.ok (Ex.exit 6,[(1,AV.ptr 0 0 0 0,none),(3,AV.int .i64 (Int.ofNat lc),none),(4,AV.slc 0 1 0 0 1 L (some L),none),(6,AV.int .i64 t,none),(7,AV.slc 0 2 0 0 1 L (some L),none),(8,AV.int .i64 a,none),(9,AV.int .i64 c,none),(38,AV.bool false,some 1)],Z2::H))) { lock:=false,bs:=[(0,aq.row Z0),(0,aq.row (Row.M [an.arr .i64 y L])),(0,aq.row (Row.M [an.arr .i64 x L]))] })) [(1,AV.ptr 0 0 0 0,none),(3,AV.int .i64 (Int.ofNat lc),none),(4,AV.slc 0 1 0 0 1 L (some L),none),(6,AV.int .i64 t,none),(7,AV.slc 0 2 0 0 1 L (some L),none),(8,AV.int .i64 a,none),(9,AV.int .i64 (bg .i64 c (Int.ofNat 1)),none)])) (Row.G [AV.int .i64 dr,AV.slcT none (Row.M [an.arr .i64 zc (ar lc 4)]) 4 lc false,AV.slcT none (Row.M [an.arr .i64 zb (ar lb 2)]) 2 lb false]):=by kernel_rfl
theorem Nt (n:Nat) (dr:Int) (lc L:Nat) (zc:Nat→Int) (lb:Nat) (zb:Nat→Int) (H:aa) (y x x':Nat→Int) (t a:Int):aW (cj n 64 66) (il a6 n 0) (dc bp 6 (oE 1 lc L t a (Int.ofNat 0)) (eF dr lc zc lb zb [cr L y,cr L x]::H) (.ok (.normal,hints (oE 1 lc L t a (Int.ofNat lc)++[(38,.bool false)]),(eF dr lc zc lb zb [cr L y,cr L x']::H)))) br (part Tryd.f64 [1,1,1,1,0,1,0,0,1,0,0,1,0,1,0,0]) (hints (lM 1 lc L t a)) (eF dr lc zc lb zb [cr L y,cr L x]::H) =
 (fun (Z0:bA)=>((fun (Z1:az)=>Tr.ite (bO a (Int.ofNat lc)) (Tr.reqP (Z1=Z1∧Z0::H=Z0::H) (Tr.ok (Ex.normal,[(1,AV.ptr 0 0 0 0,none),(3,AV.int .i64 (Int.ofNat lc),none),(4,AV.slc 0 1 0 0 1 L (some L),none),(6,AV.int .i64 t,none),(7,AV.slc 0 2 0 0 1 L (some L),none),(8,AV.int .i64 (bg .i64 a (Int.ofNat 1)),none)],{ lock:=false,bs:=[(0,aq.row (Row.G [AV.int .i64 dr,AV.slcT none (Row.M [an.arr .i64 zc (ar lc 4)]) 4 lc false,AV.slcT none (Row.M [an.arr .i64 zb (ar lb 2)]) 2 lb false])),(0,aq.row (Row.M [an.arr .i64 y L])),(0,aq.row (Row.M [an.arr .i64 x' L]))] } :: H))) (Tr.ok (Ex.exit 4,[(1,AV.ptr 0 0 0 0,none),(3,AV.int .i64 (Int.ofNat lc),none),(4,AV.slc 0 1 0 0 1 L (some L),none),(6,AV.int .i64 t,none),(7,AV.slc 0 2 0 0 1 L (some L),none),(8,AV.int .i64 a,none),(33,AV.bool false,some 1)],Z0::H))) [(1,AV.ptr 0 0 0 0),(3,AV.int .i64 (Int.ofNat lc)),(4,AV.slc 0 1 0 0 1 L (some L)),(6,AV.int .i64 t),(7,AV.slc 0 2 0 0 1 L (some L)),(8,AV.int .i64 a),(9,AV.int .i64 (Int.ofNat 0))])) { lock:=false,bs:=[(0,aq.row (Row.G [AV.int .i64 dr,AV.slcT none (Row.M [an.arr .i64 zc (ar lc 4)]) 4 lc false,AV.slcT none (Row.M [an.arr .i64 zb (ar lb 2)]) 2 lb false])),(0,aq.row (Row.M [an.arr .i64 y L])),(0,aq.row (Row.M [an.arr .i64 x L]))] }:=by kernel_rfl
theorem Nw (n:Nat) (dr:Int) (lc:Nat) (zc:Nat→Int) (lb:Nat) (zb:Nat→Int) (H:aa) (y x':Nat→Int) (t:Int):aW (cj n 64 66) (il a6 n 0) (dc bp 4 (lM 1 lc (bR (Int.ofNat lc)) t (Int.ofNat 0)) (eF dr lc zc lb zb [cr (bR (Int.ofNat lc)) y,cr (bR (Int.ofNat lc)) (fun _=>Int.ofNat 0)]::H) (.ok (.normal,hints (lM 1 lc (bR (Int.ofNat lc)) t (Int.ofNat lc)++[(33,.bool false)]),(eF dr lc zc lb zb [cr (bR (Int.ofNat lc)) y,cr (bR (Int.ofNat lc)) x']::H)))) br (part Tryd.f64 [1,1,1,1,0,1,0,0]) (hints (mV 1 lc (bR (Int.ofNat lc)) 6 t)) (eF dr lc zc lb zb [cr (bR (Int.ofNat lc)) y]::H) =
 (fun (Z0:Nat×aq)=>((fun (Z1:az)=>((fun (Z2:bA)=>Tr.ite (bO t (Int.ofNat lc)) (Tr.req (DP (Int.ofNat lc) (Int.ofNat lc) 8) (Tr.reqP (Z1=Z1∧Z2::H=Z2::H) (Tr.ok (Ex.normal,[(1,AV.ptr 0 0 0 0,none),(3,AV.int .i64 (Int.ofNat lc),none),(4,AV.slc 0 2 0 0 1 (bR (Int.ofNat lc)) (some (bR (Int.ofNat lc))),none),(6,AV.int .i64 (bg .i64 t (Int.ofNat 1)),none)],{ lock:=false,bs:=[Z0,(0,aq.row (Row.M [an.arr .i64 y (bR (Int.ofNat lc))])),(0,aq.row (Row.M [an.arr .i64 x' (bR (Int.ofNat lc))]))] } :: H)))) (Tr.ok (Ex.exit 2,[(1,AV.ptr 0 0 0 0,none),(3,AV.int .i64 (Int.ofNat lc),none),(4,AV.slc 0 1 0 0 1 (bR (Int.ofNat lc)) (some (bR (Int.ofNat lc))),none),(6,AV.int .i64 t,none),(26,AV.bool false,some 1)],{ lock:=false,bs:=[Z0,(0,aq.row (Row.M [an.arr .i64 y (bR (Int.ofNat lc))]))] } :: H))) { lock:=false,bs:=[Z0,(0,aq.row (Row.M [an.arr .i64 y (bR (Int.ofNat lc))])),(0,aq.row (Row.M [an.arr .i64 (fun x=>Int.ofNat 0) (bR (Int.ofNat lc))]))] })) [(1,AV.ptr 0 0 0 0),(3,AV.int .i64 (Int.ofNat lc)),(4,AV.slc 0 1 0 0 1 (bR (Int.ofNat lc)) (some (bR (Int.ofNat lc)))),(6,AV.int .i64 t),(7,AV.slc 0 2 0 0 1 (bR (Int.ofNat lc)) (some (bR (Int.ofNat lc)))),(8,AV.int .i64 (Int.ofNat 0))])) (0,aq.row (Row.G [AV.int .i64 dr,AV.slcT none (Row.M [an.arr .i64 zc (ar lc 4)]) 4 lc false,AV.slcT none (Row.M [an.arr .i64 zb (ar lb 2)]) 2 lb false])):=by kernel_rfl
theorem I2 (n:Nat) (dr:Int) (lc L:Nat) (zc:Nat→Int) (lb:Nat) (zb:Nat→Int) (H:aa) (g:Nat→Int) (y x:Nat→Int) (P:Int→Int→Bool) (t a c:Int):aW (cj n 64 66) (il (oa a6 79 (NY (di dr lc zc lb zb) P)) n 0) bp br (part Tryd.f64 [1,1,1,1,0,1,0,0,1,0,0,1,0,1,0,0,1,0,0,1,0,0]) (hints (oE 2 lc L t a c)) (eF dr lc zc lb zb [cr L g,cr L y,cr L x]::H) =
 (fun (Z0:Row)=>((fun (Z1:aI)=>((fun (Z2:bA)=>Tr.ite (bO c (Int.ofNat lc)) (Tr.req (dj a L) (Tr.req (cG 0 0) (Tr.req (cZ (aC 0 a 1) L) (Tr.ite (cJ (y (aC 0 a 1)) (Int.ofNat 1)) (Tr.reqP (AV.agg Z0=AV.agg Z0) (Tr.ite (P a c) (Tr.req (dj c L) (Tr.req (cG 0 0) (Tr.req (cZ (aC 0 c 1) L) (Tr.ok (Ex.normal,Z1,{ lock:=false,bs:=[(0,aq.row Z0),(0,aq.row (Row.M [an.arr .i64 g L])),(0,aq.row (Row.M [an.arr .i64 y L])),(0,aq.row (Row.M [an.arr .i64 (eW x (aC 0 c 1) (Int.ofNat 1)) L]))] } :: H))))) (Tr.ok (Ex.normal,Z1,Z2::H)))) (Tr.ok (Ex.normal,Z1,Z2::H)))))) (Tr.ok (Ex.exit 6,[(1,AV.ptr 0 0 0 0,none),(3,AV.int .i64 (Int.ofNat lc),none),(4,AV.slc 0 2 0 0 1 L (some L),none),(6,AV.int .i64 t,none),(7,AV.slc 0 3 0 0 1 L (some L),none),(8,AV.int .i64 a,none),(9,AV.int .i64 c,none),(38,AV.bool false,some 1)],Z2::H))) { lock:=false,bs:=[(0,aq.row Z0),(0,aq.row (Row.M [an.arr .i64 g L])),(0,aq.row (Row.M [an.arr .i64 y L])),(0,aq.row (Row.M [an.arr .i64 x L]))] })) [(1,AV.ptr 0 0 0 0,none),(3,AV.int .i64 (Int.ofNat lc),none),(4,AV.slc 0 2 0 0 1 L (some L),none),(6,AV.int .i64 t,none),(7,AV.slc 0 3 0 0 1 L (some L),none),(8,AV.int .i64 a,none),(9,AV.int .i64 (bg .i64 c (Int.ofNat 1)),none)])) (Row.G [AV.int .i64 dr,AV.slcT none (Row.M [an.arr .i64 zc (ar lc 4)]) 4 lc false,AV.slcT none (Row.M [an.arr .i64 zb (ar lb 2)]) 2 lb false]):=by kernel_rfl
theorem Nu (n:Nat) (dr:Int) (lc L:Nat) (zc:Nat→Int) (lb:Nat) (zb:Nat→Int) (H:aa) (g:Nat→Int) (y x x':Nat→Int) (t a:Int):aW (cj n 64 66) (il a6 n 0) (dc bp 6 (oE 2 lc L t a (Int.ofNat 0)) (eF dr lc zc lb zb [cr L g,cr L y,cr L x]::H) (.ok (.normal,hints (oE 2 lc L t a (Int.ofNat lc)++[(38,.bool false)]),(eF dr lc zc lb zb [cr L g,cr L y,cr L x']::H)))) br (part Tryd.f64 [1,1,1,1,0,1,0,0,1,0,0,1,0,1,0,0]) (hints (lM 2 lc L t a)) (eF dr lc zc lb zb [cr L g,cr L y,cr L x]::H) =
 (fun (Z0:bA)=>((fun (Z1:az)=>Tr.ite (bO a (Int.ofNat lc)) (Tr.reqP (Z1=Z1∧Z0::H=Z0::H) (Tr.ok (Ex.normal,[(1,AV.ptr 0 0 0 0,none),(3,AV.int .i64 (Int.ofNat lc),none),(4,AV.slc 0 2 0 0 1 L (some L),none),(6,AV.int .i64 t,none),(7,AV.slc 0 3 0 0 1 L (some L),none),(8,AV.int .i64 (bg .i64 a (Int.ofNat 1)),none)],{ lock:=false,bs:=[(0,aq.row (Row.G [AV.int .i64 dr,AV.slcT none (Row.M [an.arr .i64 zc (ar lc 4)]) 4 lc false,AV.slcT none (Row.M [an.arr .i64 zb (ar lb 2)]) 2 lb false])),(0,aq.row (Row.M [an.arr .i64 g L])),(0,aq.row (Row.M [an.arr .i64 y L])),(0,aq.row (Row.M [an.arr .i64 x' L]))] } :: H))) (Tr.ok (Ex.exit 4,[(1,AV.ptr 0 0 0 0,none),(3,AV.int .i64 (Int.ofNat lc),none),(4,AV.slc 0 2 0 0 1 L (some L),none),(6,AV.int .i64 t,none),(7,AV.slc 0 3 0 0 1 L (some L),none),(8,AV.int .i64 a,none),(33,AV.bool false,some 1)],Z0::H))) [(1,AV.ptr 0 0 0 0),(3,AV.int .i64 (Int.ofNat lc)),(4,AV.slc 0 2 0 0 1 L (some L)),(6,AV.int .i64 t),(7,AV.slc 0 3 0 0 1 L (some L)),(8,AV.int .i64 a),(9,AV.int .i64 (Int.ofNat 0))])) { lock:=false,bs:=[(0,aq.row (Row.G [AV.int .i64 dr,AV.slcT none (Row.M [an.arr .i64 zc (ar lc 4)]) 4 lc false,AV.slcT none (Row.M [an.arr .i64 zb (ar lb 2)]) 2 lb false])),(0,aq.row (Row.M [an.arr .i64 g L])),(0,aq.row (Row.M [an.arr .i64 y L])),(0,aq.row (Row.M [an.arr .i64 x L]))] }:=by kernel_rfl
theorem Nx (n:Nat) (dr:Int) (lc:Nat) (zc:Nat→Int) (lb:Nat) (zb:Nat→Int) (H:aa) (g:Nat→Int) (y x':Nat→Int) (t:Int):aW (cj n 64 66) (il a6 n 0) (dc bp 4 (lM 2 lc (bR (Int.ofNat lc)) t (Int.ofNat 0)) (eF dr lc zc lb zb [cr (bR (Int.ofNat lc)) g,cr (bR (Int.ofNat lc)) y,cr (bR (Int.ofNat lc)) (fun _=>Int.ofNat 0)]::H) (.ok (.normal,hints (lM 2 lc (bR (Int.ofNat lc)) t (Int.ofNat lc)++[(33,.bool false)]),(eF dr lc zc lb zb [cr (bR (Int.ofNat lc)) g,cr (bR (Int.ofNat lc)) y,cr (bR (Int.ofNat lc)) x']::H)))) br (part Tryd.f64 [1,1,1,1,0,1,0,0]) (hints (mV 2 lc (bR (Int.ofNat lc)) 6 t)) (eF dr lc zc lb zb [cr (bR (Int.ofNat lc)) g,cr (bR (Int.ofNat lc)) y]::H) =
 (fun (Z0:Nat×aq)=>((fun (Z1:az)=>((fun (Z2:bA)=>Tr.ite (bO t (Int.ofNat lc)) (Tr.req (DP (Int.ofNat lc) (Int.ofNat lc) 8) (Tr.reqP (Z1=Z1∧Z2::H=Z2::H) (Tr.ok (Ex.normal,[(1,AV.ptr 0 0 0 0,none),(3,AV.int .i64 (Int.ofNat lc),none),(4,AV.slc 0 3 0 0 1 (bR (Int.ofNat lc)) (some (bR (Int.ofNat lc))),none),(6,AV.int .i64 (bg .i64 t (Int.ofNat 1)),none)],{ lock:=false,bs:=[Z0,(0,aq.row (Row.M [an.arr .i64 g (bR (Int.ofNat lc))])),(0,aq.row (Row.M [an.arr .i64 y (bR (Int.ofNat lc))])),(0,aq.row (Row.M [an.arr .i64 x' (bR (Int.ofNat lc))]))] } :: H)))) (Tr.ok (Ex.exit 2,[(1,AV.ptr 0 0 0 0,none),(3,AV.int .i64 (Int.ofNat lc),none),(4,AV.slc 0 2 0 0 1 (bR (Int.ofNat lc)) (some (bR (Int.ofNat lc))),none),(6,AV.int .i64 t,none),(26,AV.bool false,some 1)],{ lock:=false,bs:=[Z0,(0,aq.row (Row.M [an.arr .i64 g (bR (Int.ofNat lc))])),(0,aq.row (Row.M [an.arr .i64 y (bR (Int.ofNat lc))]))] } :: H))) { lock:=false,bs:=[Z0,(0,aq.row (Row.M [an.arr .i64 g (bR (Int.ofNat lc))])),(0,aq.row (Row.M [an.arr .i64 y (bR (Int.ofNat lc))])),(0,aq.row (Row.M [an.arr .i64 (fun x=>Int.ofNat 0) (bR (Int.ofNat lc))]))] })) [(1,AV.ptr 0 0 0 0),(3,AV.int .i64 (Int.ofNat lc)),(4,AV.slc 0 2 0 0 1 (bR (Int.ofNat lc)) (some (bR (Int.ofNat lc)))),(6,AV.int .i64 t),(7,AV.slc 0 3 0 0 1 (bR (Int.ofNat lc)) (some (bR (Int.ofNat lc)))),(8,AV.int .i64 (Int.ofNat 0))])) (0,aq.row (Row.G [AV.int .i64 dr,AV.slcT none (Row.M [an.arr .i64 zc (ar lc 4)]) 4 lc false,AV.slcT none (Row.M [an.arr .i64 zb (ar lb 2)]) 2 lb false])):=by kernel_rfl
end Go.Eng
end
section
namespace Go.Eng
open Go.Proofs Go.Eng.Gall
def rq (lb:Nat) (zb:Nat→Int) (a c:Int):Bool:=eK (eB zb a c) lb
theorem RW:∀ b,(0,b) ∈ aO (bz Tryd.f79)→b=.loop (part Tryd.f79 [1,0,1,0,0]):=gk (by kernel_rfl)
theorem LQ:∀ b,(0,b) ∈ aO (bz Tryd.f64)→b=.loop (part Tryd.f64 [1,1,1,0,1,0,0]):=gk (by kernel_rfl)
theorem LR:∀ b,(2,b) ∈ aO (bz Tryd.f64)→b=.loop (part Tryd.f64 [1,1,1,1,0,1,0,0]):=gk (by kernel_rfl)
theorem LS:∀ b,(8,b) ∈ aO (bz Tryd.f64)→b=.loop (part Tryd.f64 [1,1,1,1,1,0,1,0,0]):=gk (by kernel_rfl)
theorem Ix:∀ b,(4,b) ∈ aO (part Tryd.f64 [1,1,1,1,0,1,0,0])→b=.loop (part Tryd.f64 [1,1,1,1,0,1,0,0,1,0,0,1,0,1,0,0]):=gk (by kernel_rfl)
theorem Iy:∀ b,(6,b) ∈ aO (part Tryd.f64 [1,1,1,1,0,1,0,0,1,0,0,1,0,1,0,0])→b=.loop (part Tryd.f64 [1,1,1,1,0,1,0,0,1,0,0,1,0,1,0,0,1,0,0,1,0,0]):=gk (by kernel_rfl)
theorem Nv (n:Nat) (dr:Int) (lc L:Nat) (zc:Nat→Int) (lb:Nat) (zb:Nat→Int) (H:aa) (g y:Nat→Int) (j:Int):aW (cj n 64 66) (il a6 n 0) bp br (part Tryd.f64 [1,1,1,1,1,0,1,0,0]) (hints (Ah lc L j)) (eF dr lc zc lb zb [cr L g,cr L y]::H) =
 (fun (Z0:bA)=>Tr.ite (bO j (Int.ofNat lc)) (Tr.req (dj j L) (Tr.req (cG 0 0) (Tr.req (cZ (aC 0 j 1) L) (Tr.ite (cJ (y (aC 0 j 1)) (Int.ofNat 1)) (Tr.ok (Ex.ret,[(2,AV.bool true,some 1)],Z0::H)) (Tr.ok (Ex.normal,[(3,AV.int .i64 (Int.ofNat lc),none),(4,AV.slc 0 2 0 0 1 L (some L),none),(10,AV.int .i64 (bg .i64 j (Int.ofNat 1)),none)],Z0::H)))))) (Tr.ok (Ex.exit 8,[(3,AV.int .i64 (Int.ofNat lc),none),(4,AV.slc 0 2 0 0 1 L (some L),none),(10,AV.int .i64 j,none),(58,AV.bool false,some 1)],Z0::H))) { lock:=false,bs:=[(0,aq.row (Row.G [AV.int .i64 dr,AV.slcT none (Row.M [an.arr .i64 zc (ar lc 4)]) 4 lc false,AV.slcT none (Row.M [an.arr .i64 zb (ar lb 2)]) 2 lb false])),(0,aq.row (Row.M [an.arr .i64 g L])),(0,aq.row (Row.M [an.arr .i64 y L]))] }:=by kernel_rfl
theorem u64 (n:Nat) (dr:Int) (lc:Nat) (zc:Nat→Int) (lb:Nat) (zb:Nat→Int) (H:aa) (y0 g y:Nat→Int) (e:Bool):bE Tryd.prog (cd n) 100000 64 Tryd.f64 (KtG.kt 64) (il a6 n 0) (dc (dc (dc bp 0 (mV 1 lc (bR (Int.ofNat lc)) 5 (Int.ofNat 0)) (eF dr lc zc lb zb [cr (bR (Int.ofNat lc)) (fun _=>Int.ofNat 0)]::H) (.ok (.normal,hints (mV 1 lc (bR (Int.ofNat lc)) 5 (Int.ofNat lc)++[(18,.bool false)]),eF dr lc zc lb zb [cr (bR (Int.ofNat lc)) y0]::H))) 2 (mV 1 lc (bR (Int.ofNat lc)) 6 (Int.ofNat 0)) (eF dr lc zc lb zb [cr (bR (Int.ofNat lc)) y0]::H) (.ok (.normal,hints (mV 2 lc (bR (Int.ofNat lc)) 6 (Int.ofNat lc)++[(26,.bool false)]),eF dr lc zc lb zb [cr (bR (Int.ofNat lc)) g,cr (bR (Int.ofNat lc)) y]::H))) 8 (Ah lc (bR (Int.ofNat lc)) (Int.ofNat 0)) (eF dr lc zc lb zb [cr (bR (Int.ofNat lc)) g,cr (bR (Int.ofNat lc)) y]::H) (.ite e (.ok (.ret,[(2,.bool true,none)],eF dr lc zc lb zb [cr (bR (Int.ofNat lc)) g,cr (bR (Int.ofNat lc)) y]::H)) (.ok (.normal,hints (Ah lc (bR (Int.ofNat lc)) (Int.ofNat lc)++[(58,.bool false)]),eF dr lc zc lb zb [cr (bR (Int.ofNat lc)) g,cr (bR (Int.ofNat lc)) y]::H)))) br [(di dr lc zc lb zb,none)] H =
 (fun (Z0:Nat×aq)=>((fun (Z1:Nat×AV)=>((fun (Z2:bA)=>((fun (Z3:Nat×AV)=>((fun (Z4:bA)=>((fun (Z5:bA)=>Tr.req (DP (Int.ofNat lc) (Int.ofNat lc) 8) (Tr.reqP ([(1,AV.ptr 0 0 0 0),Z3,Z1,(5,AV.int .i64 (Int.ofNat 0))]=[(1,AV.ptr 0 0 0 0),Z3,Z1,(5,AV.int .i64 (Int.ofNat 0))]∧Z4::H=Z4::H) (Tr.reqP ([(1,AV.ptr 0 0 0 0),Z3,Z1,(6,AV.int .i64 (Int.ofNat 0))]=[(1,AV.ptr 0 0 0 0),Z3,Z1,(6,AV.int .i64 (Int.ofNat 0))]∧Z5::H=Z5::H) (Tr.reqP ([Z3,(4,AV.slc 0 2 0 0 1 (bR (Int.ofNat lc)) (some (bR (Int.ofNat lc)))),(10,AV.int .i64 (Int.ofNat 0))]=[Z3,(4,AV.slc 0 2 0 0 1 (bR (Int.ofNat lc)) (some (bR (Int.ofNat lc)))),(10,AV.int .i64 (Int.ofNat 0))]∧Z2::H=Z2::H) (Tr.ite e (Tr.ok ((AV.bool true,none),H)) (Tr.ok ((AV.bool false,some 1),H))))))) { lock:=false,bs:=[Z0,(0,aq.row (Row.M [an.arr .i64 y0 (bR (Int.ofNat lc))]))] })) { lock:=false,bs:=[Z0,(0,aq.row (Row.M [an.arr .i64 (fun x=>Int.ofNat 0) (bR (Int.ofNat lc))]))] })) (3,AV.int .i64 (Int.ofNat lc)))) { lock:=false,bs:=[Z0,(0,aq.row (Row.M [an.arr .i64 g (bR (Int.ofNat lc))])),(0,aq.row (Row.M [an.arr .i64 y (bR (Int.ofNat lc))]))] })) (4,AV.slc 0 1 0 0 1 (bR (Int.ofNat lc)) (some (bR (Int.ofNat lc)))))) (0,aq.row (Row.G [AV.int .i64 dr,AV.slcT none (Row.M [an.arr .i64 zc (ar lc 4)]) 4 lc false,AV.slcT none (Row.M [an.arr .i64 zb (ar lb 2)]) 2 lb false])):=by kernel_rfl
section
variable (n:Nat) (dr:Int) (lc:Nat) (zc:Nat→Int) (lb:Nat) (zb:Nat→Int) (H:aa)
theorem Sc (a b:Int) (hm:lb≤1000):cd (n+1) (.fn 79) [di dr lc zc lb zb,.int .i64 a,.int .i64 b] H=some (.bool (rq lb zb a b),H):=by
 have lp:=lK (n:=n) (f:=79) (nt:=24) (c:=part Tryd.f79 [1,0,1,0,0]) 0 (fun j=>C4 a b (j:Int)) (fun _=>ik dr lc zc lb zb::H) lb (eB zb a b) (fun j=>([(6,.bool true)],ik dr lc zc lb zb::H)) (C4 a b (Int.ofNat lb)++[(12,.bool false)],ik dr lc zc lb zb::H) (by omega) (fun j hj=>?_) ?_
 · refine bV (n:=n) Tryd.func79 rfl rfl rfl (Ux n dr lc zc lb zb H a b (eK (eB zb a b) lb)) (aJ n) (a8 (ak _ _) RW (fun x hx=>eX hx lp)) (al _ _) ?_
   refine Tr.aj ⟨rfl,rfl⟩ (Tr.af (fun hc=>Tr.ah ⟨?_,rfl⟩) (fun hc=>Tr.ah ⟨?_,rfl⟩))
   · unfold rq;rw[hc]
   · unfold rq;rw[hc]
 · have ej:bg .i64 (j:Int) (Int.ofNat 1)=((j+1:Nat):Int):=gr (by omega)
   have ei:aC 0 (j:Int) 2=j*2:=by rw[bY];omega
   have hp:b7 (cJ (zb (j*2)) a) (cJ (zb (j*2+1)) b)=eB zb a b j:=by
    rw[bS,aT,aT];unfold eB
    rw[Bool.eq_iff_iff];simp
    constructor<;>(rintro ⟨h1,h2⟩;exact ⟨h1.symm,h2.symm⟩)
   have T:=t79 n dr lc zc lb zb H a b (j:Int)
   rw[ei,aH,ej,hp] at T
   refine aK T (aJ n) (ak _ _) (al _ _) ?_
   refine Tr.af (fun h0=>?_) (fun h0=>by simp (disch:=omega) only[nV,nW] at h0;omega)
   refine Tr.ab (by simp (disch:=omega) only[nV,nW];omega) (Tr.ab (by simp (disch:=omega) only[nV,nW];omega) (Tr.ab (by simp (disch:=omega) only[nV,nW];omega) ?_))
   refine Tr.af (fun q=>Tr.ah ?_) (fun q=>Tr.ah ?_)
   · rw[if_pos q];rfl
   · rw[if_neg (by rw[q];decide)];exact ⟨rfl,rfl⟩
 · obtain ⟨x,h1,rfl⟩:=aK (Q:=fun x=>x=(.exit 0,C4 a b (Int.ofNat lb)++[(12,.bool false)],ik dr lc zc lb zb::H)) (t79 n dr lc zc lb zb H a b (Int.ofNat lb)) (aJ n) (ak _ _) (al _ _) (by
    refine Tr.af (fun h0=>by simp (disch:=omega) only[nV,nW] at h0;omega) (fun h0=>Tr.ah rfl))
   exact h1
theorem vZ {c:Nat} (hc:0<c) (hm:lb≤1000):(oa a6 79 (NY (di dr lc zc lb zb) (rq lb zb))).Ok (cd c):=by
 obtain ⟨m,rfl⟩:∃ m,c=m+1:=⟨c-1,by omega⟩
 refine lH (bx _) (fun args p v hg hp H=>?_)
 unfold NY at hg
 split at hg
 · simp only[nP] at hg
   obtain ⟨rfl,rfl⟩:=hg
   rw[hp]
   exact Sc m dr lc zc lb zb H _ _ hm
 · cases hg
def c5 (p:Nat→Bool) (j:Nat):Int:=if p j=true then 1 else 0
def tL (lc lb:Nat) (zb:Nat→Int) (b:Nat→Nat) (t a j:Nat):Bool:=decide (j<lc) && eK (fun a'=>bD lc b t a' && rq lb zb a' j) a
def tM (lc lb:Nat) (zb:Nat→Int) (b:Nat→Nat) (t a c j:Nat):Bool:=tL lc lb zb b t a j || (decide (j<c) && (bD lc b t a && rq lb zb a j))
theorem IQ (b:Nat→Nat) (t:Nat):c5 (tL lc lb zb b t 0)=fun _=>Int.ofNat 0:=by
 funext j;unfold c5 tL
 rw[if_neg]
 · rfl
 · intro h
   rw[Bool.and_eq_true] at h
   obtain ⟨i,hi,_⟩:=(dq _ _).1 h.2
   omega
theorem IS (b:Nat→Nat) (t a:Nat):tM lc lb zb b t a 0=tL lc lb zb b t a:=by
 funext j;unfold tM;simp
theorem B9 (b:Nat→Nat) (t a:Nat):tM lc lb zb b t a lc=tL lc lb zb b t (a+1):=by
 funext j;unfold tM tL
 have e:eK (fun a'=>bD lc b t a' && rq lb zb a' j) (a+1)=(eK (fun a'=>bD lc b t a' && rq lb zb a' j) a || (bD lc b t a && rq lb zb a j)):=by
  rw[Bool.eq_iff_iff,Bool.or_eq_true,dq,dq]
  constructor
  · rintro ⟨i,h1,h2⟩
    by_cases e:i=a
    · subst e;exact .inr h2
    · exact .inl ⟨i,by omega,h2⟩
  · rintro (⟨i,h1,h2⟩ | h)
    · exact ⟨i,by omega,h2⟩
    · exact ⟨a,by omega,h⟩
 rw[e]
 cases decide (j<lc)<;>simp
theorem Fp {b:Nat→Nat} (hb:b=fun c=>cI zb c lb) (hp:fH lc lb zb) (t:Nat):tL lc lb zb b t lc=bD lc b (t+1):=by
 funext j
 rw[Bool.eq_iff_iff,ga]
 unfold tL rq
 rw[Bool.and_eq_true,decide_eq_true_iff,dq]
 subst hb
 constructor
 · rintro ⟨h1,a,h2,h3⟩
   rw[Bool.and_eq_true,dq] at h3
   obtain ⟨h3,i,hi,h4⟩:=h3
   unfold eB at h4
   rw[Bool.and_eq_true,decide_eq_true_iff,decide_eq_true_iff] at h4
   exact ⟨h1,a,h3,(mA zb j a lb (fun i hi=>(hp i hi).1.1)).2 ⟨i,hi,h4.1.symm,h4.2.symm⟩⟩
 · rintro ⟨h1,a,h2,h3⟩
   obtain ⟨i,hi,h4,h5⟩:=(mA zb j a lb (fun i hi=>(hp i hi).1.1)).1 h3
   refine ⟨h1,a,mc h2,?_⟩
   rw[Bool.and_eq_true,dq]
   exact ⟨h2,i,hi,by unfold eB;rw[Bool.and_eq_true,decide_eq_true_iff,decide_eq_true_iff];exact ⟨h4.symm,h5.symm⟩⟩
theorem Ca (b:Nat→Nat) (t a c:Nat) (h:(bD lc b t a && rq lb zb a c)=true):eW (c5 (tM lc lb zb b t a c)) c (Int.ofNat 1)=c5 (tM lc lb zb b t a (c+1)):=by
 rw[lg];funext j;unfold c5 tM
 by_cases e:j=c
 · subst e
   rw[if_pos rfl,h,decide_eq_true (by omega)]
   rw[if_pos (by simp)];rfl
 · rw[if_neg e]
   by_cases h2:j<c
   · rw[decide_eq_true h2,decide_eq_true (by omega)]
   · rw[decide_eq_false h2,decide_eq_false (by omega)]
theorem rm (b:Nat→Nat) (t a c:Nat) (h:(bD lc b t a && rq lb zb a c)=false):tM lc lb zb b t a (c+1)=tM lc lb zb b t a c:=by
 funext j;unfold tM
 by_cases e:j=c
 · subst e
   rw[h];simp
 · by_cases h2:j<c
   · rw[decide_eq_true h2,decide_eq_true (by omega)]
   · rw[decide_eq_false h2,decide_eq_false (by omega)]
theorem Az (p:Nat→Bool) (j:Nat):cJ (c5 p j) (Int.ofNat 1)=p j:=by
 rw[aT];unfold c5
 cases p j<;>rfl
end
end Go.Eng
end
