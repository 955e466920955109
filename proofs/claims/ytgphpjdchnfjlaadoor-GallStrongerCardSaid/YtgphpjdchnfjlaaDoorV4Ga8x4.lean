/- Gall: CheckList: what it answers. -/
import Derived.Test.YtgphpjdchnfjlaaDoorV4Ga3x5
set_option linter.unusedVariables false
set_option linter.unusedSimpArgs false
set_option maxRecDepth 100000
section
namespace Go.Eng
open Go.Proofs Go.Eng.Gall
theorem xX {c f:Nat} {t:ni} {e:Bool} {C:List AV→Prop} (ht:t.Ok (cd c)) (h:∀ A H,C A→cd c (.fn f) A H=some (.bool e,H)):(jV t f (gB e C)).Ok (cd c):=by
 refine lV ht (fun args p v hg hp H=>?_);unfold gB at hg;simp only[nP] at hg;obtain ⟨rfl,rfl⟩:=hg;exact h _ H hp
theorem qz {c f:Nat} {t:ni} {S:AV} {C:List AV→Prop} (ht:t.Ok (cd c)) (h:∀ A H,C A→cd c (.fn f) A H=some (S,H)):(jV t f (fun x=>some (C x,S))).Ok (cd c):=by
 refine lV ht (fun args p v hg hp H=>?_);simp only[nP] at hg;obtain ⟨rfl,rfl⟩:=hg;exact h _ H hp
def gZ (z:Nat→Int) (a b:Int) (i:Nat):Bool:=decide (a=z (i*2)) && decide (b=z (i*2+1))
def gl (lc:Nat) (z:Nat→Int) (j:Nat):Bool:=decide (z (j*2)=z (j*2+1)) || (!(decide (0≤z (j*2)∧z (j*2)<lc) && decide (0≤z (j*2+1)∧z (j*2+1)<lc)) || dx (gZ z (z (j*2)) (z (j*2+1))) j)
def c9 (dr:Int) (lc:Nat) (zc:Nat→Int) (lb:Nat) (zb:Nat→Int):Int:=if lc=0∨10<lc∨40<lb then 6 else if dr<1∨100<dr∨dx (jn zc) lc=true then 3 else if dx (gl lc zb) lb=true then 2 else if lK lc (fun c=>gY zb c lb)=true then 16 else 0
theorem Sw (n:Nat) (dr:Int) (lc:Nat) (zc:Nat→Int) (lb:Nat) (zb:Nat→Int) (H:aa):bk Tryd.prog (cd (n+10)) 100000 22 Tryd.f22 (KtG.kt 22) (il (nj aH 59 gW) (n+10) 0) (fC aS 1) aR [(bG dr lc zc lb zb,none)] H =
 Tr.ite (aE (bJ (bJ (dJ (Int.ofNat 0) (ct .i64 (Int.ofNat lc) (Int.ofNat 1))) (dJ (ct .i64 (Int.ofNat lc) (Int.ofNat 1)) (Int.ofNat 9))) true)) (Tr.ok ((iI 6,some 1),H)) (Tr.ite (bH (Int.ofNat 40) (Int.ofNat lb)) (Tr.ok ((iI 6,some 1),H)) (Tr.ite (aE (bJ (bJ (dJ (Int.ofNat 1) dr) (dJ dr (Int.ofNat 100))) true)) (Tr.ok ((iI 3,some 1),H)) Tr.bad)):=by kernel_rfl
theorem T9:∀ b,(0,b) ∈ aL (aV Tryd.f86)→b=.loop (part Tryd.f86 [1,0,1,0,0]):=ey (by kernel_rfl)
theorem T2:∀ b,(1,b) ∈ aL (aV Tryd.f22)→b=.loop (part Tryd.f22 [1,1,1,1,0,1,0,0]):=ey (by kernel_rfl)
section
variable (n:Nat) (m:Nat) (z:Nat→Int) (full:Bool) (a b:Int) (H:aa)
theorem UB (hm:m≤1000):cd (n+1) (.fn 86) [MA m z full,M8 a b] H=some (.int .i64 (Cr (gZ z a b) m),H):=by
 have lp:=iu (n:=n) (f:=86) (nt:=19) (c:=part Tryd.f86 [1,0,1,0,0]) 0 (fun j=>DL m z full (j:Int)) (fun _=>JT a b::H) m (gZ z a b) (fun j=>([(4,.int .i64 (j:Int))],JT a b::H)) (DL m z full (Int.ofNat m)++[(9,.bool false)],JT a b::H) (by omega) (fun j hj=>?_) ?_
 · refine bB (n:=n) Tryd.func86 rfl rfl rfl (Xa n m z full a b H ((fN (gZ z a b) m 0:Nat):Int) (dx (gZ z a b) m)) (aw n) (a8 (ai _ _) T9 (fun x hx=>dq hx lp)) (aj _ _) ?_;refine Tr.al ⟨rfl,rfl⟩ (Tr.af (fun hc=>Tr.ah ⟨?_,rfl⟩) (fun hc=>Tr.ah ⟨?_,rfl⟩))
   · unfold Cr;rw[if_pos hc]
   · unfold Cr;rw[if_neg (by rw[hc];decide)];rfl
 · have ej:a6 .i64 (j:Int) (Int.ofNat 1)=((j+1:Nat):Int):=eN (by omega);have ei:av 0 (j:Int) 2=j*2:=by rw[bE];omega
   have hp:bJ (bw a (z (j*2))) (bw b (z (j*2+1)))=gZ z a b j:=by
    rw[cg,bm,bm];unfold gZ;rw[Bool.eq_iff_iff];simp
   have T:=t86 n m z full a b H (j:Int);rw[ei,aK,ej,hp] at T;refine aB T (aw n) (ai _ _) (aj _ _) ?_;refine Tr.af (fun h0=>?_) wJ;refine Tr.ae wG (Tr.ae wG (Tr.ae wG ?_));refine Tr.af (fun q=>Tr.ah ?_) (fun q=>Tr.ah ?_)
   · rw[if_pos q];rfl
   · rw[if_neg (by rw[q];decide)];exact ⟨rfl,rfl⟩
 · obtain ⟨x,h1,rfl⟩:=aB (Q:=fun x=>x=(.exit 0,DL m z full (Int.ofNat m)++[(9,.bool false)],JT a b::H)) (t86 n m z full a b H (Int.ofNat m)) (aw n) (ai _ _) (aj _ _) (by
    refine Tr.af wJ (fun h0=>Tr.ah rfl))
   exact h1
theorem Uq (hm:m≤1000):cd (n+2) (.fn 61) [MA m z full,M8 a b] H=some (.bool (dx (gZ z a b) m),H):=by
 have h:=fun H=>UB n m z full a b H hm;refine bB (n:=n+1) Tryd.func61 rfl rfl rfl (WX (n+1) m z full a b H (Cr (gZ z a b) m)) (bM _ (n+1) (dk (bj _) h)) (ai _ _) (aj _ _) ?_;refine Tr.al rfl (Tr.ah ⟨?_,rfl⟩);rw[A2]
end
section
variable (n:Nat) (dr:Int) (lc:Nat) (zc:Nat→Int) (lb:Nat) (zb:Nat→Int) (H:aa)
noncomputable def Re (a b:Int):bF:={ F2 dr lc zc lb zb with bs:=(F2 dr lc zc lb zb).bs++[(0,.row (.I .i64 [a,b])),(0,.dead)] }
noncomputable def On (a b:Int):bF:={ F2 dr lc zc lb zb with bs:=(F2 dr lc zc lb zb).bs++[(0,.row (.I .i64 [a,b])),(0,.row (.I .i64 [a,b]))] }
noncomputable def M7 (j:Nat):bF:=if zb (j*2)=zb (j*2+1) then Re dr lc zc lb zb (zb (j*2)) (zb (j*2+1)) else On dr lc zc lb zb (zb (j*2)) (zb (j*2+1))
theorem Wd (h1:1≤lc) (hl:lc≤10) (hb:lb≤40):exec (bP (n+10) 22 69) (.block 1 (.loop (part Tryd.f22 [1,1,1,1,0,1,0,0]))) (AN lc lb zb (Int.ofNat 0)) (F2 dr lc zc lb zb::H) =
 some (cond (dx (gl lc zb) lb) (.ret,[(2,.int .i64 2)],M7 dr lc zc lb zb (fN (gl lc zb) lb 0)::H) (.normal,AN lc lb zb (Int.ofNat lb)++[(38,.bool false)],F2 dr lc zc lb zb::H)):=by
 have s3:ct .i64 (Int.ofNat lc) (Int.ofNat 1)=(lc:Int)-1:=by rw[ew];exact gU (by show -9223372036854775808≤(lc:Int)-1;omega) (by show (lc:Int)-1≤_;omega)
 refine iu (n:=n+10) (f:=22) (nt:=69) (c:=part Tryd.f22 [1,1,1,1,0,1,0,0]) 1 (fun j=>AN lc lb zb (j:Int)) (fun _=>F2 dr lc zc lb zb::H) lb (gl lc zb) (fun j=>([(2,.int .i64 2)],M7 dr lc zc lb zb j::H)) (_,_) (by omega) (fun j hj=>?_) ?_
 · have ej:a6 .i64 (j:Int) (Int.ofNat 1)=((j+1:Nat):Int):=eN (by omega)
   have ei:av 0 (j:Int) 2=j*2:=by rw[bE];omega
   have et:bX (j:Int)=j:=by rw[jU];omega
   have hin:aE (bJ (bJ (dJ (Int.ofNat 0) (zb (j*2))) (dJ (zb (j*2)) (ct .i64 (Int.ofNat lc) (Int.ofNat 1)))) (bJ (bJ (dJ (Int.ofNat 0) (zb (j*2+1))) (dJ (zb (j*2+1)) (ct .i64 (Int.ofNat lc) (Int.ofNat 1)))) true))=!(decide (0≤zb (j*2)∧zb (j*2)<lc) && decide (0≤zb (j*2+1)∧zb (j*2+1)<lc)):=by
    rw[s3,aM,cg,cg,cg,cg,bn,bn,bn,bn];rw[Bool.eq_iff_iff];simp;omega
   have T:=t22 n dr lc zc lb zb H (j:Int) (dx (gZ zb (zb (j*2)) (zb (j*2+1))) j) (fun A=>A=[MA j zb (bJ false (cj j lb)),M8 (zb (j*2)) (zb (j*2+1))])
   rw[ei,aK,ej,et] at T
   rw[hin] at T
   refine aB T (bM _ _ (by
    rw[show n+10=n+4+6 by omega];refine xY (n:=n+4) (xX (bj _) (fun A H hA=>?_));subst hA;rw[show n+4+6=n+8+2 by omega];exact Uq (n+8) j zb _ _ _ H (by omega))) (ai _ _) (aj _ _) ?_
   refine Tr.af (fun h0=>?_) wJ
   refine Tr.ae wG (Tr.ae wG (Tr.ae wG (Tr.ae wG (Tr.ae wG ?_))))
   refine Tr.af (fun q=>?_) (fun q=>?_)
   · have q:zb (j*2)=zb (j*2+1):=by rw[bm,beq_iff_eq] at q;exact q
     refine Tr.ah ?_
     rw[if_pos (by unfold gl;rw[decide_eq_true q];rfl)]
     unfold M7;rw[if_pos q];rfl
   · have q:¬ zb (j*2)=zb (j*2+1):=by rw[bm,beq_eq_false_iff_ne] at q;exact q
     have hX:M7 dr lc zc lb zb j=On dr lc zc lb zb (zb (j*2)) (zb (j*2+1)):=by unfold M7;rw[if_neg q]
     refine Tr.ae wG (Tr.ae wG (Tr.af (fun r=>?_) (fun r=>?_)))
     · refine Tr.ah ?_
       rw[if_pos (by unfold gl;rw[r];simp),hX];rfl
     · refine Tr.ae wG (Tr.ae wG (Tr.al rfl (Tr.af (fun u=>?_) (fun u=>?_))))
       · refine Tr.ah ?_
         rw[if_pos (by unfold gl;rw[u];simp),hX];rfl
       · refine Tr.ah ?_
         rw[if_neg (by unfold gl;rw[u,r,decide_eq_false q];simp)]
         exact ⟨rfl,rfl⟩
 · obtain ⟨x,h1,rfl⟩:=aB (Q:=fun x=>x=(.exit 1,AN lc lb zb (Int.ofNat lb)++[(38,.bool false)],F2 dr lc zc lb zb::H)) (t22 n dr lc zc lb zb H (Int.ofNat lb) true (fun A=>False)) (bM _ _ (by
    rw[show n+10=n+4+6 by omega];exact xY (n:=n+4) (xX (bj _) (fun A H hA=>hA.elim)))) (ai _ _) (aj _ _) (by
    refine Tr.af wJ (fun h0=>Tr.ah rfl))
   exact h1
theorem pD {lc lb:Nat} {zb:Nat→Int} (h:dx (gl lc zb) lb=false):iq lc lb zb:=fun j hj=>by
 have:=oP h j hj;unfold gl at this;simp only[Bool.or_eq_false_iff,Bool.not_eq_false',Bool.and_eq_true,decide_eq_true_eq] at this;exact ⟨this.2.1.1,this.2.1.2⟩
theorem PT (hl:lc≤1000) (hb:lb≤1000):cd (n+11) (.fn 22) [bG dr lc zc lb zb] H=some (.int .i64 (c9 dr lc zc lb zb),H):=by
 have s3:ct .i64 (Int.ofNat lc) (Int.ofNat 1)=(lc:Int)-1:=by rw[ew];exact gU (by show -9223372036854775808≤(lc:Int)-1;omega) (by show (lc:Int)-1≤_;omega)
 have hv:=fun h:dx (jn zc) lc=false=>(oP h:vP lc zc)
 have ht:(jV (jV (nj (jV aH 60 (gB (dx (jn zc) lc) (fun A=>A=[slA 4 lc zc,.fn (.func 58) [] []]))) 59 gW) 62 (fun x=>some (x=[bG dr lc zc lb zb]∧(lc≤10∧(1≤dr∧dr≤100)∧vP lc zc∧iq lc lb zb),My dr lc zc lb zb))) 63 (gB (lK lc (fun c=>gY zb c lb)) (fun A=>A=[My dr lc zc lb zb]∧(lc≤10∧iq lc lb zb)))).Ok (cd (n+10)):=by
  refine xX (qz ?_ (fun A H hA=>?_)) (fun A H hA=>?_)
  · rw[show n+10=n+4+6 by omega];refine xY (n:=n+4) (xX (bj _) (fun A H hA=>?_));subst hA;rw[show n+4+6=n+10 by omega];exact Up n lc zc H hl
  · obtain ⟨rfl,a1,a2,a3,a4⟩:=hA;rw[show n+10=n+3+7 by omega];exact PY (n+3) dr lc zc lb zb H a1 hb a2 a3 a4
  · obtain ⟨rfl,a1,a4⟩:=hA;rw[show n+10=n+8+2 by omega];exact Ur (n+8) dr lc zc lb zb (dg dr lc zc) (fun c=>gY zb c lb) H a1 (fun c _=>Nat.lt_of_lt_of_le (vS zb c lc lb (fun i hi=>(a4 i hi).1)) (Nat.pow_le_pow_right (by decide) (by omega)))
 by_cases k0:1≤lc∧lc≤10∧lb≤40
 · obtain ⟨k1,k2,k3⟩:=k0;refine bB (n:=n+10) Tryd.func22 rfl rfl rfl (WN n dr lc zc lb zb H (M7 dr lc zc lb zb (fN (gl lc zb) lb 0)) (dx (jn zc) lc) (lK lc (fun c=>gY zb c lb)) (dx (gl lc zb) lb) (fun A=>A=[slA 4 lc zc,.fn (.func 58) [] []]) (fun A=>A=[bG dr lc zc lb zb]∧(lc≤10∧(1≤dr∧dr≤100)∧vP lc zc∧iq lc lb zb)) (fun A=>A=[My dr lc zc lb zb]∧(lc≤10∧iq lc lb zb)) (My dr lc zc lb zb)) (bM _ _ ht) (a8 (ai _ _) T2 (fun y h=>dq h (Wd n dr lc zc lb zb H k1 k2 k3))) (aj _ _) ?_;have hG:c9 dr lc zc lb zb=if dr<1∨100<dr∨dx (jn zc) lc=true then 3 else if dx (gl lc zb) lb=true then 2 else if lK lc (fun c=>gY zb c lb)=true then 16 else 0:=by unfold c9;rw[if_neg (by omega)]
   rw[hG,s3];refine Tr.af (fun q=>?_) (fun q=>?_)
   · exfalso;rw[aM,cg,cg,bn,bn] at q;simp at q;omega
   refine Tr.af wJ (fun q=>?_);refine Tr.af (fun q=>?_) (fun q=>?_)
   · rw[aM,cg,cg,bn,bn] at q;simp at q;rw[if_pos (by omega)];exact Tr.ah ⟨rfl,rfl⟩
   · rw[aM,cg,cg,bn,bn] at q;simp at q;refine Tr.al rfl (Tr.af (fun r=>?_) (fun r=>?_))
     · rw[if_pos (.inr (.inr r))];exact Tr.ah ⟨rfl,rfl⟩
     · rw[if_neg (by rintro (h | h | h);omega;omega;rw[r] at h;cases h)];refine Tr.al ⟨by rw[← s3],by rw[← s3]⟩ (Tr.af (fun u=>?_) (fun u=>?_))
       · rw[if_pos u];exact Tr.ah ⟨rfl,rfl⟩
       · rw[if_neg (by rw[u];decide)];refine Tr.al ⟨rfl,k2,by omega,hv r,pD u⟩ (Tr.al ⟨rfl,k2,pD u⟩ (Tr.af (fun w=>?_) (fun w=>?_)))
         · rw[if_pos w];exact Tr.ah ⟨rfl,rfl⟩
         · rw[if_neg (by rw[w];decide)];exact Tr.ah ⟨rfl,rfl⟩
 · refine bB (n:=n+10) Tryd.func22 rfl rfl rfl (Sw n dr lc zc lb zb H) (bM _ _ (by
    rw[show n+10=n+4+6 by omega];exact xY (n:=n+4) (bj _))) (cD (ai _ _) 1) (aj _ _) ?_
   have hG:c9 dr lc zc lb zb=6:=by unfold c9;rw[if_pos (by omega)]
   rw[hG,s3];refine Tr.af (fun q=>Tr.ah ⟨rfl,rfl⟩) (fun q=>?_);refine Tr.af (fun q=>Tr.ah ⟨rfl,rfl⟩) (fun q2=>?_);exfalso;rw[aM,cg,cg,bn,bn] at q;simp at q;simp (disch:=omega) only[nV,nW] at q2;omega
end
end Go.Eng
end
section
namespace Go.Eng
open Go.Proofs
noncomputable def gi (dr:Int) (lc:Nat) (zc:Nat→Int) (lb:Nat) (zb:Nat→Int):bF:=⟨false,[(0,.row (.G [.int .i64 dr,slA 4 lc zc,slA 2 lb zb]))]⟩
noncomputable def DJ (a b j:Int):aD:=[(1,.int .i64 a),(2,.int .i64 b),(3,.ptr 0 0 0 0),(7,.int .i64 j)]
noncomputable def eQ (dr:Int) (lc:Nat) (zc:Nat→Int) (lb:Nat) (zb:Nat→Int) (bs:List (Nat×an)):bF:=⟨false,(0,.row (.G [.int .i64 dr,slA 4 lc zc,slA 2 lb zb]))::bs⟩
noncomputable def cA (L:Nat) (y:Nat→Int):Nat×an:=(0,.row (.M [.arr .i64 y L]))
noncomputable def m8 (i lc L:Nat) (s:Nat) (j:Int):aD:=[(1,.ptr 0 0 0 0),(3,.int .i64 (Int.ofNat lc)),(4,.slc 0 i 0 0 1 L (some L)),(s,.int .i64 j)]
noncomputable def AQ (lc L:Nat) (j:Int):aD:=[(3,.int .i64 (Int.ofNat lc)),(4,.slc 0 2 0 0 1 L (some L)),(10,.int .i64 j)]
noncomputable def lZ (i lc L:Nat) (t a:Int):aD:=[(1,.ptr 0 0 0 0),(3,.int .i64 (Int.ofNat lc)),(4,.slc 0 i 0 0 1 L (some L)),(6,.int .i64 t),(7,.slc 0 (Nat.succ i) 0 0 1 L (some L)),(8,.int .i64 a)]
noncomputable def oW (i lc L:Nat) (t a c:Int):aD:=lZ i lc L t a++[(9,.int .i64 c)]
noncomputable def Pz (A:AV) (P:Int→Int→Bool):List AV→Option (Prop×AV)
 | [B,.int .i64 a,.int .i64 c]=>some (B=A,.bool (P a c))
 | _=>none
theorem t79 (n:Nat) (dr:Int) (lc:Nat) (zc:Nat→Int) (lb:Nat) (zb:Nat→Int) (H:aa) (a b j:Int):aJ (bP n 79 24) (il aH n 0) aS aR (part Tryd.f79 [1,0,1,0,0]) (hints (DJ a b j)) (gi dr lc zc lb zb::H) =
 Tr.ite (bH j (Int.ofNat lb)) (Tr.req (bR j lb) (Tr.req (cH (av 0 j 2) (bU lb 2)) (Tr.req (cH (aq (av 0 j 2) 1) (bU lb 2)) (Tr.ite (bJ (bw (zb (av 0 j 2)) a) (bw (zb (aq (av 0 j 2) 1)) b)) (Tr.ok (Ex.ret,[(6,AV.bool true,some 1)],(bC [(0,eV dr lc zc lb zb)])::H)) (Tr.ok (Ex.normal,[(1,AV.int .i64 a,none),(2,AV.int .i64 b,none),(3,AV.ptr 0 0 0 0,none),(7,AV.int .i64 (a6 .i64 j (Int.ofNat 1)),none)],(bC [(0,eV dr lc zc lb zb)])::H)))))) (Tr.ok (Ex.exit 0,[(1,AV.int .i64 a,none),(2,AV.int .i64 b,none),(3,AV.ptr 0 0 0 0,none),(7,AV.int .i64 j,none),(12,AV.bool false,some 1)],(bC [(0,eV dr lc zc lb zb)])::H)):=by kernel_rfl
theorem W6 (n:Nat) (dr:Int) (lc:Nat) (zc:Nat→Int) (lb:Nat) (zb:Nat→Int) (H:aa) (a b:Int) (e:Bool):bk Tryd.prog (cd n) 100000 79 Tryd.f79 (KtG.kt 79) (il aH n 0) (cM aS 0 (DJ a b (Int.ofNat 0)) (gi dr lc zc lb zb::H) (.ite e (.ok (.ret,[(6,.bool true,none)],gi dr lc zc lb zb::H)) (.ok (.normal,hints (DJ a b (Int.ofNat lb)++[(12,.bool false)]),gi dr lc zc lb zb::H)))) aR [(bG dr lc zc lb zb,none),(.int .i64 a,none),(.int .i64 b,none)] H =
 Tr.reqP ([(1,AV.int .i64 a),(2,AV.int .i64 b),(3,AV.ptr 0 0 0 0),(7,iI 0)]=[(1,AV.int .i64 a),(2,AV.int .i64 b),(3,AV.ptr 0 0 0 0),(7,iI 0)]∧(bC [(0,eV dr lc zc lb zb)])::H=(bC [(0,eV dr lc zc lb zb)])::H) (Tr.ite e (Tr.ok ((AV.bool true,none),H)) (Tr.ok ((AV.bool false,some 1),H))):=by kernel_rfl
theorem O3 (n:Nat) (dr:Int) (lc L:Nat) (zc:Nat→Int) (lb:Nat) (zb:Nat→Int) (H:aa) (y:Nat→Int) (j:Int):aJ (bP n 64 66) (il aH n 0) aS aR (part Tryd.f64 [1,1,1,0,1,0,0]) (hints (m8 1 lc L 5 j)) (eQ dr lc zc lb zb [cA L y]::H) =
 Tr.ite (bH j (Int.ofNat lc)) (Tr.req (bR j L) (Tr.req (cj 0 0) (Tr.req (cH (av 0 j 1) L) (Tr.ok (Ex.normal,[(1,AV.ptr 0 0 0 0,none),(3,iI lc,none),(4,AV.slc 0 1 0 0 1 L (some L),none),(5,AV.int .i64 (a6 .i64 j (Int.ofNat 1)),none)],(bC [(0,eV dr lc zc lb zb),(0,an.row (rM (eg y (av 0 j 1) (Int.ofNat 1)) L))])::H))))) (Tr.ok (Ex.exit 0,[(1,AV.ptr 0 0 0 0,none),(3,iI lc,none),(4,AV.slc 0 1 0 0 1 L (some L),none),(5,AV.int .i64 j,none),(18,AV.bool false,some 1)],(bC [(0,eV dr lc zc lb zb),(0,an.row (rM y L))])::H)):=by kernel_rfl
theorem J8 (n:Nat) (dr:Int) (lc L:Nat) (zc:Nat→Int) (lb:Nat) (zb:Nat→Int) (H:aa) (y x:Nat→Int) (P:Int→Int→Bool) (t a c:Int):aJ (bP n 64 66) (il (jV aH 79 (Pz (bG dr lc zc lb zb) P)) n 0) aS aR (part Tryd.f64 [1,1,1,1,0,1,0,0,1,0,0,1,0,1,0,0,1,0,0,1,0,0]) (hints (oW 1 lc L t a c)) (eQ dr lc zc lb zb [cA L y,cA L x]::H) =
 (fun (Z0:aO)=>((fun (Z1:bF)=>Tr.ite (bH c (Int.ofNat lc)) (Tr.req (bR a L) (Tr.req (cj 0 0) (Tr.req (cH (av 0 a 1) L) (Tr.ite (bw (y (av 0 a 1)) (Int.ofNat 1)) (Tr.reqP (bG dr lc zc lb zb=bG dr lc zc lb zb) (Tr.ite (P a c) (Tr.req (bR c L) (Tr.req (cj 0 0) (Tr.req (cH (av 0 c 1) L) (Tr.ok (Ex.normal,Z0,(bC [(0,eV dr lc zc lb zb),(0,an.row (rM y L)),(0,an.row (rM (eg x (av 0 c 1) (Int.ofNat 1)) L))])::H))))) (Tr.ok (Ex.normal,Z0,Z1::H)))) (Tr.ok (Ex.normal,Z0,Z1::H)))))) (Tr.ok (Ex.exit 6,[(1,AV.ptr 0 0 0 0,none),(3,iI lc,none),(4,AV.slc 0 1 0 0 1 L (some L),none),(6,AV.int .i64 t,none),(7,AV.slc 0 2 0 0 1 L (some L),none),(8,AV.int .i64 a,none),(9,AV.int .i64 c,none),(38,AV.bool false,some 1)],Z1::H))) (bC [(0,eV dr lc zc lb zb),(0,an.row (rM y L)),(0,an.row (rM x L))]))) [(1,AV.ptr 0 0 0 0,none),(3,iI lc,none),(4,AV.slc 0 1 0 0 1 L (some L),none),(6,AV.int .i64 t,none),(7,AV.slc 0 2 0 0 1 L (some L),none),(8,AV.int .i64 a,none),(9,AV.int .i64 (a6 .i64 c (Int.ofNat 1)),none)]:=by kernel_rfl
theorem O4 (n:Nat) (dr:Int) (lc L:Nat) (zc:Nat→Int) (lb:Nat) (zb:Nat→Int) (H:aa) (y x x':Nat→Int) (t a:Int):aJ (bP n 64 66) (il aH n 0) (cM aS 6 (oW 1 lc L t a (Int.ofNat 0)) (eQ dr lc zc lb zb [cA L y,cA L x]::H) (.ok (.normal,hints (oW 1 lc L t a (Int.ofNat lc)++[(38,.bool false)]),(eQ dr lc zc lb zb [cA L y,cA L x']::H)))) aR (part Tryd.f64 [1,1,1,1,0,1,0,0,1,0,0,1,0,1,0,0]) (hints (lZ 1 lc L t a)) (eQ dr lc zc lb zb [cA L y,cA L x]::H) =
 (fun (Z0:aD)=>((fun (Z1:bF)=>Tr.ite (bH a (Int.ofNat lc)) (Tr.reqP (Z0=Z0∧Z1::H=Z1::H) (Tr.ok (Ex.normal,[(1,AV.ptr 0 0 0 0,none),(3,iI lc,none),(4,AV.slc 0 1 0 0 1 L (some L),none),(6,AV.int .i64 t,none),(7,AV.slc 0 2 0 0 1 L (some L),none),(8,AV.int .i64 (a6 .i64 a (Int.ofNat 1)),none)],(bC [(0,eV dr lc zc lb zb),(0,an.row (rM y L)),(0,an.row (rM x' L))])::H))) (Tr.ok (Ex.exit 4,[(1,AV.ptr 0 0 0 0,none),(3,iI lc,none),(4,AV.slc 0 1 0 0 1 L (some L),none),(6,AV.int .i64 t,none),(7,AV.slc 0 2 0 0 1 L (some L),none),(8,AV.int .i64 a,none),(33,AV.bool false,some 1)],Z1::H))) (bC [(0,eV dr lc zc lb zb),(0,an.row (rM y L)),(0,an.row (rM x L))]))) [(1,AV.ptr 0 0 0 0),(3,iI lc),(4,AV.slc 0 1 0 0 1 L (some L)),(6,AV.int .i64 t),(7,AV.slc 0 2 0 0 1 L (some L)),(8,AV.int .i64 a),(9,iI 0)]:=by kernel_rfl
theorem O7 (n:Nat) (dr:Int) (lc:Nat) (zc:Nat→Int) (lb:Nat) (zb:Nat→Int) (H:aa) (y x':Nat→Int) (t:Int):aJ (bP n 64 66) (il aH n 0) (cM aS 4 (lZ 1 lc (bX (Int.ofNat lc)) t (Int.ofNat 0)) (eQ dr lc zc lb zb [cA (bX (Int.ofNat lc)) y,cA (bX (Int.ofNat lc)) (fun _=>Int.ofNat 0)]::H) (.ok (.normal,hints (lZ 1 lc (bX (Int.ofNat lc)) t (Int.ofNat lc)++[(33,.bool false)]),(eQ dr lc zc lb zb [cA (bX (Int.ofNat lc)) y,cA (bX (Int.ofNat lc)) x']::H)))) aR (part Tryd.f64 [1,1,1,1,0,1,0,0]) (hints (m8 1 lc (bX (Int.ofNat lc)) 6 t)) (eQ dr lc zc lb zb [cA (bX (Int.ofNat lc)) y]::H) =
 (fun (Z0:aD)=>((fun (Z1:bF)=>Tr.ite (bH t (Int.ofNat lc)) (Tr.req (CC (Int.ofNat lc) (Int.ofNat lc) 8) (Tr.reqP (Z0=Z0∧Z1::H=Z1::H) (Tr.ok (Ex.normal,[(1,AV.ptr 0 0 0 0,none),(3,iI lc,none),(4,AV.slc 0 2 0 0 1 (bX (Int.ofNat lc)) (some (bX (Int.ofNat lc))),none),(6,AV.int .i64 (a6 .i64 t (Int.ofNat 1)),none)],(bC [(0,eV dr lc zc lb zb),(0,an.row (rM y (bX (Int.ofNat lc)))),(0,an.row (rM x' (bX (Int.ofNat lc))))])::H)))) (Tr.ok (Ex.exit 2,[(1,AV.ptr 0 0 0 0,none),(3,iI lc,none),(4,AV.slc 0 1 0 0 1 (bX (Int.ofNat lc)) (some (bX (Int.ofNat lc))),none),(6,AV.int .i64 t,none),(26,AV.bool false,some 1)],(bC [(0,eV dr lc zc lb zb),(0,an.row (rM y (bX (Int.ofNat lc))))])::H))) (bC [(0,eV dr lc zc lb zb),(0,an.row (rM y (bX (Int.ofNat lc)))),(0,an.row (rM (fun x=>Int.ofNat 0) (bX (Int.ofNat lc))))]))) [(1,AV.ptr 0 0 0 0),(3,iI lc),(4,AV.slc 0 1 0 0 1 (bX (Int.ofNat lc)) (some (bX (Int.ofNat lc)))),(6,AV.int .i64 t),(7,AV.slc 0 2 0 0 1 (bX (Int.ofNat lc)) (some (bX (Int.ofNat lc)))),(8,iI 0)]:=by kernel_rfl
theorem J9 (n:Nat) (dr:Int) (lc L:Nat) (zc:Nat→Int) (lb:Nat) (zb:Nat→Int) (H:aa) (g:Nat→Int) (y x:Nat→Int) (P:Int→Int→Bool) (t a c:Int):aJ (bP n 64 66) (il (jV aH 79 (Pz (bG dr lc zc lb zb) P)) n 0) aS aR (part Tryd.f64 [1,1,1,1,0,1,0,0,1,0,0,1,0,1,0,0,1,0,0,1,0,0]) (hints (oW 2 lc L t a c)) (eQ dr lc zc lb zb [cA L g,cA L y,cA L x]::H) =
 (fun (Z0:aO)=>((fun (Z1:bF)=>Tr.ite (bH c (Int.ofNat lc)) (Tr.req (bR a L) (Tr.req (cj 0 0) (Tr.req (cH (av 0 a 1) L) (Tr.ite (bw (y (av 0 a 1)) (Int.ofNat 1)) (Tr.reqP (bG dr lc zc lb zb=bG dr lc zc lb zb) (Tr.ite (P a c) (Tr.req (bR c L) (Tr.req (cj 0 0) (Tr.req (cH (av 0 c 1) L) (Tr.ok (Ex.normal,Z0,(bC [(0,eV dr lc zc lb zb),(0,an.row (rM g L)),(0,an.row (rM y L)),(0,an.row (rM (eg x (av 0 c 1) (Int.ofNat 1)) L))])::H))))) (Tr.ok (Ex.normal,Z0,Z1::H)))) (Tr.ok (Ex.normal,Z0,Z1::H)))))) (Tr.ok (Ex.exit 6,[(1,AV.ptr 0 0 0 0,none),(3,iI lc,none),(4,AV.slc 0 2 0 0 1 L (some L),none),(6,AV.int .i64 t,none),(7,AV.slc 0 3 0 0 1 L (some L),none),(8,AV.int .i64 a,none),(9,AV.int .i64 c,none),(38,AV.bool false,some 1)],Z1::H))) (bC [(0,eV dr lc zc lb zb),(0,an.row (rM g L)),(0,an.row (rM y L)),(0,an.row (rM x L))]))) [(1,AV.ptr 0 0 0 0,none),(3,iI lc,none),(4,AV.slc 0 2 0 0 1 L (some L),none),(6,AV.int .i64 t,none),(7,AV.slc 0 3 0 0 1 L (some L),none),(8,AV.int .i64 a,none),(9,AV.int .i64 (a6 .i64 c (Int.ofNat 1)),none)]:=by kernel_rfl
theorem O5 (n:Nat) (dr:Int) (lc L:Nat) (zc:Nat→Int) (lb:Nat) (zb:Nat→Int) (H:aa) (g:Nat→Int) (y x x':Nat→Int) (t a:Int):aJ (bP n 64 66) (il aH n 0) (cM aS 6 (oW 2 lc L t a (Int.ofNat 0)) (eQ dr lc zc lb zb [cA L g,cA L y,cA L x]::H) (.ok (.normal,hints (oW 2 lc L t a (Int.ofNat lc)++[(38,.bool false)]),(eQ dr lc zc lb zb [cA L g,cA L y,cA L x']::H)))) aR (part Tryd.f64 [1,1,1,1,0,1,0,0,1,0,0,1,0,1,0,0]) (hints (lZ 2 lc L t a)) (eQ dr lc zc lb zb [cA L g,cA L y,cA L x]::H) =
 (fun (Z0:bF)=>((fun (Z1:aD)=>Tr.ite (bH a (Int.ofNat lc)) (Tr.reqP (Z1=Z1∧Z0::H=Z0::H) (Tr.ok (Ex.normal,[(1,AV.ptr 0 0 0 0,none),(3,iI lc,none),(4,AV.slc 0 2 0 0 1 L (some L),none),(6,AV.int .i64 t,none),(7,AV.slc 0 3 0 0 1 L (some L),none),(8,AV.int .i64 (a6 .i64 a (Int.ofNat 1)),none)],(bC [(0,eV dr lc zc lb zb),(0,an.row (rM g L)),(0,an.row (rM y L)),(0,an.row (rM x' L))])::H))) (Tr.ok (Ex.exit 4,[(1,AV.ptr 0 0 0 0,none),(3,iI lc,none),(4,AV.slc 0 2 0 0 1 L (some L),none),(6,AV.int .i64 t,none),(7,AV.slc 0 3 0 0 1 L (some L),none),(8,AV.int .i64 a,none),(33,AV.bool false,some 1)],Z0::H))) [(1,AV.ptr 0 0 0 0),(3,iI lc),(4,AV.slc 0 2 0 0 1 L (some L)),(6,AV.int .i64 t),(7,AV.slc 0 3 0 0 1 L (some L)),(8,AV.int .i64 a),(9,iI 0)])) (bC [(0,eV dr lc zc lb zb),(0,an.row (rM g L)),(0,an.row (rM y L)),(0,an.row (rM x L))]):=by kernel_rfl
theorem O8 (n:Nat) (dr:Int) (lc:Nat) (zc:Nat→Int) (lb:Nat) (zb:Nat→Int) (H:aa) (g:Nat→Int) (y x':Nat→Int) (t:Int):aJ (bP n 64 66) (il aH n 0) (cM aS 4 (lZ 2 lc (bX (Int.ofNat lc)) t (Int.ofNat 0)) (eQ dr lc zc lb zb [cA (bX (Int.ofNat lc)) g,cA (bX (Int.ofNat lc)) y,cA (bX (Int.ofNat lc)) (fun _=>Int.ofNat 0)]::H) (.ok (.normal,hints (lZ 2 lc (bX (Int.ofNat lc)) t (Int.ofNat lc)++[(33,.bool false)]),(eQ dr lc zc lb zb [cA (bX (Int.ofNat lc)) g,cA (bX (Int.ofNat lc)) y,cA (bX (Int.ofNat lc)) x']::H)))) aR (part Tryd.f64 [1,1,1,1,0,1,0,0]) (hints (m8 2 lc (bX (Int.ofNat lc)) 6 t)) (eQ dr lc zc lb zb [cA (bX (Int.ofNat lc)) g,cA (bX (Int.ofNat lc)) y]::H) =
 (fun (Z0:aD)=>((fun (Z1:bF)=>Tr.ite (bH t (Int.ofNat lc)) (Tr.req (CC (Int.ofNat lc) (Int.ofNat lc) 8) (Tr.reqP (Z0=Z0∧Z1::H=Z1::H) (Tr.ok (Ex.normal,[(1,AV.ptr 0 0 0 0,none),(3,iI lc,none),(4,AV.slc 0 3 0 0 1 (bX (Int.ofNat lc)) (some (bX (Int.ofNat lc))),none),(6,AV.int .i64 (a6 .i64 t (Int.ofNat 1)),none)],(bC [(0,eV dr lc zc lb zb),(0,an.row (rM g (bX (Int.ofNat lc)))),(0,an.row (rM y (bX (Int.ofNat lc)))),(0,an.row (rM x' (bX (Int.ofNat lc))))])::H)))) (Tr.ok (Ex.exit 2,[(1,AV.ptr 0 0 0 0,none),(3,iI lc,none),(4,AV.slc 0 2 0 0 1 (bX (Int.ofNat lc)) (some (bX (Int.ofNat lc))),none),(6,AV.int .i64 t,none),(26,AV.bool false,some 1)],(bC [(0,eV dr lc zc lb zb),(0,an.row (rM g (bX (Int.ofNat lc)))),(0,an.row (rM y (bX (Int.ofNat lc))))])::H))) (bC [(0,eV dr lc zc lb zb),(0,an.row (rM g (bX (Int.ofNat lc)))),(0,an.row (rM y (bX (Int.ofNat lc)))),(0,an.row (rM (fun x=>Int.ofNat 0) (bX (Int.ofNat lc))))]))) [(1,AV.ptr 0 0 0 0),(3,iI lc),(4,AV.slc 0 2 0 0 1 (bX (Int.ofNat lc)) (some (bX (Int.ofNat lc)))),(6,AV.int .i64 t),(7,AV.slc 0 3 0 0 1 (bX (Int.ofNat lc)) (some (bX (Int.ofNat lc)))),(8,iI 0)]:=by kernel_rfl
end Go.Eng
end
section
namespace Go.Eng
open Go.Proofs Go.Eng.Gall
def rI (lb:Nat) (zb:Nat→Int) (a c:Int):Bool:=dx (gZ zb a c) lb
theorem T7:∀ b,(0,b) ∈ aL (aV Tryd.f79)→b=.loop (part Tryd.f79 [1,0,1,0,0]):=ey (by kernel_rfl)
theorem Nn:∀ b,(0,b) ∈ aL (aV Tryd.f64)→b=.loop (part Tryd.f64 [1,1,1,0,1,0,0]):=ey (by kernel_rfl)
theorem No:∀ b,(2,b) ∈ aL (aV Tryd.f64)→b=.loop (part Tryd.f64 [1,1,1,1,0,1,0,0]):=ey (by kernel_rfl)
theorem Np:∀ b,(8,b) ∈ aL (aV Tryd.f64)→b=.loop (part Tryd.f64 [1,1,1,1,1,0,1,0,0]):=ey (by kernel_rfl)
theorem Jz:∀ b,(4,b) ∈ aL (part Tryd.f64 [1,1,1,1,0,1,0,0])→b=.loop (part Tryd.f64 [1,1,1,1,0,1,0,0,1,0,0,1,0,1,0,0]):=ey (by kernel_rfl)
theorem JA:∀ b,(6,b) ∈ aL (part Tryd.f64 [1,1,1,1,0,1,0,0,1,0,0,1,0,1,0,0])→b=.loop (part Tryd.f64 [1,1,1,1,0,1,0,0,1,0,0,1,0,1,0,0,1,0,0,1,0,0]):=ey (by kernel_rfl)
theorem O6 (n:Nat) (dr:Int) (lc L:Nat) (zc:Nat→Int) (lb:Nat) (zb:Nat→Int) (H:aa) (g y:Nat→Int) (j:Int):aJ (bP n 64 66) (il aH n 0) aS aR (part Tryd.f64 [1,1,1,1,1,0,1,0,0]) (hints (AQ lc L j)) (eQ dr lc zc lb zb [cA L g,cA L y]::H) =
 (fun (Z0:bF)=>Tr.ite (bH j (Int.ofNat lc)) (Tr.req (bR j L) (Tr.req (cj 0 0) (Tr.req (cH (av 0 j 1) L) (Tr.ite (bw (y (av 0 j 1)) (Int.ofNat 1)) (Tr.ok (Ex.ret,[(2,AV.bool true,some 1)],Z0::H)) (Tr.ok (Ex.normal,[(3,iI lc,none),(4,AV.slc 0 2 0 0 1 L (some L),none),(10,AV.int .i64 (a6 .i64 j (Int.ofNat 1)),none)],Z0::H)))))) (Tr.ok (Ex.exit 8,[(3,iI lc,none),(4,AV.slc 0 2 0 0 1 L (some L),none),(10,AV.int .i64 j,none),(58,AV.bool false,some 1)],Z0::H))) (bC [(0,eV dr lc zc lb zb),(0,an.row (rM g L)),(0,an.row (rM y L))]):=by kernel_rfl
theorem u64 (n:Nat) (dr:Int) (lc:Nat) (zc:Nat→Int) (lb:Nat) (zb:Nat→Int) (H:aa) (y0 g y:Nat→Int) (e:Bool):bk Tryd.prog (cd n) 100000 64 Tryd.f64 (KtG.kt 64) (il aH n 0) (cM (cM (cM aS 0 (m8 1 lc (bX (Int.ofNat lc)) 5 (Int.ofNat 0)) (eQ dr lc zc lb zb [cA (bX (Int.ofNat lc)) (fun _=>Int.ofNat 0)]::H) (.ok (.normal,hints (m8 1 lc (bX (Int.ofNat lc)) 5 (Int.ofNat lc)++[(18,.bool false)]),eQ dr lc zc lb zb [cA (bX (Int.ofNat lc)) y0]::H))) 2 (m8 1 lc (bX (Int.ofNat lc)) 6 (Int.ofNat 0)) (eQ dr lc zc lb zb [cA (bX (Int.ofNat lc)) y0]::H) (.ok (.normal,hints (m8 2 lc (bX (Int.ofNat lc)) 6 (Int.ofNat lc)++[(26,.bool false)]),eQ dr lc zc lb zb [cA (bX (Int.ofNat lc)) g,cA (bX (Int.ofNat lc)) y]::H))) 8 (AQ lc (bX (Int.ofNat lc)) (Int.ofNat 0)) (eQ dr lc zc lb zb [cA (bX (Int.ofNat lc)) g,cA (bX (Int.ofNat lc)) y]::H) (.ite e (.ok (.ret,[(2,.bool true,none)],eQ dr lc zc lb zb [cA (bX (Int.ofNat lc)) g,cA (bX (Int.ofNat lc)) y]::H)) (.ok (.normal,hints (AQ lc (bX (Int.ofNat lc)) (Int.ofNat lc)++[(58,.bool false)]),eQ dr lc zc lb zb [cA (bX (Int.ofNat lc)) g,cA (bX (Int.ofNat lc)) y]::H)))) aR [(bG dr lc zc lb zb,none)] H =
 (fun (Z0:Nat×AV)=>((fun (Z1:bF)=>((fun (Z2:aD)=>((fun (Z3:bF)=>Tr.req (CC (Int.ofNat lc) (Int.ofNat lc) 8) (Tr.reqP ([(1,AV.ptr 0 0 0 0),(3,iI lc),Z0,(5,iI 0)]=[(1,AV.ptr 0 0 0 0),(3,iI lc),Z0,(5,iI 0)]∧Z3::H=Z3::H) (Tr.reqP ([(1,AV.ptr 0 0 0 0),(3,iI lc),Z0,(6,iI 0)]=[(1,AV.ptr 0 0 0 0),(3,iI lc),Z0,(6,iI 0)]∧(bC [(0,eV dr lc zc lb zb),(0,an.row (rM y0 (bX (Int.ofNat lc))))])::H=(bC [(0,eV dr lc zc lb zb),(0,an.row (rM y0 (bX (Int.ofNat lc))))])::H) (Tr.reqP (Z2=Z2∧Z1::H=Z1::H) (Tr.ite e (Tr.ok ((AV.bool true,none),H)) (Tr.ok ((AV.bool false,some 1),H))))))) (bC [(0,eV dr lc zc lb zb),(0,an.row (rM (fun x=>Int.ofNat 0) (bX (Int.ofNat lc))))]))) [(3,iI lc),(4,AV.slc 0 2 0 0 1 (bX (Int.ofNat lc)) (some (bX (Int.ofNat lc)))),(10,iI 0)])) (bC [(0,eV dr lc zc lb zb),(0,an.row (rM g (bX (Int.ofNat lc)))),(0,an.row (rM y (bX (Int.ofNat lc))))]))) (4,AV.slc 0 1 0 0 1 (bX (Int.ofNat lc)) (some (bX (Int.ofNat lc)))):=by kernel_rfl
section
variable (n:Nat) (dr:Int) (lc:Nat) (zc:Nat→Int) (lb:Nat) (zb:Nat→Int) (H:aa)
theorem Ux (a b:Int) (hm:lb≤1000):cd (n+1) (.fn 79) [bG dr lc zc lb zb,.int .i64 a,.int .i64 b] H=some (.bool (rI lb zb a b),H):=by
 have lp:=iu (n:=n) (f:=79) (nt:=24) (c:=part Tryd.f79 [1,0,1,0,0]) 0 (fun j=>DJ a b (j:Int)) (fun _=>gi dr lc zc lb zb::H) lb (gZ zb a b) (fun j=>([(6,.bool true)],gi dr lc zc lb zb::H)) (DJ a b (Int.ofNat lb)++[(12,.bool false)],gi dr lc zc lb zb::H) (by omega) (fun j hj=>?_) ?_
 · refine bB (n:=n) Tryd.func79 rfl rfl rfl (W6 n dr lc zc lb zb H a b (dx (gZ zb a b) lb)) (aw n) (a8 (ai _ _) T7 (fun x hx=>dq hx lp)) (aj _ _) ?_;refine Tr.al ⟨rfl,rfl⟩ (Tr.af (fun hc=>Tr.ah ⟨?_,rfl⟩) (fun hc=>Tr.ah ⟨?_,rfl⟩))
   · unfold rI;rw[hc]
   · unfold rI;rw[hc]
 · have ej:a6 .i64 (j:Int) (Int.ofNat 1)=((j+1:Nat):Int):=eN (by omega);have ei:av 0 (j:Int) 2=j*2:=by rw[bE];omega
   have hp:bJ (bw (zb (j*2)) a) (bw (zb (j*2+1)) b)=gZ zb a b j:=by
    rw[cg,bm,bm];unfold gZ;rw[Bool.eq_iff_iff];simp;constructor<;>(rintro ⟨h1,h2⟩;exact ⟨h1.symm,h2.symm⟩)
   have T:=t79 n dr lc zc lb zb H a b (j:Int);rw[ei,aK,ej,hp] at T;refine aB T (aw n) (ai _ _) (aj _ _) ?_;refine Tr.af (fun h0=>?_) wJ;refine Tr.ae wG (Tr.ae wG (Tr.ae wG ?_));refine Tr.af (fun q=>Tr.ah ?_) (fun q=>Tr.ah ?_)
   · rw[if_pos q];rfl
   · rw[if_neg (by rw[q];decide)];exact ⟨rfl,rfl⟩
 · obtain ⟨x,h1,rfl⟩:=aB (Q:=fun x=>x=(.exit 0,DJ a b (Int.ofNat lb)++[(12,.bool false)],gi dr lc zc lb zb::H)) (t79 n dr lc zc lb zb H a b (Int.ofNat lb)) (aw n) (ai _ _) (aj _ _) (by
    refine Tr.af wJ (fun h0=>Tr.ah rfl))
   exact h1
theorem wz {c:Nat} (hc:0<c) (hm:lb≤1000):(jV aH 79 (Pz (bG dr lc zc lb zb) (rI lb zb))).Ok (cd c):=by
 obtain ⟨m,rfl⟩:∃ m,c=m+1:=⟨c-1,by omega⟩
 refine lV (bj _) (fun args p v hg hp H=>?_);unfold Pz at hg;split at hg
 · simp only[nP] at hg;obtain ⟨rfl,rfl⟩:=hg;rw[hp];exact Ux m dr lc zc lb zb H _ _ hm
 · cases hg
def dj (p:Nat→Bool) (j:Nat):Int:=if p j=true then 1 else 0
def ui (lc lb:Nat) (zb:Nat→Int) (b:Nat→Nat) (t a j:Nat):Bool:=decide (j<lc) && dx (fun a'=>bO lc b t a' && rI lb zb a' j) a
def uj (lc lb:Nat) (zb:Nat→Int) (b:Nat→Nat) (t a c j:Nat):Bool:=ui lc lb zb b t a j || (decide (j<c) && (bO lc b t a && rI lb zb a j))
theorem JU (b:Nat→Nat) (t:Nat):dj (ui lc lb zb b t 0)=fun _=>Int.ofNat 0:=by
 funext j;unfold dj ui;rw[if_neg]
 · rfl
 · intro h;rw[Bool.and_eq_true] at h;obtain ⟨i,hi,_⟩:=(cP _ _).1 h.2;omega
theorem JV (b:Nat→Nat) (t a:Nat):uj lc lb zb b t a 0=ui lc lb zb b t a:=by
 funext j;unfold uj;simp
theorem CJ (b:Nat→Nat) (t a:Nat):uj lc lb zb b t a lc=ui lc lb zb b t (a+1):=by
 funext j;unfold uj ui;have e:dx (fun a'=>bO lc b t a' && rI lb zb a' j) (a+1)=(dx (fun a'=>bO lc b t a' && rI lb zb a' j) a || (bO lc b t a && rI lb zb a j)):=by
  rw[Bool.eq_iff_iff,Bool.or_eq_true,cP,cP];constructor
  · rintro ⟨i,h1,h2⟩;by_cases e:i=a
    · subst e;exact .inr h2
    · exact .inl ⟨i,by omega,h2⟩
  · rintro (⟨i,h1,h2⟩ | h)
    · exact ⟨i,by omega,h2⟩
    · exact ⟨a,by omega,h⟩
 rw[e];cases decide (j<lc)<;>simp
theorem Gh {b:Nat→Nat} (hb:b=fun c=>gY zb c lb) (hp:iq lc lb zb) (t:Nat):ui lc lb zb b t lc=bO lc b (t+1):=by
 funext j;rw[Bool.eq_iff_iff,gn];unfold ui rI;rw[Bool.and_eq_true,decide_eq_true_iff,cP];subst hb;constructor
 · rintro ⟨h1,a,h2,h3⟩;rw[Bool.and_eq_true,cP] at h3;obtain ⟨h3,i,hi,h4⟩:=h3;unfold gZ at h4;rw[Bool.and_eq_true,decide_eq_true_iff,decide_eq_true_iff] at h4;exact ⟨h1,a,h3,(mH zb j a lb (fun i hi=>(hp i hi).1.1)).2 ⟨i,hi,h4.1.symm,h4.2.symm⟩⟩
 · rintro ⟨h1,a,h2,h3⟩;obtain ⟨i,hi,h4,h5⟩:=(mH zb j a lb (fun i hi=>(hp i hi).1.1)).1 h3;refine ⟨h1,a,nv h2,?_⟩;rw[Bool.and_eq_true,cP];exact ⟨h2,i,hi,by unfold gZ;rw[Bool.and_eq_true,decide_eq_true_iff,decide_eq_true_iff];exact ⟨h4.symm,h5.symm⟩⟩
theorem CK (b:Nat→Nat) (t a c:Nat) (h:(bO lc b t a && rI lb zb a c)=true):eg (dj (uj lc lb zb b t a c)) c (Int.ofNat 1)=dj (uj lc lb zb b t a (c+1)):=by
 rw[jH];funext j;unfold dj uj;by_cases e:j=c
 · subst e;rw[if_pos rfl,h,decide_eq_true (by omega)];rw[if_pos (by simp)];rfl
 · rw[if_neg e];by_cases h2:j<c
   · rw[decide_eq_true h2,decide_eq_true (by omega)]
   · rw[decide_eq_false h2,decide_eq_false (by omega)]
theorem rE (b:Nat→Nat) (t a c:Nat) (h:(bO lc b t a && rI lb zb a c)=false):uj lc lb zb b t a (c+1)=uj lc lb zb b t a c:=by
 funext j;unfold uj;by_cases e:j=c
 · subst e;rw[h];simp
 · by_cases h2:j<c
   · rw[decide_eq_true h2,decide_eq_true (by omega)]
   · rw[decide_eq_false h2,decide_eq_false (by omega)]
theorem A9 (p:Nat→Bool) (j:Nat):bw (dj p j) (Int.ofNat 1)=p j:=by
 rw[bm];unfold dj;cases p j<;>rfl
end
end Go.Eng
end
section
namespace Go.Eng
open Go.Proofs Go.Eng.Gall
noncomputable def LL (lc:Nat):Nat:=bX (Int.ofNat lc)
theorem BL (lc:Nat):LL lc=lc:=by unfold LL;rw[jU];rfl
theorem MI (n:Nat) (dr:Int) (lc L:Nat) (zc:Nat→Int) (lb:Nat) (zb:Nat→Int) (H:aa) (y x:Nat→Int) (t a:Int):aJ (bP n 64 66) (il aH n 0) (fC aS 6) aR (part Tryd.f64 [1,1,1,1,0,1,0,0,1,0,0,1,0,1,0,0]) (hints (lZ 1 lc L t a)) (eQ dr lc zc lb zb [cA L y,cA L x]::H) =
 Tr.ite (bH a (Int.ofNat lc)) Tr.bad (Tr.ok (Ex.exit 4,[(1,AV.ptr 0 0 0 0,none),(3,iI lc,none),(4,AV.slc 0 1 0 0 1 L (some L),none),(6,AV.int .i64 t,none),(7,AV.slc 0 2 0 0 1 L (some L),none),(8,AV.int .i64 a,none),(33,AV.bool false,some 1)],(bC [(0,eV dr lc zc lb zb),(0,an.row (rM y L)),(0,an.row (rM x L))])::H)):=by kernel_rfl
theorem MJ (n:Nat) (dr:Int) (lc L:Nat) (zc:Nat→Int) (lb:Nat) (zb:Nat→Int) (H:aa) (g:Nat→Int) (y x:Nat→Int) (t a:Int):aJ (bP n 64 66) (il aH n 0) (fC aS 6) aR (part Tryd.f64 [1,1,1,1,0,1,0,0,1,0,0,1,0,1,0,0]) (hints (lZ 2 lc L t a)) (eQ dr lc zc lb zb [cA L g,cA L y,cA L x]::H) =
 Tr.ite (bH a (Int.ofNat lc)) Tr.bad (Tr.ok (Ex.exit 4,[(1,AV.ptr 0 0 0 0,none),(3,iI lc,none),(4,AV.slc 0 2 0 0 1 L (some L),none),(6,AV.int .i64 t,none),(7,AV.slc 0 3 0 0 1 L (some L),none),(8,AV.int .i64 a,none),(33,AV.bool false,some 1)],(bC [(0,eV dr lc zc lb zb),(0,an.row (rM g L)),(0,an.row (rM y L)),(0,an.row (rM x L))])::H)):=by kernel_rfl
theorem MK (n:Nat) (dr:Int) (lc L:Nat) (zc:Nat→Int) (lb:Nat) (zb:Nat→Int) (H:aa) (g:Nat→Int) (y:Nat→Int) (t:Int):aJ (bP n 64 66) (il aH n 0) (fC aS 4) aR (part Tryd.f64 [1,1,1,1,0,1,0,0]) (hints (m8 2 lc L 6 t)) (eQ dr lc zc lb zb [cA L g,cA L y]::H) =
 Tr.ite (bH t (Int.ofNat lc)) (Tr.req (CC (Int.ofNat lc) (Int.ofNat lc) 8) Tr.bad) (Tr.ok (Ex.exit 2,[(1,AV.ptr 0 0 0 0,none),(3,iI lc,none),(4,AV.slc 0 2 0 0 1 L (some L),none),(6,AV.int .i64 t,none),(26,AV.bool false,some 1)],(bC [(0,eV dr lc zc lb zb),(0,an.row (rM g L)),(0,an.row (rM y L))])::H)):=by kernel_rfl
section
variable (n:Nat) (dr:Int) (lc:Nat) (zc:Nat→Int) (lb:Nat) (zb:Nat→Int) (b:Nat→Nat) (H:aa)
theorem Wi (t a:Nat) (hl:lc≤10) (hb:lb≤1000) (ha:a<lc) (ti:Int):exec (bP (n+1) 64 66) (.block 6 (.loop (part Tryd.f64 [1,1,1,1,0,1,0,0,1,0,0,1,0,1,0,0,1,0,0,1,0,0]))) (oW 1 lc (LL lc) ti (a:Int) (Int.ofNat 0)) (eQ dr lc zc lb zb [cA (LL lc) (dj (bO lc b t)),cA (LL lc) (dj (uj lc lb zb b t a 0))]::H) =
 some (.normal,oW 1 lc (LL lc) ti (a:Int) (Int.ofNat lc)++[(38,.bool false)],eQ dr lc zc lb zb [cA (LL lc) (dj (bO lc b t)),cA (LL lc) (dj (uj lc lb zb b t a lc))]::H):=by
 have eL:=BL lc
 refine jM (n:=n+1) (f:=64) (nt:=66) (c:=part Tryd.f64 [1,1,1,1,0,1,0,0,1,0,0,1,0,1,0,0,1,0,0,1,0,0]) 6 (fun c=>oW 1 lc (LL lc) ti (a:Int) (c:Int)) (fun c=>eQ dr lc zc lb zb [cA (LL lc) (dj (bO lc b t)),cA (LL lc) (dj (uj lc lb zb b t a c))]::H) lc (_,_) (by omega) (fun c hc=>?_) ?_
 · have ec:a6 .i64 (c:Int) (Int.ofNat 1)=((c+1:Nat):Int):=eN (by omega)
   have T:=J8 (n+1) dr lc (LL lc) zc lb zb H (dj (bO lc b t)) (dj (uj lc lb zb b t a c)) (rI lb zb) ti (a:Int) (c:Int)
   rw[Aj,Aj,ec,A9] at T
   refine aB T (bM _ _ (wz dr lc zc lb zb (by omega) hb)) (ai _ _) (aj _ _) ?_
   refine Tr.af (fun h0=>?_) wJ
   refine Tr.ae (by rw[eL];simp (disch:=omega) only[nV,nW];omega) (Tr.ae wG (Tr.ae (by rw[eL];simp (disch:=omega) only[nV,nW];omega) (Tr.af (fun q=>?_) (fun q=>?_))))
   · refine Tr.al rfl (Tr.af (fun r=>?_) (fun r=>?_))
     · refine Tr.ae (by rw[eL];simp (disch:=omega) only[nV,nW];omega) (Tr.ae wG (Tr.ae (by rw[eL];simp (disch:=omega) only[nV,nW];omega) (Tr.ah ⟨rfl,?_⟩)))
       rw[CK lc lb zb b t a c (by rw[q,r];rfl)];rfl
     · refine Tr.ah ⟨rfl,?_⟩
       rw[rE lc lb zb b t a c (by rw[q,r];rfl)];rfl
   · refine Tr.ah ⟨rfl,?_⟩
     rw[rE lc lb zb b t a c (by rw[q];rfl)];rfl
 · obtain ⟨x,h1,rfl⟩:=aB (Q:=fun x=>x=(.exit 6,oW 1 lc (LL lc) ti (a:Int) (Int.ofNat lc)++[(38,.bool false)],eQ dr lc zc lb zb [cA (LL lc) (dj (bO lc b t)),cA (LL lc) (dj (uj lc lb zb b t a lc))]::H)) (J8 (n+1) dr lc (LL lc) zc lb zb H (dj (bO lc b t)) (dj (uj lc lb zb b t a lc)) (rI lb zb) ti (a:Int) (Int.ofNat lc)) (bM _ _ (wz dr lc zc lb zb (by omega) hb)) (ai _ _) (aj _ _) (by
    refine Tr.af wJ (fun h0=>Tr.ah rfl))
   exact h1
theorem Wg (t:Nat) (hl:lc≤10) (hb:lb≤1000) (ti:Int):exec (bP (n+1) 64 66) (.block 4 (.loop (part Tryd.f64 [1,1,1,1,0,1,0,0,1,0,0,1,0,1,0,0]))) (lZ 1 lc (LL lc) ti (Int.ofNat 0)) (eQ dr lc zc lb zb [cA (LL lc) (dj (bO lc b t)),cA (LL lc) (dj (ui lc lb zb b t 0))]::H) =
 some (.normal,lZ 1 lc (LL lc) ti (Int.ofNat lc)++[(33,.bool false)],eQ dr lc zc lb zb [cA (LL lc) (dj (bO lc b t)),cA (LL lc) (dj (ui lc lb zb b t lc))]::H):=by
 refine jM (n:=n+1) (f:=64) (nt:=66) (c:=part Tryd.f64 [1,1,1,1,0,1,0,0,1,0,0,1,0,1,0,0]) 4 (fun a=>lZ 1 lc (LL lc) ti (a:Int)) (fun a=>eQ dr lc zc lb zb [cA (LL lc) (dj (bO lc b t)),cA (LL lc) (dj (ui lc lb zb b t a))]::H) lc (_,_) (by omega) (fun a ha=>?_) ?_
 · have ec:a6 .i64 (a:Int) (Int.ofNat 1)=((a+1:Nat):Int):=eN (by omega)
   have hC:=Wi n dr lc zc lb zb b H t a hl hb ha ti
   rw[JV,CJ] at hC
   have T:=O4 (n+1) dr lc (LL lc) zc lb zb H (dj (bO lc b t)) (dj (ui lc lb zb b t a)) (dj (ui lc lb zb b t (a+1))) ti (a:Int)
   rw[ec] at T
   refine aB T (aw _) (a8 (ai _ _) JA (fun x h=>by rw[← Tr.ab h];simp only[eC.st,aP];exact hC)) (aj _ _) ?_
   refine Tr.af (fun h0=>Tr.al ⟨rfl,rfl⟩ (Tr.ah ⟨rfl,rfl⟩)) wJ
 · obtain ⟨x,h1,rfl⟩:=aB (Q:=fun x=>x=(.exit 4,lZ 1 lc (LL lc) ti (Int.ofNat lc)++[(33,.bool false)],eQ dr lc zc lb zb [cA (LL lc) (dj (bO lc b t)),cA (LL lc) (dj (ui lc lb zb b t lc))]::H)) (MI (n+1) dr lc (LL lc) zc lb zb H (dj (bO lc b t)) (dj (ui lc lb zb b t lc)) ti (Int.ofNat lc)) (aw _) (cD (ai _ _) 6) (aj _ _) (by
    refine Tr.af wJ (fun h0=>Tr.ah rfl))
   exact h1
theorem Wj (g:Nat→Int) (t a:Nat) (hl:lc≤10) (hb:lb≤1000) (ha:a<lc) (ti:Int):exec (bP (n+1) 64 66) (.block 6 (.loop (part Tryd.f64 [1,1,1,1,0,1,0,0,1,0,0,1,0,1,0,0,1,0,0,1,0,0]))) (oW 2 lc (LL lc) ti (a:Int) (Int.ofNat 0)) (eQ dr lc zc lb zb [cA (LL lc) g,cA (LL lc) (dj (bO lc b t)),cA (LL lc) (dj (uj lc lb zb b t a 0))]::H) =
 some (.normal,oW 2 lc (LL lc) ti (a:Int) (Int.ofNat lc)++[(38,.bool false)],eQ dr lc zc lb zb [cA (LL lc) g,cA (LL lc) (dj (bO lc b t)),cA (LL lc) (dj (uj lc lb zb b t a lc))]::H):=by
 have eL:=BL lc
 refine jM (n:=n+1) (f:=64) (nt:=66) (c:=part Tryd.f64 [1,1,1,1,0,1,0,0,1,0,0,1,0,1,0,0,1,0,0,1,0,0]) 6 (fun c=>oW 2 lc (LL lc) ti (a:Int) (c:Int)) (fun c=>eQ dr lc zc lb zb [cA (LL lc) g,cA (LL lc) (dj (bO lc b t)),cA (LL lc) (dj (uj lc lb zb b t a c))]::H) lc (_,_) (by omega) (fun c hc=>?_) ?_
 · have ec:a6 .i64 (c:Int) (Int.ofNat 1)=((c+1:Nat):Int):=eN (by omega)
   have T:=J9 (n+1) dr lc (LL lc) zc lb zb H g (dj (bO lc b t)) (dj (uj lc lb zb b t a c)) (rI lb zb) ti (a:Int) (c:Int)
   rw[Aj,Aj,ec,A9] at T
   refine aB T (bM _ _ (wz dr lc zc lb zb (by omega) hb)) (ai _ _) (aj _ _) ?_
   refine Tr.af (fun h0=>?_) wJ
   refine Tr.ae (by rw[eL];simp (disch:=omega) only[nV,nW];omega) (Tr.ae wG (Tr.ae (by rw[eL];simp (disch:=omega) only[nV,nW];omega) (Tr.af (fun q=>?_) (fun q=>?_))))
   · refine Tr.al rfl (Tr.af (fun r=>?_) (fun r=>?_))
     · refine Tr.ae (by rw[eL];simp (disch:=omega) only[nV,nW];omega) (Tr.ae wG (Tr.ae (by rw[eL];simp (disch:=omega) only[nV,nW];omega) (Tr.ah ⟨rfl,?_⟩)))
       rw[CK lc lb zb b t a c (by rw[q,r];rfl)];rfl
     · refine Tr.ah ⟨rfl,?_⟩
       rw[rE lc lb zb b t a c (by rw[q,r];rfl)];rfl
   · refine Tr.ah ⟨rfl,?_⟩
     rw[rE lc lb zb b t a c (by rw[q];rfl)];rfl
 · obtain ⟨x,h1,rfl⟩:=aB (Q:=fun x=>x=(.exit 6,oW 2 lc (LL lc) ti (a:Int) (Int.ofNat lc)++[(38,.bool false)],eQ dr lc zc lb zb [cA (LL lc) g,cA (LL lc) (dj (bO lc b t)),cA (LL lc) (dj (uj lc lb zb b t a lc))]::H)) (J9 (n+1) dr lc (LL lc) zc lb zb H g (dj (bO lc b t)) (dj (uj lc lb zb b t a lc)) (rI lb zb) ti (a:Int) (Int.ofNat lc)) (bM _ _ (wz dr lc zc lb zb (by omega) hb)) (ai _ _) (aj _ _) (by
    refine Tr.af wJ (fun h0=>Tr.ah rfl))
   exact h1
theorem Wh (g:Nat→Int) (t:Nat) (hl:lc≤10) (hb:lb≤1000) (ti:Int):exec (bP (n+1) 64 66) (.block 4 (.loop (part Tryd.f64 [1,1,1,1,0,1,0,0,1,0,0,1,0,1,0,0]))) (lZ 2 lc (LL lc) ti (Int.ofNat 0)) (eQ dr lc zc lb zb [cA (LL lc) g,cA (LL lc) (dj (bO lc b t)),cA (LL lc) (dj (ui lc lb zb b t 0))]::H) =
 some (.normal,lZ 2 lc (LL lc) ti (Int.ofNat lc)++[(33,.bool false)],eQ dr lc zc lb zb [cA (LL lc) g,cA (LL lc) (dj (bO lc b t)),cA (LL lc) (dj (ui lc lb zb b t lc))]::H):=by
 refine jM (n:=n+1) (f:=64) (nt:=66) (c:=part Tryd.f64 [1,1,1,1,0,1,0,0,1,0,0,1,0,1,0,0]) 4 (fun a=>lZ 2 lc (LL lc) ti (a:Int)) (fun a=>eQ dr lc zc lb zb [cA (LL lc) g,cA (LL lc) (dj (bO lc b t)),cA (LL lc) (dj (ui lc lb zb b t a))]::H) lc (_,_) (by omega) (fun a ha=>?_) ?_
 · have ec:a6 .i64 (a:Int) (Int.ofNat 1)=((a+1:Nat):Int):=eN (by omega)
   have hC:=Wj n dr lc zc lb zb b H g t a hl hb ha ti
   rw[JV,CJ] at hC
   have T:=O5 (n+1) dr lc (LL lc) zc lb zb H g (dj (bO lc b t)) (dj (ui lc lb zb b t a)) (dj (ui lc lb zb b t (a+1))) ti (a:Int)
   rw[ec] at T
   refine aB T (aw _) (a8 (ai _ _) JA (fun x h=>by rw[← Tr.ab h];simp only[eC.st,aP];exact hC)) (aj _ _) ?_
   refine Tr.af (fun h0=>Tr.al ⟨rfl,rfl⟩ (Tr.ah ⟨rfl,rfl⟩)) wJ
 · obtain ⟨x,h1,rfl⟩:=aB (Q:=fun x=>x=(.exit 4,lZ 2 lc (LL lc) ti (Int.ofNat lc)++[(33,.bool false)],eQ dr lc zc lb zb [cA (LL lc) g,cA (LL lc) (dj (bO lc b t)),cA (LL lc) (dj (ui lc lb zb b t lc))]::H)) (MJ (n+1) dr lc (LL lc) zc lb zb H g (dj (bO lc b t)) (dj (ui lc lb zb b t lc)) ti (Int.ofNat lc)) (aw _) (cD (ai _ _) 6) (aj _ _) (by
    refine Tr.af wJ (fun h0=>Tr.ah rfl))
   exact h1
end
end Go.Eng
end
