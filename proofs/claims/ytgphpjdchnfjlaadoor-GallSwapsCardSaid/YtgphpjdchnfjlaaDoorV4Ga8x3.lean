/- Gall: CheckList: what it answers. -/
import Derived.Test.YtgphpjdchnfjlaaDoorV4Ga3x5
set_option linter.unusedVariables false
set_option linter.unusedSimpArgs false
set_option maxRecDepth 100000
section
namespace Go.Eng
open Go.Proofs Go.Eng.Gall
theorem wG {c f:Nat} {t:ml} {e:Bool} {C:List AV→Prop} (ht:t.Ok (cd c)) (h:∀ A H,C A→cd c (.fn f) A H=some (.bool e,H)):(l6 t f (gB e C)).Ok (cd c):=by
 refine lg ht (fun args p v hg hp H=>?_)
 unfold gB at hg
 simp only[nP] at hg
 obtain ⟨rfl,rfl⟩:=hg
 exact h _ H hp
theorem DH {c f:Nat} {t:ml} {S:AV} {C:List AV→Prop} (ht:t.Ok (cd c)) (h:∀ A H,C A→cd c (.fn f) A H=some (S,H)):(l6 t f (fun x=>some (C x,S))).Ok (cd c):=by
 refine lg ht (fun args p v hg hp H=>?_)
 simp only[nP] at hg
 obtain ⟨rfl,rfl⟩:=hg
 exact h _ H hp
def gL (z:Nat→Int) (a b:Int) (i:Nat):Bool:=decide (a=z (i*2)) && decide (b=z (i*2+1))
def gb (lc:Nat) (z:Nat→Int) (j:Nat):Bool:=decide (z (j*2)=z (j*2+1)) || (!(decide (0≤z (j*2)∧z (j*2)<lc) && decide (0≤z (j*2+1)∧z (j*2+1)<lc)) || c5 (gL z (z (j*2)) (z (j*2+1))) j)
def iU (dr:Int) (lc:Nat) (zc:Nat→Int) (lb:Nat) (zb:Nat→Int):Int:=if lc=0∨10<lc∨40<lb then 6 else if dr<1∨100<dr∨c5 (iW zc) lc=true then 3 else if c5 (gb lc zb) lb=true then 2 else if sL lc (fun c=>jb zb c lb)=true then 16 else 0
theorem Pj (n:Nat) (dr:Int) (lc:Nat) (zc:Nat→Int) (lb:Nat) (zb:Nat→Int) (H:aa):bu Tryd.prog (cd (n+10)) 100000 22 Tryd.f22 (KtG.kt 22) (il (jA aV 59 gW) (n+10) 0) (gH bc 1) ba [(cM dr lc zc lb zb,none)] H =
 Tr.ite (bz (cr (cr (eh (Int.ofNat 0) (bw .i64 (Int.ofNat lc) (Int.ofNat 1))) (eh (bw .i64 (Int.ofNat lc) (Int.ofNat 1)) (Int.ofNat 9))) true)) (Tr.ok ((AV.int .i64 (Int.ofNat 6),some 1),H)) (Tr.ite (cY (Int.ofNat 40) (Int.ofNat lb)) (Tr.ok ((AV.int .i64 (Int.ofNat 6),some 1),H)) (Tr.ite (bz (cr (cr (eh (Int.ofNat 1) dr) (eh dr (Int.ofNat 100))) true)) (Tr.ok ((AV.int .i64 (Int.ofNat 3),some 1),H)) Tr.bad)):=by kernel_rfl
theorem QQ:∀ b,(0,b) ∈ aI (aY Tryd.f86)→b=.loop (part Tryd.f86 [1,0,1,0,0]):=eX (by kernel_rfl)
theorem QH:∀ b,(1,b) ∈ aI (aY Tryd.f22)→b=.loop (part Tryd.f22 [1,1,1,1,0,1,0,0]):=eX (by kernel_rfl)
section
variable (n:Nat) (m:Nat) (z:Nat→Int) (full:Bool) (a b:Int) (H:aa)
theorem Rc (hm:m≤1000):cd (n+1) (.fn 86) [JU m z full,Kk a b] H=some (.int .i64 (AP (gL z a b) m),H):=by
 have lp:=fF (n:=n) (f:=86) (nt:=19) (c:=part Tryd.f86 [1,0,1,0,0]) 0 (fun j=>B4 m z full (j:Int)) (fun _=>Ht a b::H) m (gL z a b) (fun j=>([(4,.int .i64 (j:Int))],Ht a b::H)) (B4 m z full (Int.ofNat m)++[(9,.bool false)],Ht a b::H) (by omega) (fun j hj=>?_) ?_
 · refine bK (n:=n) Tryd.func86 rfl rfl rfl (TJ n m z full a b H ((fN (gL z a b) m 0:Nat):Int) (c5 (gL z a b) m)) (aJ n) (br (ak _ _) QQ (fun x hx=>cC hx lp)) (al _ _) ?_
   refine Tr.aj ⟨rfl,rfl⟩ (Tr.ae (fun hc=>Tr.ah ⟨?_,rfl⟩) (fun hc=>Tr.ah ⟨?_,rfl⟩))
   · unfold AP;rw[if_pos hc]
   · unfold AP;rw[if_neg (by rw[hc];decide)];rfl
 · have ej:bf .i64 (j:Int) (Int.ofNat 1)=((j+1:Nat):Int):=ft (by omega)
   have ei:aM 0 (j:Int) 2=j*2:=by rw[cG];omega
   have hp:cr (cK a (z (j*2))) (cK b (z (j*2+1)))=gL z a b j:=by
    rw[bV,aZ,aZ];unfold gL
    rw[Bool.eq_iff_iff];simp
   have T:=t86 n m z full a b H (j:Int)
   rw[ei,a6,ej,hp] at T
   refine aR T (aJ n) (ak _ _) (al _ _) ?_
   refine Tr.ae (fun h0=>?_) (fun h0=>by simp (disch:=omega) only[nV,nW] at h0;omega)
   refine Tr.ag (by simp (disch:=omega) only[nV,nW];omega) (Tr.ag (by simp (disch:=omega) only[nV,nW];omega) (Tr.ag (by simp (disch:=omega) only[nV,nW];omega) ?_))
   refine Tr.ae (fun q=>Tr.ah ?_) (fun q=>Tr.ah ?_)
   · rw[if_pos q];rfl
   · rw[if_neg (by rw[q];decide)];exact ⟨rfl,rfl⟩
 · obtain ⟨x,h1,rfl⟩:=aR (Q:=fun x=>x=(.exit 0,B4 m z full (Int.ofNat m)++[(9,.bool false)],Ht a b::H)) (t86 n m z full a b H (Int.ofNat m)) (aJ n) (ak _ _) (al _ _) (by
    refine Tr.ae (fun h0=>by simp (disch:=omega) only[nV,nW] at h0;omega) (fun h0=>Tr.ah rfl))
   exact h1
theorem Q2 (hm:m≤1000):cd (n+2) (.fn 61) [JU m z full,Kk a b] H=some (.bool (c5 (gL z a b) m),H):=by
 have h:=fun H=>Rc n m z full a b H hm
 refine bK (n:=n+1) Tryd.func61 rfl rfl rfl (Tw (n+1) m z full a b H (AP (gL z a b) m)) (bS _ (n+1) (eg (bx _) h)) (ak _ _) (al _ _) ?_
 refine Tr.aj rfl (Tr.ah ⟨?_,rfl⟩)
 rw[zu]
end
section
variable (n:Nat) (dr:Int) (lc:Nat) (zc:Nat→Int) (lb:Nat) (zb:Nat→Int) (H:aa)
noncomputable def N9 (a b:Int):bH:={ DY dr lc zc lb zb with bs:=(DY dr lc zc lb zb).bs++[(0,.row (.I .i64 [a,b])),(0,.dead)] }
noncomputable def Lq (a b:Int):bH:={ DY dr lc zc lb zb with bs:=(DY dr lc zc lb zb).bs++[(0,.row (.I .i64 [a,b])),(0,.row (.I .i64 [a,b]))] }
noncomputable def Kh (j:Nat):bH:=if zb (j*2)=zb (j*2+1) then N9 dr lc zc lb zb (zb (j*2)) (zb (j*2+1)) else Lq dr lc zc lb zb (zb (j*2)) (zb (j*2+1))
theorem SQ (h1:1≤lc) (hl:lc≤10) (hb:lb≤40):exec (b5 (n+10) 22 69) (.block 1 (.loop (part Tryd.f22 [1,1,1,1,0,1,0,0]))) (zi lc lb zb (Int.ofNat 0)) (DY dr lc zc lb zb::H) =
 some (cond (c5 (gb lc zb) lb) (.ret,[(2,.int .i64 2)],Kh dr lc zc lb zb (fN (gb lc zb) lb 0)::H) (.normal,zi lc lb zb (Int.ofNat lb)++[(38,.bool false)],DY dr lc zc lb zb::H)):=by
 have s3:bw .i64 (Int.ofNat lc) (Int.ofNat 1)=(lc:Int)-1:=by rw[dG];exact gY (by show -9223372036854775808≤(lc:Int)-1;omega) (by show (lc:Int)-1≤_;omega)
 refine fF (n:=n+10) (f:=22) (nt:=69) (c:=part Tryd.f22 [1,1,1,1,0,1,0,0]) 1 (fun j=>zi lc lb zb (j:Int)) (fun _=>DY dr lc zc lb zb::H) lb (gb lc zb) (fun j=>([(2,.int .i64 2)],Kh dr lc zc lb zb j::H)) (_,_) (by omega) (fun j hj=>?_) ?_
 · have ej:bf .i64 (j:Int) (Int.ofNat 1)=((j+1:Nat):Int):=ft (by omega)
   have ei:aM 0 (j:Int) 2=j*2:=by rw[cG];omega
   have et:b8 (j:Int)=j:=by rw[lW];omega
   have hin:bz (cr (cr (eh (Int.ofNat 0) (zb (j*2))) (eh (zb (j*2)) (bw .i64 (Int.ofNat lc) (Int.ofNat 1)))) (cr (cr (eh (Int.ofNat 0) (zb (j*2+1))) (eh (zb (j*2+1)) (bw .i64 (Int.ofNat lc) (Int.ofNat 1)))) true))=!(decide (0≤zb (j*2)∧zb (j*2)<lc) && decide (0≤zb (j*2+1)∧zb (j*2+1)<lc)):=by
    rw[s3,aG,bV,bV,bV,bV,bC,bC,bC,bC]
    rw[Bool.eq_iff_iff]
    simp
    omega
   have T:=t22 n dr lc zc lb zb H (j:Int) (c5 (gL zb (zb (j*2)) (zb (j*2+1))) j) (fun A=>A=[JU j zb (cr false (eO j lb)),Kk (zb (j*2)) (zb (j*2+1))])
   rw[ei,a6,ej,et] at T
   rw[hin] at T
   refine aR T (bS _ _ (by
    rw[show n+10=n+4+6 by omega]
    refine wH (n:=n+4) (wG (bx _) (fun A H hA=>?_))
    subst hA
    rw[show n+4+6=n+8+2 by omega]
    exact Q2 (n+8) j zb _ _ _ H (by omega))) (ak _ _) (al _ _) ?_
   refine Tr.ae (fun h0=>?_) (fun h0=>by simp (disch:=omega) only[nV,nW] at h0;omega)
   refine Tr.ag (by simp (disch:=omega) only[nV,nW];omega) (Tr.ag (by simp (disch:=omega) only[nV,nW];omega) (Tr.ag (by simp (disch:=omega) only[nV,nW];omega) (Tr.ag (by simp (disch:=omega) only[nV,nW];omega) (Tr.ag (by simp (disch:=omega) only[nV,nW];omega) ?_))))
   refine Tr.ae (fun q=>?_) (fun q=>?_)
   · have q:zb (j*2)=zb (j*2+1):=by rw[aZ,beq_iff_eq] at q;exact q
     refine Tr.ah ?_
     rw[if_pos (by unfold gb;rw[decide_eq_true q];rfl)]
     unfold Kh;rw[if_pos q];rfl
   · have q:¬ zb (j*2)=zb (j*2+1):=by rw[aZ,beq_eq_false_iff_ne] at q;exact q
     have hX:Kh dr lc zc lb zb j=Lq dr lc zc lb zb (zb (j*2)) (zb (j*2+1)):=by unfold Kh;rw[if_neg q]
     refine Tr.ag (by simp (disch:=omega) only[nV,nW];omega) (Tr.ag (by simp (disch:=omega) only[nV,nW];omega) (Tr.ae (fun r=>?_) (fun r=>?_)))
     · refine Tr.ah ?_
       rw[if_pos (by unfold gb;rw[r];simp),hX];rfl
     · refine Tr.ag (by simp (disch:=omega) only[nV,nW];omega) (Tr.ag (by simp (disch:=omega) only[nV,nW];omega) (Tr.aj rfl (Tr.ae (fun u=>?_) (fun u=>?_))))
       · refine Tr.ah ?_
         rw[if_pos (by unfold gb;rw[u];simp),hX];rfl
       · refine Tr.ah ?_
         rw[if_neg (by unfold gb;rw[u,r,decide_eq_false q];simp)]
         exact ⟨rfl,rfl⟩
 · obtain ⟨x,h1,rfl⟩:=aR (Q:=fun x=>x=(.exit 1,zi lc lb zb (Int.ofNat lb)++[(38,.bool false)],DY dr lc zc lb zb::H)) (t22 n dr lc zc lb zb H (Int.ofNat lb) true (fun A=>False)) (bS _ _ (by
    rw[show n+10=n+4+6 by omega]
    exact wH (n:=n+4) (wG (bx _) (fun A H hA=>hA.elim)))) (ak _ _) (al _ _) (by
    refine Tr.ae (fun h0=>by simp (disch:=omega) only[nV,nW] at h0;omega) (fun h0=>Tr.ah rfl))
   exact h1
theorem oJ {lc lb:Nat} {zb:Nat→Int} (h:c5 (gb lc zb) lb=false):fz lc lb zb:=fun j hj=>by
 have:=nQ h j hj
 unfold gb at this
 simp only[Bool.or_eq_false_iff,Bool.not_eq_false',Bool.and_eq_true,decide_eq_true_eq] at this
 exact ⟨this.2.1.1,this.2.1.2⟩
theorem QW (hl:lc≤1000) (hb:lb≤1000):cd (n+11) (.fn 22) [cM dr lc zc lb zb] H=some (.int .i64 (iU dr lc zc lb zb),H):=by
 have s3:bw .i64 (Int.ofNat lc) (Int.ofNat 1)=(lc:Int)-1:=by rw[dG];exact gY (by show -9223372036854775808≤(lc:Int)-1;omega) (by show (lc:Int)-1≤_;omega)
 have hv:=fun h:c5 (iW zc) lc=false=>(nQ h:v7 lc zc)
 have ht:(l6 (l6 (jA (l6 aV 60 (gB (c5 (iW zc) lc) (fun A=>A=[slA 4 lc zc,.fn (.func 58) [] []]))) 59 gW) 62 (fun x=>some (x=[cM dr lc zc lb zb]∧(lc≤10∧(1≤dr∧dr≤100)∧v7 lc zc∧fz lc lb zb),Kl dr lc zc lb zb))) 63 (gB (sL lc (fun c=>jb zb c lb)) (fun A=>A=[Kl dr lc zc lb zb]∧(lc≤10∧fz lc lb zb)))).Ok (cd (n+10)):=by
  refine wG (DH ?_ (fun A H hA=>?_)) (fun A H hA=>?_)
  · rw[show n+10=n+4+6 by omega]
    refine wH (n:=n+4) (wG (bx _) (fun A H hA=>?_))
    subst hA
    rw[show n+4+6=n+10 by omega]
    exact Q1 n lc zc H hl
  · obtain ⟨rfl,a1,a2,a3,a4⟩:=hA
    rw[show n+10=n+3+7 by omega]
    exact MU (n+3) dr lc zc lb zb H a1 hb a2 a3 a4
  · obtain ⟨rfl,a1,a4⟩:=hA
    rw[show n+10=n+8+2 by omega]
    exact Q3 (n+8) dr lc zc lb zb (dg dr lc zc) (fun c=>jb zb c lb) H a1 (fun c _=>Nat.lt_of_lt_of_le (uN zb c lc lb (fun i hi=>(a4 i hi).1)) (Nat.pow_le_pow_right (by decide) (by omega)))
 by_cases k0:1≤lc∧lc≤10∧lb≤40
 · obtain ⟨k1,k2,k3⟩:=k0
   refine bK (n:=n+10) Tryd.func22 rfl rfl rfl (To n dr lc zc lb zb H (Kh dr lc zc lb zb (fN (gb lc zb) lb 0)) (c5 (iW zc) lc) (sL lc (fun c=>jb zb c lb)) (c5 (gb lc zb) lb) (fun A=>A=[slA 4 lc zc,.fn (.func 58) [] []]) (fun A=>A=[cM dr lc zc lb zb]∧(lc≤10∧(1≤dr∧dr≤100)∧v7 lc zc∧fz lc lb zb)) (fun A=>A=[Kl dr lc zc lb zb]∧(lc≤10∧fz lc lb zb)) (Kl dr lc zc lb zb)) (bS _ _ ht) (br (ak _ _) QH (fun y h=>cC h (SQ n dr lc zc lb zb H k1 k2 k3))) (al _ _) ?_
   have hG:iU dr lc zc lb zb=if dr<1∨100<dr∨c5 (iW zc) lc=true then 3 else if c5 (gb lc zb) lb=true then 2 else if sL lc (fun c=>jb zb c lb)=true then 16 else 0:=by unfold iU;rw[if_neg (by omega)]
   rw[hG,s3]
   refine Tr.ae (fun q=>?_) (fun q=>?_)
   · exfalso
     rw[aG,bV,bV,bC,bC] at q
     simp at q
     omega
   refine Tr.ae (fun q=>by exfalso;simp (disch:=omega) only[nV,nW] at q;omega) (fun q=>?_)
   refine Tr.ae (fun q=>?_) (fun q=>?_)
   · rw[aG,bV,bV,bC,bC] at q
     simp at q
     rw[if_pos (by omega)]
     exact Tr.ah ⟨rfl,rfl⟩
   · rw[aG,bV,bV,bC,bC] at q
     simp at q
     refine Tr.aj rfl (Tr.ae (fun r=>?_) (fun r=>?_))
     · rw[if_pos (.inr (.inr r))]
       exact Tr.ah ⟨rfl,rfl⟩
     · rw[if_neg (by rintro (h | h | h);omega;omega;rw[r] at h;cases h)]
       refine Tr.aj ⟨by rw[← s3],by rw[← s3]⟩ (Tr.ae (fun u=>?_) (fun u=>?_))
       · rw[if_pos u]
         exact Tr.ah ⟨rfl,rfl⟩
       · rw[if_neg (by rw[u];decide)]
         refine Tr.aj ⟨rfl,k2,by omega,hv r,oJ u⟩ (Tr.aj ⟨rfl,k2,oJ u⟩ (Tr.ae (fun w=>?_) (fun w=>?_)))
         · rw[if_pos w];exact Tr.ah ⟨rfl,rfl⟩
         · rw[if_neg (by rw[w];decide)];exact Tr.ah ⟨rfl,rfl⟩
 · refine bK (n:=n+10) Tryd.func22 rfl rfl rfl (Pj n dr lc zc lb zb H) (bS _ _ (by
    rw[show n+10=n+4+6 by omega]
    exact wH (n:=n+4) (bx _))) (cW (ak _ _) 1) (al _ _) ?_
   have hG:iU dr lc zc lb zb=6:=by unfold iU;rw[if_pos (by omega)]
   rw[hG,s3]
   refine Tr.ae (fun q=>Tr.ah ⟨rfl,rfl⟩) (fun q=>?_)
   refine Tr.ae (fun q=>Tr.ah ⟨rfl,rfl⟩) (fun q2=>?_)
   exfalso
   rw[aG,bV,bV,bC,bC] at q
   simp at q
   simp (disch:=omega) only[nV,nW] at q2
   omega
end
end Go.Eng
end
section
namespace Go.Eng
open Go.Proofs
noncomputable def cO (dr:Int) (lc:Nat) (zc:Nat→Int) (lb:Nat) (zb:Nat→Int):bH:=⟨false,[(0,.row (.G [.int .i64 dr,slA 4 lc zc,slA 2 lb zb]))]⟩
noncomputable def BZ (a b j:Int):au:=[(1,.int .i64 a),(2,.int .i64 b),(3,.ptr 0 0 0 0),(7,.int .i64 j)]
noncomputable def eB (dr:Int) (lc:Nat) (zc:Nat→Int) (lb:Nat) (zb:Nat→Int) (bs:List (Nat×az)):bH:=⟨false,(0,.row (.G [.int .i64 dr,slA 4 lc zc,slA 2 lb zb]))::bs⟩
noncomputable def b7 (L:Nat) (y:Nat→Int):Nat×az:=(0,.row (.M [.arr .i64 y L]))
noncomputable def mr (i lc L:Nat) (s:Nat) (j:Int):au:=[(1,.ptr 0 0 0 0),(3,.int .i64 (Int.ofNat lc)),(4,.slc 0 i 0 0 1 L (some L)),(s,.int .i64 j)]
noncomputable def zk (lc L:Nat) (j:Int):au:=[(3,.int .i64 (Int.ofNat lc)),(4,.slc 0 2 0 0 1 L (some L)),(10,.int .i64 j)]
noncomputable def ll (i lc L:Nat) (t a:Int):au:=[(1,.ptr 0 0 0 0),(3,.int .i64 (Int.ofNat lc)),(4,.slc 0 i 0 0 1 L (some L)),(6,.int .i64 t),(7,.slc 0 (Nat.succ i) 0 0 1 L (some L)),(8,.int .i64 a)]
noncomputable def nU (i lc L:Nat) (t a c:Int):au:=ll i lc L t a++[(9,.int .i64 c)]
noncomputable def My (A:AV) (P:Int→Int→Bool):List AV→Option (Prop×AV)
 | [B,.int .i64 a,.int .i64 c]=>some (B=A,.bool (P a c))
 | _=>none
theorem t79 (n:Nat) (dr:Int) (lc:Nat) (zc:Nat→Int) (lb:Nat) (zb:Nat→Int) (H:aa) (a b j:Int):aT (b5 n 79 24) (il aV n 0) bc ba (part Tryd.f79 [1,0,1,0,0]) (hints (BZ a b j)) (cO dr lc zc lb zb::H) =
 (fun (Z0:bH)=>Tr.ite (cY j (Int.ofNat lb)) (Tr.req (c7 j lb) (Tr.req (cI (aM 0 j 2) (aw lb 2)) (Tr.req (cI (aF (aM 0 j 2) 1) (aw lb 2)) (Tr.ite (cr (cK (zb (aM 0 j 2)) a) (cK (zb (aF (aM 0 j 2) 1)) b)) (Tr.ok (Ex.ret,[(6,AV.bool true,some 1)],Z0::H)) (Tr.ok (Ex.normal,[(1,AV.int .i64 a,none),(2,AV.int .i64 b,none),(3,AV.ptr 0 0 0 0,none),(7,AV.int .i64 (bf .i64 j (Int.ofNat 1)),none)],Z0::H)))))) (Tr.ok (Ex.exit 0,[(1,AV.int .i64 a,none),(2,AV.int .i64 b,none),(3,AV.ptr 0 0 0 0,none),(7,AV.int .i64 j,none),(12,AV.bool false,some 1)],Z0::H))) { lock:=false,bs:=[(0,az.row (Row.G [AV.int .i64 dr,AV.slcT none (Row.M [aq.arr .i64 zc (aw lc 4)]) 4 lc false,AV.slcT none (Row.M [aq.arr .i64 zb (aw lb 2)]) 2 lb false]))] }:=by kernel_rfl
theorem TF (n:Nat) (dr:Int) (lc:Nat) (zc:Nat→Int) (lb:Nat) (zb:Nat→Int) (H:aa) (a b:Int) (e:Bool):bu Tryd.prog (cd n) 100000 79 Tryd.f79 (KtG.kt 79) (il aV n 0) (dy bc 0 (BZ a b (Int.ofNat 0)) (cO dr lc zc lb zb::H) (.ite e (.ok (.ret,[(6,.bool true,none)],cO dr lc zc lb zb::H)) (.ok (.normal,hints (BZ a b (Int.ofNat lb)++[(12,.bool false)]),cO dr lc zc lb zb::H)))) ba [(cM dr lc zc lb zb,none),(.int .i64 a,none),(.int .i64 b,none)] H =
 (fun (Z0:bH)=>((fun (Z1:au)=>Tr.reqP (Z1=Z1∧Z0::H=Z0::H) (Tr.ite e (Tr.ok ((AV.bool true,none),H)) (Tr.ok ((AV.bool false,some 1),H)))) [(1,AV.int .i64 a),(2,AV.int .i64 b),(3,AV.ptr 0 0 0 0),(7,AV.int .i64 (Int.ofNat 0))])) { lock:=false,bs:=[(0,az.row (Row.G [AV.int .i64 dr,AV.slcT none (Row.M [aq.arr .i64 zc (aw lc 4)]) 4 lc false,AV.slcT none (Row.M [aq.arr .i64 zb (aw lb 2)]) 2 lb false]))] }:=by kernel_rfl
theorem LV (n:Nat) (dr:Int) (lc L:Nat) (zc:Nat→Int) (lb:Nat) (zb:Nat→Int) (H:aa) (y:Nat→Int) (j:Int):aT (b5 n 64 66) (il aV n 0) bc ba (part Tryd.f64 [1,1,1,0,1,0,0]) (hints (mr 1 lc L 5 j)) (eB dr lc zc lb zb [b7 L y]::H) =
 (fun (Z0:Nat×az)=>Tr.ite (cY j (Int.ofNat lc)) (Tr.req (c7 j L) (Tr.req (eO 0 0) (Tr.req (cI (aM 0 j 1) L) (Tr.ok (Ex.normal,[(1,AV.ptr 0 0 0 0,none),(3,AV.int .i64 (Int.ofNat lc),none),(4,AV.slc 0 1 0 0 1 L (some L),none),(5,AV.int .i64 (bf .i64 j (Int.ofNat 1)),none)],{ lock:=false,bs:=[Z0,(0,az.row (Row.M [aq.arr .i64 (ju y (aM 0 j 1) (Int.ofNat 1)) L]))] } :: H))))) (Tr.ok (Ex.exit 0,[(1,AV.ptr 0 0 0 0,none),(3,AV.int .i64 (Int.ofNat lc),none),(4,AV.slc 0 1 0 0 1 L (some L),none),(5,AV.int .i64 j,none),(18,AV.bool false,some 1)],{ lock:=false,bs:=[Z0,(0,az.row (Row.M [aq.arr .i64 y L]))] } :: H))) (0,az.row (Row.G [AV.int .i64 dr,AV.slcT none (Row.M [aq.arr .i64 zc (aw lc 4)]) 4 lc false,AV.slcT none (Row.M [aq.arr .i64 zb (aw lb 2)]) 2 lb false])):=by kernel_rfl
theorem HD (n:Nat) (dr:Int) (lc L:Nat) (zc:Nat→Int) (lb:Nat) (zb:Nat→Int) (H:aa) (y x:Nat→Int) (P:Int→Int→Bool) (t a c:Int):aT (b5 n 64 66) (il (l6 aV 79 (My (cM dr lc zc lb zb) P)) n 0) bc ba (part Tryd.f64 [1,1,1,1,0,1,0,0,1,0,0,1,0,1,0,0,1,0,0,1,0,0]) (hints (nU 1 lc L t a c)) (eB dr lc zc lb zb [b7 L y,b7 L x]::H) =
 (fun (Z0:Row)=>((fun (Z1:aN)=>((fun (Z2:bH)=>Tr.ite (cY c (Int.ofNat lc)) (Tr.req (c7 a L) (Tr.req (eO 0 0) (Tr.req (cI (aM 0 a 1) L) (Tr.ite (cK (y (aM 0 a 1)) (Int.ofNat 1)) (Tr.reqP (AV.agg Z0=AV.agg Z0) (Tr.ite (P a c) (Tr.req (c7 c L) (Tr.req (eO 0 0) (Tr.req (cI (aM 0 c 1) L) (Tr.ok (Ex.normal,Z1,{ lock:=false,bs:=[(0,az.row Z0),(0,az.row (Row.M [aq.arr .i64 y L])),(0,az.row (Row.M [aq.arr .i64 (ju x (aM 0 c 1) (Int.ofNat 1)) L]))] } :: H))))) (Tr.ok (Ex.normal,Z1,Z2::H)))) (Tr.ok (Ex.normal,Z1,Z2::H)))))) (Tr.ok (Ex.exit 6,[(1,AV.ptr 0 0 0 0,none),(3,AV.int .i64 (Int.ofNat lc),none),(4,AV.slc 0 1 0 0 1 L (some L),none),(6,AV.int .i64 t,none),(7,AV.slc 0 2 0 0 1 L (some L),none),(8,AV.int .i64 a,none),(9,AV.int .i64 c,none),(38,AV.bool false,some 1)],Z2::H))) { lock:=false,bs:=[(0,az.row Z0),(0,az.row (Row.M [aq.arr .i64 y L])),(0,az.row (Row.M [aq.arr .i64 x L]))] })) [(1,AV.ptr 0 0 0 0,none),(3,AV.int .i64 (Int.ofNat lc),none),(4,AV.slc 0 1 0 0 1 L (some L),none),(6,AV.int .i64 t,none),(7,AV.slc 0 2 0 0 1 L (some L),none),(8,AV.int .i64 a,none),(9,AV.int .i64 (bf .i64 c (Int.ofNat 1)),none)])) (Row.G [AV.int .i64 dr,AV.slcT none (Row.M [aq.arr .i64 zc (aw lc 4)]) 4 lc false,AV.slcT none (Row.M [aq.arr .i64 zb (aw lb 2)]) 2 lb false]):=by kernel_rfl
theorem LW (n:Nat) (dr:Int) (lc L:Nat) (zc:Nat→Int) (lb:Nat) (zb:Nat→Int) (H:aa) (y x x':Nat→Int) (t a:Int):aT (b5 n 64 66) (il aV n 0) (dy bc 6 (nU 1 lc L t a (Int.ofNat 0)) (eB dr lc zc lb zb [b7 L y,b7 L x]::H) (.ok (.normal,hints (nU 1 lc L t a (Int.ofNat lc)++[(38,.bool false)]),(eB dr lc zc lb zb [b7 L y,b7 L x']::H)))) ba (part Tryd.f64 [1,1,1,1,0,1,0,0,1,0,0,1,0,1,0,0]) (hints (ll 1 lc L t a)) (eB dr lc zc lb zb [b7 L y,b7 L x]::H) =
 (fun (Z0:bH)=>((fun (Z1:au)=>Tr.ite (cY a (Int.ofNat lc)) (Tr.reqP (Z1=Z1∧Z0::H=Z0::H) (Tr.ok (Ex.normal,[(1,AV.ptr 0 0 0 0,none),(3,AV.int .i64 (Int.ofNat lc),none),(4,AV.slc 0 1 0 0 1 L (some L),none),(6,AV.int .i64 t,none),(7,AV.slc 0 2 0 0 1 L (some L),none),(8,AV.int .i64 (bf .i64 a (Int.ofNat 1)),none)],{ lock:=false,bs:=[(0,az.row (Row.G [AV.int .i64 dr,AV.slcT none (Row.M [aq.arr .i64 zc (aw lc 4)]) 4 lc false,AV.slcT none (Row.M [aq.arr .i64 zb (aw lb 2)]) 2 lb false])),(0,az.row (Row.M [aq.arr .i64 y L])),(0,az.row (Row.M [aq.arr .i64 x' L]))] } :: H))) (Tr.ok (Ex.exit 4,[(1,AV.ptr 0 0 0 0,none),(3,AV.int .i64 (Int.ofNat lc),none),(4,AV.slc 0 1 0 0 1 L (some L),none),(6,AV.int .i64 t,none),(7,AV.slc 0 2 0 0 1 L (some L),none),(8,AV.int .i64 a,none),(33,AV.bool false,some 1)],Z0::H))) [(1,AV.ptr 0 0 0 0),(3,AV.int .i64 (Int.ofNat lc)),(4,AV.slc 0 1 0 0 1 L (some L)),(6,AV.int .i64 t),(7,AV.slc 0 2 0 0 1 L (some L)),(8,AV.int .i64 a),(9,AV.int .i64 (Int.ofNat 0))])) { lock:=false,bs:=[(0,az.row (Row.G [AV.int .i64 dr,AV.slcT none (Row.M [aq.arr .i64 zc (aw lc 4)]) 4 lc false,AV.slcT none (Row.M [aq.arr .i64 zb (aw lb 2)]) 2 lb false])),(0,az.row (Row.M [aq.arr .i64 y L])),(0,az.row (Row.M [aq.arr .i64 x L]))] }:=by kernel_rfl
theorem LZ (n:Nat) (dr:Int) (lc:Nat) (zc:Nat→Int) (lb:Nat) (zb:Nat→Int) (H:aa) (y x':Nat→Int) (t:Int):aT (b5 n 64 66) (il aV n 0) (dy bc 4 (ll 1 lc (b8 (Int.ofNat lc)) t (Int.ofNat 0)) (eB dr lc zc lb zb [b7 (b8 (Int.ofNat lc)) y,b7 (b8 (Int.ofNat lc)) (fun _=>Int.ofNat 0)]::H) (.ok (.normal,hints (ll 1 lc (b8 (Int.ofNat lc)) t (Int.ofNat lc)++[(33,.bool false)]),(eB dr lc zc lb zb [b7 (b8 (Int.ofNat lc)) y,b7 (b8 (Int.ofNat lc)) x']::H)))) ba (part Tryd.f64 [1,1,1,1,0,1,0,0]) (hints (mr 1 lc (b8 (Int.ofNat lc)) 6 t)) (eB dr lc zc lb zb [b7 (b8 (Int.ofNat lc)) y]::H) =
 (fun (Z0:Nat×az)=>((fun (Z1:au)=>((fun (Z2:bH)=>Tr.ite (cY t (Int.ofNat lc)) (Tr.req (CN (Int.ofNat lc) (Int.ofNat lc) 8) (Tr.reqP (Z1=Z1∧Z2::H=Z2::H) (Tr.ok (Ex.normal,[(1,AV.ptr 0 0 0 0,none),(3,AV.int .i64 (Int.ofNat lc),none),(4,AV.slc 0 2 0 0 1 (b8 (Int.ofNat lc)) (some (b8 (Int.ofNat lc))),none),(6,AV.int .i64 (bf .i64 t (Int.ofNat 1)),none)],{ lock:=false,bs:=[Z0,(0,az.row (Row.M [aq.arr .i64 y (b8 (Int.ofNat lc))])),(0,az.row (Row.M [aq.arr .i64 x' (b8 (Int.ofNat lc))]))] } :: H)))) (Tr.ok (Ex.exit 2,[(1,AV.ptr 0 0 0 0,none),(3,AV.int .i64 (Int.ofNat lc),none),(4,AV.slc 0 1 0 0 1 (b8 (Int.ofNat lc)) (some (b8 (Int.ofNat lc))),none),(6,AV.int .i64 t,none),(26,AV.bool false,some 1)],{ lock:=false,bs:=[Z0,(0,az.row (Row.M [aq.arr .i64 y (b8 (Int.ofNat lc))]))] } :: H))) { lock:=false,bs:=[Z0,(0,az.row (Row.M [aq.arr .i64 y (b8 (Int.ofNat lc))])),(0,az.row (Row.M [aq.arr .i64 (fun x=>Int.ofNat 0) (b8 (Int.ofNat lc))]))] })) [(1,AV.ptr 0 0 0 0),(3,AV.int .i64 (Int.ofNat lc)),(4,AV.slc 0 1 0 0 1 (b8 (Int.ofNat lc)) (some (b8 (Int.ofNat lc)))),(6,AV.int .i64 t),(7,AV.slc 0 2 0 0 1 (b8 (Int.ofNat lc)) (some (b8 (Int.ofNat lc)))),(8,AV.int .i64 (Int.ofNat 0))])) (0,az.row (Row.G [AV.int .i64 dr,AV.slcT none (Row.M [aq.arr .i64 zc (aw lc 4)]) 4 lc false,AV.slcT none (Row.M [aq.arr .i64 zb (aw lb 2)]) 2 lb false])):=by kernel_rfl
theorem HF (n:Nat) (dr:Int) (lc L:Nat) (zc:Nat→Int) (lb:Nat) (zb:Nat→Int) (H:aa) (g:Nat→Int) (y x:Nat→Int) (P:Int→Int→Bool) (t a c:Int):aT (b5 n 64 66) (il (l6 aV 79 (My (cM dr lc zc lb zb) P)) n 0) bc ba (part Tryd.f64 [1,1,1,1,0,1,0,0,1,0,0,1,0,1,0,0,1,0,0,1,0,0]) (hints (nU 2 lc L t a c)) (eB dr lc zc lb zb [b7 L g,b7 L y,b7 L x]::H) =
 (fun (Z0:Row)=>((fun (Z1:aN)=>((fun (Z2:bH)=>Tr.ite (cY c (Int.ofNat lc)) (Tr.req (c7 a L) (Tr.req (eO 0 0) (Tr.req (cI (aM 0 a 1) L) (Tr.ite (cK (y (aM 0 a 1)) (Int.ofNat 1)) (Tr.reqP (AV.agg Z0=AV.agg Z0) (Tr.ite (P a c) (Tr.req (c7 c L) (Tr.req (eO 0 0) (Tr.req (cI (aM 0 c 1) L) (Tr.ok (Ex.normal,Z1,{ lock:=false,bs:=[(0,az.row Z0),(0,az.row (Row.M [aq.arr .i64 g L])),(0,az.row (Row.M [aq.arr .i64 y L])),(0,az.row (Row.M [aq.arr .i64 (ju x (aM 0 c 1) (Int.ofNat 1)) L]))] } :: H))))) (Tr.ok (Ex.normal,Z1,Z2::H)))) (Tr.ok (Ex.normal,Z1,Z2::H)))))) (Tr.ok (Ex.exit 6,[(1,AV.ptr 0 0 0 0,none),(3,AV.int .i64 (Int.ofNat lc),none),(4,AV.slc 0 2 0 0 1 L (some L),none),(6,AV.int .i64 t,none),(7,AV.slc 0 3 0 0 1 L (some L),none),(8,AV.int .i64 a,none),(9,AV.int .i64 c,none),(38,AV.bool false,some 1)],Z2::H))) { lock:=false,bs:=[(0,az.row Z0),(0,az.row (Row.M [aq.arr .i64 g L])),(0,az.row (Row.M [aq.arr .i64 y L])),(0,az.row (Row.M [aq.arr .i64 x L]))] })) [(1,AV.ptr 0 0 0 0,none),(3,AV.int .i64 (Int.ofNat lc),none),(4,AV.slc 0 2 0 0 1 L (some L),none),(6,AV.int .i64 t,none),(7,AV.slc 0 3 0 0 1 L (some L),none),(8,AV.int .i64 a,none),(9,AV.int .i64 (bf .i64 c (Int.ofNat 1)),none)])) (Row.G [AV.int .i64 dr,AV.slcT none (Row.M [aq.arr .i64 zc (aw lc 4)]) 4 lc false,AV.slcT none (Row.M [aq.arr .i64 zb (aw lb 2)]) 2 lb false]):=by kernel_rfl
theorem LX (n:Nat) (dr:Int) (lc L:Nat) (zc:Nat→Int) (lb:Nat) (zb:Nat→Int) (H:aa) (g:Nat→Int) (y x x':Nat→Int) (t a:Int):aT (b5 n 64 66) (il aV n 0) (dy bc 6 (nU 2 lc L t a (Int.ofNat 0)) (eB dr lc zc lb zb [b7 L g,b7 L y,b7 L x]::H) (.ok (.normal,hints (nU 2 lc L t a (Int.ofNat lc)++[(38,.bool false)]),(eB dr lc zc lb zb [b7 L g,b7 L y,b7 L x']::H)))) ba (part Tryd.f64 [1,1,1,1,0,1,0,0,1,0,0,1,0,1,0,0]) (hints (ll 2 lc L t a)) (eB dr lc zc lb zb [b7 L g,b7 L y,b7 L x]::H) =
 (fun (Z0:bH)=>((fun (Z1:au)=>Tr.ite (cY a (Int.ofNat lc)) (Tr.reqP (Z1=Z1∧Z0::H=Z0::H) (Tr.ok (Ex.normal,[(1,AV.ptr 0 0 0 0,none),(3,AV.int .i64 (Int.ofNat lc),none),(4,AV.slc 0 2 0 0 1 L (some L),none),(6,AV.int .i64 t,none),(7,AV.slc 0 3 0 0 1 L (some L),none),(8,AV.int .i64 (bf .i64 a (Int.ofNat 1)),none)],{ lock:=false,bs:=[(0,az.row (Row.G [AV.int .i64 dr,AV.slcT none (Row.M [aq.arr .i64 zc (aw lc 4)]) 4 lc false,AV.slcT none (Row.M [aq.arr .i64 zb (aw lb 2)]) 2 lb false])),(0,az.row (Row.M [aq.arr .i64 g L])),(0,az.row (Row.M [aq.arr .i64 y L])),(0,az.row (Row.M [aq.arr .i64 x' L]))] } :: H))) (Tr.ok (Ex.exit 4,[(1,AV.ptr 0 0 0 0,none),(3,AV.int .i64 (Int.ofNat lc),none),(4,AV.slc 0 2 0 0 1 L (some L),none),(6,AV.int .i64 t,none),(7,AV.slc 0 3 0 0 1 L (some L),none),(8,AV.int .i64 a,none),(33,AV.bool false,some 1)],Z0::H))) [(1,AV.ptr 0 0 0 0),(3,AV.int .i64 (Int.ofNat lc)),(4,AV.slc 0 2 0 0 1 L (some L)),(6,AV.int .i64 t),(7,AV.slc 0 3 0 0 1 L (some L)),(8,AV.int .i64 a),(9,AV.int .i64 (Int.ofNat 0))])) { lock:=false,bs:=[(0,az.row (Row.G [AV.int .i64 dr,AV.slcT none (Row.M [aq.arr .i64 zc (aw lc 4)]) 4 lc false,AV.slcT none (Row.M [aq.arr .i64 zb (aw lb 2)]) 2 lb false])),(0,az.row (Row.M [aq.arr .i64 g L])),(0,az.row (Row.M [aq.arr .i64 y L])),(0,az.row (Row.M [aq.arr .i64 x L]))] }:=by kernel_rfl
theorem L0 (n:Nat) (dr:Int) (lc:Nat) (zc:Nat→Int) (lb:Nat) (zb:Nat→Int) (H:aa) (g:Nat→Int) (y x':Nat→Int) (t:Int):aT (b5 n 64 66) (il aV n 0) (dy bc 4 (ll 2 lc (b8 (Int.ofNat lc)) t (Int.ofNat 0)) (eB dr lc zc lb zb [b7 (b8 (Int.ofNat lc)) g,b7 (b8 (Int.ofNat lc)) y,b7 (b8 (Int.ofNat lc)) (fun _=>Int.ofNat 0)]::H) (.ok (.normal,hints (ll 2 lc (b8 (Int.ofNat lc)) t (Int.ofNat lc)++[(33,.bool false)]),(eB dr lc zc lb zb [b7 (b8 (Int.ofNat lc)) g,b7 (b8 (Int.ofNat lc)) y,b7 (b8 (Int.ofNat lc)) x']::H)))) ba (part Tryd.f64 [1,1,1,1,0,1,0,0]) (hints (mr 2 lc (b8 (Int.ofNat lc)) 6 t)) (eB dr lc zc lb zb [b7 (b8 (Int.ofNat lc)) g,b7 (b8 (Int.ofNat lc)) y]::H) =
 (fun (Z0:Nat×az)=>((fun (Z1:au)=>((fun (Z2:bH)=>Tr.ite (cY t (Int.ofNat lc)) (Tr.req (CN (Int.ofNat lc) (Int.ofNat lc) 8) (Tr.reqP (Z1=Z1∧Z2::H=Z2::H) (Tr.ok (Ex.normal,[(1,AV.ptr 0 0 0 0,none),(3,AV.int .i64 (Int.ofNat lc),none),(4,AV.slc 0 3 0 0 1 (b8 (Int.ofNat lc)) (some (b8 (Int.ofNat lc))),none),(6,AV.int .i64 (bf .i64 t (Int.ofNat 1)),none)],{ lock:=false,bs:=[Z0,(0,az.row (Row.M [aq.arr .i64 g (b8 (Int.ofNat lc))])),(0,az.row (Row.M [aq.arr .i64 y (b8 (Int.ofNat lc))])),(0,az.row (Row.M [aq.arr .i64 x' (b8 (Int.ofNat lc))]))] } :: H)))) (Tr.ok (Ex.exit 2,[(1,AV.ptr 0 0 0 0,none),(3,AV.int .i64 (Int.ofNat lc),none),(4,AV.slc 0 2 0 0 1 (b8 (Int.ofNat lc)) (some (b8 (Int.ofNat lc))),none),(6,AV.int .i64 t,none),(26,AV.bool false,some 1)],{ lock:=false,bs:=[Z0,(0,az.row (Row.M [aq.arr .i64 g (b8 (Int.ofNat lc))])),(0,az.row (Row.M [aq.arr .i64 y (b8 (Int.ofNat lc))]))] } :: H))) { lock:=false,bs:=[Z0,(0,az.row (Row.M [aq.arr .i64 g (b8 (Int.ofNat lc))])),(0,az.row (Row.M [aq.arr .i64 y (b8 (Int.ofNat lc))])),(0,az.row (Row.M [aq.arr .i64 (fun x=>Int.ofNat 0) (b8 (Int.ofNat lc))]))] })) [(1,AV.ptr 0 0 0 0),(3,AV.int .i64 (Int.ofNat lc)),(4,AV.slc 0 2 0 0 1 (b8 (Int.ofNat lc)) (some (b8 (Int.ofNat lc)))),(6,AV.int .i64 t),(7,AV.slc 0 3 0 0 1 (b8 (Int.ofNat lc)) (some (b8 (Int.ofNat lc)))),(8,AV.int .i64 (Int.ofNat 0))])) (0,az.row (Row.G [AV.int .i64 dr,AV.slcT none (Row.M [aq.arr .i64 zc (aw lc 4)]) 4 lc false,AV.slcT none (Row.M [aq.arr .i64 zb (aw lb 2)]) 2 lb false])):=by kernel_rfl
end Go.Eng
end
section
namespace Go.Eng
open Go.Proofs Go.Eng.Gall
def nw (lb:Nat) (zb:Nat→Int) (a c:Int):Bool:=c5 (gL zb a c) lb
theorem QO:∀ b,(0,b) ∈ aI (aY Tryd.f79)→b=.loop (part Tryd.f79 [1,0,1,0,0]):=eX (by kernel_rfl)
theorem Ky:∀ b,(0,b) ∈ aI (aY Tryd.f64)→b=.loop (part Tryd.f64 [1,1,1,0,1,0,0]):=eX (by kernel_rfl)
theorem Kz:∀ b,(2,b) ∈ aI (aY Tryd.f64)→b=.loop (part Tryd.f64 [1,1,1,1,0,1,0,0]):=eX (by kernel_rfl)
theorem KA:∀ b,(8,b) ∈ aI (aY Tryd.f64)→b=.loop (part Tryd.f64 [1,1,1,1,1,0,1,0,0]):=eX (by kernel_rfl)
theorem Hc:∀ b,(4,b) ∈ aI (part Tryd.f64 [1,1,1,1,0,1,0,0])→b=.loop (part Tryd.f64 [1,1,1,1,0,1,0,0,1,0,0,1,0,1,0,0]):=eX (by kernel_rfl)
theorem Hd:∀ b,(6,b) ∈ aI (part Tryd.f64 [1,1,1,1,0,1,0,0,1,0,0,1,0,1,0,0])→b=.loop (part Tryd.f64 [1,1,1,1,0,1,0,0,1,0,0,1,0,1,0,0,1,0,0,1,0,0]):=eX (by kernel_rfl)
theorem LY (n:Nat) (dr:Int) (lc L:Nat) (zc:Nat→Int) (lb:Nat) (zb:Nat→Int) (H:aa) (g y:Nat→Int) (j:Int):aT (b5 n 64 66) (il aV n 0) bc ba (part Tryd.f64 [1,1,1,1,1,0,1,0,0]) (hints (zk lc L j)) (eB dr lc zc lb zb [b7 L g,b7 L y]::H) =
 (fun (Z0:bH)=>Tr.ite (cY j (Int.ofNat lc)) (Tr.req (c7 j L) (Tr.req (eO 0 0) (Tr.req (cI (aM 0 j 1) L) (Tr.ite (cK (y (aM 0 j 1)) (Int.ofNat 1)) (Tr.ok (Ex.ret,[(2,AV.bool true,some 1)],Z0::H)) (Tr.ok (Ex.normal,[(3,AV.int .i64 (Int.ofNat lc),none),(4,AV.slc 0 2 0 0 1 L (some L),none),(10,AV.int .i64 (bf .i64 j (Int.ofNat 1)),none)],Z0::H)))))) (Tr.ok (Ex.exit 8,[(3,AV.int .i64 (Int.ofNat lc),none),(4,AV.slc 0 2 0 0 1 L (some L),none),(10,AV.int .i64 j,none),(58,AV.bool false,some 1)],Z0::H))) { lock:=false,bs:=[(0,az.row (Row.G [AV.int .i64 dr,AV.slcT none (Row.M [aq.arr .i64 zc (aw lc 4)]) 4 lc false,AV.slcT none (Row.M [aq.arr .i64 zb (aw lb 2)]) 2 lb false])),(0,az.row (Row.M [aq.arr .i64 g L])),(0,az.row (Row.M [aq.arr .i64 y L]))] }:=by kernel_rfl
theorem u64 (n:Nat) (dr:Int) (lc:Nat) (zc:Nat→Int) (lb:Nat) (zb:Nat→Int) (H:aa) (y0 g y:Nat→Int) (e:Bool):bu Tryd.prog (cd n) 100000 64 Tryd.f64 (KtG.kt 64) (il aV n 0) (dy (dy (dy bc 0 (mr 1 lc (b8 (Int.ofNat lc)) 5 (Int.ofNat 0)) (eB dr lc zc lb zb [b7 (b8 (Int.ofNat lc)) (fun _=>Int.ofNat 0)]::H) (.ok (.normal,hints (mr 1 lc (b8 (Int.ofNat lc)) 5 (Int.ofNat lc)++[(18,.bool false)]),eB dr lc zc lb zb [b7 (b8 (Int.ofNat lc)) y0]::H))) 2 (mr 1 lc (b8 (Int.ofNat lc)) 6 (Int.ofNat 0)) (eB dr lc zc lb zb [b7 (b8 (Int.ofNat lc)) y0]::H) (.ok (.normal,hints (mr 2 lc (b8 (Int.ofNat lc)) 6 (Int.ofNat lc)++[(26,.bool false)]),eB dr lc zc lb zb [b7 (b8 (Int.ofNat lc)) g,b7 (b8 (Int.ofNat lc)) y]::H))) 8 (zk lc (b8 (Int.ofNat lc)) (Int.ofNat 0)) (eB dr lc zc lb zb [b7 (b8 (Int.ofNat lc)) g,b7 (b8 (Int.ofNat lc)) y]::H) (.ite e (.ok (.ret,[(2,.bool true,none)],eB dr lc zc lb zb [b7 (b8 (Int.ofNat lc)) g,b7 (b8 (Int.ofNat lc)) y]::H)) (.ok (.normal,hints (zk lc (b8 (Int.ofNat lc)) (Int.ofNat lc)++[(58,.bool false)]),eB dr lc zc lb zb [b7 (b8 (Int.ofNat lc)) g,b7 (b8 (Int.ofNat lc)) y]::H)))) ba [(cM dr lc zc lb zb,none)] H =
 (fun (Z0:Nat×az)=>((fun (Z1:Nat×AV)=>((fun (Z2:bH)=>((fun (Z3:Nat×AV)=>((fun (Z4:bH)=>((fun (Z5:bH)=>Tr.req (CN (Int.ofNat lc) (Int.ofNat lc) 8) (Tr.reqP ([(1,AV.ptr 0 0 0 0),Z3,Z1,(5,AV.int .i64 (Int.ofNat 0))]=[(1,AV.ptr 0 0 0 0),Z3,Z1,(5,AV.int .i64 (Int.ofNat 0))]∧Z4::H=Z4::H) (Tr.reqP ([(1,AV.ptr 0 0 0 0),Z3,Z1,(6,AV.int .i64 (Int.ofNat 0))]=[(1,AV.ptr 0 0 0 0),Z3,Z1,(6,AV.int .i64 (Int.ofNat 0))]∧Z5::H=Z5::H) (Tr.reqP ([Z3,(4,AV.slc 0 2 0 0 1 (b8 (Int.ofNat lc)) (some (b8 (Int.ofNat lc)))),(10,AV.int .i64 (Int.ofNat 0))]=[Z3,(4,AV.slc 0 2 0 0 1 (b8 (Int.ofNat lc)) (some (b8 (Int.ofNat lc)))),(10,AV.int .i64 (Int.ofNat 0))]∧Z2::H=Z2::H) (Tr.ite e (Tr.ok ((AV.bool true,none),H)) (Tr.ok ((AV.bool false,some 1),H))))))) { lock:=false,bs:=[Z0,(0,az.row (Row.M [aq.arr .i64 y0 (b8 (Int.ofNat lc))]))] })) { lock:=false,bs:=[Z0,(0,az.row (Row.M [aq.arr .i64 (fun x=>Int.ofNat 0) (b8 (Int.ofNat lc))]))] })) (3,AV.int .i64 (Int.ofNat lc)))) { lock:=false,bs:=[Z0,(0,az.row (Row.M [aq.arr .i64 g (b8 (Int.ofNat lc))])),(0,az.row (Row.M [aq.arr .i64 y (b8 (Int.ofNat lc))]))] })) (4,AV.slc 0 1 0 0 1 (b8 (Int.ofNat lc)) (some (b8 (Int.ofNat lc)))))) (0,az.row (Row.G [AV.int .i64 dr,AV.slcT none (Row.M [aq.arr .i64 zc (aw lc 4)]) 4 lc false,AV.slcT none (Row.M [aq.arr .i64 zb (aw lb 2)]) 2 lb false])):=by kernel_rfl
section
variable (n:Nat) (dr:Int) (lc:Nat) (zc:Nat→Int) (lb:Nat) (zb:Nat→Int) (H:aa)
theorem Qt (a b:Int) (hm:lb≤1000):cd (n+1) (.fn 79) [cM dr lc zc lb zb,.int .i64 a,.int .i64 b] H=some (.bool (nw lb zb a b),H):=by
 have lp:=fF (n:=n) (f:=79) (nt:=24) (c:=part Tryd.f79 [1,0,1,0,0]) 0 (fun j=>BZ a b (j:Int)) (fun _=>cO dr lc zc lb zb::H) lb (gL zb a b) (fun j=>([(6,.bool true)],cO dr lc zc lb zb::H)) (BZ a b (Int.ofNat lb)++[(12,.bool false)],cO dr lc zc lb zb::H) (by omega) (fun j hj=>?_) ?_
 · refine bK (n:=n) Tryd.func79 rfl rfl rfl (TF n dr lc zc lb zb H a b (c5 (gL zb a b) lb)) (aJ n) (br (ak _ _) QO (fun x hx=>cC hx lp)) (al _ _) ?_
   refine Tr.aj ⟨rfl,rfl⟩ (Tr.ae (fun hc=>Tr.ah ⟨?_,rfl⟩) (fun hc=>Tr.ah ⟨?_,rfl⟩))
   · unfold nw;rw[hc]
   · unfold nw;rw[hc]
 · have ej:bf .i64 (j:Int) (Int.ofNat 1)=((j+1:Nat):Int):=ft (by omega)
   have ei:aM 0 (j:Int) 2=j*2:=by rw[cG];omega
   have hp:cr (cK (zb (j*2)) a) (cK (zb (j*2+1)) b)=gL zb a b j:=by
    rw[bV,aZ,aZ];unfold gL
    rw[Bool.eq_iff_iff];simp
    constructor<;>(rintro ⟨h1,h2⟩;exact ⟨h1.symm,h2.symm⟩)
   have T:=t79 n dr lc zc lb zb H a b (j:Int)
   rw[ei,a6,ej,hp] at T
   refine aR T (aJ n) (ak _ _) (al _ _) ?_
   refine Tr.ae (fun h0=>?_) (fun h0=>by simp (disch:=omega) only[nV,nW] at h0;omega)
   refine Tr.ag (by simp (disch:=omega) only[nV,nW];omega) (Tr.ag (by simp (disch:=omega) only[nV,nW];omega) (Tr.ag (by simp (disch:=omega) only[nV,nW];omega) ?_))
   refine Tr.ae (fun q=>Tr.ah ?_) (fun q=>Tr.ah ?_)
   · rw[if_pos q];rfl
   · rw[if_neg (by rw[q];decide)];exact ⟨rfl,rfl⟩
 · obtain ⟨x,h1,rfl⟩:=aR (Q:=fun x=>x=(.exit 0,BZ a b (Int.ofNat lb)++[(12,.bool false)],cO dr lc zc lb zb::H)) (t79 n dr lc zc lb zb H a b (Int.ofNat lb)) (aJ n) (ak _ _) (al _ _) (by
    refine Tr.ae (fun h0=>by simp (disch:=omega) only[nV,nW] at h0;omega) (fun h0=>Tr.ah rfl))
   exact h1
theorem vg {c:Nat} (hc:0<c) (hm:lb≤1000):(l6 aV 79 (My (cM dr lc zc lb zb) (nw lb zb))).Ok (cd c):=by
 obtain ⟨m,rfl⟩:∃ m,c=m+1:=⟨c-1,by omega⟩
 refine lg (bx _) (fun args p v hg hp H=>?_)
 unfold My at hg
 split at hg
 · simp only[nP] at hg
   obtain ⟨rfl,rfl⟩:=hg
   rw[hp]
   exact Qt m dr lc zc lb zb H _ _ hm
 · cases hg
def cZ (p:Nat→Bool) (j:Nat):Int:=if p j=true then 1 else 0
def sO (lc lb:Nat) (zb:Nat→Int) (b:Nat→Nat) (t a j:Nat):Bool:=decide (j<lc) && c5 (fun a'=>bG lc b t a' && nw lb zb a' j) a
def sP (lc lb:Nat) (zb:Nat→Int) (b:Nat→Nat) (t a c j:Nat):Bool:=sO lc lb zb b t a j || (decide (j<c) && (bG lc b t a && nw lb zb a j))
theorem Hu (b:Nat→Nat) (t:Nat):cZ (sO lc lb zb b t 0)=fun _=>Int.ofNat 0:=by
 funext j;unfold cZ sO
 rw[if_neg]
 · rfl
 · intro h
   rw[Bool.and_eq_true] at h
   obtain ⟨i,hi,_⟩:=(cH _ _).1 h.2
   omega
theorem Hv (b:Nat→Nat) (t a:Nat):sP lc lb zb b t a 0=sO lc lb zb b t a:=by
 funext j;unfold sP;simp
theorem A6 (b:Nat→Nat) (t a:Nat):sP lc lb zb b t a lc=sO lc lb zb b t (a+1):=by
 funext j;unfold sP sO
 have e:c5 (fun a'=>bG lc b t a' && nw lb zb a' j) (a+1)=(c5 (fun a'=>bG lc b t a' && nw lb zb a' j) a || (bG lc b t a && nw lb zb a j)):=by
  rw[Bool.eq_iff_iff,Bool.or_eq_true,cH,cH]
  constructor
  · rintro ⟨i,h1,h2⟩
    by_cases e:i=a
    · subst e;exact .inr h2
    · exact .inl ⟨i,by omega,h2⟩
  · rintro (⟨i,h1,h2⟩ | h)
    · exact ⟨i,by omega,h2⟩
    · exact ⟨a,by omega,h⟩
 rw[e]
 cases decide (j<lc)<;>simp
theorem Ec {b:Nat→Nat} (hb:b=fun c=>jb zb c lb) (hp:fz lc lb zb) (t:Nat):sO lc lb zb b t lc=bG lc b (t+1):=by
 funext j
 rw[Bool.eq_iff_iff,kD]
 unfold sO nw
 rw[Bool.and_eq_true,decide_eq_true_iff,cH]
 subst hb
 constructor
 · rintro ⟨h1,a,h2,h3⟩
   rw[Bool.and_eq_true,cH] at h3
   obtain ⟨h3,i,hi,h4⟩:=h3
   unfold gL at h4
   rw[Bool.and_eq_true,decide_eq_true_iff,decide_eq_true_iff] at h4
   exact ⟨h1,a,h3,(nF zb j a lb (fun i hi=>(hp i hi).1.1)).2 ⟨i,hi,h4.1.symm,h4.2.symm⟩⟩
 · rintro ⟨h1,a,h2,h3⟩
   obtain ⟨i,hi,h4,h5⟩:=(nF zb j a lb (fun i hi=>(hp i hi).1.1)).1 h3
   refine ⟨h1,a,ou h2,?_⟩
   rw[Bool.and_eq_true,cH]
   exact ⟨h2,i,hi,by unfold gL;rw[Bool.and_eq_true,decide_eq_true_iff,decide_eq_true_iff];exact ⟨h4.symm,h5.symm⟩⟩
theorem A7 (b:Nat→Nat) (t a c:Nat) (h:(bG lc b t a && nw lb zb a c)=true):ju (cZ (sP lc lb zb b t a c)) c (Int.ofNat 1)=cZ (sP lc lb zb b t a (c+1)):=by
 rw[kP];funext j;unfold cZ sP
 by_cases e:j=c
 · subst e
   rw[if_pos rfl,h,decide_eq_true (by omega)]
   rw[if_pos (by simp)];rfl
 · rw[if_neg e]
   by_cases h2:j<c
   · rw[decide_eq_true h2,decide_eq_true (by omega)]
   · rw[decide_eq_false h2,decide_eq_false (by omega)]
theorem qz (b:Nat→Nat) (t a c:Nat) (h:(bG lc b t a && nw lb zb a c)=false):sP lc lb zb b t a (c+1)=sP lc lb zb b t a c:=by
 funext j;unfold sP
 by_cases e:j=c
 · subst e
   rw[h];simp
 · by_cases h2:j<c
   · rw[decide_eq_true h2,decide_eq_true (by omega)]
   · rw[decide_eq_false h2,decide_eq_false (by omega)]
theorem zD (p:Nat→Bool) (j:Nat):cK (cZ p j) (Int.ofNat 1)=p j:=by
 rw[aZ];unfold cZ
 cases p j<;>rfl
end
end Go.Eng
end
