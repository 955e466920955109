/- Gall: CheckList: what it answers. -/
import Derived.Test.YtgphpjdchnfjlaaDoorV3Ga3x5
set_option linter.unusedVariables false
set_option linter.unusedSimpArgs false
set_option maxRecDepth 100000
section
namespace Go.Eng
open Go.Proofs Go.Eng.Gall
theorem wL {c f:Nat} {t:nr} {e:Bool} {C:List AV→Prop} (ht:t.Ok (cd c)) (h:∀ A H,C A→cd c (.fn f) A H=some (.bool e,H)):(mr t f (gB e C)).Ok (cd c):=by
 refine j4 ht (fun args p v hg hp H=>?_)
 unfold gB at hg
 simp only[nP] at hg
 obtain ⟨rfl,rfl⟩:=hg
 exact h _ H hp
theorem DN {c f:Nat} {t:nr} {S:AV} {C:List AV→Prop} (ht:t.Ok (cd c)) (h:∀ A H,C A→cd c (.fn f) A H=some (S,H)):(mr t f (fun x=>some (C x,S))).Ok (cd c):=by
 refine j4 ht (fun args p v hg hp H=>?_)
 simp only[nP] at hg
 obtain ⟨rfl,rfl⟩:=hg
 exact h _ H hp
def iQ (z:Nat→Int) (a b:Int) (i:Nat):Bool:=decide (a=z (i*2)) && decide (b=z (i*2+1))
def gE (lc:Nat) (z:Nat→Int) (j:Nat):Bool:=decide (z (j*2)=z (j*2+1)) || (!(decide (0≤z (j*2)∧z (j*2)<lc) && decide (0≤z (j*2+1)∧z (j*2+1)<lc)) || eV (iQ z (z (j*2)) (z (j*2+1))) j)
def gh (dr:Int) (lc:Nat) (zc:Nat→Int) (lb:Nat) (zb:Nat→Int):Int:=if lc=0∨10<lc∨40<lb then 6 else if dr<1∨100<dr∨eV (iR zc) lc=true then 3 else if eV (gE lc zb) lb=true then 2 else if kK lc (fun c=>eu zb c lb)=true then 16 else 0
theorem OF (n:Nat) (dr:Int) (lc:Nat) (zc:Nat→Int) (lb:Nat) (zb:Nat→Int) (H:aa):bA Tryd.prog (cd (n+10)) 100000 22 Tryd.f22 (KtG.kt 22) (il (mD aX 59 gW) (n+10) 0) (lT bo 1) bp [(df dr lc zc lb zb,none)] H =
 Tr.ite (cH (bY (bY (er (Int.ofNat 0) (bW .i64 (Int.ofNat lc) (Int.ofNat 1))) (er (bW .i64 (Int.ofNat lc) (Int.ofNat 1)) (Int.ofNat 9))) true)) (Tr.ok ((AV.int .i64 (Int.ofNat 6),some 1),H)) (Tr.ite (da (Int.ofNat 40) (Int.ofNat lb)) (Tr.ok ((AV.int .i64 (Int.ofNat 6),some 1),H)) (Tr.ite (cH (bY (bY (er (Int.ofNat 1) dr) (er dr (Int.ofNat 100))) true)) (Tr.ok ((AV.int .i64 (Int.ofNat 3),some 1),H)) Tr.bad)):=by kernel_rfl
theorem P1:∀ b,(0,b) ∈ aP (bw Tryd.f86)→b=.loop (part Tryd.f86 [1,0,1,0,0]):=fJ (by kernel_rfl)
theorem PV:∀ b,(1,b) ∈ aP (bw Tryd.f22)→b=.loop (part Tryd.f22 [1,1,1,1,0,1,0,0]):=fJ (by kernel_rfl)
section
variable (n:Nat) (m:Nat) (z:Nat→Int) (full:Bool) (a b:Int) (H:aa)
theorem Qp (hm:m≤1000):cd (n+1) (.fn 86) [JI m z full,J5 a b] H=some (.int .i64 (A2 (iQ z a b) m),H):=by
 have lp:=kZ (n:=n) (f:=86) (nt:=19) (c:=part Tryd.f86 [1,0,1,0,0]) 0 (fun j=>Cf m z full (j:Int)) (fun _=>Hd a b::H) m (iQ z a b) (fun j=>([(4,.int .i64 (j:Int))],Hd a b::H)) (Cf m z full (Int.ofNat m)++[(9,.bool false)],Hd a b::H) (by omega) (fun j hj=>?_) ?_
 · refine bN (n:=n) Tryd.func86 rfl rfl rfl (SV n m z full a b H ((fN (iQ z a b) m 0:Nat):Int) (eV (iQ z a b) m)) (aV n) (bu (ak _ _) P1 (fun x hx=>fm hx lp)) (al _ _) ?_
   refine Tr.an ⟨rfl,rfl⟩ (Tr.ag (fun hc=>Tr.ah ⟨?_,rfl⟩) (fun hc=>Tr.ah ⟨?_,rfl⟩))
   · unfold A2;rw[if_pos hc]
   · unfold A2;rw[if_neg (by rw[hc];decide)];rfl
 · have ej:bz .i64 (j:Int) (Int.ofNat 1)=((j+1:Nat):Int):=gN (by omega)
   have ei:aE 0 (j:Int) 2=j*2:=by rw[bO];omega
   have hp:bY (dC a (z (j*2))) (dC b (z (j*2+1)))=iQ z a b j:=by
    rw[bP,bh,bh];unfold iQ
    rw[Bool.eq_iff_iff];simp
   have T:=t86 n m z full a b H (j:Int)
   rw[ei,aJ,ej,hp] at T
   refine aY T (aV n) (ak _ _) (al _ _) ?_
   refine Tr.ag (fun h0=>?_) (fun h0=>by simp (disch:=omega) only[nV,nW] at h0;omega)
   refine Tr.af (by simp (disch:=omega) only[nV,nW];omega) (Tr.af (by simp (disch:=omega) only[nV,nW];omega) (Tr.af (by simp (disch:=omega) only[nV,nW];omega) ?_))
   refine Tr.ag (fun q=>Tr.ah ?_) (fun q=>Tr.ah ?_)
   · rw[if_pos q];rfl
   · rw[if_neg (by rw[q];decide)];exact ⟨rfl,rfl⟩
 · obtain ⟨x,h1,rfl⟩:=aY (Q:=fun x=>x=(.exit 0,Cf m z full (Int.ofNat m)++[(9,.bool false)],Hd a b::H)) (t86 n m z full a b H (Int.ofNat m)) (aV n) (ak _ _) (al _ _) (by
    refine Tr.ag (fun h0=>by simp (disch:=omega) only[nV,nW] at h0;omega) (fun h0=>Tr.ah rfl))
   exact h1
theorem Qh (hm:m≤1000):cd (n+2) (.fn 61) [JI m z full,J5 a b] H=some (.bool (eV (iQ z a b) m),H):=by
 have h:=fun H=>Qp n m z full a b H hm
 refine bN (n:=n+1) Tryd.func61 rfl rfl rfl (SK (n+1) m z full a b H (A2 (iQ z a b) m)) (cK _ (n+1) (jc (bG _) h)) (ak _ _) (al _ _) ?_
 refine Tr.an rfl (Tr.ah ⟨?_,rfl⟩)
 rw[zD]
end
section
variable (n:Nat) (dr:Int) (lc:Nat) (zc:Nat→Int) (lb:Nat) (zb:Nat→Int) (H:aa)
noncomputable def Ny (a b:Int):bL:={ D5 dr lc zc lb zb with bs:=(D5 dr lc zc lb zb).bs++[(0,.row (.I .i64 [a,b])),(0,.dead)] }
noncomputable def Ld (a b:Int):bL:={ D5 dr lc zc lb zb with bs:=(D5 dr lc zc lb zb).bs++[(0,.row (.I .i64 [a,b])),(0,.row (.I .i64 [a,b]))] }
noncomputable def J4 (j:Nat):bL:=if zb (j*2)=zb (j*2+1) then Ny dr lc zc lb zb (zb (j*2)) (zb (j*2+1)) else Ld dr lc zc lb zb (zb (j*2)) (zb (j*2+1))
theorem RX (h1:1≤lc) (hl:lc≤10) (hb:lb≤40):exec (cI (n+10) 22 69) (.block 1 (.loop (part Tryd.f22 [1,1,1,1,0,1,0,0]))) (zt lc lb zb (Int.ofNat 0)) (D5 dr lc zc lb zb::H) =
 some (cond (eV (gE lc zb) lb) (.ret,[(2,.int .i64 2)],J4 dr lc zc lb zb (fN (gE lc zb) lb 0)::H) (.normal,zt lc lb zb (Int.ofNat lb)++[(38,.bool false)],D5 dr lc zc lb zb::H)):=by
 have s3:bW .i64 (Int.ofNat lc) (Int.ofNat 1)=(lc:Int)-1:=by rw[dK];exact fH (by show -9223372036854775808≤(lc:Int)-1;omega) (by show (lc:Int)-1≤_;omega)
 refine kZ (n:=n+10) (f:=22) (nt:=69) (c:=part Tryd.f22 [1,1,1,1,0,1,0,0]) 1 (fun j=>zt lc lb zb (j:Int)) (fun _=>D5 dr lc zc lb zb::H) lb (gE lc zb) (fun j=>([(2,.int .i64 2)],J4 dr lc zc lb zb j::H)) (_,_) (by omega) (fun j hj=>?_) ?_
 · have ej:bz .i64 (j:Int) (Int.ofNat 1)=((j+1:Nat):Int):=gN (by omega)
   have ei:aE 0 (j:Int) 2=j*2:=by rw[bO];omega
   have et:cD (j:Int)=j:=by rw[np];omega
   have hin:cH (bY (bY (er (Int.ofNat 0) (zb (j*2))) (er (zb (j*2)) (bW .i64 (Int.ofNat lc) (Int.ofNat 1)))) (bY (bY (er (Int.ofNat 0) (zb (j*2+1))) (er (zb (j*2+1)) (bW .i64 (Int.ofNat lc) (Int.ofNat 1)))) true))=!(decide (0≤zb (j*2)∧zb (j*2)<lc) && decide (0≤zb (j*2+1)∧zb (j*2+1)<lc)):=by
    rw[s3,aS,bP,bP,bP,bP,bt,bt,bt,bt]
    rw[Bool.eq_iff_iff]
    simp
    omega
   have T:=t22 n dr lc zc lb zb H (j:Int) (eV (iQ zb (zb (j*2)) (zb (j*2+1))) j) (fun A=>A=[JI j zb (bY false (fX j lb)),J5 (zb (j*2)) (zb (j*2+1))])
   rw[ei,aJ,ej,et] at T
   rw[hin] at T
   refine aY T (cK _ _ (by
    rw[show n+10=n+4+6 by omega]
    refine wM (n:=n+4) (wL (bG _) (fun A H hA=>?_))
    subst hA
    rw[show n+4+6=n+8+2 by omega]
    exact Qh (n+8) j zb _ _ _ H (by omega))) (ak _ _) (al _ _) ?_
   refine Tr.ag (fun h0=>?_) (fun h0=>by simp (disch:=omega) only[nV,nW] at h0;omega)
   refine Tr.af (by simp (disch:=omega) only[nV,nW];omega) (Tr.af (by simp (disch:=omega) only[nV,nW];omega) (Tr.af (by simp (disch:=omega) only[nV,nW];omega) (Tr.af (by simp (disch:=omega) only[nV,nW];omega) (Tr.af (by simp (disch:=omega) only[nV,nW];omega) ?_))))
   refine Tr.ag (fun q=>?_) (fun q=>?_)
   · have q:zb (j*2)=zb (j*2+1):=by rw[bh,beq_iff_eq] at q;exact q
     refine Tr.ah ?_
     rw[if_pos (by unfold gE;rw[decide_eq_true q];rfl)]
     unfold J4;rw[if_pos q];rfl
   · have q:¬ zb (j*2)=zb (j*2+1):=by rw[bh,beq_eq_false_iff_ne] at q;exact q
     have hX:J4 dr lc zc lb zb j=Ld dr lc zc lb zb (zb (j*2)) (zb (j*2+1)):=by unfold J4;rw[if_neg q]
     refine Tr.af (by simp (disch:=omega) only[nV,nW];omega) (Tr.af (by simp (disch:=omega) only[nV,nW];omega) (Tr.ag (fun r=>?_) (fun r=>?_)))
     · refine Tr.ah ?_
       rw[if_pos (by unfold gE;rw[r];simp),hX];rfl
     · refine Tr.af (by simp (disch:=omega) only[nV,nW];omega) (Tr.af (by simp (disch:=omega) only[nV,nW];omega) (Tr.an rfl (Tr.ag (fun u=>?_) (fun u=>?_))))
       · refine Tr.ah ?_
         rw[if_pos (by unfold gE;rw[u];simp),hX];rfl
       · refine Tr.ah ?_
         rw[if_neg (by unfold gE;rw[u,r,decide_eq_false q];simp)]
         exact ⟨rfl,rfl⟩
 · obtain ⟨x,h1,rfl⟩:=aY (Q:=fun x=>x=(.exit 1,zt lc lb zb (Int.ofNat lb)++[(38,.bool false)],D5 dr lc zc lb zb::H)) (t22 n dr lc zc lb zb H (Int.ofNat lb) true (fun A=>False)) (cK _ _ (by
    rw[show n+10=n+4+6 by omega]
    exact wM (n:=n+4) (wL (bG _) (fun A H hA=>hA.elim)))) (ak _ _) (al _ _) (by
    refine Tr.ag (fun h0=>by simp (disch:=omega) only[nV,nW] at h0;omega) (fun h0=>Tr.ah rfl))
   exact h1
theorem oD {lc lb:Nat} {zb:Nat→Int} (h:eV (gE lc zb) lb=false):fi lc lb zb:=fun j hj=>by
 have:=uY h j hj
 unfold gE at this
 simp only[Bool.or_eq_false_iff,Bool.not_eq_false',Bool.and_eq_true,decide_eq_true_eq] at this
 exact ⟨this.2.1.1,this.2.1.2⟩
theorem PA (hl:lc≤1000) (hb:lb≤1000):cd (n+11) (.fn 22) [df dr lc zc lb zb] H=some (.int .i64 (gh dr lc zc lb zb),H):=by
 have s3:bW .i64 (Int.ofNat lc) (Int.ofNat 1)=(lc:Int)-1:=by rw[dK];exact fH (by show -9223372036854775808≤(lc:Int)-1;omega) (by show (lc:Int)-1≤_;omega)
 have hv:=fun h:eV (iR zc) lc=false=>(uY h:qb lc zc)
 have ht:(mr (mr (mD (mr aX 60 (gB (eV (iR zc) lc) (fun A=>A=[slA 4 lc zc,.fn (.func 58) [] []]))) 59 gW) 62 (fun x=>some (x=[df dr lc zc lb zb]∧(lc≤10∧(1≤dr∧dr≤100)∧qb lc zc∧fi lc lb zb),J6 dr lc zc lb zb))) 63 (gB (kK lc (fun c=>eu zb c lb)) (fun A=>A=[J6 dr lc zc lb zb]∧(lc≤10∧fi lc lb zb)))).Ok (cd (n+10)):=by
  refine wL (DN ?_ (fun A H hA=>?_)) (fun A H hA=>?_)
  · rw[show n+10=n+4+6 by omega]
    refine wM (n:=n+4) (wL (bG _) (fun A H hA=>?_))
    subst hA
    rw[show n+4+6=n+10 by omega]
    exact Qg n lc zc H hl
  · obtain ⟨rfl,a1,a2,a3,a4⟩:=hA
    rw[show n+10=n+3+7 by omega]
    exact PD (n+3) dr lc zc lb zb H a1 hb a2 a3 a4
  · obtain ⟨rfl,a1,a4⟩:=hA
    rw[show n+10=n+8+2 by omega]
    exact Qi (n+8) dr lc zc lb zb (cE dr lc zc) (fun c=>eu zb c lb) H a1 (fun c _=>Nat.lt_of_lt_of_le (yV zb c lc lb (fun i hi=>(a4 i hi).1)) (Nat.pow_le_pow_right (by decide) (by omega)))
 by_cases k0:1≤lc∧lc≤10∧lb≤40
 · obtain ⟨k1,k2,k3⟩:=k0
   refine bN (n:=n+10) Tryd.func22 rfl rfl rfl (SB n dr lc zc lb zb H (J4 dr lc zc lb zb (fN (gE lc zb) lb 0)) (eV (iR zc) lc) (kK lc (fun c=>eu zb c lb)) (eV (gE lc zb) lb) (fun A=>A=[slA 4 lc zc,.fn (.func 58) [] []]) (fun A=>A=[df dr lc zc lb zb]∧(lc≤10∧(1≤dr∧dr≤100)∧qb lc zc∧fi lc lb zb)) (fun A=>A=[J6 dr lc zc lb zb]∧(lc≤10∧fi lc lb zb)) (J6 dr lc zc lb zb)) (cK _ _ ht) (bu (ak _ _) PV (fun y h=>fm h (RX n dr lc zc lb zb H k1 k2 k3))) (al _ _) ?_
   have hG:gh dr lc zc lb zb=if dr<1∨100<dr∨eV (iR zc) lc=true then 3 else if eV (gE lc zb) lb=true then 2 else if kK lc (fun c=>eu zb c lb)=true then 16 else 0:=by unfold gh;rw[if_neg (by omega)]
   rw[hG,s3]
   refine Tr.ag (fun q=>?_) (fun q=>?_)
   · exfalso
     rw[aS,bP,bP,bt,bt] at q
     simp at q
     omega
   refine Tr.ag (fun q=>by exfalso;simp (disch:=omega) only[nV,nW] at q;omega) (fun q=>?_)
   refine Tr.ag (fun q=>?_) (fun q=>?_)
   · rw[aS,bP,bP,bt,bt] at q
     simp at q
     rw[if_pos (by omega)]
     exact Tr.ah ⟨rfl,rfl⟩
   · rw[aS,bP,bP,bt,bt] at q
     simp at q
     refine Tr.an rfl (Tr.ag (fun r=>?_) (fun r=>?_))
     · rw[if_pos (.inr (.inr r))]
       exact Tr.ah ⟨rfl,rfl⟩
     · rw[if_neg (by rintro (h | h | h);omega;omega;rw[r] at h;cases h)]
       refine Tr.an ⟨by rw[← s3],by rw[← s3]⟩ (Tr.ag (fun u=>?_) (fun u=>?_))
       · rw[if_pos u]
         exact Tr.ah ⟨rfl,rfl⟩
       · rw[if_neg (by rw[u];decide)]
         refine Tr.an ⟨rfl,k2,by omega,hv r,oD u⟩ (Tr.an ⟨rfl,k2,oD u⟩ (Tr.ag (fun w=>?_) (fun w=>?_)))
         · rw[if_pos w];exact Tr.ah ⟨rfl,rfl⟩
         · rw[if_neg (by rw[w];decide)];exact Tr.ah ⟨rfl,rfl⟩
 · refine bN (n:=n+10) Tryd.func22 rfl rfl rfl (OF n dr lc zc lb zb H) (cK _ _ (by
    rw[show n+10=n+4+6 by omega]
    exact wM (n:=n+4) (bG _))) (fB (ak _ _) 1) (al _ _) ?_
   have hG:gh dr lc zc lb zb=6:=by unfold gh;rw[if_pos (by omega)]
   rw[hG,s3]
   refine Tr.ag (fun q=>Tr.ah ⟨rfl,rfl⟩) (fun q=>?_)
   refine Tr.ag (fun q=>Tr.ah ⟨rfl,rfl⟩) (fun q2=>?_)
   exfalso
   rw[aS,bP,bP,bt,bt] at q
   simp at q
   simp (disch:=omega) only[nV,nW] at q2
   omega
end
end Go.Eng
end
section
namespace Go.Eng
open Go.Proofs
noncomputable def iN (dr:Int) (lc:Nat) (zc:Nat→Int) (lb:Nat) (zb:Nat→Int):bL:=⟨false,[(0,.row (.G [.int .i64 dr,slA 4 lc zc,slA 2 lb zb]))]⟩
noncomputable def Cd (a b j:Int):az:=[(1,.int .i64 a),(2,.int .i64 b),(3,.ptr 0 0 0 0),(7,.int .i64 j)]
noncomputable def c6 (dr:Int) (lc:Nat) (zc:Nat→Int) (lb:Nat) (zb:Nat→Int) (bs:List (Nat×av)):bL:=⟨false,(0,.row (.G [.int .i64 dr,slA 4 lc zc,slA 2 lb zb]))::bs⟩
noncomputable def b8 (L:Nat) (y:Nat→Int):Nat×av:=(0,.row (.M [.arr .i64 y L]))
noncomputable def my (i lc L:Nat) (s:Nat) (j:Int):az:=[(1,.ptr 0 0 0 0),(3,.int .i64 (Int.ofNat lc)),(4,.slc 0 i 0 0 1 L (some L)),(s,.int .i64 j)]
noncomputable def zu (lc L:Nat) (j:Int):az:=[(3,.int .i64 (Int.ofNat lc)),(4,.slc 0 2 0 0 1 L (some L)),(10,.int .i64 j)]
noncomputable def lg (i lc L:Nat) (t a:Int):az:=[(1,.ptr 0 0 0 0),(3,.int .i64 (Int.ofNat lc)),(4,.slc 0 i 0 0 1 L (some L)),(6,.int .i64 t),(7,.slc 0 (Nat.succ i) 0 0 1 L (some L)),(8,.int .i64 a)]
noncomputable def nR (i lc L:Nat) (t a c:Int):az:=lg i lc L t a++[(9,.int .i64 c)]
noncomputable def L5 (A:AV) (P:Int→Int→Bool):List AV→Option (Prop×AV)
 | [B,.int .i64 a,.int .i64 c]=>some (B=A,.bool (P a c))
 | _=>none
theorem t79 (n:Nat) (dr:Int) (lc:Nat) (zc:Nat→Int) (lb:Nat) (zb:Nat→Int) (H:aa) (a b j:Int):aZ (cI n 79 24) (il aX n 0) bo bp (part Tryd.f79 [1,0,1,0,0]) (hints (Cd a b j)) (iN dr lc zc lb zb::H) =
 (fun (Z0:bL)=>Tr.ite (da j (Int.ofNat lb)) (Tr.req (dk j lb) (Tr.req (cW (aE 0 j 2) (aq lb 2)) (Tr.req (cW (aG (aE 0 j 2) 1) (aq lb 2)) (Tr.ite (bY (dC (zb (aE 0 j 2)) a) (dC (zb (aG (aE 0 j 2) 1)) b)) (Tr.ok (Ex.ret,[(6,AV.bool true,some 1)],Z0::H)) (Tr.ok (Ex.normal,[(1,AV.int .i64 a,none),(2,AV.int .i64 b,none),(3,AV.ptr 0 0 0 0,none),(7,AV.int .i64 (bz .i64 j (Int.ofNat 1)),none)],Z0::H)))))) (Tr.ok (Ex.exit 0,[(1,AV.int .i64 a,none),(2,AV.int .i64 b,none),(3,AV.ptr 0 0 0 0,none),(7,AV.int .i64 j,none),(12,AV.bool false,some 1)],Z0::H))) { lock:=false,bs:=[(0,av.row (Row.G [AV.int .i64 dr,AV.slcT none (Row.M [aw.arr .i64 zc (aq lc 4)]) 4 lc false,AV.slcT none (Row.M [aw.arr .i64 zb (aq lb 2)]) 2 lb false]))] }:=by kernel_rfl
theorem SP (n:Nat) (dr:Int) (lc:Nat) (zc:Nat→Int) (lb:Nat) (zb:Nat→Int) (H:aa) (a b:Int) (e:Bool):bA Tryd.prog (cd n) 100000 79 Tryd.f79 (KtG.kt 79) (il aX n 0) (dN bo 0 (Cd a b (Int.ofNat 0)) (iN dr lc zc lb zb::H) (.ite e (.ok (.ret,[(6,.bool true,none)],iN dr lc zc lb zb::H)) (.ok (.normal,hints (Cd a b (Int.ofNat lb)++[(12,.bool false)]),iN dr lc zc lb zb::H)))) bp [(df dr lc zc lb zb,none),(.int .i64 a,none),(.int .i64 b,none)] H =
 (fun (Z0:bL)=>((fun (Z1:az)=>Tr.reqP (Z1=Z1∧Z0::H=Z0::H) (Tr.ite e (Tr.ok ((AV.bool true,none),H)) (Tr.ok ((AV.bool false,some 1),H)))) [(1,AV.int .i64 a),(2,AV.int .i64 b),(3,AV.ptr 0 0 0 0),(7,AV.int .i64 (Int.ofNat 0))])) { lock:=false,bs:=[(0,av.row (Row.G [AV.int .i64 dr,AV.slcT none (Row.M [aw.arr .i64 zc (aq lc 4)]) 4 lc false,AV.slcT none (Row.M [aw.arr .i64 zb (aq lb 2)]) 2 lb false]))] }:=by kernel_rfl
theorem LA (n:Nat) (dr:Int) (lc L:Nat) (zc:Nat→Int) (lb:Nat) (zb:Nat→Int) (H:aa) (y:Nat→Int) (j:Int):aZ (cI n 64 66) (il aX n 0) bo bp (part Tryd.f64 [1,1,1,0,1,0,0]) (hints (my 1 lc L 5 j)) (c6 dr lc zc lb zb [b8 L y]::H) =
 (fun (Z0:Nat×av)=>Tr.ite (da j (Int.ofNat lc)) (Tr.req (dk j L) (Tr.req (fX 0 0) (Tr.req (cW (aE 0 j 1) L) (Tr.ok (Ex.normal,[(1,AV.ptr 0 0 0 0,none),(3,AV.int .i64 (Int.ofNat lc),none),(4,AV.slc 0 1 0 0 1 L (some L),none),(5,AV.int .i64 (bz .i64 j (Int.ofNat 1)),none)],{ lock:=false,bs:=[Z0,(0,av.row (Row.M [aw.arr .i64 (gH y (aE 0 j 1) (Int.ofNat 1)) L]))] } :: H))))) (Tr.ok (Ex.exit 0,[(1,AV.ptr 0 0 0 0,none),(3,AV.int .i64 (Int.ofNat lc),none),(4,AV.slc 0 1 0 0 1 L (some L),none),(5,AV.int .i64 j,none),(18,AV.bool false,some 1)],{ lock:=false,bs:=[Z0,(0,av.row (Row.M [aw.arr .i64 y L]))] } :: H))) (0,av.row (Row.G [AV.int .i64 dr,AV.slcT none (Row.M [aw.arr .i64 zc (aq lc 4)]) 4 lc false,AV.slcT none (Row.M [aw.arr .i64 zb (aq lb 2)]) 2 lb false])):=by kernel_rfl
theorem Hi (n:Nat) (dr:Int) (lc L:Nat) (zc:Nat→Int) (lb:Nat) (zb:Nat→Int) (H:aa) (y x:Nat→Int) (P:Int→Int→Bool) (t a c:Int):aZ (cI n 64 66) (il (mr aX 79 (L5 (df dr lc zc lb zb) P)) n 0) bo bp (part Tryd.f64 [1,1,1,1,0,1,0,0,1,0,0,1,0,1,0,0,1,0,0,1,0,0]) (hints (nR 1 lc L t a c)) (c6 dr lc zc lb zb [b8 L y,b8 L x]::H) =
 (fun (Z0:Row)=>((fun (Z1:aK)=>((fun (Z2:bL)=>Tr.ite (da c (Int.ofNat lc)) (Tr.req (dk a L) (Tr.req (fX 0 0) (Tr.req (cW (aE 0 a 1) L) (Tr.ite (dC (y (aE 0 a 1)) (Int.ofNat 1)) (Tr.reqP (AV.agg Z0=AV.agg Z0) (Tr.ite (P a c) (Tr.req (dk c L) (Tr.req (fX 0 0) (Tr.req (cW (aE 0 c 1) L) (Tr.ok (Ex.normal,Z1,{ lock:=false,bs:=[(0,av.row Z0),(0,av.row (Row.M [aw.arr .i64 y L])),(0,av.row (Row.M [aw.arr .i64 (gH x (aE 0 c 1) (Int.ofNat 1)) L]))] } :: H))))) (Tr.ok (Ex.normal,Z1,Z2::H)))) (Tr.ok (Ex.normal,Z1,Z2::H)))))) (Tr.ok (Ex.exit 6,[(1,AV.ptr 0 0 0 0,none),(3,AV.int .i64 (Int.ofNat lc),none),(4,AV.slc 0 1 0 0 1 L (some L),none),(6,AV.int .i64 t,none),(7,AV.slc 0 2 0 0 1 L (some L),none),(8,AV.int .i64 a,none),(9,AV.int .i64 c,none),(38,AV.bool false,some 1)],Z2::H))) { lock:=false,bs:=[(0,av.row Z0),(0,av.row (Row.M [aw.arr .i64 y L])),(0,av.row (Row.M [aw.arr .i64 x L]))] })) [(1,AV.ptr 0 0 0 0,none),(3,AV.int .i64 (Int.ofNat lc),none),(4,AV.slc 0 1 0 0 1 L (some L),none),(6,AV.int .i64 t,none),(7,AV.slc 0 2 0 0 1 L (some L),none),(8,AV.int .i64 a,none),(9,AV.int .i64 (bz .i64 c (Int.ofNat 1)),none)])) (Row.G [AV.int .i64 dr,AV.slcT none (Row.M [aw.arr .i64 zc (aq lc 4)]) 4 lc false,AV.slcT none (Row.M [aw.arr .i64 zb (aq lb 2)]) 2 lb false]):=by kernel_rfl
theorem LB (n:Nat) (dr:Int) (lc L:Nat) (zc:Nat→Int) (lb:Nat) (zb:Nat→Int) (H:aa) (y x x':Nat→Int) (t a:Int):aZ (cI n 64 66) (il aX n 0) (dN bo 6 (nR 1 lc L t a (Int.ofNat 0)) (c6 dr lc zc lb zb [b8 L y,b8 L x]::H) (.ok (.normal,hints (nR 1 lc L t a (Int.ofNat lc)++[(38,.bool false)]),(c6 dr lc zc lb zb [b8 L y,b8 L x']::H)))) bp (part Tryd.f64 [1,1,1,1,0,1,0,0,1,0,0,1,0,1,0,0]) (hints (lg 1 lc L t a)) (c6 dr lc zc lb zb [b8 L y,b8 L x]::H) =
 (fun (Z0:bL)=>((fun (Z1:az)=>Tr.ite (da a (Int.ofNat lc)) (Tr.reqP (Z1=Z1∧Z0::H=Z0::H) (Tr.ok (Ex.normal,[(1,AV.ptr 0 0 0 0,none),(3,AV.int .i64 (Int.ofNat lc),none),(4,AV.slc 0 1 0 0 1 L (some L),none),(6,AV.int .i64 t,none),(7,AV.slc 0 2 0 0 1 L (some L),none),(8,AV.int .i64 (bz .i64 a (Int.ofNat 1)),none)],{ lock:=false,bs:=[(0,av.row (Row.G [AV.int .i64 dr,AV.slcT none (Row.M [aw.arr .i64 zc (aq lc 4)]) 4 lc false,AV.slcT none (Row.M [aw.arr .i64 zb (aq lb 2)]) 2 lb false])),(0,av.row (Row.M [aw.arr .i64 y L])),(0,av.row (Row.M [aw.arr .i64 x' L]))] } :: H))) (Tr.ok (Ex.exit 4,[(1,AV.ptr 0 0 0 0,none),(3,AV.int .i64 (Int.ofNat lc),none),(4,AV.slc 0 1 0 0 1 L (some L),none),(6,AV.int .i64 t,none),(7,AV.slc 0 2 0 0 1 L (some L),none),(8,AV.int .i64 a,none),(33,AV.bool false,some 1)],Z0::H))) [(1,AV.ptr 0 0 0 0),(3,AV.int .i64 (Int.ofNat lc)),(4,AV.slc 0 1 0 0 1 L (some L)),(6,AV.int .i64 t),(7,AV.slc 0 2 0 0 1 L (some L)),(8,AV.int .i64 a),(9,AV.int .i64 (Int.ofNat 0))])) { lock:=false,bs:=[(0,av.row (Row.G [AV.int .i64 dr,AV.slcT none (Row.M [aw.arr .i64 zc (aq lc 4)]) 4 lc false,AV.slcT none (Row.M [aw.arr .i64 zb (aq lb 2)]) 2 lb false])),(0,av.row (Row.M [aw.arr .i64 y L])),(0,av.row (Row.M [aw.arr .i64 x L]))] }:=by kernel_rfl
theorem LF (n:Nat) (dr:Int) (lc:Nat) (zc:Nat→Int) (lb:Nat) (zb:Nat→Int) (H:aa) (y x':Nat→Int) (t:Int):aZ (cI n 64 66) (il aX n 0) (dN bo 4 (lg 1 lc (cD (Int.ofNat lc)) t (Int.ofNat 0)) (c6 dr lc zc lb zb [b8 (cD (Int.ofNat lc)) y,b8 (cD (Int.ofNat lc)) (fun _=>Int.ofNat 0)]::H) (.ok (.normal,hints (lg 1 lc (cD (Int.ofNat lc)) t (Int.ofNat lc)++[(33,.bool false)]),(c6 dr lc zc lb zb [b8 (cD (Int.ofNat lc)) y,b8 (cD (Int.ofNat lc)) x']::H)))) bp (part Tryd.f64 [1,1,1,1,0,1,0,0]) (hints (my 1 lc (cD (Int.ofNat lc)) 6 t)) (c6 dr lc zc lb zb [b8 (cD (Int.ofNat lc)) y]::H) =
 (fun (Z0:Nat×av)=>((fun (Z1:az)=>((fun (Z2:bL)=>Tr.ite (da t (Int.ofNat lc)) (Tr.req (CW (Int.ofNat lc) (Int.ofNat lc) 8) (Tr.reqP (Z1=Z1∧Z2::H=Z2::H) (Tr.ok (Ex.normal,[(1,AV.ptr 0 0 0 0,none),(3,AV.int .i64 (Int.ofNat lc),none),(4,AV.slc 0 2 0 0 1 (cD (Int.ofNat lc)) (some (cD (Int.ofNat lc))),none),(6,AV.int .i64 (bz .i64 t (Int.ofNat 1)),none)],{ lock:=false,bs:=[Z0,(0,av.row (Row.M [aw.arr .i64 y (cD (Int.ofNat lc))])),(0,av.row (Row.M [aw.arr .i64 x' (cD (Int.ofNat lc))]))] } :: H)))) (Tr.ok (Ex.exit 2,[(1,AV.ptr 0 0 0 0,none),(3,AV.int .i64 (Int.ofNat lc),none),(4,AV.slc 0 1 0 0 1 (cD (Int.ofNat lc)) (some (cD (Int.ofNat lc))),none),(6,AV.int .i64 t,none),(26,AV.bool false,some 1)],{ lock:=false,bs:=[Z0,(0,av.row (Row.M [aw.arr .i64 y (cD (Int.ofNat lc))]))] } :: H))) { lock:=false,bs:=[Z0,(0,av.row (Row.M [aw.arr .i64 y (cD (Int.ofNat lc))])),(0,av.row (Row.M [aw.arr .i64 (fun x=>Int.ofNat 0) (cD (Int.ofNat lc))]))] })) [(1,AV.ptr 0 0 0 0),(3,AV.int .i64 (Int.ofNat lc)),(4,AV.slc 0 1 0 0 1 (cD (Int.ofNat lc)) (some (cD (Int.ofNat lc)))),(6,AV.int .i64 t),(7,AV.slc 0 2 0 0 1 (cD (Int.ofNat lc)) (some (cD (Int.ofNat lc)))),(8,AV.int .i64 (Int.ofNat 0))])) (0,av.row (Row.G [AV.int .i64 dr,AV.slcT none (Row.M [aw.arr .i64 zc (aq lc 4)]) 4 lc false,AV.slcT none (Row.M [aw.arr .i64 zb (aq lb 2)]) 2 lb false])):=by kernel_rfl
theorem Hj (n:Nat) (dr:Int) (lc L:Nat) (zc:Nat→Int) (lb:Nat) (zb:Nat→Int) (H:aa) (g:Nat→Int) (y x:Nat→Int) (P:Int→Int→Bool) (t a c:Int):aZ (cI n 64 66) (il (mr aX 79 (L5 (df dr lc zc lb zb) P)) n 0) bo bp (part Tryd.f64 [1,1,1,1,0,1,0,0,1,0,0,1,0,1,0,0,1,0,0,1,0,0]) (hints (nR 2 lc L t a c)) (c6 dr lc zc lb zb [b8 L g,b8 L y,b8 L x]::H) =
 (fun (Z0:Row)=>((fun (Z1:aK)=>((fun (Z2:bL)=>Tr.ite (da c (Int.ofNat lc)) (Tr.req (dk a L) (Tr.req (fX 0 0) (Tr.req (cW (aE 0 a 1) L) (Tr.ite (dC (y (aE 0 a 1)) (Int.ofNat 1)) (Tr.reqP (AV.agg Z0=AV.agg Z0) (Tr.ite (P a c) (Tr.req (dk c L) (Tr.req (fX 0 0) (Tr.req (cW (aE 0 c 1) L) (Tr.ok (Ex.normal,Z1,{ lock:=false,bs:=[(0,av.row Z0),(0,av.row (Row.M [aw.arr .i64 g L])),(0,av.row (Row.M [aw.arr .i64 y L])),(0,av.row (Row.M [aw.arr .i64 (gH x (aE 0 c 1) (Int.ofNat 1)) L]))] } :: H))))) (Tr.ok (Ex.normal,Z1,Z2::H)))) (Tr.ok (Ex.normal,Z1,Z2::H)))))) (Tr.ok (Ex.exit 6,[(1,AV.ptr 0 0 0 0,none),(3,AV.int .i64 (Int.ofNat lc),none),(4,AV.slc 0 2 0 0 1 L (some L),none),(6,AV.int .i64 t,none),(7,AV.slc 0 3 0 0 1 L (some L),none),(8,AV.int .i64 a,none),(9,AV.int .i64 c,none),(38,AV.bool false,some 1)],Z2::H))) { lock:=false,bs:=[(0,av.row Z0),(0,av.row (Row.M [aw.arr .i64 g L])),(0,av.row (Row.M [aw.arr .i64 y L])),(0,av.row (Row.M [aw.arr .i64 x L]))] })) [(1,AV.ptr 0 0 0 0,none),(3,AV.int .i64 (Int.ofNat lc),none),(4,AV.slc 0 2 0 0 1 L (some L),none),(6,AV.int .i64 t,none),(7,AV.slc 0 3 0 0 1 L (some L),none),(8,AV.int .i64 a,none),(9,AV.int .i64 (bz .i64 c (Int.ofNat 1)),none)])) (Row.G [AV.int .i64 dr,AV.slcT none (Row.M [aw.arr .i64 zc (aq lc 4)]) 4 lc false,AV.slcT none (Row.M [aw.arr .i64 zb (aq lb 2)]) 2 lb false]):=by kernel_rfl
theorem LC (n:Nat) (dr:Int) (lc L:Nat) (zc:Nat→Int) (lb:Nat) (zb:Nat→Int) (H:aa) (g:Nat→Int) (y x x':Nat→Int) (t a:Int):aZ (cI n 64 66) (il aX n 0) (dN bo 6 (nR 2 lc L t a (Int.ofNat 0)) (c6 dr lc zc lb zb [b8 L g,b8 L y,b8 L x]::H) (.ok (.normal,hints (nR 2 lc L t a (Int.ofNat lc)++[(38,.bool false)]),(c6 dr lc zc lb zb [b8 L g,b8 L y,b8 L x']::H)))) bp (part Tryd.f64 [1,1,1,1,0,1,0,0,1,0,0,1,0,1,0,0]) (hints (lg 2 lc L t a)) (c6 dr lc zc lb zb [b8 L g,b8 L y,b8 L x]::H) =
 (fun (Z0:bL)=>((fun (Z1:az)=>Tr.ite (da a (Int.ofNat lc)) (Tr.reqP (Z1=Z1∧Z0::H=Z0::H) (Tr.ok (Ex.normal,[(1,AV.ptr 0 0 0 0,none),(3,AV.int .i64 (Int.ofNat lc),none),(4,AV.slc 0 2 0 0 1 L (some L),none),(6,AV.int .i64 t,none),(7,AV.slc 0 3 0 0 1 L (some L),none),(8,AV.int .i64 (bz .i64 a (Int.ofNat 1)),none)],{ lock:=false,bs:=[(0,av.row (Row.G [AV.int .i64 dr,AV.slcT none (Row.M [aw.arr .i64 zc (aq lc 4)]) 4 lc false,AV.slcT none (Row.M [aw.arr .i64 zb (aq lb 2)]) 2 lb false])),(0,av.row (Row.M [aw.arr .i64 g L])),(0,av.row (Row.M [aw.arr .i64 y L])),(0,av.row (Row.M [aw.arr .i64 x' L]))] } :: H))) (Tr.ok (Ex.exit 4,[(1,AV.ptr 0 0 0 0,none),(3,AV.int .i64 (Int.ofNat lc),none),(4,AV.slc 0 2 0 0 1 L (some L),none),(6,AV.int .i64 t,none),(7,AV.slc 0 3 0 0 1 L (some L),none),(8,AV.int .i64 a,none),(33,AV.bool false,some 1)],Z0::H))) [(1,AV.ptr 0 0 0 0),(3,AV.int .i64 (Int.ofNat lc)),(4,AV.slc 0 2 0 0 1 L (some L)),(6,AV.int .i64 t),(7,AV.slc 0 3 0 0 1 L (some L)),(8,AV.int .i64 a),(9,AV.int .i64 (Int.ofNat 0))])) { lock:=false,bs:=[(0,av.row (Row.G [AV.int .i64 dr,AV.slcT none (Row.M [aw.arr .i64 zc (aq lc 4)]) 4 lc false,AV.slcT none (Row.M [aw.arr .i64 zb (aq lb 2)]) 2 lb false])),(0,av.row (Row.M [aw.arr .i64 g L])),(0,av.row (Row.M [aw.arr .i64 y L])),(0,av.row (Row.M [aw.arr .i64 x L]))] }:=by kernel_rfl
theorem LG (n:Nat) (dr:Int) (lc:Nat) (zc:Nat→Int) (lb:Nat) (zb:Nat→Int) (H:aa) (g:Nat→Int) (y x':Nat→Int) (t:Int):aZ (cI n 64 66) (il aX n 0) (dN bo 4 (lg 2 lc (cD (Int.ofNat lc)) t (Int.ofNat 0)) (c6 dr lc zc lb zb [b8 (cD (Int.ofNat lc)) g,b8 (cD (Int.ofNat lc)) y,b8 (cD (Int.ofNat lc)) (fun _=>Int.ofNat 0)]::H) (.ok (.normal,hints (lg 2 lc (cD (Int.ofNat lc)) t (Int.ofNat lc)++[(33,.bool false)]),(c6 dr lc zc lb zb [b8 (cD (Int.ofNat lc)) g,b8 (cD (Int.ofNat lc)) y,b8 (cD (Int.ofNat lc)) x']::H)))) bp (part Tryd.f64 [1,1,1,1,0,1,0,0]) (hints (my 2 lc (cD (Int.ofNat lc)) 6 t)) (c6 dr lc zc lb zb [b8 (cD (Int.ofNat lc)) g,b8 (cD (Int.ofNat lc)) y]::H) =
 (fun (Z0:Nat×av)=>((fun (Z1:az)=>((fun (Z2:bL)=>Tr.ite (da t (Int.ofNat lc)) (Tr.req (CW (Int.ofNat lc) (Int.ofNat lc) 8) (Tr.reqP (Z1=Z1∧Z2::H=Z2::H) (Tr.ok (Ex.normal,[(1,AV.ptr 0 0 0 0,none),(3,AV.int .i64 (Int.ofNat lc),none),(4,AV.slc 0 3 0 0 1 (cD (Int.ofNat lc)) (some (cD (Int.ofNat lc))),none),(6,AV.int .i64 (bz .i64 t (Int.ofNat 1)),none)],{ lock:=false,bs:=[Z0,(0,av.row (Row.M [aw.arr .i64 g (cD (Int.ofNat lc))])),(0,av.row (Row.M [aw.arr .i64 y (cD (Int.ofNat lc))])),(0,av.row (Row.M [aw.arr .i64 x' (cD (Int.ofNat lc))]))] } :: H)))) (Tr.ok (Ex.exit 2,[(1,AV.ptr 0 0 0 0,none),(3,AV.int .i64 (Int.ofNat lc),none),(4,AV.slc 0 2 0 0 1 (cD (Int.ofNat lc)) (some (cD (Int.ofNat lc))),none),(6,AV.int .i64 t,none),(26,AV.bool false,some 1)],{ lock:=false,bs:=[Z0,(0,av.row (Row.M [aw.arr .i64 g (cD (Int.ofNat lc))])),(0,av.row (Row.M [aw.arr .i64 y (cD (Int.ofNat lc))]))] } :: H))) { lock:=false,bs:=[Z0,(0,av.row (Row.M [aw.arr .i64 g (cD (Int.ofNat lc))])),(0,av.row (Row.M [aw.arr .i64 y (cD (Int.ofNat lc))])),(0,av.row (Row.M [aw.arr .i64 (fun x=>Int.ofNat 0) (cD (Int.ofNat lc))]))] })) [(1,AV.ptr 0 0 0 0),(3,AV.int .i64 (Int.ofNat lc)),(4,AV.slc 0 2 0 0 1 (cD (Int.ofNat lc)) (some (cD (Int.ofNat lc)))),(6,AV.int .i64 t),(7,AV.slc 0 3 0 0 1 (cD (Int.ofNat lc)) (some (cD (Int.ofNat lc)))),(8,AV.int .i64 (Int.ofNat 0))])) (0,av.row (Row.G [AV.int .i64 dr,AV.slcT none (Row.M [aw.arr .i64 zc (aq lc 4)]) 4 lc false,AV.slcT none (Row.M [aw.arr .i64 zb (aq lb 2)]) 2 lb false])):=by kernel_rfl
end Go.Eng
end
section
namespace Go.Eng
open Go.Proofs Go.Eng.Gall
def yM (lb:Nat) (zb:Nat→Int) (a c:Int):Bool:=eV (iQ zb a c) lb
theorem PZ:∀ b,(0,b) ∈ aP (bw Tryd.f79)→b=.loop (part Tryd.f79 [1,0,1,0,0]):=fJ (by kernel_rfl)
theorem Kj:∀ b,(0,b) ∈ aP (bw Tryd.f64)→b=.loop (part Tryd.f64 [1,1,1,0,1,0,0]):=fJ (by kernel_rfl)
theorem Kk:∀ b,(2,b) ∈ aP (bw Tryd.f64)→b=.loop (part Tryd.f64 [1,1,1,1,0,1,0,0]):=fJ (by kernel_rfl)
theorem Kl:∀ b,(8,b) ∈ aP (bw Tryd.f64)→b=.loop (part Tryd.f64 [1,1,1,1,1,0,1,0,0]):=fJ (by kernel_rfl)
theorem G0:∀ b,(4,b) ∈ aP (part Tryd.f64 [1,1,1,1,0,1,0,0])→b=.loop (part Tryd.f64 [1,1,1,1,0,1,0,0,1,0,0,1,0,1,0,0]):=fJ (by kernel_rfl)
theorem G1:∀ b,(6,b) ∈ aP (part Tryd.f64 [1,1,1,1,0,1,0,0,1,0,0,1,0,1,0,0])→b=.loop (part Tryd.f64 [1,1,1,1,0,1,0,0,1,0,0,1,0,1,0,0,1,0,0,1,0,0]):=fJ (by kernel_rfl)
theorem LD (n:Nat) (dr:Int) (lc L:Nat) (zc:Nat→Int) (lb:Nat) (zb:Nat→Int) (H:aa) (g y:Nat→Int) (j:Int):aZ (cI n 64 66) (il aX n 0) bo bp (part Tryd.f64 [1,1,1,1,1,0,1,0,0]) (hints (zu lc L j)) (c6 dr lc zc lb zb [b8 L g,b8 L y]::H) =
 (fun (Z0:bL)=>Tr.ite (da j (Int.ofNat lc)) (Tr.req (dk j L) (Tr.req (fX 0 0) (Tr.req (cW (aE 0 j 1) L) (Tr.ite (dC (y (aE 0 j 1)) (Int.ofNat 1)) (Tr.ok (Ex.ret,[(2,AV.bool true,some 1)],Z0::H)) (Tr.ok (Ex.normal,[(3,AV.int .i64 (Int.ofNat lc),none),(4,AV.slc 0 2 0 0 1 L (some L),none),(10,AV.int .i64 (bz .i64 j (Int.ofNat 1)),none)],Z0::H)))))) (Tr.ok (Ex.exit 8,[(3,AV.int .i64 (Int.ofNat lc),none),(4,AV.slc 0 2 0 0 1 L (some L),none),(10,AV.int .i64 j,none),(58,AV.bool false,some 1)],Z0::H))) { lock:=false,bs:=[(0,av.row (Row.G [AV.int .i64 dr,AV.slcT none (Row.M [aw.arr .i64 zc (aq lc 4)]) 4 lc false,AV.slcT none (Row.M [aw.arr .i64 zb (aq lb 2)]) 2 lb false])),(0,av.row (Row.M [aw.arr .i64 g L])),(0,av.row (Row.M [aw.arr .i64 y L]))] }:=by kernel_rfl
theorem u64 (n:Nat) (dr:Int) (lc:Nat) (zc:Nat→Int) (lb:Nat) (zb:Nat→Int) (H:aa) (y0 g y:Nat→Int) (e:Bool):bA Tryd.prog (cd n) 100000 64 Tryd.f64 (KtG.kt 64) (il aX n 0) (dN (dN (dN bo 0 (my 1 lc (cD (Int.ofNat lc)) 5 (Int.ofNat 0)) (c6 dr lc zc lb zb [b8 (cD (Int.ofNat lc)) (fun _=>Int.ofNat 0)]::H) (.ok (.normal,hints (my 1 lc (cD (Int.ofNat lc)) 5 (Int.ofNat lc)++[(18,.bool false)]),c6 dr lc zc lb zb [b8 (cD (Int.ofNat lc)) y0]::H))) 2 (my 1 lc (cD (Int.ofNat lc)) 6 (Int.ofNat 0)) (c6 dr lc zc lb zb [b8 (cD (Int.ofNat lc)) y0]::H) (.ok (.normal,hints (my 2 lc (cD (Int.ofNat lc)) 6 (Int.ofNat lc)++[(26,.bool false)]),c6 dr lc zc lb zb [b8 (cD (Int.ofNat lc)) g,b8 (cD (Int.ofNat lc)) y]::H))) 8 (zu lc (cD (Int.ofNat lc)) (Int.ofNat 0)) (c6 dr lc zc lb zb [b8 (cD (Int.ofNat lc)) g,b8 (cD (Int.ofNat lc)) y]::H) (.ite e (.ok (.ret,[(2,.bool true,none)],c6 dr lc zc lb zb [b8 (cD (Int.ofNat lc)) g,b8 (cD (Int.ofNat lc)) y]::H)) (.ok (.normal,hints (zu lc (cD (Int.ofNat lc)) (Int.ofNat lc)++[(58,.bool false)]),c6 dr lc zc lb zb [b8 (cD (Int.ofNat lc)) g,b8 (cD (Int.ofNat lc)) y]::H)))) bp [(df dr lc zc lb zb,none)] H =
 (fun (Z0:Nat×av)=>((fun (Z1:Nat×AV)=>((fun (Z2:bL)=>((fun (Z3:Nat×AV)=>((fun (Z4:bL)=>((fun (Z5:bL)=>Tr.req (CW (Int.ofNat lc) (Int.ofNat lc) 8) (Tr.reqP ([(1,AV.ptr 0 0 0 0),Z3,Z1,(5,AV.int .i64 (Int.ofNat 0))]=[(1,AV.ptr 0 0 0 0),Z3,Z1,(5,AV.int .i64 (Int.ofNat 0))]∧Z4::H=Z4::H) (Tr.reqP ([(1,AV.ptr 0 0 0 0),Z3,Z1,(6,AV.int .i64 (Int.ofNat 0))]=[(1,AV.ptr 0 0 0 0),Z3,Z1,(6,AV.int .i64 (Int.ofNat 0))]∧Z5::H=Z5::H) (Tr.reqP ([Z3,(4,AV.slc 0 2 0 0 1 (cD (Int.ofNat lc)) (some (cD (Int.ofNat lc)))),(10,AV.int .i64 (Int.ofNat 0))]=[Z3,(4,AV.slc 0 2 0 0 1 (cD (Int.ofNat lc)) (some (cD (Int.ofNat lc)))),(10,AV.int .i64 (Int.ofNat 0))]∧Z2::H=Z2::H) (Tr.ite e (Tr.ok ((AV.bool true,none),H)) (Tr.ok ((AV.bool false,some 1),H))))))) { lock:=false,bs:=[Z0,(0,av.row (Row.M [aw.arr .i64 y0 (cD (Int.ofNat lc))]))] })) { lock:=false,bs:=[Z0,(0,av.row (Row.M [aw.arr .i64 (fun x=>Int.ofNat 0) (cD (Int.ofNat lc))]))] })) (3,AV.int .i64 (Int.ofNat lc)))) { lock:=false,bs:=[Z0,(0,av.row (Row.M [aw.arr .i64 g (cD (Int.ofNat lc))])),(0,av.row (Row.M [aw.arr .i64 y (cD (Int.ofNat lc))]))] })) (4,AV.slc 0 1 0 0 1 (cD (Int.ofNat lc)) (some (cD (Int.ofNat lc)))))) (0,av.row (Row.G [AV.int .i64 dr,AV.slcT none (Row.M [aw.arr .i64 zc (aq lc 4)]) 4 lc false,AV.slcT none (Row.M [aw.arr .i64 zb (aq lb 2)]) 2 lb false])):=by kernel_rfl
section
variable (n:Nat) (dr:Int) (lc:Nat) (zc:Nat→Int) (lb:Nat) (zb:Nat→Int) (H:aa)
theorem Qk (a b:Int) (hm:lb≤1000):cd (n+1) (.fn 79) [df dr lc zc lb zb,.int .i64 a,.int .i64 b] H=some (.bool (yM lb zb a b),H):=by
 have lp:=kZ (n:=n) (f:=79) (nt:=24) (c:=part Tryd.f79 [1,0,1,0,0]) 0 (fun j=>Cd a b (j:Int)) (fun _=>iN dr lc zc lb zb::H) lb (iQ zb a b) (fun j=>([(6,.bool true)],iN dr lc zc lb zb::H)) (Cd a b (Int.ofNat lb)++[(12,.bool false)],iN dr lc zc lb zb::H) (by omega) (fun j hj=>?_) ?_
 · refine bN (n:=n) Tryd.func79 rfl rfl rfl (SP n dr lc zc lb zb H a b (eV (iQ zb a b) lb)) (aV n) (bu (ak _ _) PZ (fun x hx=>fm hx lp)) (al _ _) ?_
   refine Tr.an ⟨rfl,rfl⟩ (Tr.ag (fun hc=>Tr.ah ⟨?_,rfl⟩) (fun hc=>Tr.ah ⟨?_,rfl⟩))
   · unfold yM;rw[hc]
   · unfold yM;rw[hc]
 · have ej:bz .i64 (j:Int) (Int.ofNat 1)=((j+1:Nat):Int):=gN (by omega)
   have ei:aE 0 (j:Int) 2=j*2:=by rw[bO];omega
   have hp:bY (dC (zb (j*2)) a) (dC (zb (j*2+1)) b)=iQ zb a b j:=by
    rw[bP,bh,bh];unfold iQ
    rw[Bool.eq_iff_iff];simp
    constructor<;>(rintro ⟨h1,h2⟩;exact ⟨h1.symm,h2.symm⟩)
   have T:=t79 n dr lc zc lb zb H a b (j:Int)
   rw[ei,aJ,ej,hp] at T
   refine aY T (aV n) (ak _ _) (al _ _) ?_
   refine Tr.ag (fun h0=>?_) (fun h0=>by simp (disch:=omega) only[nV,nW] at h0;omega)
   refine Tr.af (by simp (disch:=omega) only[nV,nW];omega) (Tr.af (by simp (disch:=omega) only[nV,nW];omega) (Tr.af (by simp (disch:=omega) only[nV,nW];omega) ?_))
   refine Tr.ag (fun q=>Tr.ah ?_) (fun q=>Tr.ah ?_)
   · rw[if_pos q];rfl
   · rw[if_neg (by rw[q];decide)];exact ⟨rfl,rfl⟩
 · obtain ⟨x,h1,rfl⟩:=aY (Q:=fun x=>x=(.exit 0,Cd a b (Int.ofNat lb)++[(12,.bool false)],iN dr lc zc lb zb::H)) (t79 n dr lc zc lb zb H a b (Int.ofNat lb)) (aV n) (ak _ _) (al _ _) (by
    refine Tr.ag (fun h0=>by simp (disch:=omega) only[nV,nW] at h0;omega) (fun h0=>Tr.ah rfl))
   exact h1
theorem vj {c:Nat} (hc:0<c) (hm:lb≤1000):(mr aX 79 (L5 (df dr lc zc lb zb) (yM lb zb))).Ok (cd c):=by
 obtain ⟨m,rfl⟩:∃ m,c=m+1:=⟨c-1,by omega⟩
 refine j4 (bG _) (fun args p v hg hp H=>?_)
 unfold L5 at hg
 split at hg
 · simp only[nP] at hg
   obtain ⟨rfl,rfl⟩:=hg
   rw[hp]
   exact Qk m dr lc zc lb zb H _ _ hm
 · cases hg
def cQ (p:Nat→Bool) (j:Nat):Int:=if p j=true then 1 else 0
def sO (lc lb:Nat) (zb:Nat→Int) (b:Nat→Nat) (t a j:Nat):Bool:=decide (j<lc) && eV (fun a'=>bD lc b t a' && yM lb zb a' j) a
def sP (lc lb:Nat) (zb:Nat→Int) (b:Nat→Nat) (t a c j:Nat):Bool:=sO lc lb zb b t a j || (decide (j<c) && (bD lc b t a && yM lb zb a j))
theorem He (b:Nat→Nat) (t:Nat):cQ (sO lc lb zb b t 0)=fun _=>Int.ofNat 0:=by
 funext j;unfold cQ sO
 rw[if_neg]
 · rfl
 · intro h
   rw[Bool.and_eq_true] at h
   obtain ⟨i,hi,_⟩:=(dG _ _).1 h.2
   omega
theorem Hf (b:Nat→Nat) (t a:Nat):sP lc lb zb b t a 0=sO lc lb zb b t a:=by
 funext j;unfold sP;simp
theorem Bm (b:Nat→Nat) (t a:Nat):sP lc lb zb b t a lc=sO lc lb zb b t (a+1):=by
 funext j;unfold sP sO
 have e:eV (fun a'=>bD lc b t a' && yM lb zb a' j) (a+1)=(eV (fun a'=>bD lc b t a' && yM lb zb a' j) a || (bD lc b t a && yM lb zb a j)):=by
  rw[Bool.eq_iff_iff,Bool.or_eq_true,dG,dG]
  constructor
  · rintro ⟨i,h1,h2⟩
    by_cases e:i=a
    · subst e;exact .inr h2
    · exact .inl ⟨i,by omega,h2⟩
  · rintro (⟨i,h1,h2⟩ | h)
    · exact ⟨i,by omega,h2⟩
    · exact ⟨a,by omega,h⟩
 rw[e]
 cases decide (j<lc)<;>simp
theorem Eh {b:Nat→Nat} (hb:b=fun c=>eu zb c lb) (hp:fi lc lb zb) (t:Nat):sO lc lb zb b t lc=bD lc b (t+1):=by
 funext j
 rw[Bool.eq_iff_iff,fQ]
 unfold sO yM
 rw[Bool.and_eq_true,decide_eq_true_iff,dG]
 subst hb
 constructor
 · rintro ⟨h1,a,h2,h3⟩
   rw[Bool.and_eq_true,dG] at h3
   obtain ⟨h3,i,hi,h4⟩:=h3
   unfold iQ at h4
   rw[Bool.and_eq_true,decide_eq_true_iff,decide_eq_true_iff] at h4
   exact ⟨h1,a,h3,(jW zb j a lb (fun i hi=>(hp i hi).1.1)).2 ⟨i,hi,h4.1.symm,h4.2.symm⟩⟩
 · rintro ⟨h1,a,h2,h3⟩
   obtain ⟨i,hi,h4,h5⟩:=(jW zb j a lb (fun i hi=>(hp i hi).1.1)).1 h3
   refine ⟨h1,a,mH h2,?_⟩
   rw[Bool.and_eq_true,dG]
   exact ⟨h2,i,hi,by unfold iQ;rw[Bool.and_eq_true,decide_eq_true_iff,decide_eq_true_iff];exact ⟨h4.symm,h5.symm⟩⟩
theorem Bn (b:Nat→Nat) (t a c:Nat) (h:(bD lc b t a && yM lb zb a c)=true):gH (cQ (sP lc lb zb b t a c)) c (Int.ofNat 1)=cQ (sP lc lb zb b t a (c+1)):=by
 rw[mn];funext j;unfold cQ sP
 by_cases e:j=c
 · subst e
   rw[if_pos rfl,h,decide_eq_true (by omega)]
   rw[if_pos (by simp)];rfl
 · rw[if_neg e]
   by_cases h2:j<c
   · rw[decide_eq_true h2,decide_eq_true (by omega)]
   · rw[decide_eq_false h2,decide_eq_false (by omega)]
theorem qy (b:Nat→Nat) (t a c:Nat) (h:(bD lc b t a && yM lb zb a c)=false):sP lc lb zb b t a (c+1)=sP lc lb zb b t a c:=by
 funext j;unfold sP
 by_cases e:j=c
 · subst e
   rw[h];simp
 · by_cases h2:j<c
   · rw[decide_eq_true h2,decide_eq_true (by omega)]
   · rw[decide_eq_false h2,decide_eq_false (by omega)]
theorem zJ (p:Nat→Bool) (j:Nat):dC (cQ p j) (Int.ofNat 1)=p j:=by
 rw[bh];unfold cQ
 cases p j<;>rfl
end
end Go.Eng
end
