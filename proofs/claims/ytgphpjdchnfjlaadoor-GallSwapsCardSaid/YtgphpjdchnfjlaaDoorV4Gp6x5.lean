/- Gall: orders of colours; which are right (plain law). -/
import Derived.Test.YtgphpjdchnfjlaaDoorV4Garx2
import Derived.Test.YtgphpjdchnfjlaaDoorV4Ga8x3
import Derived.Test.YtgphpjdchnfjlaaDoorV4Gabx10
set_option linter.unusedVariables false
set_option linter.unusedSimpArgs false
set_option maxRecDepth 100000
section
namespace Go.Eng
open Go.Proofs Go.Eng.Gall
def ur (z:Nat→Int) (lc m:Nat):Bool:=decide (m=lc) && !c5 (fun i=>!(decide (0≤z i) && decide (z i<lc)) || c5 (fun j=>decide (z j=z i)) i) m
theorem jn {p:Nat→Bool} {k:Nat}:c5 p k=false↔∀ j,j<k→p j=false:=⟨nQ,Dw⟩
theorem eK {z:Nat→Int} {lc m:Nat}:ur z lc m=true↔m=lc∧∀ i,i<m→(0≤z i∧z i<lc)∧∀ j,j<i→z j≠z i:=by
 unfold ur
 rw[Bool.and_eq_true,decide_eq_true_iff,Bool.not_eq_true',jn]
 constructor
 · rintro ⟨h1,h2⟩
   refine ⟨h1,fun i hi=>?_⟩
   have:=h2 i hi
   rw[Bool.or_eq_false_iff,jn,Bool.not_eq_false',Bool.and_eq_true,decide_eq_true_iff,decide_eq_true_iff] at this
   exact ⟨this.1,fun j hj=>by simpa using this.2 j hj⟩
 · rintro ⟨h1,h2⟩
   refine ⟨h1,fun i hi=>?_⟩
   obtain ⟨h3,h4⟩:=h2 i hi
   rw[Bool.or_eq_false_iff,jn,Bool.not_eq_false',Bool.and_eq_true,decide_eq_true_iff,decide_eq_true_iff]
   exact ⟨h3,fun j hj=>by simpa using h4 j hj⟩
theorem zO {z:Nat→Int} {m:Nat} {x:Int}:x ∈ jv z m↔∃ i,i<m∧z i=x:=by simp[jv]
theorem xO {z:Nat→Int} {m:Nat}:(jv z m).Nodup↔∀ i,i<m→∀ j,j<i→z j≠z i:=by
 unfold jv
 rw[List.Nodup,List.pairwise_map,List.pairwise_iff_getElem]
 simp only[List.length_range,List.getElem_range]
 constructor
 · intro h i hi j hj;exact h j i (by omega) hi hj
 · intro h j i hj hi hji;exact h i hi j hji
theorem xW (L:List Int):(fV L).Perm L:=List.mergeSort_perm _ _
theorem JX (L:List Int):(fV L).Pairwise (·≤·):=by
 have:=List.pairwise_mergeSort (le:=fun x y:Int=>decide (x≤y)) (by intro a b c h1 h2;simp at *;omega) (by intro a b;simp;omega) L
 refine this.imp (fun h=>?_)
 simpa using h
theorem DQ {m:Nat} {f:Nat→Int} (h0:∀ j,j<m→0≤f j) (hs:∀ i j,i<j→j<m→f i<f j):∀ j,j<m→(j:Int)≤f j
 | 0,h=>h0 0 h
 | j+1,h=>by
   have h1:=DQ h0 hs j (by omega)
   have h2:=hs j (j+1) (by omega) h
   omega
theorem inc_le {m:Nat} {f:Nat→Int} (h0:∀ j,j<m→f j<m) (hs:∀ i j,i<j→j<m→f i<f j):∀ t j,j+t+1=m→f j≤j
 | 0,j,h=>by have:=h0 j (by omega);omega
 | t+1,j,h=>by
   have h1:=inc_le h0 hs t (j+1) (by omega)
   have h2:=hs j (j+1) (by omega) (by omega)
   omega
theorem EN {z:Nat→Int} {lc m:Nat}:(c5 (fun j=>!decide (aX (fV (jv z m)) j=(j:Int))) m=false∧m=lc)↔ur z lc m=true:=by
 have hl:(fV (jv z m)).length=m:=by rw[kI,ik]
 have hp:=xW (jv z m)
 have hs:=JX (jv z m)
 rw[eK,jn]
 generalize fV (jv z m)=L at *
 constructor
 · rintro ⟨h1,h2⟩
   have he:∀ j,(hj:j<L.length)→L[j]=(j:Int):=fun j hj=>by
    have:=h1 j (by omega)
    rw[Bool.not_eq_false',decide_eq_true_iff,mW L j hj] at this
    exact this
   have hn:L.Nodup:=by
    rw[List.Nodup,List.pairwise_iff_getElem]
    intro i j hi hj hij
    rw[he i hi,he j hj];omega
   have hn2:=xO.1 (hp.nodup_iff.1 hn)
   refine ⟨h2,fun i hi=>⟨?_,hn2 i hi⟩⟩
   have:z i ∈ L:=hp.mem_iff.2 (zO.2 ⟨i,hi,rfl⟩)
   obtain ⟨k,hk,hk2⟩:=List.mem_iff_getElem.1 this
   rw[← hk2,he k hk];omega
 · rintro ⟨h1,h2⟩
   refine ⟨fun j hj=>?_,h1⟩
   have hn:L.Nodup:=hp.nodup_iff.2 (xO.2 fun i hi=>(h2 i hi).2)
   have hb:∀ x ∈ L,0≤x∧x<lc:=fun x hx=>by
    obtain ⟨i,hi,rfl⟩:=zO.1 (hp.mem_iff.1 hx)
    exact (h2 i hi).1
   have hgs:∀ i j,i<j→j<m→aX L i<aX L j:=fun i j hij hj=>by
    have a1:=(List.pairwise_iff_getElem.1 hs) i j (by omega) (by omega) hij
    have a2:=(List.pairwise_iff_getElem.1 hn) i j (by omega) (by omega) hij
    rw[mW L i (by omega),mW L j (by omega)]
    have a1:L[i]≤L[j]:=a1
    have a2:L[i]≠L[j]:=a2
    omega
   have hg:∀ j,j<m→0≤aX L j∧aX L j<m:=fun j hj=>by
    rw[mW L j (by omega)]
    have:=hb _ (List.getElem_mem (l:=L) (n:=j) (by omega))
    omega
   have e1:=DQ (fun j hj=>(hg j hj).1) hgs j hj
   have e2:=inc_le (fun j hj=>(hg j hj).2) hgs (m-1-j) j (by omega)
   rw[Bool.not_eq_false',decide_eq_true_iff];omega
def qE (z:Nat→Int) (m:Nat):List Nat:=(List.range m).map fun j=>(z j).toNat
theorem GH (z:Nat→Int) (m:Nat):qE z (m+1)=qE z m++[(z m).toNat]:=by unfold qE;rw[List.range_succ,List.map_append];rfl
theorem oC {z:Nat→Int} {m x:Nat}:x ∈ qE z m↔∃ i,i<m∧(z i).toNat=x:=by simp[qE]
theorem uy {z:Nat→Int} {m lc:Nat} (h:ur z lc m=true):∀ k,k≤m→(qE z k).Nodup:=fun k hk=>by
 obtain ⟨h1,h2⟩:=eK.1 h
 unfold qE
 rw[List.Nodup,List.pairwise_map,List.pairwise_iff_getElem]
 simp only[List.length_range,List.getElem_range]
 intro j i hj hi hji
 have a:=(h2 i (by omega)).1
 have b:=(h2 j (by omega)).1
 have c:=(h2 i (by omega)).2 j hji
 omega
theorem AY {L:List Nat} (hn:L.Nodup) {n:Nat} (h:∀ x ∈ L,x<n):mask L<2 ^ n:=by
 refine Nat.lt_pow_two_of_testBit _ fun i hi=>?_
 rw[ea hn]
 exact decide_eq_false fun hm=>by have:=h i hm;omega
theorem JF {z:Nat→Int} {m lc:Nat} (h:ur z lc m=true) {a:Nat} (ha:a<lc):∃ i,i<m∧z i=(a:Int):=by
 obtain ⟨h1,h2⟩:=eK.1 h
 have h3:=(EN (z:=z) (lc:=lc) (m:=m)).2 h
 have h4:=jn.1 h3.1 a (by omega)
 rw[Bool.not_eq_false',decide_eq_true_iff] at h4
 have hl:(fV (jv z m)).length=m:=by rw[kI,ik]
 rw[mW _ a (by omega)] at h4
 have:(a:Int) ∈ fV (jv z m):=by rw[← h4];exact List.getElem_mem _
 exact zO.1 ((xW _).mem_iff.1 this)
def vZ (W:Nat→Int) (c:Int) (p:Int):Bool:=decide (W (2*c.toNat)≤p) && decide (p≤W (2*c.toNat+1))
noncomputable def Hs (B:Nat→Int) (z:Nat→Int) (j:Nat):Bool:=!cK (CR .u64 (B (z j).toNat) (mask (qE z j):Int)) (Int.ofNat 0)
def He (lb:Nat) (zb:Nat→Int) (z:Nat→Int) (i:Nat):Bool:=c5 (fun j=>nw lb zb (z i) (z j)) i
theorem vD {lb lc:Nat} {zb:Nat→Int} (hp:fz lc lb zb) (a c:Nat):nw lb zb (a:Int) (c:Int)=(jb zb c lb).testBit a:=by
 unfold nw
 rw[Bool.eq_iff_iff,cH,nF zb c a lb (fun i hi=>(hp i hi).1.1)]
 constructor
 · rintro ⟨i,hi,he⟩
   unfold gL at he
   rw[Bool.and_eq_true,decide_eq_true_iff,decide_eq_true_iff] at he
   exact ⟨i,hi,he.1.symm,he.2.symm⟩
 · rintro ⟨i,hi,he⟩
   refine ⟨i,hi,?_⟩
   unfold gL
   rw[Bool.and_eq_true,decide_eq_true_iff,decide_eq_true_iff]
   exact ⟨he.1.symm,he.2.symm⟩
theorem Gw {dr:Int} {lc:Nat} {zc:Nat→Int} {lb:Nat} {zb:Nat→Int} (h:iU dr lc zc lb zb=0) (a:Int):nw lb zb a a=false:=by
 unfold nw
 refine Dw fun j hj=>?_
 unfold iU at h
 split at h
 · cases h
 · rename_i h1
   split at h
   · cases h
   · rename_i h2
     split at h
     · cases h
     · rename_i h3
       have h3:c5 (gb lc zb) lb=false:=by simpa using h3
       have:=nQ h3 j hj
       unfold gb at this
       rw[Bool.or_eq_false_iff,decide_eq_false_iff_not] at this
       unfold gL
       rw[Bool.and_eq_false_iff,decide_eq_false_iff_not,decide_eq_false_iff_not]
       have:=this.1
       omega
theorem Lg {lb lc m:Nat} {zb:Nat→Int} {z:Nat→Int} (hp:fz lc lb zb) (hs:∀ a,nw lb zb a a=false) (hl:lc≤10) (hm:ur z lc m=true):c5 (Hs (gJ lb zb) z) m=c5 (He lb zb z) m:=by
 obtain ⟨h1,h2⟩:=eK.1 hm
 have key:∀ j,j<m→(Hs (gJ lb zb) z j=true↔∃ i,j<i∧i<m∧nw lb zb (z i) (z j)=true):=fun j hj=>by
  have hn:=uy hm j (by omega)
  have hlt:∀ x ∈ qE z j,x<lc:=fun x hx=>by
   obtain ⟨i,hi,rfl⟩:=oC.1 hx
   have:=(h2 i (by omega)).1
   omega
  have hc:=(h2 j hj).1
  have hb:jb zb (z j).toNat lb<2 ^ lc:=uN zb _ lc lb fun i hi=>(hp i hi).1
  have hb2:jb zb (z j).toNat lb<2 ^ 62:=Nat.lt_of_lt_of_le hb (Nat.pow_le_pow_right (by omega) (by omega))
  have hX2:mask (qE z j)<2 ^ 62:=Nat.lt_of_lt_of_le (AY hn hlt) (Nat.pow_le_pow_right (by omega) (by omega))
  obtain ⟨w,hw,hw2⟩:=Qn hb2 hX2
  unfold Hs
  rw[show gJ lb zb (z j).toNat=(jb zb (z j).toNat lb:Int) from rfl,hw,aZ]
  have e1:(!((w:Int) == Int.ofNat 0))=true↔w≠0:=by simp
  rw[e1]
  constructor
  · intro hw0
    obtain ⟨a,ha⟩:=Nat.exists_testBit_of_ne_zero hw0
    rw[hw2,Bool.and_eq_true,ea hn,Bool.not_eq_true',decide_eq_false_iff_not] at ha
    have hal:a<lc:=by
     refine Nat.lt_of_not_le fun hge=>?_
     rw[Nat.testBit_lt_two_pow (Nat.lt_of_lt_of_le hb (Nat.pow_le_pow_right (by omega) hge))] at ha
     cases ha.1
    obtain ⟨i,hi,hia⟩:=JF hm hal
    have hpr:nw lb zb (z i) (z j)=true:=by
     rw[hia,show z j=((z j).toNat:Int) by omega,vD hp];exact ha.1
    refine ⟨i,?_,hi,hpr⟩
    rcases Nat.lt_trichotomy i j with q | q | q
    · exact absurd (oC.2 ⟨i,q,by omega⟩) ha.2
    · subst q;rw[hs] at hpr;cases hpr
    · exact q
  · rintro ⟨i,hij,hi,hpr⟩
    have hzi:=(h2 i hi).1
    intro hw0
    have:=hw2 (z i).toNat
    rw[hw0,Nat.zero_testBit,ea hn] at this
    rw[show z i=((z i).toNat:Int) by omega,show z j=((z j).toNat:Int) by omega,vD hp] at hpr
    rw[hpr,Bool.true_and] at this
    have hmem:(z i).toNat ∈ qE z j:=by
     cases hd:decide ((z i).toNat ∈ qE z j) with
     | true=>exact of_decide_eq_true hd
     | false=>rw[hd] at this;cases this
    obtain ⟨k,hk,hk2⟩:=oC.1 hmem
    have hzk:=(h2 k (by omega)).1
    exact (h2 i hi).2 k (by omega) (by omega)
 rw[Bool.eq_iff_iff,cH,cH]
 constructor
 · rintro ⟨j,hj,h⟩
   obtain ⟨i,hij,hi,hpr⟩:=(key j hj).1 h
   exact ⟨i,hi,(cH _ _).2 ⟨j,hij,hpr⟩⟩
 · rintro ⟨i,hi,h⟩
   obtain ⟨j,hij,hpr⟩:=(cH _ _).1 h
   exact ⟨j,by omega,(key j (by omega)).2 ⟨i,hij,hi,hpr⟩⟩
noncomputable def iR (lc:Nat) (W:Nat→Int) (lb:Nat) (zb:Nat→Int) (m:Nat) (z:Nat→Int):Int:=if ur z lc m=true then (if c5 (fun j=>!vZ W (z j) j) m=true then 21 else if c5 (He lb zb z) m=true then 16 else 0) else 15
end Go.Eng
end
section
namespace Go.Eng
open Go.Proofs Go.Eng.Gall
end Go.Eng
end
section
namespace Go.Eng
open Go.Proofs Go.Eng.Gall
theorem De {dr:Int} {lc:Nat} {zc:Nat→Int} {lb:Nat} {zb:Nat→Int} (h:iU dr lc zc lb zb=0):(1≤lc∧lc≤10)∧lb≤40∧(1≤dr∧dr≤100)∧v7 lc zc∧fz lc lb zb∧sL lc (fun c=>jb zb c lb)=false:=by
 unfold iU at h
 split at h
 · cases h
 · rename_i h1
   split at h
   · cases h
   · rename_i h2
     split at h
     · cases h
     · rename_i h3
       split at h
       · cases h
       · rename_i h4
         exact ⟨by omega,by omega,by omega,nQ (by simpa using fun q=>h2 (.inr (.inr q))),oJ (by simpa using h3),by simpa using h4⟩
section
variable (n:Nat) (dr:Int) (lc:Nat) (zc:Nat→Int) (lb:Nat) (zb:Nat→Int) (H:aa)
end
end Go.Eng
end
section
namespace Go.Eng
open Go.Proofs Go.Eng.Gall
theorem Kx:∀ b,(0,b) ∈ aI (aY Tryd.f39)→b=.loop (part Tryd.f39 [1,1,1,1,0,1,0,0]):=eX (by kernel_rfl)
theorem MJ:∀ b,(2,b) ∈ aI (aY Tryd.f39)→b=.loop (part Tryd.f39 [1,1,1,1,1,1,0,1,0,0]):=eX (by kernel_rfl)
theorem MK:∀ b,(4,b) ∈ aI (aY Tryd.f39)→b=.loop (part Tryd.f39 [1,1,1,1,1,1,1,1,0,1,0,0]):=eX (by kernel_rfl)
section
variable (n:Nat) (dr:Int) (lc:Nat) (zc:Nat→Int) (lb:Nat) (zb:Nat→Int) (H:aa)
theorem MT (hb:lb≤1000) (h0:iU dr lc zc lb zb=0):cd (n+14) (.fn 49) [cM dr lc zc lb zb,.nils] H=some (.tup [Kl dr lc zc lb zb,.int .i64 (Int.ofNat 0)],H):=by
 obtain ⟨h1,h2,h3,h4,h5,_⟩:=De h0
 refine bK (n:=n+13) Tryd.func49 rfl rfl rfl (Pr (n+11) dr lc zc lb zb (dg dr lc zc) (gJ lb zb) H (fun x=>x=[cM dr lc zc lb zb])) (lA _ (n+11) 2 (fun q=>DH (eg (bx _) (fun H=>by
  rw[show n+11+q=n+q+11 by omega]
  have:=QW (n+q) dr lc zc lb zb H (by omega) hb
  rw[h0] at this;exact this)) (fun A H hA=>by
   subst hA
   rw[show n+11+q=n+q+4+7 by omega]
   exact MU (n+q+4) dr lc zc lb zb H h1.2 hb h3 h4 h5))) (ak _ _) (al _ _) ?_
 refine Tr.aj rfl (Tr.ae (fun q=>by simp[aG,aZ] at q) (fun q=>Tr.aj rfl (Tr.ah ⟨rfl,rfl⟩)))
variable (W B:Nat→Int)
theorem Qr (c p:Int) (hc:0≤c∧c<10):cd (n+1) (.fn 71) [shV dr lc zc lb zb W B,.int .i64 c,.int .i64 p] H=some (.bool (vZ W c p),H):=by
 have T:=Tz n dr lc zc lb zb W B H c p
 have es:ff (aM 3 c 2) 3=2*c.toNat:=by rw[cG,dT];omega
 have es1:ff (aF (aM 3 c 2) 1) 3=2*c.toNat+1:=by rw[cG,a6,dT];omega
 rw[es,es1] at T
 refine bK (n:=n) Tryd.func71 rfl rfl rfl T (aJ n) (ak _ _) (al _ _) ?_
 refine Tr.ag (by simp (disch:=omega) only[nV,nW];omega) (Tr.ag (by simp (disch:=omega) only[nV,nW];omega) (Tr.ag (by simp (disch:=omega) only[nV,nW];omega) (Tr.ae (fun q=>Tr.ah ⟨?_,rfl⟩) (fun q=>Tr.ah ⟨?_,rfl⟩))))
 all_goals rw[bC] at q
 all_goals unfold vZ
 · rw[q,bC,Bool.true_and]
 · rw[q,Bool.false_and]
end
section
variable (n:Nat) (r:Row) (G:aa) (m:Nat) (z S:Nat→Int) (R:Row)
theorem NU (hm:m≤1000):exec (b5 n 39 76) (.block 0 (.loop (part Tryd.f39 [1,1,1,1,0,1,0,0]))) (sX m z S R (Int.ofNat 0)) (⟨false,[(0,.row r)]⟩::G)=some (cond (c5 (fun j=>!decide (S j=(j:Int))) m) (.ret,[(4,.int .i64 (Int.ofNat 15))],⟨false,[(0,.row r)]⟩::G) (.normal,sX m z S R (Int.ofNat m)++[(29,.bool false)],⟨false,[(0,.row r)]⟩::G)):=by
 refine fF (n:=n) (f:=39) (nt:=76) (c:=part Tryd.f39 [1,1,1,1,0,1,0,0]) 0 (fun j=>sX m z S R (j:Int)) (fun _=>⟨false,[(0,.row r)]⟩::G) m (fun j=>!decide (S j=(j:Int))) (fun _=>([(4,.int .i64 (Int.ofNat 15))],⟨false,[(0,.row r)]⟩::G)) (sX m z S R (Int.ofNat m)++[(29,.bool false)],⟨false,[(0,.row r)]⟩::G) (by omega) (fun j hj=>?_) ?_
 · have T:=LM n r G m z S R (j:Int)
   rw[pb,ft (by omega)] at T
   refine aR T (aJ n) (ak _ _) (al _ _) ?_
   refine Tr.ae (fun h0=>?_) (fun h0=>by simp (disch:=omega) only[nV,nW] at h0;omega)
   refine Tr.ag (by simp (disch:=omega) only[nV,nW];omega) (Tr.ag (by simp (disch:=omega) only[nV,nW];omega) (Tr.ae (fun q=>Tr.ah ?_) (fun q=>Tr.ah ?_)))
   all_goals rw[aG,aZ] at q
   · rw[if_pos (by simpa using q)];rfl
   · rw[if_neg (by simpa using q)];exact ⟨rfl,rfl⟩
 · obtain ⟨x,h1,rfl⟩:=aR (Q:=fun x=>x=(.exit 0,sX m z S R (Int.ofNat m)++[(29,.bool false)],⟨false,[(0,.row r)]⟩::G)) (LM n r G m z S R (Int.ofNat m)) (aJ n) (ak _ _) (al _ _) (by
    refine Tr.ae (fun h0=>by simp (disch:=omega) only[nV,nW] at h0;omega) (fun h0=>Tr.ah rfl))
   exact h1
theorem NV (hm:m≤1000) (s:Int→Nat→Bool) (h71:∀ j,j<m→∀ H,cd n (.fn 71) [.ptrT none R 0,.int .i64 (z j),.int .i64 (j:Int)] H=some (.bool (s (z j) j),H)):exec (b5 n 39 76) (.block 2 (.loop (part Tryd.f39 [1,1,1,1,1,1,0,1,0,0]))) (uV m z R (Int.ofNat 0)) (⟨false,[(0,.row r)]⟩::G)=some (cond (c5 (fun j=>!s (z j) j) m) (.ret,[(4,.int .i64 (Int.ofNat 21))],⟨false,[(0,.row r)]⟩::G) (.normal,uV m z R (Int.ofNat m)++[(46,.bool false)],⟨false,[(0,.row r)]⟩::G)):=by
 refine fF (n:=n) (f:=39) (nt:=76) (c:=part Tryd.f39 [1,1,1,1,1,1,0,1,0,0]) 2 (fun j=>uV m z R (j:Int)) (fun _=>⟨false,[(0,.row r)]⟩::G) m (fun j=>!s (z j) j) (fun _=>([(4,.int .i64 (Int.ofNat 21))],⟨false,[(0,.row r)]⟩::G)) (uV m z R (Int.ofNat m)++[(46,.bool false)],⟨false,[(0,.row r)]⟩::G) (by omega) (fun j hj=>?_) ?_
 · have T:=O7 n r G m z R (j:Int) (z j) (s (z j) j)
   rw[pb,ft (by omega)] at T
   refine aR T (bS _ _ (eg (bx _) (h71 j hj))) (ak _ _) (al _ _) ?_
   refine Tr.ae (fun h0=>?_) (fun h0=>by simp (disch:=omega) only[nV,nW] at h0;omega)
   refine Tr.ag (by simp (disch:=omega) only[nV,nW];omega) (Tr.ag (by simp (disch:=omega) only[nV,nW];omega) (Tr.aj rfl (Tr.ae (fun q=>Tr.ah ?_) (fun q=>Tr.ah ?_))))
   all_goals rw[aG] at q
   · rw[if_pos q];rfl
   · rw[if_neg (by rw[q];decide)];exact ⟨rfl,rfl⟩
 · obtain ⟨x,h1,rfl⟩:=aR (Q:=fun x=>x=(.exit 2,uV m z R (Int.ofNat m)++[(46,.bool false)],⟨false,[(0,.row r)]⟩::G)) (LN n r G m z R (Int.ofNat m)) (aJ n) (ak _ _) (al _ _) (by
    refine Tr.ae (fun h0=>by simp (disch:=omega) only[nV,nW] at h0;omega) (fun h0=>Tr.ah rfl))
   exact h1
end
section
variable (n:Nat) (dr:Int) (lc:Nat) (zc:Nat→Int) (lb:Nat) (zb:Nat→Int) (W B:Nat→Int) (r:Row) (G:aa) (m:Nat) (z:Nat→Int)
theorem Gt {m:Nat} {z:Nat→Int} (hl:lc≤10) (hm:ur z lc m=true) {j:Nat} (hj:j<m):uq .u64 (mask (qE z j):Int) (eG .u64 (Int.ofNat 1) (z j))=(mask (qE z (j+1)):Int):=by
 obtain ⟨h1,h2⟩:=eK.1 hm
 have hc:=(h2 j hj).1
 have hn:=uy hm j (by omega)
 have hlt:mask (qE z j)<2 ^ lc:=AY hn fun x hx=>by
  obtain ⟨i,hi,rfl⟩:=oC.1 hx
  have:=(h2 i (by omega)).1
  omega
 have hlt:mask (qE z j)<2 ^ 10:=Nat.lt_of_lt_of_le hlt (Nat.pow_le_pow_right (by omega) hl)
 have hno:(mask (qE z j)).testBit (z j).toNat=false:=by
  rw[ea hn]
  refine decide_eq_false fun hx=>?_
  obtain ⟨i,hi,he⟩:=oC.1 hx
  have:=(h2 i (by omega)).1
  exact (h2 j hj).2 i hi (by omega)
 have h2p:2 ^ (z j).toNat≤2 ^ 9:=Nat.pow_le_pow_right (by omega) (by omega)
 rw[show z j=((z j).toNat:Int) by omega,zS (by omega),MB (by omega) (by omega),GH,oj,En hno]
theorem NW (hl:lc≤10) (hm:ur z lc m=true):exec (b5 n 39 76) (.block 4 (.loop (part Tryd.f39 [1,1,1,1,1,1,1,1,0,1,0,0]))) (wv m z (shR dr lc zc lb zb W B) (Int.ofNat 0) (Int.ofNat 0)) (⟨false,[(0,.row r)]⟩::G)=some (cond (c5 (Hs B z) m) (.ret,[(4,.int .i64 (Int.ofNat 16))],⟨false,[(0,.row r)]⟩::G) (.normal,wv m z (shR dr lc zc lb zb W B) (mask (qE z m):Int) (Int.ofNat m)++[(59,.bool false)],⟨false,[(0,.row r)]⟩::G)):=by
 obtain ⟨h1,h2⟩:=eK.1 hm
 refine fF (n:=n) (f:=39) (nt:=76) (c:=part Tryd.f39 [1,1,1,1,1,1,1,1,0,1,0,0]) 4 (fun j=>wv m z (shR dr lc zc lb zb W B) (mask (qE z j):Int) (j:Int)) (fun _=>⟨false,[(0,.row r)]⟩::G) m (Hs B z) (fun _=>([(4,.int .i64 (Int.ofNat 16))],⟨false,[(0,.row r)]⟩::G)) (wv m z (shR dr lc zc lb zb W B) (mask (qE z m):Int) (Int.ofNat m)++[(59,.bool false)],⟨false,[(0,.row r)]⟩::G) (by omega) (fun j hj=>?_) ?_
 · have hc:=(h2 j hj).1
   have T:=LO n dr lc zc lb zb W B r G m z (mask (qE z j):Int) (j:Int)
   rw[pb,ft (by omega),Gt lc hl hm hj,show ff (aM 23 (z j) 1) 23=(z j).toNat by rw[cG,dT];omega] at T
   refine aR T (aJ n) (ak _ _) (al _ _) ?_
   refine Tr.ae (fun h0=>?_) (fun h0=>by simp (disch:=omega) only[nV,nW] at h0;omega)
   refine Tr.ag (by simp (disch:=omega) only[nV,nW];omega) (Tr.ag (by simp (disch:=omega) only[nV,nW];omega) (Tr.ag (by simp (disch:=omega) only[nV,nW];omega) (Tr.ag (by simp (disch:=omega) only[nV,nW];omega) (Tr.ae (fun q=>Tr.ah ?_) (fun q=>Tr.ag (by simp (disch:=omega) only[nV,nW];omega) (Tr.ah ?_))))))
   all_goals rw[aG] at q
   · rw[if_pos (show Hs B z j=true from q)];rfl
   · rw[if_neg (by rw[show Hs B z j=false from q];decide)];exact ⟨rfl,rfl⟩
 · obtain ⟨x,h1,rfl⟩:=aR (Q:=fun x=>x=(.exit 4,wv m z (shR dr lc zc lb zb W B) (mask (qE z m):Int) (Int.ofNat m)++[(59,.bool false)],⟨false,[(0,.row r)]⟩::G)) (LO n dr lc zc lb zb W B r G m z (mask (qE z m):Int) (Int.ofNat m)) (aJ n) (ak _ _) (al _ _) (by
    refine Tr.ae (fun h0=>by simp (disch:=omega) only[nV,nW] at h0;omega) (fun h0=>Tr.ah rfl))
   exact h1
theorem Qq (H:aa) (hb:lb≤1000) (h0:iU dr lc zc lb zb=0) (hm:m≤1000):cd (n+15) (.fn 39) [cM dr lc zc lb zb,bF m z false] H=some (.int .i64 (iR lc (dg dr lc zc) lb zb m z),H):=by
 obtain ⟨h1,h2,h3,h4,h5,_⟩:=De h0
 have h49:=fun H=>MT n dr lc zc lb zb H hb h0
 have h76:=fun H=>Q6 (n+13) m z H
 have h75:=fun H=>Q5 (n+3) 0 m z H hm
 have hsp:=EN (z:=z) (lc:=lc) (m:=m)
 unfold iR
 rcases Nat.eq_zero_or_pos m with hz | hz
 · subst hz
   have e0:JV z 0=.nils:=by
    have h:fV (jv z 0)=[]:=List.eq_nil_of_length_eq_zero (by rw[kI,ik])
    unfold JV;rw[h];rfl
   rw[e0] at h75
   have hp:¬ ur z lc 0=true:=fun h=>by have:=(eK.1 h).1;omega
   rw[if_neg hp]
   refine bK (n:=n+14) Tryd.func39 rfl rfl rfl (O4 (n+14) dr lc zc lb zb H 0 z z (shR dr lc zc lb zb (dg dr lc zc) (gJ lb zb))) (bS _ _ (eg (eg (eg (bx _) h49) h76) h75)) (cW (cW (ak _ _) 2) 4) (al _ _) ?_
   refine Tr.aj rfl (Tr.ae (fun q=>by simp[aG,aZ] at q) (fun q=>Tr.aj rfl (Tr.aj rfl (Tr.ae (fun q=>Tr.ah ⟨rfl,rfl⟩) (fun q=>?_)))))
   rw[aG,aZ] at q
   have:(0:Int)=lc:=by simpa using q
   omega
 · obtain ⟨k,rfl⟩:∃ k,m=k+1:=⟨m-1,by omega⟩
   have e:JV z (k+1)=bF (k+1) (aX (fV (jv z (k+1)))) false:=Hi _ k (by rw[kI,ik])
   rw[e] at h75
   generalize hM:k+1=M at *
   have hM1000:M≤1000:=hm
   have hla:=NU (n+14) (.G [.int .i64 dr,slA 4 lc zc,slA 2 lb zb]) H M z (aX (fV (jv z M))) (shR dr lc zc lb zb (dg dr lc zc) (gJ lb zb)) hm
   by_cases hp:ur z lc M=true
   · rw[if_pos hp]
     obtain ⟨p1,p2⟩:=eK.1 hp
     obtain ⟨q1,q2⟩:=hsp.2 hp
     have hlb:=NV (n+14) (.G [.int .i64 dr,slA 4 lc zc,slA 2 lb zb]) H M z (shR dr lc zc lb zb (dg dr lc zc) (gJ lb zb)) hm (fun c j=>vZ (dg dr lc zc) c j) (fun j hj H=>Qr (n+13) dr lc zc lb zb H (dg dr lc zc) (gJ lb zb) (z j) j (by have:=(p2 j hj).1;omega))
     have hlc:=NW (n+14) dr lc zc lb zb (dg dr lc zc) (gJ lb zb) (.G [.int .i64 dr,slA 4 lc zc,slA 2 lb zb]) H M z h1.2 hp
     refine bK (n:=n+14) Tryd.func39 rfl rfl rfl (Tq (n+14) dr lc zc lb zb H M z (aX (fV (jv z M))) (shR dr lc zc lb zb (dg dr lc zc) (gJ lb zb)) (c5 (fun j=>!decide (aX (fV (jv z M)) j=(j:Int))) M) (c5 (fun j=>!vZ (dg dr lc zc) (z j) j) M) (c5 (Hs (gJ lb zb) z) M) (mask (qE z M):Int)) (bS _ _ (eg (eg (eg (bx _) h49) h76) h75)) (br (br (br (ak _ _) Kx (fun x hx=>cC hx hla)) MJ (fun x hx=>cC hx hlb)) MK (fun x hx=>cC hx hlc)) (al _ _) ?_
     rw[q1,Lg h5 (Gw h0) h1.2 hp]
     refine Tr.aj rfl (Tr.ae (fun q=>by simp[aG,aZ] at q) (fun q=>Tr.aj rfl (Tr.aj rfl (Tr.aj ⟨rfl,rfl⟩ (Tr.ae (fun q=>by cases q) (fun _=>Tr.ae (fun q=>?_) (fun _=>Tr.aj ⟨rfl,rfl⟩ (Tr.ae (fun q=>Tr.ah ⟨?_,rfl⟩) (fun q=>Tr.aj ⟨rfl,rfl⟩ (Tr.ae (fun q2=>Tr.ah ⟨?_,rfl⟩) (fun q2=>Tr.ah ⟨?_,rfl⟩)))))))))))
     · rw[aG,aZ] at q
       have:¬ (M:Int)=lc:=by simpa using q
       omega
     · rw[if_pos q];rfl
     · rw[if_neg (by rw[q];decide),if_pos q2];rfl
     · rw[if_neg (by rw[q];decide),if_neg (by rw[q2];decide)];rfl
   · rw[if_neg hp]
     refine bK (n:=n+14) Tryd.func39 rfl rfl rfl (Pl (n+14) dr lc zc lb zb H M z (aX (fV (jv z M))) (shR dr lc zc lb zb (dg dr lc zc) (gJ lb zb)) (c5 (fun j=>!decide (aX (fV (jv z M)) j=(j:Int))) M)) (bS _ _ (eg (eg (eg (bx _) h49) h76) h75)) (cW (cW (br (ak _ _) Kx (fun x hx=>cC hx hla)) 2) 4) (al _ _) ?_
     refine Tr.aj rfl (Tr.ae (fun q=>by simp[aG,aZ] at q) (fun q=>Tr.aj rfl (Tr.aj rfl (Tr.aj ⟨rfl,rfl⟩ (Tr.ae (fun q=>Tr.ah ⟨rfl,rfl⟩) (fun q3=>Tr.ae (fun q=>Tr.ah ⟨rfl,rfl⟩) (fun q=>?_)))))))
     rw[aG,aZ] at q
     have:(M:Int)=lc:=by simpa using q
     exact absurd (hsp.1 ⟨q3,by omega⟩) hp
end
end Go.Eng
end
section
namespace Go.Eng
open Go.Proofs Go.Eng.Gall
noncomputable def mw (m:Nat) (z:Nat→Int) (i:Int):au:=[(1,bF m z false),(2,.ptr 0 0 0 0),(5,.int .i64 i)]
noncomputable def wz (m:Nat) (z:Nat→Int) (i j:Int):au:=[(1,bF m z false),(2,.ptr 0 0 0 0),(5,.int .i64 i),(6,.int .i64 j)]
noncomputable def uW (m:Nat) (z:Nat→Int) (i:Int):au:=[(1,bF m z false),(2,.ptr 0 0 0 0),(6,.int .i64 i)]
noncomputable def uX (m:Nat) (z:Nat→Int) (i j:Int):au:=[(1,bF m z false),(2,.ptr 0 0 0 0),(6,.int .i64 i),(7,.int .i64 j)]
theorem TD (n:Nat) (dr:Int) (lc:Nat) (zc:Nat→Int) (lb:Nat) (zb:Nat→Int) (H:aa) (m:Nat) (z:Nat→Int) (e:Bool):bu Tryd.prog (cd n) 100000 77 Tryd.f77 (KtG.kt 77) (il aV n 0) (dy bc 0 (mw m z (Int.ofNat 0)) (cO dr lc zc lb zb::H) (.ite e (.ok (.ret,[(4,.bool false,none)],cO dr lc zc lb zb::H)) (.ok (.normal,hints (mw m z (Int.ofNat m)++[(16,.bool false)]),cO dr lc zc lb zb::H)))) ba [(cM dr lc zc lb zb,none),(bF m z false,none)] H =
 (fun (Z0:bH)=>((fun (Z1:au)=>Tr.ite (bz (cK (Int.ofNat m) (Int.ofNat lc))) (Tr.ok ((AV.bool false,some 1),H)) (Tr.reqP (Z1=Z1∧Z0::H=Z0::H) (Tr.ite e (Tr.ok ((AV.bool false,none),H)) (Tr.ok ((AV.bool true,some 1),H))))) [(1,AV.slcT none (Row.M [aq.arr .i64 z m]) 1 m false),(2,AV.ptr 0 0 0 0),(5,AV.int .i64 (Int.ofNat 0))])) { lock:=false,bs:=[(0,az.row (Row.G [AV.int .i64 dr,AV.slcT none (Row.M [aq.arr .i64 zc (aw lc 4)]) 4 lc false,AV.slcT none (Row.M [aq.arr .i64 zb (aw lb 2)]) 2 lb false]))] }:=by kernel_rfl
theorem Pd (n:Nat) (dr:Int) (lc:Nat) (zc:Nat→Int) (lb:Nat) (zb:Nat→Int) (H:aa) (m:Nat) (z:Nat→Int) (i:Int) (q:Bool):aT (b5 (n+1) 77 40) (il aV n 1) (dy bc 2 (wz m z i (Int.ofNat 0)) (cO dr lc zc lb zb::H) (.ite q (.ok (.ret,[(4,.bool false,none)],cO dr lc zc lb zb::H)) (.ok (.normal,hints (wz m z i i++[(28,.bool false)]),cO dr lc zc lb zb::H)))) ba (part Tryd.f77 [1,1,0,1,0,0]) (hints (mw m z i)) (cO dr lc zc lb zb::H) =
 (fun (Z0:bH)=>((fun (Z1:au)=>Tr.ite (cY i (Int.ofNat m)) (Tr.req (c7 i m) (Tr.req (cI (aM 0 i 1) m) (Tr.ite (eh (Int.ofNat 0) (z (aM 0 i 1))) (Tr.ite (bz (cY (z (aM 0 i 1)) (Int.ofNat lc))) (Tr.ok (Ex.ret,[(4,AV.bool false,some 1)],Z0::H)) (Tr.reqP (Z1=Z1∧Z0::H=Z0::H) (Tr.ite q (Tr.ok (Ex.ret,[(4,AV.bool false,none)],Z0::H)) (Tr.ok (Ex.normal,[(1,AV.slcT none (Row.M [aq.arr .i64 z m]) 1 m false,none),(2,AV.ptr 0 0 0 0,none),(5,AV.int .i64 (bf .i64 i (Int.ofNat 1)),none)],Z0::H))))) (Tr.ok (Ex.ret,[(4,AV.bool false,some 1)],Z0::H))))) (Tr.ok (Ex.exit 0,[(1,AV.slcT none (Row.M [aq.arr .i64 z m]) 1 m false,none),(2,AV.ptr 0 0 0 0,none),(5,AV.int .i64 i,none),(16,AV.bool false,some 1)],Z0::H))) [(1,AV.slcT none (Row.M [aq.arr .i64 z m]) 1 m false),(2,AV.ptr 0 0 0 0),(5,AV.int .i64 i),(6,AV.int .i64 (Int.ofNat 0))])) { lock:=false,bs:=[(0,az.row (Row.G [AV.int .i64 dr,AV.slcT none (Row.M [aq.arr .i64 zc (aw lc 4)]) 4 lc false,AV.slcT none (Row.M [aq.arr .i64 zb (aw lb 2)]) 2 lb false]))] }:=by kernel_rfl
theorem L2 (n:Nat) (dr:Int) (lc:Nat) (zc:Nat→Int) (lb:Nat) (zb:Nat→Int) (H:aa) (m:Nat) (z:Nat→Int) (i:Int):aT (b5 (n+1) 77 40) (il aV n 1) (gH bc 2) ba (part Tryd.f77 [1,1,0,1,0,0]) (hints (mw m z i)) (cO dr lc zc lb zb::H) =
 (fun (Z0:bH)=>Tr.ite (cY i (Int.ofNat m)) (Tr.req (c7 i m) (Tr.req (cI (aM 0 i 1) m) (Tr.ite (eh (Int.ofNat 0) (z (aM 0 i 1))) (Tr.ite (bz (cY (z (aM 0 i 1)) (Int.ofNat lc))) (Tr.ok (Ex.ret,[(4,AV.bool false,some 1)],Z0::H)) Tr.bad) (Tr.ok (Ex.ret,[(4,AV.bool false,some 1)],Z0::H))))) (Tr.ok (Ex.exit 0,[(1,AV.slcT none (Row.M [aq.arr .i64 z m]) 1 m false,none),(2,AV.ptr 0 0 0 0,none),(5,AV.int .i64 i,none),(16,AV.bool false,some 1)],Z0::H))) { lock:=false,bs:=[(0,az.row (Row.G [AV.int .i64 dr,AV.slcT none (Row.M [aq.arr .i64 zc (aw lc 4)]) 4 lc false,AV.slcT none (Row.M [aq.arr .i64 zb (aw lb 2)]) 2 lb false]))] }:=by kernel_rfl
theorem L1 (n:Nat) (dr:Int) (lc:Nat) (zc:Nat→Int) (lb:Nat) (zb:Nat→Int) (H:aa) (m:Nat) (z:Nat→Int) (i j:Int):aT (b5 (n+1) 77 40) (il aV n 1) bc ba (part Tryd.f77 [1,1,0,1,0,0,1,0,0,1,1,0,0]) (hints (wz m z i j)) (cO dr lc zc lb zb::H) =
 (fun (Z0:bH)=>Tr.ite (cY j i) (Tr.req (c7 j m) (Tr.req (cI (aM 0 j 1) m) (Tr.req (c7 i m) (Tr.req (cI (aM 0 i 1) m) (Tr.ite (cK (z (aM 0 j 1)) (z (aM 0 i 1))) (Tr.ok (Ex.ret,[(4,AV.bool false,some 1)],Z0::H)) (Tr.ok (Ex.normal,[(1,AV.slcT none (Row.M [aq.arr .i64 z m]) 1 m false,none),(2,AV.ptr 0 0 0 0,none),(5,AV.int .i64 i,none),(6,AV.int .i64 (bf .i64 j (Int.ofNat 1)),none)],Z0::H))))))) (Tr.ok (Ex.exit 2,[(1,AV.slcT none (Row.M [aq.arr .i64 z m]) 1 m false,none),(2,AV.ptr 0 0 0 0,none),(5,AV.int .i64 i,none),(6,AV.int .i64 j,none),(28,AV.bool false,some 1)],Z0::H))) { lock:=false,bs:=[(0,az.row (Row.G [AV.int .i64 dr,AV.slcT none (Row.M [aq.arr .i64 zc (aw lc 4)]) 4 lc false,AV.slcT none (Row.M [aq.arr .i64 zb (aw lb 2)]) 2 lb false]))] }:=by kernel_rfl
theorem TE (n:Nat) (dr:Int) (lc:Nat) (zc:Nat→Int) (lb:Nat) (zb:Nat→Int) (H:aa) (c p:Int):bu Tryd.prog (cd (n+1)) 100000 78 Tryd.f78 (KtG.kt 78) (il aV n 1) bc ba [(cM dr lc zc lb zb,none),(.int .i64 c,none),(.int .i64 p,none)] H =
 Tr.req (c7 c lc) (Tr.req (cI (aM 0 c 4) (aw lc 4)) (Tr.req (cI (aF (aM 0 c 4) 1) (aw lc 4)) (Tr.req (c7 c lc) (Tr.req (cI (aM 0 c 4) (aw lc 4)) (Tr.req (cI (aF (aM 0 c 4) 1) (aw lc 4)) (Tr.req (cI (aF (aM 0 c 4) 2) (aw lc 4)) (Tr.req (cI (aF (aM 0 c 4) 3) (aw lc 4)) (Tr.req (cr (iV 0 0) (iV 0 1)) (Tr.req (cr (iV 0 0) (iV 0 1)) (Tr.ite (eh (zc (aF (aM 0 c 4) 2)) (bw .i64 (zc (aM 0 c 4)) (zE .i64 p dr))) (Tr.ok ((AV.bool (eh (bw .i64 (zc (aF (aM 0 c 4) 1)) (zE .i64 p dr)) (zc (aF (aM 0 c 4) 3))),none),H)) (Tr.ok ((AV.bool false,some 1),H)))))))))))):=by kernel_rfl
theorem Ts (n:Nat) (dr:Int) (lc:Nat) (zc:Nat→Int) (lb:Nat) (zb:Nat→Int) (H:aa) (m:Nat) (z:Nat→Int) (e q r:Bool):bu Tryd.prog (cd n) 100000 40 Tryd.f40 (KtG.kt 40) (il (tX (tX aV 23 [cM dr lc zc lb zb] (.int .i64 (Int.ofNat 0))) 77 [cM dr lc zc lb zb,bF m z false] (.bool e)) n 0) (dy (dy bc 0 (mw m z (Int.ofNat 0)) (cO dr lc zc lb zb::H) (.ite q (.ok (.ret,[(4,.int .i64 (Int.ofNat 21),none)],cO dr lc zc lb zb::H)) (.ok (.normal,hints (mw m z (Int.ofNat m)++[(20,.bool false)]),cO dr lc zc lb zb::H)))) 2 (uW m z (Int.ofNat 0)) (cO dr lc zc lb zb::H) (.ite r (.ok (.ret,[(4,.int .i64 (Int.ofNat 16),none)],cO dr lc zc lb zb::H)) (.ok (.normal,hints (uW m z (Int.ofNat m)++[(34,.bool false)]),cO dr lc zc lb zb::H)))) ba [(cM dr lc zc lb zb,none),(bF m z false,none)] H =
 (fun (Z0:Row)=>((fun (Z1:Nat×AV)=>((fun (Z2:bH)=>Tr.reqP ([AV.agg Z0]=[AV.agg Z0]) (Tr.ite (bz (cK (Int.ofNat 0) (Int.ofNat 0))) (Tr.reqP ([AV.agg Z0]=[AV.agg Z0]) (Tr.ok ((AV.int .i64 (Int.ofNat 0),none),H))) (Tr.reqP ([AV.agg Z0,AV.slcT none (Row.M [aq.arr .i64 z m]) 1 m false]=[AV.agg Z0,AV.slcT none (Row.M [aq.arr .i64 z m]) 1 m false]) (Tr.ite (bz e) (Tr.ok ((AV.int .i64 (Int.ofNat 15),some 1),H)) (Tr.reqP ([Z1,(2,AV.ptr 0 0 0 0),(5,AV.int .i64 (Int.ofNat 0))]=[Z1,(2,AV.ptr 0 0 0 0),(5,AV.int .i64 (Int.ofNat 0))]∧Z2::H=Z2::H) (Tr.ite q (Tr.ok ((AV.int .i64 (Int.ofNat 21),none),H)) (Tr.reqP ([Z1,(2,AV.ptr 0 0 0 0),(6,AV.int .i64 (Int.ofNat 0))]=[Z1,(2,AV.ptr 0 0 0 0),(6,AV.int .i64 (Int.ofNat 0))]∧Z2::H=Z2::H) (Tr.ite r (Tr.ok ((AV.int .i64 (Int.ofNat 16),none),H)) (Tr.ok ((AV.int .i64 (Int.ofNat 0),some 1),H)))))))))) { lock:=false,bs:=[(0,az.row Z0)] })) (1,AV.slcT none (Row.M [aq.arr .i64 z m]) 1 m false))) (Row.G [AV.int .i64 dr,AV.slcT none (Row.M [aq.arr .i64 zc (aw lc 4)]) 4 lc false,AV.slcT none (Row.M [aq.arr .i64 zb (aw lb 2)]) 2 lb false]):=by kernel_rfl
theorem Pm (n:Nat) (dr:Int) (lc:Nat) (zc:Nat→Int) (lb:Nat) (zb:Nat→Int) (H:aa) (m:Nat) (z:Nat→Int) (e:Bool):bu Tryd.prog (cd n) 100000 40 Tryd.f40 (KtG.kt 40) (il (tX (tX aV 23 [cM dr lc zc lb zb] (.int .i64 (Int.ofNat 0))) 77 [cM dr lc zc lb zb,bF m z false] (.bool e)) n 0) (gH (gH bc 0) 2) ba [(cM dr lc zc lb zb,none),(bF m z false,none)] H =
 (fun (Z0:Row)=>Tr.reqP ([AV.agg Z0]=[AV.agg Z0]) (Tr.ite (bz (cK (Int.ofNat 0) (Int.ofNat 0))) (Tr.reqP ([AV.agg Z0]=[AV.agg Z0]) (Tr.ok ((AV.int .i64 (Int.ofNat 0),none),H))) (Tr.reqP ([AV.agg Z0,AV.slcT none (Row.M [aq.arr .i64 z m]) 1 m false]=[AV.agg Z0,AV.slcT none (Row.M [aq.arr .i64 z m]) 1 m false]) (Tr.ite (bz e) (Tr.ok ((AV.int .i64 (Int.ofNat 15),some 1),H)) Tr.bad)))) (Row.G [AV.int .i64 dr,AV.slcT none (Row.M [aq.arr .i64 zc (aw lc 4)]) 4 lc false,AV.slcT none (Row.M [aq.arr .i64 zb (aw lb 2)]) 2 lb false]):=by kernel_rfl
theorem O8 (n:Nat) (dr:Int) (lc:Nat) (zc:Nat→Int) (lb:Nat) (zb:Nat→Int) (H:aa) (m:Nat) (z:Nat→Int) (i c:Int) (q:Bool):aT (b5 n 40 52) (il (tX aV 78 [cM dr lc zc lb zb,.int .i64 c,.int .i64 i] (.bool q)) n 0) bc ba (part Tryd.f40 [1,1,1,0,1,0,0]) (hints (mw m z i)) (cO dr lc zc lb zb::H) =
 (fun (Z0:Row)=>Tr.ite (cY i (Int.ofNat m)) (Tr.req (c7 i m) (Tr.req (cI (aM 0 i 1) m) (Tr.reqP ([AV.agg Z0,AV.int .i64 (z (aM 0 i 1)),AV.int .i64 i]=[AV.agg Z0,AV.int .i64 c,AV.int .i64 i]) (Tr.ite (bz q) (Tr.ok (Ex.ret,[(4,AV.int .i64 (Int.ofNat 21),some 1)],{ lock:=false,bs:=[(0,az.row Z0)] } :: H)) (Tr.ok (Ex.normal,[(1,AV.slcT none (Row.M [aq.arr .i64 z m]) 1 m false,none),(2,AV.ptr 0 0 0 0,none),(5,AV.int .i64 (bf .i64 i (Int.ofNat 1)),none)],{ lock:=false,bs:=[(0,az.row Z0)] } :: H)))))) (Tr.ok (Ex.exit 0,[(1,AV.slcT none (Row.M [aq.arr .i64 z m]) 1 m false,none),(2,AV.ptr 0 0 0 0,none),(5,AV.int .i64 i,none),(20,AV.bool false,some 1)],{ lock:=false,bs:=[(0,az.row Z0)] } :: H))) (Row.G [AV.int .i64 dr,AV.slcT none (Row.M [aq.arr .i64 zc (aw lc 4)]) 4 lc false,AV.slcT none (Row.M [aq.arr .i64 zb (aw lb 2)]) 2 lb false]):=by kernel_rfl
theorem LP (n:Nat) (dr:Int) (lc:Nat) (zc:Nat→Int) (lb:Nat) (zb:Nat→Int) (H:aa) (m:Nat) (z:Nat→Int) (i:Int):aT (b5 n 40 52) (il aV n 0) bc ba (part Tryd.f40 [1,1,1,0,1,0,0]) (hints (mw m z i)) (cO dr lc zc lb zb::H) =
 Tr.ite (cY i (Int.ofNat m)) (Tr.req (c7 i m) (Tr.req (cI (aM 0 i 1) m) Tr.bad)) (Tr.ok (Ex.exit 0,[(1,AV.slcT none (Row.M [aq.arr .i64 z m]) 1 m false,none),(2,AV.ptr 0 0 0 0,none),(5,AV.int .i64 i,none),(20,AV.bool false,some 1)],{ lock:=false,bs:=[(0,az.row (Row.G [AV.int .i64 dr,AV.slcT none (Row.M [aq.arr .i64 zc (aw lc 4)]) 4 lc false,AV.slcT none (Row.M [aq.arr .i64 zb (aw lb 2)]) 2 lb false]))] } :: H)):=by kernel_rfl
theorem Pa (n:Nat) (dr:Int) (lc:Nat) (zc:Nat→Int) (lb:Nat) (zb:Nat→Int) (H:aa) (m:Nat) (z:Nat→Int) (i:Int) (q:Bool):aT (b5 n 40 52) (il aV n 0) (dy bc 4 (uX m z i (Int.ofNat 0)) (cO dr lc zc lb zb::H) (.ite q (.ok (.ret,[(4,.int .i64 (Int.ofNat 16),none)],cO dr lc zc lb zb::H)) (.ok (.normal,hints (uX m z i i++[(39,.bool false)]),cO dr lc zc lb zb::H)))) ba (part Tryd.f40 [1,1,1,1,0,1,0,0]) (hints (uW m z i)) (cO dr lc zc lb zb::H) =
 (fun (Z0:bH)=>((fun (Z1:au)=>Tr.ite (cY i (Int.ofNat m)) (Tr.reqP (Z1=Z1∧Z0::H=Z0::H) (Tr.ite q (Tr.ok (Ex.ret,[(4,AV.int .i64 (Int.ofNat 16),none)],Z0::H)) (Tr.ok (Ex.normal,[(1,AV.slcT none (Row.M [aq.arr .i64 z m]) 1 m false,none),(2,AV.ptr 0 0 0 0,none),(6,AV.int .i64 (bf .i64 i (Int.ofNat 1)),none)],Z0::H)))) (Tr.ok (Ex.exit 2,[(1,AV.slcT none (Row.M [aq.arr .i64 z m]) 1 m false,none),(2,AV.ptr 0 0 0 0,none),(6,AV.int .i64 i,none),(34,AV.bool false,some 1)],Z0::H))) [(1,AV.slcT none (Row.M [aq.arr .i64 z m]) 1 m false),(2,AV.ptr 0 0 0 0),(6,AV.int .i64 i),(7,AV.int .i64 (Int.ofNat 0))])) { lock:=false,bs:=[(0,az.row (Row.G [AV.int .i64 dr,AV.slcT none (Row.M [aq.arr .i64 zc (aw lc 4)]) 4 lc false,AV.slcT none (Row.M [aq.arr .i64 zb (aw lb 2)]) 2 lb false]))] }:=by kernel_rfl
theorem LR (n:Nat) (dr:Int) (lc:Nat) (zc:Nat→Int) (lb:Nat) (zb:Nat→Int) (H:aa) (m:Nat) (z:Nat→Int) (i:Int):aT (b5 n 40 52) (il aV n 0) (gH bc 4) ba (part Tryd.f40 [1,1,1,1,0,1,0,0]) (hints (uW m z i)) (cO dr lc zc lb zb::H) =
 Tr.ite (cY i (Int.ofNat m)) Tr.bad (Tr.ok (Ex.exit 2,[(1,AV.slcT none (Row.M [aq.arr .i64 z m]) 1 m false,none),(2,AV.ptr 0 0 0 0,none),(6,AV.int .i64 i,none),(34,AV.bool false,some 1)],{ lock:=false,bs:=[(0,az.row (Row.G [AV.int .i64 dr,AV.slcT none (Row.M [aq.arr .i64 zc (aw lc 4)]) 4 lc false,AV.slcT none (Row.M [aq.arr .i64 zb (aw lb 2)]) 2 lb false]))] } :: H)):=by kernel_rfl
theorem O9 (n:Nat) (dr:Int) (lc:Nat) (zc:Nat→Int) (lb:Nat) (zb:Nat→Int) (H:aa) (m:Nat) (z:Nat→Int) (i j a b:Int) (q:Bool):aT (b5 n 40 52) (il (tX aV 79 [cM dr lc zc lb zb,.int .i64 a,.int .i64 b] (.bool q)) n 0) bc ba (part Tryd.f40 [1,1,1,1,0,1,0,0,1,0,0,1,0,0]) (hints (uX m z i j)) (cO dr lc zc lb zb::H) =
 (fun (Z0:Row)=>Tr.ite (cY j i) (Tr.req (c7 i m) (Tr.req (cI (aM 0 i 1) m) (Tr.req (c7 j m) (Tr.req (cI (aM 0 j 1) m) (Tr.reqP ([AV.agg Z0,AV.int .i64 (z (aM 0 i 1)),AV.int .i64 (z (aM 0 j 1))]=[AV.agg Z0,AV.int .i64 a,AV.int .i64 b]) (Tr.ite q (Tr.ok (Ex.ret,[(4,AV.int .i64 (Int.ofNat 16),some 1)],{ lock:=false,bs:=[(0,az.row Z0)] } :: H)) (Tr.ok (Ex.normal,[(1,AV.slcT none (Row.M [aq.arr .i64 z m]) 1 m false,none),(2,AV.ptr 0 0 0 0,none),(6,AV.int .i64 i,none),(7,AV.int .i64 (bf .i64 j (Int.ofNat 1)),none)],{ lock:=false,bs:=[(0,az.row Z0)] } :: H)))))))) (Tr.ok (Ex.exit 4,[(1,AV.slcT none (Row.M [aq.arr .i64 z m]) 1 m false,none),(2,AV.ptr 0 0 0 0,none),(6,AV.int .i64 i,none),(7,AV.int .i64 j,none),(39,AV.bool false,some 1)],{ lock:=false,bs:=[(0,az.row Z0)] } :: H))) (Row.G [AV.int .i64 dr,AV.slcT none (Row.M [aq.arr .i64 zc (aw lc 4)]) 4 lc false,AV.slcT none (Row.M [aq.arr .i64 zb (aw lb 2)]) 2 lb false]):=by kernel_rfl
theorem LQ (n:Nat) (dr:Int) (lc:Nat) (zc:Nat→Int) (lb:Nat) (zb:Nat→Int) (H:aa) (m:Nat) (z:Nat→Int) (i j:Int):aT (b5 n 40 52) (il aV n 0) bc ba (part Tryd.f40 [1,1,1,1,0,1,0,0,1,0,0,1,0,0]) (hints (uX m z i j)) (cO dr lc zc lb zb::H) =
 Tr.ite (cY j i) (Tr.req (c7 i m) (Tr.req (cI (aM 0 i 1) m) (Tr.req (c7 j m) (Tr.req (cI (aM 0 j 1) m) Tr.bad)))) (Tr.ok (Ex.exit 4,[(1,AV.slcT none (Row.M [aq.arr .i64 z m]) 1 m false,none),(2,AV.ptr 0 0 0 0,none),(6,AV.int .i64 i,none),(7,AV.int .i64 j,none),(39,AV.bool false,some 1)],{ lock:=false,bs:=[(0,az.row (Row.G [AV.int .i64 dr,AV.slcT none (Row.M [aq.arr .i64 zc (aw lc 4)]) 4 lc false,AV.slcT none (Row.M [aq.arr .i64 zb (aw lb 2)]) 2 lb false]))] } :: H)):=by kernel_rfl
end Go.Eng
end
