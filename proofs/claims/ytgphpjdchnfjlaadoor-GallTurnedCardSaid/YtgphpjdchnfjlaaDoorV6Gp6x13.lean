/- Gall: orders of colours; which are right (plain law). -/
import Derived.Test.YtgphpjdchnfjlaaDoorV6Gahx6
import Derived.Test.YtgphpjdchnfjlaaDoorV6Ga8x4
set_option linter.unusedVariables false
set_option linter.unusedSimpArgs false
set_option maxRecDepth 100000
section
namespace Go.Eng
open Go.Proofs Go.Eng.Gall
def Bf (z:Nat→Int) (U m:Nat):Bool:=decide (m=U) && !dH (fun i=>!(decide (0≤z i) && decide (z i<U)) || dH (fun j=>decide (z j=z i)) i) m
theorem sQ {p:Nat→Bool} {k:Nat}:dH p k=false↔∀ j,j<k→p j=false:=⟨pd,Bz⟩
theorem jC {z:Nat→Int} {U m:Nat}:Bf z U m=true↔m=U∧∀ i,i<m→(0≤z i∧z i<U)∧∀ j,j<i→z j≠z i:=by
 unfold Bf;rw[Bool.and_eq_true,decide_eq_true_iff,Bool.not_eq_true',sQ];constructor
 · rintro ⟨h1,h2⟩;refine ⟨h1,fun i hi=>?_⟩;have:=h2 i hi;rw[Bool.or_eq_false_iff,sQ,Bool.not_eq_false',Bool.and_eq_true,decide_eq_true_iff,decide_eq_true_iff] at this;exact ⟨this.1,fun j hj=>by simpa using this.2 j hj⟩
 · rintro ⟨h1,h2⟩;refine ⟨h1,fun i hi=>?_⟩;obtain ⟨h3,h4⟩:=h2 i hi;rw[Bool.or_eq_false_iff,sQ,Bool.not_eq_false',Bool.and_eq_true,decide_eq_true_iff,decide_eq_true_iff];exact ⟨h3,fun j hj=>by simpa using h4 j hj⟩
theorem Cj {z:Nat→Int} {m:Nat} {x:Int}:x ∈ kx z m↔∃ i,i<m∧z i=x:=by simp[kx]
theorem z7 {z:Nat→Int} {m:Nat}:(kx z m).Nodup↔∀ i,i<m→∀ j,j<i→z j≠z i:=by
 unfold kx;rw[List.Nodup,List.pairwise_map,List.pairwise_iff_getElem];simp only[List.length_range,List.getElem_range];constructor
 · intro h i hi j hj;exact h j i wO hi hj
 · intro h j i hj hi hji;exact h i hi j hji
theorem Af (L:List Int):(gw L).Perm L:=List.mergeSort_perm _ _
theorem Oj (L:List Int):(gw L).Pairwise (·≤·):=by
 have:=List.pairwise_mergeSort (le:=fun x y:Int=>decide (x≤y)) (by intro a b c h1 h2;simp at *;omega) (by intro a b;simp;omega) L;refine this.imp (fun h=>?_);simpa using h
theorem GY {m:Nat} {f:Nat→Int} (h0:∀ j,j<m→0≤f j) (hs:∀ i j,i<j→j<m→f i<f j):∀ j,j<m→(j:Int)≤f j
 | 0,h=>h0 0 h
 | j+1,h=>by
   have h1:=GY h0 hs j wO;have h2:=hs j (j+1) wO h;omega
theorem inc_le {m:Nat} {f:Nat→Int} (h0:∀ j,j<m→f j<m) (hs:∀ i j,i<j→j<m→f i<f j):∀ t j,j+t+1=m→f j≤j
 | 0,j,h=>by have:=h0 j wO;omega
 | t+1,j,h=>by
   have h1:=inc_le h0 hs t (j+1) wO;have h2:=hs j (j+1) wO wO;omega
theorem Ib {z:Nat→Int} {U m:Nat}:(dH (fun j=>!decide (aC (gw (kx z m)) j=(j:Int))) m=false∧m=U)↔Bf z U m=true:=by
 have hl:(gw (kx z m)).length=m:=by rw[lT,jc]
 have hp:=Af (kx z m);have hs:=Oj (kx z m);rw[jC,sQ];generalize gw (kx z m)=L at *;constructor
 · rintro ⟨h1,h2⟩;have he:∀ j,(hj:j<L.length)→L[j]=(j:Int):=fun j hj=>by
    have:=h1 j wO;rw[Bool.not_eq_false',decide_eq_true_iff,tE L j hj] at this;exact this
   have hn:L.Nodup:=by
    rw[List.Nodup,List.pairwise_iff_getElem];intro i j hi hj hij;rw[he i hi,he j hj];omega
   have hn2:=z7.1 (hp.nodup_iff.1 hn);refine ⟨h2,fun i hi=>⟨?_,hn2 i hi⟩⟩;have:z i ∈ L:=hp.mem_iff.2 (Cj.2 ⟨i,hi,rfl⟩);obtain ⟨k,hk,hk2⟩:=List.mem_iff_getElem.1 this;rw[← hk2,he k hk];omega
 · rintro ⟨h1,h2⟩;refine ⟨fun j hj=>?_,h1⟩;have hn:L.Nodup:=hp.nodup_iff.2 (z7.2 fun i hi=>(h2 i hi).2);have hb:∀ x ∈ L,0≤x∧x<U:=fun x hx=>by
    obtain ⟨i,hi,rfl⟩:=Cj.1 (hp.mem_iff.1 hx);exact (h2 i hi).1
   have hgs:∀ i j,i<j→j<m→aC L i<aC L j:=fun i j hij hj=>by
    have a1:=(List.pairwise_iff_getElem.1 hs) i j wO wO hij;have a2:=(List.pairwise_iff_getElem.1 hn) i j wO wO hij;rw[tE L i wO,tE L j wO];have a1:L[i]≤L[j]:=a1;have a2:L[i]≠L[j]:=a2;omega
   have hg:∀ j,j<m→0≤aC L j∧aC L j<m:=fun j hj=>by
    rw[tE L j wO];have:=hb _ (List.getElem_mem (l:=L) (n:=j) wO);omega
   have e1:=GY (fun j hj=>(hg j hj).1) hgs j hj;have e2:=inc_le (fun j hj=>(hg j hj).2) hgs (m-1-j) j wO;rw[Bool.not_eq_false',decide_eq_true_iff];omega
def sk (z:Nat→Int) (m:Nat):List Nat:=(List.range m).map fun j=>(z j).toNat
theorem Kr (z:Nat→Int) (m:Nat):sk z (m+1)=sk z m++[(z m).toNat]:=by unfold sk;rw[List.range_succ,List.map_append];rfl
theorem pR {z:Nat→Int} {m x:Nat}:x ∈ sk z m↔∃ i,i<m∧(z i).toNat=x:=by simp[sk]
theorem wM {z:Nat→Int} {m U:Nat} (h:Bf z U m=true):∀ k,k≤m→(sk z k).Nodup:=fun k hk=>by
 obtain ⟨h1,h2⟩:=jC.1 h;unfold sk;rw[List.Nodup,List.pairwise_map,List.pairwise_iff_getElem];simp only[List.length_range,List.getElem_range];intro j i hj hi hji;have a:=(h2 i wO).1;have b:=(h2 j wO).1;have c:=(h2 i wO).2 j hji;omega
theorem sa {L:List Nat} (hn:L.Nodup) {n:Nat} (h:∀ x ∈ L,x<n):mask L<2 ^ n:=by
 refine Nat.lt_pow_two_of_testBit _ fun i hi=>?_;rw[dE hn];exact decide_eq_false fun hm=>by have:=h i hm;omega
theorem N2 {z:Nat→Int} {m U:Nat} (h:Bf z U m=true) {a:Nat} (ha:a<U):∃ i,i<m∧z i=(a:Int):=by
 obtain ⟨h1,h2⟩:=jC.1 h;have h3:=(Ib (z:=z) (U:=U) (m:=m)).2 h;have h4:=sQ.1 h3.1 a wO;rw[Bool.not_eq_false',decide_eq_true_iff] at h4;have hl:(gw (kx z m)).length=m:=by rw[lT,jc]
 rw[tE _ a wO] at h4;have:(a:Int) ∈ gw (kx z m):=by rw[← h4];exact List.getElem_mem _
 exact Cj.1 ((Af _).mem_iff.1 this)
def vI (W:Nat→Int) (c:Int) (p:Int):Bool:=decide (W (2*c.toNat)≤p) && decide (p≤W (2*c.toNat+1))
noncomputable def Li (B:Nat→Int) (z:Nat→Int) (j:Nat):Bool:=!bV (FQ .u64 (B (z j).toNat) (mask (sk z j):Int)) (Int.ofNat 0)
def K1 (V:Nat) (J:Nat→Int) (z:Nat→Int) (i:Nat):Bool:=dH (fun j=>p8 V J (z i) (z j)) i
theorem si {V U:Nat} {J:Nat→Int} (hp:fW U V J) (a c:Nat):p8 V J (a:Int) (c:Int)=(fA J c V).testBit a:=by
 unfold p8;rw[Bool.eq_iff_iff,cj,m9 J c a V (fun i hi=>(hp i hi).1.1)];constructor
 · rintro ⟨i,hi,he⟩;unfold gE at he;rw[Bool.and_eq_true,decide_eq_true_iff,decide_eq_true_iff] at he;exact ⟨i,hi,he.1.symm,he.2.symm⟩
 · rintro ⟨i,hi,he⟩;refine ⟨i,hi,?_⟩;unfold gE;rw[Bool.and_eq_true,decide_eq_true_iff,decide_eq_true_iff];exact ⟨he.1.symm,he.2.symm⟩
theorem Ke {O:Int} {U:Nat} {Z:Nat→Int} {V:Nat} {J:Nat→Int} (h:bL O U Z V J=0) (a:Int):p8 V J a a=false:=by
 unfold p8;refine Bz fun j hj=>?_;unfold bL at h;split at h
 · cases h
 · rename_i h1;split at h
   · cases h
   · rename_i h2;split at h
     · cases h
     · rename_i h3;have h3:dH (gI U J) V=false:=by simpa using h3
       have:=pd h3 j hj;unfold gI at this;rw[Bool.or_eq_false_iff,decide_eq_false_iff_not] at this;unfold gE;rw[Bool.and_eq_false_iff,decide_eq_false_iff_not,decide_eq_false_iff_not];have:=this.1;omega
theorem P5 {V U m:Nat} {J:Nat→Int} {z:Nat→Int} (hp:fW U V J) (hs:∀ a,p8 V J a a=false) (hl:U≤10) (hm:Bf z U m=true):dH (Li (fI V J) z) m=dH (K1 V J z) m:=by
 obtain ⟨h1,h2⟩:=jC.1 hm;have key:∀ j,j<m→(Li (fI V J) z j=true↔∃ i,j<i∧i<m∧p8 V J (z i) (z j)=true):=fun j hj=>by
  have hn:=wM hm j wO;have hlt:∀ x ∈ sk z j,x<U:=fun x hx=>by
   obtain ⟨i,hi,rfl⟩:=pR.1 hx;have:=(h2 i wO).1;omega
  have hc:=(h2 j hj).1;have hb:fA J (z j).toNat V<2 ^ U:=qf J _ U V fun i hi=>(hp i hi).1;have hb2:fA J (z j).toNat V<2 ^ 62:=Nat.lt_of_lt_of_le hb (Nat.pow_le_pow_right wO wO);have hX2:mask (sk z j)<2 ^ 62:=Nat.lt_of_lt_of_le (sa hn hlt) (Nat.pow_le_pow_right wO wO);obtain ⟨w,hw,hw2⟩:=RO hb2 hX2;unfold Li;rw[show fI V J (z j).toNat=(fA J (z j).toNat V:Int) from rfl,hw,bg];have e1:(!((w:Int) == Int.ofNat 0))=true↔w≠0:=by simp
  rw[e1];constructor
  · intro hw0;obtain ⟨a,ha⟩:=Nat.exists_testBit_of_ne_zero hw0;rw[hw2,Bool.and_eq_true,dE hn,Bool.not_eq_true',decide_eq_false_iff_not] at ha;have hal:a<U:=by
     refine Nat.lt_of_not_le fun hge=>?_;rw[Nat.testBit_lt_two_pow (Nat.lt_of_lt_of_le hb (Nat.pow_le_pow_right wO hge))] at ha;cases ha.1
    obtain ⟨i,hi,hia⟩:=N2 hm hal;have hpr:p8 V J (z i) (z j)=true:=by
     rw[hia,show z j=((z j).toNat:Int) by omega,si hp];exact ha.1
    refine ⟨i,?_,hi,hpr⟩;rcases Nat.lt_trichotomy i j with q | q | q
    · exact absurd (pR.2 ⟨i,q,by omega⟩) ha.2
    · subst q;rw[hs] at hpr;cases hpr
    · exact q
  · rintro ⟨i,hij,hi,hpr⟩;have hzi:=(h2 i hi).1;intro hw0;have:=hw2 (z i).toNat
    rw[hw0,Nat.zero_testBit,dE hn] at this;rw[show z i=((z i).toNat:Int) by omega,show z j=((z j).toNat:Int) by omega,si hp] at hpr;rw[hpr,Bool.true_and] at this;have hmem:(z i).toNat ∈ sk z j:=by
     cases hd:decide ((z i).toNat ∈ sk z j) with
     | true=>exact of_decide_eq_true hd
     | false=>rw[hd] at this;cases this
    obtain ⟨k,hk,hk2⟩:=pR.1 hmem;have hzk:=(h2 k wO).1;exact (h2 i hi).2 k wO wO
 rw[Bool.eq_iff_iff,cj,cj];constructor
 · rintro ⟨j,hj,h⟩;obtain ⟨i,hij,hi,hpr⟩:=(key j hj).1 h;exact ⟨i,hi,(cj _ _).2 ⟨j,hij,hpr⟩⟩
 · rintro ⟨i,hi,h⟩;obtain ⟨j,hij,hpr⟩:=(cj _ _).1 h;exact ⟨j,by omega,(key j wO).2 ⟨i,hij,hi,hpr⟩⟩
noncomputable def rR (U:Nat) (W:Nat→Int) (V:Nat) (J:Nat→Int) (m:Nat) (z:Nat→Int):Int:=if Bf z U m=true then (if dH (fun j=>!vI W (z j) j) m=true then 21 else if dH (K1 V J z) m=true then 16 else 0) else 15
end Go.Eng
end
section
namespace Go.Eng
open Go.Proofs Go.Eng.Gall
noncomputable def xc (d:Nat):AV:=.fn (.func 80) [] [.ptr d 0 0 0]
end Go.Eng
end
section
namespace Go.Eng
open Go.Proofs Go.Eng.Gall
theorem V6:∀ b,(0,b) ∈ aP (aZ Tryd.f89)→b=.loop (part Tryd.f89 [1,0,1,0,0]):=eA (by kernel_rfl)
def vW (O:Int) (U:Nat) (Z:Nat→Int) (V:Nat) (J:Nat→Int) (c:Int):Int:=if bL O U Z V J=0 then (if c<0∨(U:Int)≤c then 2 else 0) else bL O U Z V J
theorem ke {O:Int} {U:Nat} {Z:Nat→Int} {V:Nat} {J:Nat→Int} (h:bL O U Z V J=0):(1≤U∧U≤10)∧V≤40∧(1≤O∧O≤100)∧wU U Z∧fW U V J∧mf U (fun c=>fA J c V)=false:=by
 unfold bL at h;split at h
 · cases h
 · rename_i h1;split at h
   · cases h
   · rename_i h2;split at h
     · cases h
     · rename_i h3;split at h
       · cases h
       · rename_i h4;exact ⟨by omega,by omega,by omega,pd (by simpa using fun q=>h2 (.inr (.inr q))),pY (by simpa using h3),by simpa using h4⟩
theorem PE {O:Int} {U:Nat} {Z:Nat→Int} {V:Nat} {J:Nat→Int} {c:Int} (h:vW O U Z V J c=0):bL O U Z V J=0∧0≤c∧c<U:=by
 unfold vW at h;split at h
 · rename_i h1;split at h
   · cases h
   · exact ⟨h1,by omega,by omega⟩
 · rename_i h1;exact absurd h h1
section
variable (n:Nat) (O:Int) (U:Nat) (Z:Nat→Int) (V:Nat) (J:Nat→Int) (H:aa)
noncomputable def Qy (c:Int):AV:=if vW O U Z V J c=0 then .tup [Lw O U Z V J,.int .i64 0] else .tup [.nilp,.int .i64 (vW O U Z V J c)]
end
end Go.Eng
end
section
namespace Go.Eng
open Int (ofNat)
open Go.Proofs Go.Eng.Gall
theorem O7:∀ b,(0,b) ∈ aP (aZ Tryd.f39)→b=.loop (part Tryd.f39 [1,1,1,1,0,1,0,0]):=eA (by kernel_rfl)
theorem RQ:∀ b,(2,b) ∈ aP (aZ Tryd.f39)→b=.loop (part Tryd.f39 [1,1,1,1,1,1,0,1,0,0]):=eA (by kernel_rfl)
theorem RR:∀ b,(4,b) ∈ aP (aZ Tryd.f39)→b=.loop (part Tryd.f39 [1,1,1,1,1,1,1,1,0,1,0,0]):=eA (by kernel_rfl)
section
variable (n:Nat) (O:Int) (U:Nat) (Z:Nat→Int) (V:Nat) (J:Nat→Int) (H:aa)
theorem Pf (hb:V≤1000) (h0:bL O U Z V J=0):cd (n+14) (.fn 49) [bj O U Z V J,.nils] H=some (.tup [Lw O U Z V J,.int .i64 (ofNat 0)],H):=by
 obtain ⟨h1,h2,h3,h4,h5,_⟩:=ke h0;refine bF (n:=n+13) Tryd.func49 rfl rfl rfl (Uy (n+11) O U Z V J (dg O U Z) (fI V J) H (fun x=>x=[bj O U Z V J])) (ir _ (n+11) 2 (fun q=>yI (eJ (bp _) (fun H=>by
  rw[show n+11+q=n+q+11 by omega];have:=RW (n+q) O U Z V J H wO hb;rw[h0] at this;exact this)) (fun A H hA=>by
   subst hA;rw[show n+11+q=n+q+4+7 by omega];exact RZ (n+q+4) O U Z V J H h1.2 hb h3 h4 h5))) (ai _ _) (aj _ _) ?_
 refine Tr.al rfl (Tr.af (fun q=>by simp[aH,bg] at q) (fun q=>Tr.al rfl (Tr.ag ⟨rfl,rfl⟩)))
variable (W B:Nat→Int)
theorem Wj (c p:Int) (hc:0≤c∧c<10):cd (n+1) (.fn 71) [shV O U Z V J W B,.int .i64 c,.int .i64 p] H=some (.bool (vI W c p),H):=by
 have T:=YH n O U Z V J W B H c p;have es:c9 (au 3 c 2) 3=2*c.toNat:=by rw[bt,dj];omega
 have es1:c9 (ar (au 3 c 2) 1) 3=2*c.toNat+1:=by rw[bt,aI,dj];omega
 rw[es,es1] at T;refine bF (n:=n) Tryd.func71 rfl rfl rfl T (aA n) (ai _ _) (aj _ _) ?_;refine Tr.ab wG (Tr.ab wG (Tr.ab wG (Tr.af (fun q=>Tr.ag ⟨?_,rfl⟩) (fun q=>Tr.ag ⟨?_,rfl⟩))));all_goals rw[bu] at q
 all_goals unfold vI
 · rw[q,bu,Bool.true_and]
 · rw[q,Bool.false_and]
end
section
variable (n:Nat) (r:Row) (G:aa) (m:Nat) (z S:Nat→Int) (R:Row)
theorem S1 (hm:m≤1000):exec (bN n 39 76) (.block 0 (.loop (part Tryd.f39 [1,1,1,1,0,1,0,0]))) (vl m z S R (ofNat 0)) (⟨false,[(0,.row r)]⟩::G)=some (cond (dH (fun j=>!decide (S j=(j:Int))) m) (.ret,[(4,.int .i64 (ofNat 15))],⟨false,[(0,.row r)]⟩::G) (.normal,vl m z S R (ofNat m)++[(29,.bool false)],⟨false,[(0,.row r)]⟩::G)):=by
 refine jS (n:=n) (f:=39) (nt:=76) (c:=part Tryd.f39 [1,1,1,1,0,1,0,0]) 0 (fun j=>vl m z S R (j:Int)) (fun _=>⟨false,[(0,.row r)]⟩::G) m (fun j=>!decide (S j=(j:Int))) (fun _=>([(4,.int .i64 (ofNat 15))],⟨false,[(0,.row r)]⟩::G)) (vl m z S R (ofNat m)++[(29,.bool false)],⟨false,[(0,.row r)]⟩::G) wO (fun j hj=>?_) ?_
 · have T:=QV n r G m z S R (j:Int);rw[BQ,eg wO] at T;refine aw T (aA n) (ai _ _) (aj _ _) ?_;refine Tr.af (fun h0=>?_) wJ;refine Tr.ab wG (Tr.ab wG (Tr.af (fun q=>Tr.ag ?_) (fun q=>Tr.ag ?_)));all_goals rw[aH,bg] at q
   · rw[if_pos (by simpa using q)];rfl
   · rw[if_neg (by simpa using q)];exact ⟨rfl,rfl⟩
 · obtain ⟨x,h1,rfl⟩:=aw (Q:=fun x=>x=(.exit 0,vl m z S R (ofNat m)++[(29,.bool false)],⟨false,[(0,.row r)]⟩::G)) (QV n r G m z S R (ofNat m)) (aA n) (ai _ _) (aj _ _) (by
    refine Tr.af wJ (fun h0=>Tr.ag rfl))
   exact h1
theorem S2 (hm:m≤1000) (s:Int→Nat→Bool) (h71:∀ j,j<m→∀ H,cd n (.fn 71) [.ptrT none R 0,.int .i64 (z j),.int .i64 (j:Int)] H=some (.bool (s (z j) j),H)):exec (bN n 39 76) (.block 2 (.loop (part Tryd.f39 [1,1,1,1,1,1,0,1,0,0]))) (xf m z R (ofNat 0)) (⟨false,[(0,.row r)]⟩::G)=some (cond (dH (fun j=>!s (z j) j) m) (.ret,[(4,.int .i64 (ofNat 21))],⟨false,[(0,.row r)]⟩::G) (.normal,xf m z R (ofNat m)++[(46,.bool false)],⟨false,[(0,.row r)]⟩::G)):=by
 refine jS (n:=n) (f:=39) (nt:=76) (c:=part Tryd.f39 [1,1,1,1,1,1,0,1,0,0]) 2 (fun j=>xf m z R (j:Int)) (fun _=>⟨false,[(0,.row r)]⟩::G) m (fun j=>!s (z j) j) (fun _=>([(4,.int .i64 (ofNat 21))],⟨false,[(0,.row r)]⟩::G)) (xf m z R (ofNat m)++[(46,.bool false)],⟨false,[(0,.row r)]⟩::G) wO (fun j hj=>?_) ?_
 · have T:=Uj n r G m z R (j:Int) (z j) (s (z j) j);rw[BQ,eg wO] at T;refine aw T (bQ _ _ (eJ (bp _) (h71 j hj))) (ai _ _) (aj _ _) ?_;refine Tr.af (fun h0=>?_) wJ;refine Tr.ab wG (Tr.ab wG (Tr.al rfl (Tr.af (fun q=>Tr.ag ?_) (fun q=>Tr.ag ?_))));all_goals rw[aH] at q
   · rw[if_pos q];rfl
   · rw[if_neg (by rw[q];decide)];exact ⟨rfl,rfl⟩
 · obtain ⟨x,h1,rfl⟩:=aw (Q:=fun x=>x=(.exit 2,xf m z R (ofNat m)++[(46,.bool false)],⟨false,[(0,.row r)]⟩::G)) (QW n r G m z R (ofNat m)) (aA n) (ai _ _) (aj _ _) (by
    refine Tr.af wJ (fun h0=>Tr.ag rfl))
   exact h1
end
section
variable (n:Nat) (O:Int) (U:Nat) (Z:Nat→Int) (V:Nat) (J:Nat→Int) (W B:Nat→Int) (r:Row) (G:aa) (m:Nat) (z:Nat→Int)
theorem J8 {m:Nat} {z:Nat→Int} (hl:U≤10) (hm:Bf z U m=true) {j:Nat} (hj:j<m):wC .u64 (mask (sk z j):Int) (fU .u64 (ofNat 1) (z j))=(mask (sk z (j+1)):Int):=by
 obtain ⟨h1,h2⟩:=jC.1 hm;have hc:=(h2 j hj).1;have hn:=wM hm j wO;have hlt:mask (sk z j)<2 ^ U:=sa hn fun x hx=>by
  obtain ⟨i,hi,rfl⟩:=pR.1 hx;have:=(h2 i wO).1;omega
 have hlt:mask (sk z j)<2 ^ 10:=Nat.lt_of_lt_of_le hlt (Nat.pow_le_pow_right wO hl);have hno:(mask (sk z j)).testBit (z j).toNat=false:=by
  rw[dE hn];refine decide_eq_false fun hx=>?_;obtain ⟨i,hi,he⟩:=pR.1 hx;have:=(h2 i wO).1;exact (h2 j hj).2 i hi wO
 have h2p:2 ^ (z j).toNat≤2 ^ 9:=Nat.pow_le_pow_right wO wO;rw[show z j=((z j).toNat:Int) by omega,Cn wO,RH wO wO,Kr,pF,Ht hno]
theorem S3 (hl:U≤10) (hm:Bf z U m=true):exec (bN n 39 76) (.block 4 (.loop (part Tryd.f39 [1,1,1,1,1,1,1,1,0,1,0,0]))) (yz m z (shR O U Z V J W B) (ofNat 0) (ofNat 0)) (⟨false,[(0,.row r)]⟩::G)=some (cond (dH (Li B z) m) (.ret,[(4,.int .i64 (ofNat 16))],⟨false,[(0,.row r)]⟩::G) (.normal,yz m z (shR O U Z V J W B) (mask (sk z m):Int) (ofNat m)++[(59,.bool false)],⟨false,[(0,.row r)]⟩::G)):=by
 obtain ⟨h1,h2⟩:=jC.1 hm;refine jS (n:=n) (f:=39) (nt:=76) (c:=part Tryd.f39 [1,1,1,1,1,1,1,1,0,1,0,0]) 4 (fun j=>yz m z (shR O U Z V J W B) (mask (sk z j):Int) (j:Int)) (fun _=>⟨false,[(0,.row r)]⟩::G) m (Li B z) (fun _=>([(4,.int .i64 (ofNat 16))],⟨false,[(0,.row r)]⟩::G)) (yz m z (shR O U Z V J W B) (mask (sk z m):Int) (ofNat m)++[(59,.bool false)],⟨false,[(0,.row r)]⟩::G) wO (fun j hj=>?_) ?_
 · have hc:=(h2 j hj).1;have T:=QX n O U Z V J W B r G m z (mask (sk z j):Int) (j:Int);rw[BQ,eg wO,J8 U hl hm hj,show c9 (au 23 (z j) 1) 23=(z j).toNat by rw[bt,dj];omega] at T;refine aw T (aA n) (ai _ _) (aj _ _) ?_;refine Tr.af (fun h0=>?_) wJ;refine Tr.ab wG (Tr.ab wG (Tr.ab wG (Tr.ab wG (Tr.af (fun q=>Tr.ag ?_) (fun q=>Tr.ab wG (Tr.ag ?_))))));all_goals rw[aH] at q
   · rw[if_pos (show Li B z j=true from q)];rfl
   · rw[if_neg (by rw[show Li B z j=false from q];decide)];exact ⟨rfl,rfl⟩
 · obtain ⟨x,h1,rfl⟩:=aw (Q:=fun x=>x=(.exit 4,yz m z (shR O U Z V J W B) (mask (sk z m):Int) (ofNat m)++[(59,.bool false)],⟨false,[(0,.row r)]⟩::G)) (QX n O U Z V J W B r G m z (mask (sk z m):Int) (ofNat m)) (aA n) (ai _ _) (aj _ _) (by
    refine Tr.af wJ (fun h0=>Tr.ag rfl))
   exact h1
theorem VI (H:aa) (hb:V≤1000) (h0:bL O U Z V J=0) (hm:m≤1000):cd (n+15) (.fn 39) [bj O U Z V J,aF m z false] H=some (.int .i64 (rR U (dg O U Z) V J m z),H):=by
 obtain ⟨h1,h2,h3,h4,h5,_⟩:=ke h0;have h49:=fun H=>Pf n O U Z V J H hb h0;have h76:=fun H=>Wm (n+13) m z H;have h75:=fun H=>Wk (n+3) 0 m z H hm;have hsp:=Ib (z:=z) (U:=U) (m:=m);unfold rR;rcases Nat.eq_zero_or_pos m with hz | hz
 · subst hz;have e0:Oh z 0=.nils:=by
    have h:gw (kx z 0)=[]:=List.eq_nil_of_length_eq_zero (by rw[lT,jc]);unfold Oh;rw[h];rfl
   rw[e0] at h75;have hp:¬ Bf z U 0=true:=fun h=>by have:=(jC.1 h).1;omega
   rw[if_neg hp];refine bF (n:=n+14) Tryd.func39 rfl rfl rfl (Uf (n+14) O U Z V J H 0 z z (shR O U Z V J (dg O U Z) (fI V J))) (bQ _ _ (eJ (eJ (eJ (bp _) h49) h76) h75)) (c8 (c8 (ai _ _) 2) 4) (aj _ _) ?_;refine Tr.al rfl (Tr.af (fun q=>by simp[aH,bg] at q) (fun q=>Tr.al rfl (Tr.al rfl (Tr.af (fun q=>Tr.ag ⟨rfl,rfl⟩) (fun q=>?_)))));rw[aH,bg] at q;have:(0:Int)=U:=by simpa using q
   omega
 · obtain ⟨k,rfl⟩:∃ k,m=k+1:=⟨m-1,by omega⟩
   have e:Oh z (k+1)=aF (k+1) (aC (gw (kx z (k+1)))) false:=K6 _ k (by rw[lT,jc]);rw[e] at h75;generalize hM:k+1=M at *;have hM1000:M≤1000:=hm;have hla:=S1 (n+14) (.G [.int .i64 O,slA 4 U Z,slA 2 V J]) H M z (aC (gw (kx z M))) (shR O U Z V J (dg O U Z) (fI V J)) hm;by_cases hp:Bf z U M=true
   · rw[if_pos hp];obtain ⟨p1,p2⟩:=jC.1 hp;obtain ⟨q1,q2⟩:=hsp.2 hp;have hlb:=S2 (n+14) (.G [.int .i64 O,slA 4 U Z,slA 2 V J]) H M z (shR O U Z V J (dg O U Z) (fI V J)) hm (fun c j=>vI (dg O U Z) c j) (fun j hj H=>Wj (n+13) O U Z V J H (dg O U Z) (fI V J) (z j) j (by have:=(p2 j hj).1;omega));have hlc:=S3 (n+14) O U Z V J (dg O U Z) (fI V J) (.G [.int .i64 O,slA 4 U Z,slA 2 V J]) H M z h1.2 hp;refine bF (n:=n+14) Tryd.func39 rfl rfl rfl (YB (n+14) O U Z V J H M z (aC (gw (kx z M))) (shR O U Z V J (dg O U Z) (fI V J)) (dH (fun j=>!decide (aC (gw (kx z M)) j=(j:Int))) M) (dH (fun j=>!vI (dg O U Z) (z j) j) M) (dH (Li (fI V J) z) M) (mask (sk z M):Int)) (bQ _ _ (eJ (eJ (eJ (bp _) h49) h76) h75)) (az (az (az (ai _ _) O7 (fun x hx=>dV hx hla)) RQ (fun x hx=>dV hx hlb)) RR (fun x hx=>dV hx hlc)) (aj _ _) ?_;rw[q1,P5 h5 (Ke h0) h1.2 hp];refine Tr.al rfl (Tr.af (fun q=>by simp[aH,bg] at q) (fun q=>Tr.al rfl (Tr.al rfl (Tr.al ⟨rfl,rfl⟩ (Tr.af (fun q=>by cases q) (fun _=>Tr.af (fun q=>?_) (fun _=>Tr.al ⟨rfl,rfl⟩ (Tr.af (fun q=>Tr.ag ⟨?_,rfl⟩) (fun q=>Tr.al ⟨rfl,rfl⟩ (Tr.af (fun q2=>Tr.ag ⟨?_,rfl⟩) (fun q2=>Tr.ag ⟨?_,rfl⟩)))))))))))
     · rw[aH,bg] at q;have:¬ (M:Int)=U:=by simpa using q
       omega
     · rw[if_pos q];rfl
     · rw[if_neg (by rw[q];decide),if_pos q2];rfl
     · rw[if_neg (by rw[q];decide),if_neg (by rw[q2];decide)];rfl
   · rw[if_neg hp];refine bF (n:=n+14) Tryd.func39 rfl rfl rfl (Uw (n+14) O U Z V J H M z (aC (gw (kx z M))) (shR O U Z V J (dg O U Z) (fI V J)) (dH (fun j=>!decide (aC (gw (kx z M)) j=(j:Int))) M)) (bQ _ _ (eJ (eJ (eJ (bp _) h49) h76) h75)) (c8 (c8 (az (ai _ _) O7 (fun x hx=>dV hx hla)) 2) 4) (aj _ _) ?_;refine Tr.al rfl (Tr.af (fun q=>by simp[aH,bg] at q) (fun q=>Tr.al rfl (Tr.al rfl (Tr.al ⟨rfl,rfl⟩ (Tr.af (fun q=>Tr.ag ⟨rfl,rfl⟩) (fun q3=>Tr.af (fun q=>Tr.ag ⟨rfl,rfl⟩) (fun q=>?_)))))));rw[aH,bg] at q;have:(M:Int)=U:=by simpa using q
     exact absurd (hsp.1 ⟨q3,by omega⟩) hp
end
end Go.Eng
end
section
namespace Go.Eng
open Go.Proofs Go.Eng.Gall
end Go.Eng
end
section
namespace Go.Eng
open Go.Proofs Go.Eng.Gall
section
variable (n:Nat) (O:Int) (U:Nat) (Z:Nat→Int) (V:Nat) (J:Nat→Int) (H:aa) (m:Nat) (z:Nat→Int)
end
end Go.Eng
end
section
namespace Go.Eng
open Go.Proofs Go.Eng.Gall
end Go.Eng
end
section
namespace Go.Eng
open Go.Proofs Go.Eng.Gall
section
variable (n:Nat) (O:Int) (U:Nat) (Z:Nat→Int) (V:Nat) (J:Nat→Int) (H:aa)
variable (m:Nat) (z:Nat→Int) (W B:Nat→Int)
end
end Go.Eng
end
section
namespace Go.Eng
open Go.Proofs Go.Eng.Gall
end Go.Eng
end
section
namespace Go.Eng
open Go.Proofs Go.Eng.Gall
end Go.Eng
end
section
namespace Go.Eng
open Go.Proofs Go.Eng.Gall
section
variable (O:Int) (U:Nat) (Z:Nat→Int) (V:Nat) (J:Nat→Int)
end
end Go.Eng
end
section
namespace Go.Eng
open Go.Proofs Go.Eng.Gall
section
variable (O:Int) (U:Nat) (Z:Nat→Int) (V:Nat) (J:Nat→Int)
variable (n:Nat) (H:aa) (m:Nat) (z:Nat→Int) (w:Int)
end
end Go.Eng
end
section
namespace Go.Eng
open Int (ofNat)
open Go.Proofs Go.Eng.Gall
noncomputable def lx (R:Row) (u:Bool) (U:Nat) (i:Int):aD:=[(0,.ptrT none R 0),(2,.ptr 0 0 0 0),(4,.ptr 0 1 0 0),(5,.ptr 0 2 0 0),(6,.bool u),(19,.int .i64 (ofNat U)),(20,.int .i64 i)]
noncomputable def iG (R:Row) (u:Bool) (U:Nat) (i k:Int):aD:=[(0,.ptrT none R 0),(2,.ptr 0 0 0 0),(4,.ptr 0 1 0 0),(5,.ptr 0 2 0 0),(6,.bool u),(7,.int .i64 i),(19,.int .i64 (ofNat U)),(20,.int .i64 i),(28,.int .i64 (ofNat U)),(29,.int .i64 k)]
noncomputable def gu (R:Row) (u:Bool) (U:Nat) (i k c:Int):aD:=[(0,.ptrT none R 0),(2,.ptr 0 0 0 0),(4,.ptr 0 1 0 0),(5,.ptr 0 2 0 0),(6,.bool u),(7,.int .i64 i),(9,.ptr 0 3 0 0),(19,.int .i64 (ofNat U)),(20,.int .i64 i),(28,.int .i64 (ofNat U)),(29,.int .i64 k),(46,.int .i64 (ofNat U)),(47,.int .i64 c)]
noncomputable def MR (q:Nat→Int) (f t:Int) (A:AV):List (Nat×ak):=[(0,.row (.G [.int .i64 (ofNat 0),.int .i64 (ofNat 0),.nils])),(0,.row (.M [.arr .i64 q 20])),(0,.row (.G [.int .i64 f,.int .i64 t,A]))]
noncomputable def fh (q:Nat→Int) (f t:Int) (A:AV):bB:=⟨false,MR q f t A⟩
noncomputable def zm (q:Nat→Int) (f t:Int) (A:AV) (F T:Int):bB:=⟨false,MR q f t A++[(0,.row (.G [.int .i64 F,.int .i64 T,.nils]))]⟩
noncomputable def B5 (q:Nat→Int) (f t:Int) (A:AV) (F T:Int) (c:Nat) (y:Nat→Int):bB:=⟨false,MR q f t A++[(0,.row (.G [.int .i64 F,.int .i64 T,.slc 0 4 0 0 1 c none])),(0,.row (.M [.arr .i64 y c]))]⟩
theorem Lq (n:Nat) (H:aa) (q:Nat→Int) (R:Row) (u:Bool) (f t:Int) (m:Nat) (y:Nat→Int) (U:Nat) (i k c F T:Int):aJ (bN n 65 128) (il aK n 0) aS aR (part Tryd.f65 [1,0,1,1,1,1,0,1,0,0,1,1,0,0,1,1,0,0,1,1,0,0,1,1,0,1,0,0]) (hints (gu R u U i k c)) (zm q f t .nils F T::H) =
 (fun (Z0:aO)=>((fun (Z1:bB)=>Tr.ite (bE c (ofNat U)) (Tr.req (cQ c 10) (Tr.req (cg 0 0) (Tr.req (cK (au 0 c 2) 20) (Tr.ite (dQ F (q (au 0 c 2))) (Tr.req (cQ c 10) (Tr.req (cg 0 0) (Tr.req (cK (ar (au 0 c 2) 1) 20) (Tr.ite (dQ (q (ar (au 0 c 2) 1)) T) (Tr.req (lh (ofNat 0) 0) (Tr.req (lh (ofNat 0) (cC (ofNat 0))) (Tr.req (eT 0 1 8) (Tr.req (cg 0 0) (Tr.req (eU 1 1) (Tr.ok (Ex.normal,Z0,(bh [(0,ak.row (Row.G [iI 0,iI 0,AV.nils])),(0,ak.row (rM q 20)),(0,ak.row (Row.G [AV.int .i64 f,AV.int .i64 t,AV.nils])),(0,ak.row (Row.G [AV.int .i64 F,AV.int .i64 T,AV.slc 0 5 0 0 1 1 none])),(0,ak.row (Row.I .i64 [c])),(0,ak.row (rM (aC [c]) 1))])::H))))))) (Tr.ok (Ex.normal,Z0,Z1::H)))))) (Tr.ok (Ex.normal,Z0,Z1::H)))))) (Tr.ok (Ex.exit 4,[(0,AV.ptrT none R 0,none),(2,AV.ptr 0 0 0 0,none),(4,AV.ptr 0 1 0 0,none),(5,AV.ptr 0 2 0 0,none),(6,AV.bool u,none),(7,AV.int .i64 i,none),(9,AV.ptr 0 3 0 0,none),(19,iI U,none),(20,AV.int .i64 i,none),(28,iI U,none),(29,AV.int .i64 k,none),(46,iI U,none),(47,AV.int .i64 c,none),(48,AV.bool false,some 1)],Z1::H))) (bh [(0,ak.row (Row.G [iI 0,iI 0,AV.nils])),(0,ak.row (rM q 20)),(0,ak.row (Row.G [AV.int .i64 f,AV.int .i64 t,AV.nils])),(0,ak.row (Row.G [AV.int .i64 F,AV.int .i64 T,AV.nils]))]))) [(0,AV.ptrT none R 0,none),(2,AV.ptr 0 0 0 0,none),(4,AV.ptr 0 1 0 0,none),(5,AV.ptr 0 2 0 0,none),(6,AV.bool u,none),(7,AV.int .i64 i,none),(9,AV.ptr 0 3 0 0,none),(19,iI U,none),(20,AV.int .i64 i,none),(28,iI U,none),(29,AV.int .i64 k,none),(46,iI U,none),(47,AV.int .i64 (bm .i64 c (ofNat 1)),none)]:=by kernel_rfl
theorem Lr (n:Nat) (H:aa) (q:Nat→Int) (R:Row) (u:Bool) (f t:Int) (m:Nat) (y:Nat→Int) (U:Nat) (i k c F T:Int) (g:Nat) (x:Nat→Int):aJ (bN n 65 128) (il aK n 0) aS aR (part Tryd.f65 [1,0,1,1,1,1,0,1,0,0,1,1,0,0,1,1,0,0,1,1,0,0,1,1,0,1,0,0]) (hints (gu R u U i k c)) (B5 q f t .nils F T g x::H) =
 (fun (Z0:aO)=>((fun (Z1:bB)=>Tr.ite (bE c (ofNat U)) (Tr.req (cQ c 10) (Tr.req (cg 0 0) (Tr.req (cK (au 0 c 2) 20) (Tr.ite (dQ F (q (au 0 c 2))) (Tr.req (cQ c 10) (Tr.req (cg 0 0) (Tr.req (cK (ar (au 0 c 2) 1) 20) (Tr.ite (dQ (q (ar (au 0 c 2) 1)) T) (Tr.req (lh (ofNat g) g) (Tr.req (lh (ofNat g) (cC (ofNat g))) (Tr.req (eT (cC (ofNat g)) 1 8) (Tr.req (cg 0 0) (Tr.req (eU 1 1) (Tr.ite (cK (cC (ofNat g)) (ar (cC (ofNat g)) 1)) (Tr.req (cg 0 0) (Tr.req (eU (cC (ofNat g)) (cC (ofNat g))) (Tr.req (dN 0 (cC (ofNat g)) 0 g) (Tr.ok (Ex.normal,Z0,(bh [(0,ak.row (Row.G [iI 0,iI 0,AV.nils])),(0,ak.row (rM q 20)),(0,ak.row (Row.G [AV.int .i64 f,AV.int .i64 t,AV.nils])),(0,ak.row (Row.G [AV.int .i64 F,AV.int .i64 T,AV.slc 0 6 0 0 1 (ar (cC (ofNat g)) 1) none])),(0,ak.row (rM x g)),(0,ak.row (Row.I .i64 [c])),(0,ak.row (rM (mb (jI x 0) (cC (ofNat g)) (aC [c])) (ar (cC (ofNat g)) 1)))])::H))))) (Tr.req (cg 0 0) (Tr.req (cK (ar 0 (cC (ofNat g))) g) (Tr.ok (Ex.normal,Z0,(bh [(0,ak.row (Row.G [iI 0,iI 0,AV.nils])),(0,ak.row (rM q 20)),(0,ak.row (Row.G [AV.int .i64 f,AV.int .i64 t,AV.nils])),(0,ak.row (Row.G [AV.int .i64 F,AV.int .i64 T,AV.slc 0 4 0 0 1 (ar (cC (ofNat g)) 1) (some (cC (ofNat g)))])),(0,ak.row (rM (eB x (ar 0 (cC (ofNat g))) c) g)),(0,ak.row (Row.I .i64 [c]))])::H)))))))))) (Tr.ok (Ex.normal,Z0,Z1::H)))))) (Tr.ok (Ex.normal,Z0,Z1::H)))))) (Tr.ok (Ex.exit 4,[(0,AV.ptrT none R 0,none),(2,AV.ptr 0 0 0 0,none),(4,AV.ptr 0 1 0 0,none),(5,AV.ptr 0 2 0 0,none),(6,AV.bool u,none),(7,AV.int .i64 i,none),(9,AV.ptr 0 3 0 0,none),(19,iI U,none),(20,AV.int .i64 i,none),(28,iI U,none),(29,AV.int .i64 k,none),(46,iI U,none),(47,AV.int .i64 c,none),(48,AV.bool false,some 1)],Z1::H))) (bh [(0,ak.row (Row.G [iI 0,iI 0,AV.nils])),(0,ak.row (rM q 20)),(0,ak.row (Row.G [AV.int .i64 f,AV.int .i64 t,AV.nils])),(0,ak.row (Row.G [AV.int .i64 F,AV.int .i64 T,AV.slc 0 4 0 0 1 g none])),(0,ak.row (rM x g))]))) [(0,AV.ptrT none R 0,none),(2,AV.ptr 0 0 0 0,none),(4,AV.ptr 0 1 0 0,none),(5,AV.ptr 0 2 0 0,none),(6,AV.bool u,none),(7,AV.int .i64 i,none),(9,AV.ptr 0 3 0 0,none),(19,iI U,none),(20,AV.int .i64 i,none),(28,iI U,none),(29,AV.int .i64 k,none),(46,iI U,none),(47,AV.int .i64 (bm .i64 c (ofNat 1)),none)]:=by kernel_rfl
theorem Ls (n:Nat) (H:aa) (q:Nat→Int) (R:Row) (u:Bool) (f t:Int) (m:Nat) (y:Nat→Int) (U:Nat) (i k c F T:Int):aJ (bN n 65 128) (il aK n 0) aS aR (part Tryd.f65 [1,0,1,1,1,1,0,1,0,0,1,1,0,0,1,1,0,0,1,1,0,0,1,1,0,1,0,0]) (hints (gu R u U i k c)) (zm q f t (aF m y false) F T::H) =
 (fun (Z0:aO)=>((fun (Z1:bB)=>Tr.ite (bE c (ofNat U)) (Tr.req (cQ c 10) (Tr.req (cg 0 0) (Tr.req (cK (au 0 c 2) 20) (Tr.ite (dQ F (q (au 0 c 2))) (Tr.req (cQ c 10) (Tr.req (cg 0 0) (Tr.req (cK (ar (au 0 c 2) 1) 20) (Tr.ite (dQ (q (ar (au 0 c 2) 1)) T) (Tr.req (lh (ofNat 0) 0) (Tr.req (lh (ofNat 0) (cC (ofNat 0))) (Tr.req (eT 0 1 8) (Tr.req (cg 0 0) (Tr.req (eU 1 1) (Tr.ok (Ex.normal,Z0,(bh [(0,ak.row (Row.G [iI 0,iI 0,AV.nils])),(0,ak.row (rM q 20)),(0,ak.row (Row.G [AV.int .i64 f,AV.int .i64 t,aF m y false])),(0,ak.row (Row.G [AV.int .i64 F,AV.int .i64 T,AV.slc 0 5 0 0 1 1 none])),(0,ak.row (Row.I .i64 [c])),(0,ak.row (rM (aC [c]) 1))])::H))))))) (Tr.ok (Ex.normal,Z0,Z1::H)))))) (Tr.ok (Ex.normal,Z0,Z1::H)))))) (Tr.ok (Ex.exit 4,[(0,AV.ptrT none R 0,none),(2,AV.ptr 0 0 0 0,none),(4,AV.ptr 0 1 0 0,none),(5,AV.ptr 0 2 0 0,none),(6,AV.bool u,none),(7,AV.int .i64 i,none),(9,AV.ptr 0 3 0 0,none),(19,iI U,none),(20,AV.int .i64 i,none),(28,iI U,none),(29,AV.int .i64 k,none),(46,iI U,none),(47,AV.int .i64 c,none),(48,AV.bool false,some 1)],Z1::H))) (bh [(0,ak.row (Row.G [iI 0,iI 0,AV.nils])),(0,ak.row (rM q 20)),(0,ak.row (Row.G [AV.int .i64 f,AV.int .i64 t,aF m y false])),(0,ak.row (Row.G [AV.int .i64 F,AV.int .i64 T,AV.nils]))]))) [(0,AV.ptrT none R 0,none),(2,AV.ptr 0 0 0 0,none),(4,AV.ptr 0 1 0 0,none),(5,AV.ptr 0 2 0 0,none),(6,AV.bool u,none),(7,AV.int .i64 i,none),(9,AV.ptr 0 3 0 0,none),(19,iI U,none),(20,AV.int .i64 i,none),(28,iI U,none),(29,AV.int .i64 k,none),(46,iI U,none),(47,AV.int .i64 (bm .i64 c (ofNat 1)),none)]:=by kernel_rfl
theorem Lt (n:Nat) (H:aa) (q:Nat→Int) (R:Row) (u:Bool) (f t:Int) (m:Nat) (y:Nat→Int) (U:Nat) (i k c F T:Int) (g:Nat) (x:Nat→Int):aJ (bN n 65 128) (il aK n 0) aS aR (part Tryd.f65 [1,0,1,1,1,1,0,1,0,0,1,1,0,0,1,1,0,0,1,1,0,0,1,1,0,1,0,0]) (hints (gu R u U i k c)) (B5 q f t (aF m y false) F T g x::H) =
 (fun (Z0:aO)=>((fun (Z1:bB)=>Tr.ite (bE c (ofNat U)) (Tr.req (cQ c 10) (Tr.req (cg 0 0) (Tr.req (cK (au 0 c 2) 20) (Tr.ite (dQ F (q (au 0 c 2))) (Tr.req (cQ c 10) (Tr.req (cg 0 0) (Tr.req (cK (ar (au 0 c 2) 1) 20) (Tr.ite (dQ (q (ar (au 0 c 2) 1)) T) (Tr.req (lh (ofNat g) g) (Tr.req (lh (ofNat g) (cC (ofNat g))) (Tr.req (eT (cC (ofNat g)) 1 8) (Tr.req (cg 0 0) (Tr.req (eU 1 1) (Tr.ite (cK (cC (ofNat g)) (ar (cC (ofNat g)) 1)) (Tr.req (cg 0 0) (Tr.req (eU (cC (ofNat g)) (cC (ofNat g))) (Tr.req (dN 0 (cC (ofNat g)) 0 g) (Tr.ok (Ex.normal,Z0,(bh [(0,ak.row (Row.G [iI 0,iI 0,AV.nils])),(0,ak.row (rM q 20)),(0,ak.row (Row.G [AV.int .i64 f,AV.int .i64 t,aF m y false])),(0,ak.row (Row.G [AV.int .i64 F,AV.int .i64 T,AV.slc 0 6 0 0 1 (ar (cC (ofNat g)) 1) none])),(0,ak.row (rM x g)),(0,ak.row (Row.I .i64 [c])),(0,ak.row (rM (mb (jI x 0) (cC (ofNat g)) (aC [c])) (ar (cC (ofNat g)) 1)))])::H))))) (Tr.req (cg 0 0) (Tr.req (cK (ar 0 (cC (ofNat g))) g) (Tr.ok (Ex.normal,Z0,(bh [(0,ak.row (Row.G [iI 0,iI 0,AV.nils])),(0,ak.row (rM q 20)),(0,ak.row (Row.G [AV.int .i64 f,AV.int .i64 t,aF m y false])),(0,ak.row (Row.G [AV.int .i64 F,AV.int .i64 T,AV.slc 0 4 0 0 1 (ar (cC (ofNat g)) 1) (some (cC (ofNat g)))])),(0,ak.row (rM (eB x (ar 0 (cC (ofNat g))) c) g)),(0,ak.row (Row.I .i64 [c]))])::H)))))))))) (Tr.ok (Ex.normal,Z0,Z1::H)))))) (Tr.ok (Ex.normal,Z0,Z1::H)))))) (Tr.ok (Ex.exit 4,[(0,AV.ptrT none R 0,none),(2,AV.ptr 0 0 0 0,none),(4,AV.ptr 0 1 0 0,none),(5,AV.ptr 0 2 0 0,none),(6,AV.bool u,none),(7,AV.int .i64 i,none),(9,AV.ptr 0 3 0 0,none),(19,iI U,none),(20,AV.int .i64 i,none),(28,iI U,none),(29,AV.int .i64 k,none),(46,iI U,none),(47,AV.int .i64 c,none),(48,AV.bool false,some 1)],Z1::H))) (bh [(0,ak.row (Row.G [iI 0,iI 0,AV.nils])),(0,ak.row (rM q 20)),(0,ak.row (Row.G [AV.int .i64 f,AV.int .i64 t,aF m y false])),(0,ak.row (Row.G [AV.int .i64 F,AV.int .i64 T,AV.slc 0 4 0 0 1 g none])),(0,ak.row (rM x g))]))) [(0,AV.ptrT none R 0,none),(2,AV.ptr 0 0 0 0,none),(4,AV.ptr 0 1 0 0,none),(5,AV.ptr 0 2 0 0,none),(6,AV.bool u,none),(7,AV.int .i64 i,none),(9,AV.ptr 0 3 0 0,none),(19,iI U,none),(20,AV.int .i64 i,none),(28,iI U,none),(29,AV.int .i64 k,none),(46,iI U,none),(47,AV.int .i64 (bm .i64 c (ofNat 1)),none)]:=by kernel_rfl
end Go.Eng
end
