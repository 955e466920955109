/- Gall: orders of colours; which are right (plain law). -/
import Derived.Test.YtgphpjdchnfjlaaDoorV6Gahx6
import Derived.Test.YtgphpjdchnfjlaaDoorV6Ga8x4
set_option linter.unusedVariables false
set_option linter.unusedSimpArgs false
set_option maxRecDepth 100000
section
namespace Go.Eng
open Go.Proofs Go.Eng.Gall
def Eu (z:Nat→Int) (U m:Nat):Bool:=decide (m=U) && !dH (fun i=>!(decide (0≤z i) && decide (z i<U)) || dH (fun j=>decide (z j=z i)) i) m
theorem jX {p:Nat→Bool} {k:Nat}:dH p k=false↔∀ j,j<k→p j=false:=⟨pc,FM⟩
theorem jo {z:Nat→Int} {U m:Nat}:Eu z U m=true↔m=U∧∀ i,i<m→(0≤z i∧z i<U)∧∀ j,j<i→z j≠z i:=by
 unfold Eu;rw[Bool.and_eq_true,decide_eq_true_iff,Bool.not_eq_true',jX];constructor
 · rintro ⟨h1,h2⟩;refine ⟨h1,fun i hi=>?_⟩;have:=h2 i hi;rw[Bool.or_eq_false_iff,jX,Bool.not_eq_false',Bool.and_eq_true,decide_eq_true_iff,decide_eq_true_iff] at this;exact ⟨this.1,fun j hj=>by simpa using this.2 j hj⟩
 · rintro ⟨h1,h2⟩;refine ⟨h1,fun i hi=>?_⟩;obtain ⟨h3,h4⟩:=h2 i hi;rw[Bool.or_eq_false_iff,jX,Bool.not_eq_false',Bool.and_eq_true,decide_eq_true_iff,decide_eq_true_iff];exact ⟨h3,fun j hj=>by simpa using h4 j hj⟩
theorem BD {z:Nat→Int} {m:Nat} {x:Int}:x ∈ kd z m↔∃ i,i<m∧z i=x:=by simp[kd]
theorem zt {z:Nat→Int} {m:Nat}:(kd z m).Nodup↔∀ i,i<m→∀ j,j<i→z j≠z i:=by
 unfold kd;rw[List.Nodup,List.pairwise_map,List.pairwise_iff_getElem];simp only[List.length_range,List.getElem_range];constructor
 · intro h i hi j hj;exact h j i wO hi hj
 · intro h j i hj hi hji;exact h i hi j hji
theorem zD (L:List Int):(gk L).Perm L:=List.mergeSort_perm _ _
theorem MW (L:List Int):(gk L).Pairwise (·≤·):=by
 have:=List.pairwise_mergeSort (le:=fun x y:Int=>decide (x≤y)) (by intro a b c h1 h2;simp at *;omega) (by intro a b;simp;omega) L;refine this.imp (fun h=>?_);simpa using h
theorem Gf {m:Nat} {f:Nat→Int} (h0:∀ j,j<m→0≤f j) (hs:∀ i j,i<j→j<m→f i<f j):∀ j,j<m→(j:Int)≤f j
 | 0,h=>h0 0 h
 | j+1,h=>by
   have h1:=Gf h0 hs j wO;have h2:=hs j (j+1) wO h;omega
theorem inc_le {m:Nat} {f:Nat→Int} (h0:∀ j,j<m→f j<m) (hs:∀ i j,i<j→j<m→f i<f j):∀ t j,j+t+1=m→f j≤j
 | 0,j,h=>by have:=h0 j wO;omega
 | t+1,j,h=>by
   have h1:=inc_le h0 hs t (j+1) wO;have h2:=hs j (j+1) wO wO;omega
theorem Hg {z:Nat→Int} {U m:Nat}:(dH (fun j=>!decide (ar (gk (kd z m)) j=(j:Int))) m=false∧m=U)↔Eu z U m=true:=by
 have hl:(gk (kd z m)).length=m:=by rw[lO,iM]
 have hp:=zD (kd z m);have hs:=MW (kd z m);rw[jo,jX];generalize gk (kd z m)=L at *;constructor
 · rintro ⟨h1,h2⟩;have he:∀ j,(hj:j<L.length)→L[j]=(j:Int):=fun j hj=>by
    have:=h1 j wO;rw[Bool.not_eq_false',decide_eq_true_iff,tj L j hj] at this;exact this
   have hn:L.Nodup:=by
    rw[List.Nodup,List.pairwise_iff_getElem];intro i j hi hj hij;rw[he i hi,he j hj];omega
   have hn2:=zt.1 (hp.nodup_iff.1 hn);refine ⟨h2,fun i hi=>⟨?_,hn2 i hi⟩⟩;have:z i ∈ L:=hp.mem_iff.2 (BD.2 ⟨i,hi,rfl⟩);obtain ⟨k,hk,hk2⟩:=List.mem_iff_getElem.1 this;rw[← hk2,he k hk];omega
 · rintro ⟨h1,h2⟩;refine ⟨fun j hj=>?_,h1⟩;have hn:L.Nodup:=hp.nodup_iff.2 (zt.2 fun i hi=>(h2 i hi).2);have hb:∀ x ∈ L,0≤x∧x<U:=fun x hx=>by
    obtain ⟨i,hi,rfl⟩:=BD.1 (hp.mem_iff.1 hx);exact (h2 i hi).1
   have hgs:∀ i j,i<j→j<m→ar L i<ar L j:=fun i j hij hj=>by
    have a1:=(List.pairwise_iff_getElem.1 hs) i j wO wO hij;have a2:=(List.pairwise_iff_getElem.1 hn) i j wO wO hij;rw[tj L i wO,tj L j wO];have a1:L[i]≤L[j]:=a1;have a2:L[i]≠L[j]:=a2;omega
   have hg:∀ j,j<m→0≤ar L j∧ar L j<m:=fun j hj=>by
    rw[tj L j wO];have:=hb _ (List.getElem_mem (l:=L) (n:=j) wO);omega
   have e1:=Gf (fun j hj=>(hg j hj).1) hgs j hj;have e2:=inc_le (fun j hj=>(hg j hj).2) hgs (m-1-j) j wO;rw[Bool.not_eq_false',decide_eq_true_iff];omega
def nF (z:Nat→Int) (m:Nat):List Nat:=(List.range m).map fun j=>(z j).toNat
theorem Js (z:Nat→Int) (m:Nat):nF z (m+1)=nF z m++[(z m).toNat]:=by unfold nF;rw[List.range_succ,List.map_append];rfl
theorem jO {z:Nat→Int} {m x:Nat}:x ∈ nF z m↔∃ i,i<m∧(z i).toNat=x:=by simp[nF]
theorem qG {z:Nat→Int} {m U:Nat} (h:Eu z U m=true):∀ k,k≤m→(nF z k).Nodup:=fun k hk=>by
 obtain ⟨h1,h2⟩:=jo.1 h;unfold nF;rw[List.Nodup,List.pairwise_map,List.pairwise_iff_getElem];simp only[List.length_range,List.getElem_range];intro j i hj hi hji;have a:=(h2 i wO).1;have b:=(h2 j wO).1;have c:=(h2 i wO).2 j hji;omega
theorem ni {L:List Nat} (hn:L.Nodup) {n:Nat} (h:∀ x ∈ L,x<n):mask L<2 ^ n:=by
 refine Nat.lt_pow_two_of_testBit _ fun i hi=>?_;rw[cK hn];exact decide_eq_false fun hm=>by have:=h i hm;omega
theorem GO {z:Nat→Int} {m U:Nat} (h:Eu z U m=true) {a:Nat} (ha:a<U):∃ i,i<m∧z i=(a:Int):=by
 obtain ⟨h1,h2⟩:=jo.1 h;have h3:=(Hg (z:=z) (U:=U) (m:=m)).2 h;have h4:=jX.1 h3.1 a wO;rw[Bool.not_eq_false',decide_eq_true_iff] at h4;have hl:(gk (kd z m)).length=m:=by rw[lO,iM]
 rw[tj _ a wO] at h4;have:(a:Int) ∈ gk (kd z m):=by rw[← h4];exact List.getElem_mem _
 exact BD.1 ((zD _).mem_iff.1 this)
def Ds (W:Nat→Int) (c:Int) (p:Int):Bool:=decide (W (2*c.toNat)≤p) && decide (p≤W (2*c.toNat+1))
noncomputable def Kg (B:Nat→Int) (z:Nat→Int) (j:Nat):Bool:=!c7 (AB .u64 (B (z j).toNat) (mask (nF z j):Int)) (Int.ofNat 0)
def PU (V:Nat) (J:Nat→Int) (z:Nat→Int) (i:Nat):Bool:=dH (fun j=>rf V J (z i) (z j)) i
theorem lI {V U:Nat} {J:Nat→Int} (hp:fB U V J) (a c:Nat):rf V J (a:Int) (c:Int)=(gf J c V).testBit a:=by
 unfold rf;rw[Bool.eq_iff_iff,cP,m4 J c a V (fun i hi=>(hp i hi).1.1)];constructor
 · rintro ⟨i,hi,he⟩;unfold gT at he;rw[Bool.and_eq_true,decide_eq_true_iff,decide_eq_true_iff] at he;exact ⟨i,hi,he.1.symm,he.2.symm⟩
 · rintro ⟨i,hi,he⟩;refine ⟨i,hi,?_⟩;unfold gT;rw[Bool.and_eq_true,decide_eq_true_iff,decide_eq_true_iff];exact ⟨he.1.symm,he.2.symm⟩
theorem Dh {O:Int} {U:Nat} {Z:Nat→Int} {V:Nat} {J:Nat→Int} (h:cr O U Z V J=0) (a:Int):rf V J a a=false:=by
 unfold rf;refine FM fun j hj=>?_;unfold cr at h;split at h
 · cases h
 · rename_i h1;split at h
   · cases h
   · rename_i h2;split at h
     · cases h
     · rename_i h3;have h3:dH (gu U J) V=false:=by simpa using h3
       have:=pc h3 j hj;unfold gu at this;rw[Bool.or_eq_false_iff,decide_eq_false_iff_not] at this;unfold gT;rw[Bool.and_eq_false_iff,decide_eq_false_iff_not,decide_eq_false_iff_not];have:=this.1;omega
theorem OC {V U m:Nat} {J:Nat→Int} {z:Nat→Int} (hp:fB U V J) (hs:∀ a,rf V J a a=false) (hl:U≤10) (hm:Eu z U m=true):dH (Kg (gH V J) z) m=dH (PU V J z) m:=by
 obtain ⟨h1,h2⟩:=jo.1 hm;have key:∀ j,j<m→(Kg (gH V J) z j=true↔∃ i,j<i∧i<m∧rf V J (z i) (z j)=true):=fun j hj=>by
  have hn:=qG hm j wO;have hlt:∀ x ∈ nF z j,x<U:=fun x hx=>by
   obtain ⟨i,hi,rfl⟩:=jO.1 hx;have:=(h2 i wO).1;omega
  have hc:=(h2 j hj).1;have hb:gf J (z j).toNat V<2 ^ U:=kR J _ U V fun i hi=>(hp i hi).1;have hb2:gf J (z j).toNat V<2 ^ 62:=Nat.lt_of_lt_of_le hb (Nat.pow_le_pow_right wO wO);have hX2:mask (nF z j)<2 ^ 62:=Nat.lt_of_lt_of_le (ni hn hlt) (Nat.pow_le_pow_right wO wO);obtain ⟨w,hw,hw2⟩:=P8 hb2 hX2;unfold Kg;rw[show gH V J (z j).toNat=(gf J (z j).toNat V:Int) from rfl,hw,bA];have e1:(!((w:Int) == Int.ofNat 0))=true↔w≠0:=by simp
  rw[e1];constructor
  · intro hw0;obtain ⟨a,ha⟩:=Nat.exists_testBit_of_ne_zero hw0;rw[hw2,Bool.and_eq_true,cK hn,Bool.not_eq_true',decide_eq_false_iff_not] at ha;have hal:a<U:=by
     refine Nat.lt_of_not_le fun hge=>?_;rw[Nat.testBit_lt_two_pow (Nat.lt_of_lt_of_le hb (Nat.pow_le_pow_right wO hge))] at ha;cases ha.1
    obtain ⟨i,hi,hia⟩:=GO hm hal;have hpr:rf V J (z i) (z j)=true:=by
     rw[hia,show z j=((z j).toNat:Int) by omega,lI hp];exact ha.1
    refine ⟨i,?_,hi,hpr⟩;rcases Nat.lt_trichotomy i j with q | q | q
    · exact absurd (jO.2 ⟨i,q,by omega⟩) ha.2
    · subst q;rw[hs] at hpr;cases hpr
    · exact q
  · rintro ⟨i,hij,hi,hpr⟩;have hzi:=(h2 i hi).1;intro hw0;have:=hw2 (z i).toNat
    rw[hw0,Nat.zero_testBit,cK hn] at this;rw[show z i=((z i).toNat:Int) by omega,show z j=((z j).toNat:Int) by omega,lI hp] at hpr;rw[hpr,Bool.true_and] at this;have hmem:(z i).toNat ∈ nF z j:=by
     cases hd:decide ((z i).toNat ∈ nF z j) with
     | true=>exact of_decide_eq_true hd
     | false=>rw[hd] at this;cases this
    obtain ⟨k,hk,hk2⟩:=jO.1 hmem;have hzk:=(h2 k wO).1;exact (h2 i hi).2 k wO wO
 rw[Bool.eq_iff_iff,cP,cP];constructor
 · rintro ⟨j,hj,h⟩;obtain ⟨i,hij,hi,hpr⟩:=(key j hj).1 h;exact ⟨i,hi,(cP _ _).2 ⟨j,hij,hpr⟩⟩
 · rintro ⟨i,hi,h⟩;obtain ⟨j,hij,hpr⟩:=(cP _ _).1 h;exact ⟨j,by omega,(key j wO).2 ⟨i,hij,hi,hpr⟩⟩
noncomputable def LH (U:Nat) (W:Nat→Int) (V:Nat) (J:Nat→Int) (m:Nat) (z:Nat→Int):Int:=if Eu z U m=true then (if dH (fun j=>!Ds W (z j) j) m=true then 21 else if dH (PU V J z) m=true then 16 else 0) else 15
end Go.Eng
end
section
namespace Go.Eng
open Int (ofNat)
open Go.Proofs Go.Eng.Gall
noncomputable def UO (d:Nat):AV:=.slc d 2 0 0 1 1 (some 1)
noncomputable def T8 (b0 b1:Nat×ao) (c:Int):bK:=⟨false,[b0,b1,(0,.row (.I .i64 [c]))]⟩
theorem u16 (n:Nat) (O:Int) (U:Nat) (Z:Nat→Int) (V:Nat) (J:Nat→Int) (H:aa) (c:Int) (p:Int) (W B:Nat→Int):bz Tryd.prog (cd (n+1)) 100000 16 Tryd.f16 (KtG.kt 16) (il (xI aM 49 [bX O U Z V J,UO 0] (T8 (0,.row (.G [.int .i64 O,slA 4 U Z,slA 2 V J])) (0,.row (.I .i64 [ofNat 0,ofNat 0])) c::H) (.ok (.tup [shV O U Z V J W B,.int .i64 (ofNat 0)],T8 (0,.row (.G [.int .i64 O,slA 4 U Z,slA 2 V J])) (0,.row (.I .i64 [ofNat 0,ofNat 0])) c::H))) n 1) aV aR [(bX O U Z V J,none),(.int .i64 c,none),(.int .i64 p,none)] H =
 (fun (Z0:Row)=>Tr.reqP ([bX O U Z V J,AV.slc 0 2 0 0 1 1 (some 1)]=[bX O U Z V J,AV.slc 0 2 0 0 1 1 (some 1)]∧(bO [(0,fT O U Z V J),(0,ao.row Z0),(0,ao.row (Row.I .i64 [c]))])::H=(bO [(0,fT O U Z V J),(0,ao.row Z0),(0,ao.row (Row.I .i64 [c]))])::H) (Tr.ite (bD (c7 (ofNat 0) (ofNat 0))) (Tr.ok ((AV.tup [AV.agg Z0,iI 0],none),H)) (Tr.ite (bQ p (ofNat 0)) (Tr.ok ((AV.tup [AV.agg Z0,iI 3],none),H)) (Tr.ite (dS (ofNat U) p) (Tr.ok ((AV.tup [AV.agg Z0,iI 3],none),H)) (Tr.req (bL c U) (Tr.req (bt (au 0 c 4) (aC U 4)) (Tr.req (bt (ah (au 0 c 4) 1) (aC U 4)) (Tr.req (bC (bH 0 0) (bH 0 1)) (Tr.ok ((AV.tup [AV.agg (Row.I .i64 [cq .i64 (Z (au 0 c 4)) (Ei .i64 p O),cq .i64 (Z (ah (au 0 c 4) 1)) (Ei .i64 p O)]),iI 0],none),H)))))))))) (Row.I .i64 [ofNat 0,ofNat 0]):=by kernel_rfl
end Go.Eng
end
section
namespace Go.Eng
open Go.Proofs Go.Eng.Gall
theorem mh {O:Int} {U:Nat} {Z:Nat→Int} {V:Nat} {J:Nat→Int} (h:cr O U Z V J=0):(1≤U∧U≤10)∧V≤40∧(1≤O∧O≤100)∧uN U Z∧fB U V J∧l6 U (fun c=>gf J c V)=false:=by
 unfold cr at h;split at h
 · cases h
 · rename_i h1;split at h
   · cases h
   · rename_i h2;split at h
     · cases h
     · rename_i h3;split at h
       · cases h
       · rename_i h4;exact ⟨by omega,by omega,by omega,pc (by simpa using fun q=>h2 (.inr (.inr q))),pV (by simpa using h3),by simpa using h4⟩
section
variable (n:Nat) (O:Int) (U:Nat) (Z:Nat→Int) (V:Nat) (J:Nat→Int) (H:aa)
end
end Go.Eng
end
section
namespace Go.Eng
open Int (ofNat)
open Go.Proofs Go.Eng.Gall
theorem ND:∀ b,(0,b) ∈ aO (a7 Tryd.f39)→b=.loop (part Tryd.f39 [1,1,1,1,0,1,0,0]):=eP (by kernel_rfl)
theorem Qa:∀ b,(2,b) ∈ aO (a7 Tryd.f39)→b=.loop (part Tryd.f39 [1,1,1,1,1,1,0,1,0,0]):=eP (by kernel_rfl)
theorem Qb:∀ b,(4,b) ∈ aO (a7 Tryd.f39)→b=.loop (part Tryd.f39 [1,1,1,1,1,1,1,1,0,1,0,0]):=eP (by kernel_rfl)
section
variable (n:Nat) (O:Int) (U:Nat) (Z:Nat→Int) (V:Nat) (J:Nat→Int) (H:aa)
theorem LC (hb:V≤1000) (h0:cr O U Z V J=0):cd (n+14) (.fn 49) [bX O U Z V J,.nils] H=some (.tup [Nr O U Z V J,.int .i64 (ofNat 0)],H):=by
 obtain ⟨h1,h2,h3,h4,h5,_⟩:=mh h0;refine bU (n:=n+13) Tryd.func49 rfl rfl rfl (SV (n+11) O U Z V J (ev O U Z) (gH V J) H (fun x=>x=[bX O U Z V J])) (gU _ (n+11) 2 (fun q=>po (dL (bo _) (fun H=>by
  rw[show n+11+q=n+q+11 by omega];have:=TV (n+q) O U Z V J H wO hb;rw[h0] at this;exact this)) (fun A H hA=>by
   subst hA;rw[show n+11+q=n+q+4+7 by omega];exact TX (n+q+4) O U Z V J H h1.2 hb h3 h4 h5))) (aj _ _) (ak _ _) ?_
 refine Tr.an rfl (Tr.af (fun q=>by simp[aW,bA] at q) (fun q=>Tr.an rfl (Tr.ai ⟨rfl,rfl⟩)))
variable (W B:Nat→Int)
theorem TY (c p:Int) (hc:0≤c∧c<10):cd (n+1) (.fn 71) [shV O U Z V J W B,.int .i64 c,.int .i64 p] H=some (.bool (Ds W c p),H):=by
 have T:=W8 n O U Z V J W B H c p;have es:dx (au 3 c 2) 3=2*c.toNat:=by rw[bN,dq];omega
 have es1:dx (ah (au 3 c 2) 1) 3=2*c.toNat+1:=by rw[bN,aF,dq];omega
 rw[es,es1] at T;refine bU (n:=n) Tryd.func71 rfl rfl rfl T (aA n) (aj _ _) (ak _ _) ?_;refine Tr.ae wG (Tr.ae wG (Tr.ae wG (Tr.af (fun q=>Tr.ai ⟨?_,rfl⟩) (fun q=>Tr.ai ⟨?_,rfl⟩))));all_goals rw[br] at q
 all_goals unfold Ds
 · rw[q,br,Bool.true_and]
 · rw[q,Bool.false_and]
end
section
variable (n:Nat) (r:Row) (G:aa) (m:Nat) (z S:Nat→Int) (R:Row)
theorem Rg (hm:m≤1000):exec (bP n 39 76) (.block 0 (.loop (part Tryd.f39 [1,1,1,1,0,1,0,0]))) (uR m z S R (ofNat 0)) (⟨false,[(0,.row r)]⟩::G)=some (cond (dH (fun j=>!decide (S j=(j:Int))) m) (.ret,[(4,.int .i64 (ofNat 15))],⟨false,[(0,.row r)]⟩::G) (.normal,uR m z S R (ofNat m)++[(29,.bool false)],⟨false,[(0,.row r)]⟩::G)):=by
 refine jE (n:=n) (f:=39) (nt:=76) (c:=part Tryd.f39 [1,1,1,1,0,1,0,0]) 0 (fun j=>uR m z S R (j:Int)) (fun _=>⟨false,[(0,.row r)]⟩::G) m (fun j=>!decide (S j=(j:Int))) (fun _=>([(4,.int .i64 (ofNat 15))],⟨false,[(0,.row r)]⟩::G)) (uR m z S R (ofNat m)++[(29,.bool false)],⟨false,[(0,.row r)]⟩::G) wO (fun j hj=>?_) ?_
 · have T:=Pk n r G m z S R (j:Int);rw[Be,fI wO] at T;refine aI T (aA n) (aj _ _) (ak _ _) ?_;refine Tr.af (fun h0=>?_) wJ;refine Tr.ae wG (Tr.ae wG (Tr.af (fun q=>Tr.ai ?_) (fun q=>Tr.ai ?_)));all_goals rw[aW,bA] at q
   · rw[if_pos (by simpa using q)];rfl
   · rw[if_neg (by simpa using q)];exact ⟨rfl,rfl⟩
 · obtain ⟨x,h1,rfl⟩:=aI (Q:=fun x=>x=(.exit 0,uR m z S R (ofNat m)++[(29,.bool false)],⟨false,[(0,.row r)]⟩::G)) (Pk n r G m z S R (ofNat m)) (aA n) (aj _ _) (ak _ _) (by
    refine Tr.af wJ (fun h0=>Tr.ai rfl))
   exact h1
theorem Rh (hm:m≤1000) (s:Int→Nat→Bool) (h71:∀ j,j<m→∀ H,cd n (.fn 71) [.ptrT none R 0,.int .i64 (z j),.int .i64 (j:Int)] H=some (.bool (s (z j) j),H)):exec (bP n 39 76) (.block 2 (.loop (part Tryd.f39 [1,1,1,1,1,1,0,1,0,0]))) (wC m z R (ofNat 0)) (⟨false,[(0,.row r)]⟩::G)=some (cond (dH (fun j=>!s (z j) j) m) (.ret,[(4,.int .i64 (ofNat 21))],⟨false,[(0,.row r)]⟩::G) (.normal,wC m z R (ofNat m)++[(46,.bool false)],⟨false,[(0,.row r)]⟩::G)):=by
 refine jE (n:=n) (f:=39) (nt:=76) (c:=part Tryd.f39 [1,1,1,1,1,1,0,1,0,0]) 2 (fun j=>wC m z R (j:Int)) (fun _=>⟨false,[(0,.row r)]⟩::G) m (fun j=>!s (z j) j) (fun _=>([(4,.int .i64 (ofNat 21))],⟨false,[(0,.row r)]⟩::G)) (wC m z R (ofNat m)++[(46,.bool false)],⟨false,[(0,.row r)]⟩::G) wO (fun j hj=>?_) ?_
 · have T:=Sy n r G m z R (j:Int) (z j) (s (z j) j);rw[Be,fI wO] at T;refine aI T (bV _ _ (dL (bo _) (h71 j hj))) (aj _ _) (ak _ _) ?_;refine Tr.af (fun h0=>?_) wJ;refine Tr.ae wG (Tr.ae wG (Tr.an rfl (Tr.af (fun q=>Tr.ai ?_) (fun q=>Tr.ai ?_))));all_goals rw[aW] at q
   · rw[if_pos q];rfl
   · rw[if_neg (by rw[q];decide)];exact ⟨rfl,rfl⟩
 · obtain ⟨x,h1,rfl⟩:=aI (Q:=fun x=>x=(.exit 2,wC m z R (ofNat m)++[(46,.bool false)],⟨false,[(0,.row r)]⟩::G)) (Pl n r G m z R (ofNat m)) (aA n) (aj _ _) (ak _ _) (by
    refine Tr.af wJ (fun h0=>Tr.ai rfl))
   exact h1
end
section
variable (n:Nat) (O:Int) (U:Nat) (Z:Nat→Int) (V:Nat) (J:Nat→Int) (W B:Nat→Int) (r:Row) (G:aa) (m:Nat) (z:Nat→Int)
theorem Jc {m:Nat} {z:Nat→Int} (hl:U≤10) (hm:Eu z U m=true) {j:Nat} (hj:j<m):r8 .u64 (mask (nF z j):Int) (ep .u64 (ofNat 1) (z j))=(mask (nF z (j+1)):Int):=by
 obtain ⟨h1,h2⟩:=jo.1 hm;have hc:=(h2 j hj).1;have hn:=qG hm j wO;have hlt:mask (nF z j)<2 ^ U:=ni hn fun x hx=>by
  obtain ⟨i,hi,rfl⟩:=jO.1 hx;have:=(h2 i wO).1;omega
 have hlt:mask (nF z j)<2 ^ 10:=Nat.lt_of_lt_of_le hlt (Nat.pow_le_pow_right wO hl);have hno:(mask (nF z j)).testBit (z j).toNat=false:=by
  rw[cK hn];refine decide_eq_false fun hx=>?_;obtain ⟨i,hi,he⟩:=jO.1 hx;have:=(h2 i wO).1;exact (h2 j hj).2 i hi wO
 have h2p:2 ^ (z j).toNat≤2 ^ 9:=Nat.pow_le_pow_right wO wO;rw[show z j=((z j).toNat:Int) by omega,BH wO,P1 wO wO,Js,mK,GL hno]
theorem Ri (hl:U≤10) (hm:Eu z U m=true):exec (bP n 39 76) (.block 4 (.loop (part Tryd.f39 [1,1,1,1,1,1,1,1,0,1,0,0]))) (x7 m z (shR O U Z V J W B) (ofNat 0) (ofNat 0)) (⟨false,[(0,.row r)]⟩::G)=some (cond (dH (Kg B z) m) (.ret,[(4,.int .i64 (ofNat 16))],⟨false,[(0,.row r)]⟩::G) (.normal,x7 m z (shR O U Z V J W B) (mask (nF z m):Int) (ofNat m)++[(59,.bool false)],⟨false,[(0,.row r)]⟩::G)):=by
 obtain ⟨h1,h2⟩:=jo.1 hm;refine jE (n:=n) (f:=39) (nt:=76) (c:=part Tryd.f39 [1,1,1,1,1,1,1,1,0,1,0,0]) 4 (fun j=>x7 m z (shR O U Z V J W B) (mask (nF z j):Int) (j:Int)) (fun _=>⟨false,[(0,.row r)]⟩::G) m (Kg B z) (fun _=>([(4,.int .i64 (ofNat 16))],⟨false,[(0,.row r)]⟩::G)) (x7 m z (shR O U Z V J W B) (mask (nF z m):Int) (ofNat m)++[(59,.bool false)],⟨false,[(0,.row r)]⟩::G) wO (fun j hj=>?_) ?_
 · have hc:=(h2 j hj).1;have T:=Pm n O U Z V J W B r G m z (mask (nF z j):Int) (j:Int);rw[Be,fI wO,Jc U hl hm hj,show dx (au 23 (z j) 1) 23=(z j).toNat by rw[bN,dq];omega] at T;refine aI T (aA n) (aj _ _) (ak _ _) ?_;refine Tr.af (fun h0=>?_) wJ;refine Tr.ae wG (Tr.ae wG (Tr.ae wG (Tr.ae wG (Tr.af (fun q=>Tr.ai ?_) (fun q=>Tr.ae wG (Tr.ai ?_))))));all_goals rw[aW] at q
   · rw[if_pos (show Kg B z j=true from q)];rfl
   · rw[if_neg (by rw[show Kg B z j=false from q];decide)];exact ⟨rfl,rfl⟩
 · obtain ⟨x,h1,rfl⟩:=aI (Q:=fun x=>x=(.exit 4,x7 m z (shR O U Z V J W B) (mask (nF z m):Int) (ofNat m)++[(59,.bool false)],⟨false,[(0,.row r)]⟩::G)) (Pm n O U Z V J W B r G m z (mask (nF z m):Int) (ofNat m)) (aA n) (aj _ _) (ak _ _) (by
    refine Tr.af wJ (fun h0=>Tr.ai rfl))
   exact h1
theorem TW (H:aa) (hb:V≤1000) (h0:cr O U Z V J=0) (hm:m≤1000):cd (n+15) (.fn 39) [bX O U Z V J,bk m z false] H=some (.int .i64 (LH U (ev O U Z) V J m z),H):=by
 obtain ⟨h1,h2,h3,h4,h5,_⟩:=mh h0;have h49:=fun H=>LC n O U Z V J H hb h0;have h76:=fun H=>UC (n+13) m z H;have h75:=fun H=>UB (n+3) 0 m z H hm;have hsp:=Hg (z:=z) (U:=U) (m:=m);unfold LH;rcases Nat.eq_zero_or_pos m with hz | hz
 · subst hz;have e0:MU z 0=.nils:=by
    have h:gk (kd z 0)=[]:=List.eq_nil_of_length_eq_zero (by rw[lO,iM]);unfold MU;rw[h];rfl
   rw[e0] at h75;have hp:¬ Eu z U 0=true:=fun h=>by have:=(jo.1 h).1;omega
   rw[if_neg hp];refine bU (n:=n+14) Tryd.func39 rfl rfl rfl (Sv (n+14) O U Z V J H 0 z z (shR O U Z V J (ev O U Z) (gH V J))) (bV _ _ (dL (dL (dL (bo _) h49) h76) h75)) (cY (cY (aj _ _) 2) 4) (ak _ _) ?_;refine Tr.an rfl (Tr.af (fun q=>by simp[aW,bA] at q) (fun q=>Tr.an rfl (Tr.an rfl (Tr.af (fun q=>Tr.ai ⟨rfl,rfl⟩) (fun q=>?_)))));rw[aW,bA] at q;have:(0:Int)=U:=by simpa using q
   omega
 · obtain ⟨k,rfl⟩:∃ k,m=k+1:=⟨m-1,by omega⟩
   have e:MU z (k+1)=bk (k+1) (ar (gk (kd z (k+1)))) false:=J4 _ k (by rw[lO,iM]);rw[e] at h75;generalize hM:k+1=M at *;have hM1000:M≤1000:=hm;have hla:=Rg (n+14) (.G [.int .i64 O,slA 4 U Z,slA 2 V J]) H M z (ar (gk (kd z M))) (shR O U Z V J (ev O U Z) (gH V J)) hm;by_cases hp:Eu z U M=true
   · rw[if_pos hp];obtain ⟨p1,p2⟩:=jo.1 hp;obtain ⟨q1,q2⟩:=hsp.2 hp;have hlb:=Rh (n+14) (.G [.int .i64 O,slA 4 U Z,slA 2 V J]) H M z (shR O U Z V J (ev O U Z) (gH V J)) hm (fun c j=>Ds (ev O U Z) c j) (fun j hj H=>TY (n+13) O U Z V J H (ev O U Z) (gH V J) (z j) j (by have:=(p2 j hj).1;omega));have hlc:=Ri (n+14) O U Z V J (ev O U Z) (gH V J) (.G [.int .i64 O,slA 4 U Z,slA 2 V J]) H M z h1.2 hp;refine bU (n:=n+14) Tryd.func39 rfl rfl rfl (W2 (n+14) O U Z V J H M z (ar (gk (kd z M))) (shR O U Z V J (ev O U Z) (gH V J)) (dH (fun j=>!decide (ar (gk (kd z M)) j=(j:Int))) M) (dH (fun j=>!Ds (ev O U Z) (z j) j) M) (dH (Kg (gH V J) z) M) (mask (nF z M):Int)) (bV _ _ (dL (dL (dL (bo _) h49) h76) h75)) (bf (bf (bf (aj _ _) ND (fun x hx=>dQ hx hla)) Qa (fun x hx=>dQ hx hlb)) Qb (fun x hx=>dQ hx hlc)) (ak _ _) ?_;rw[q1,OC h5 (Dh h0) h1.2 hp];refine Tr.an rfl (Tr.af (fun q=>by simp[aW,bA] at q) (fun q=>Tr.an rfl (Tr.an rfl (Tr.an ⟨rfl,rfl⟩ (Tr.af (fun q=>by cases q) (fun _=>Tr.af (fun q=>?_) (fun _=>Tr.an ⟨rfl,rfl⟩ (Tr.af (fun q=>Tr.ai ⟨?_,rfl⟩) (fun q=>Tr.an ⟨rfl,rfl⟩ (Tr.af (fun q2=>Tr.ai ⟨?_,rfl⟩) (fun q2=>Tr.ai ⟨?_,rfl⟩)))))))))))
     · rw[aW,bA] at q;have:¬ (M:Int)=U:=by simpa using q
       omega
     · rw[if_pos q];rfl
     · rw[if_neg (by rw[q];decide),if_pos q2];rfl
     · rw[if_neg (by rw[q];decide),if_neg (by rw[q2];decide)];rfl
   · rw[if_neg hp];refine bU (n:=n+14) Tryd.func39 rfl rfl rfl (SS (n+14) O U Z V J H M z (ar (gk (kd z M))) (shR O U Z V J (ev O U Z) (gH V J)) (dH (fun j=>!decide (ar (gk (kd z M)) j=(j:Int))) M)) (bV _ _ (dL (dL (dL (bo _) h49) h76) h75)) (cY (cY (bf (aj _ _) ND (fun x hx=>dQ hx hla)) 2) 4) (ak _ _) ?_;refine Tr.an rfl (Tr.af (fun q=>by simp[aW,bA] at q) (fun q=>Tr.an rfl (Tr.an rfl (Tr.an ⟨rfl,rfl⟩ (Tr.af (fun q=>Tr.ai ⟨rfl,rfl⟩) (fun q3=>Tr.af (fun q=>Tr.ai ⟨rfl,rfl⟩) (fun q=>?_)))))));rw[aW,bA] at q;have:(M:Int)=U:=by simpa using q
     exact absurd (hsp.1 ⟨q3,by omega⟩) hp
end
end Go.Eng
end
section
namespace Go.Eng
open Go.Proofs Go.Eng.Gall
end Go.Eng
end
section
namespace Go.Eng
open Go.Proofs Go.Eng.Gall
section
variable (n:Nat) (O:Int) (U:Nat) (Z:Nat→Int) (V:Nat) (J:Nat→Int) (H:aa) (m:Nat) (z:Nat→Int)
end
end Go.Eng
end
section
namespace Go.Eng
open Go.Proofs Go.Eng.Gall
end Go.Eng
end
section
namespace Go.Eng
open Go.Proofs Go.Eng.Gall
section
variable (n:Nat) (O:Int) (U:Nat) (Z:Nat→Int) (V:Nat) (J:Nat→Int) (H:aa)
variable (m:Nat) (z:Nat→Int) (W B:Nat→Int)
end
end Go.Eng
end
section
namespace Go.Eng
open Go.Proofs Go.Eng.Gall
theorem NY {U:Nat} {W:Nat→Int} {V:Nat} {J:Nat→Int} {m:Nat} {z:Nat→Int}:LH U W V J m z=0↔Eu z U m=true∧(∀ j,j<m→Ds W (z j) j=true)∧∀ i,i<m→∀ j,j<i→rf V J (z i) (z j)=false:=by
 unfold LH;constructor
 · intro h;split at h
   · rename_i hp;split at h
     · cases h
     · rename_i hs;split at h
       · cases h
       · rename_i hb;rw[Bool.not_eq_true,jX] at hs hb;refine ⟨hp,fun j hj=>by simpa using hs j hj,fun i hi=>?_⟩;have:=hb i hi;unfold PU at this;exact jX.1 this
   · cases h
 · rintro ⟨hp,hs,hb⟩;rw[if_pos hp,if_neg,if_neg]
   · rw[Bool.not_eq_true,jX];intro i hi;unfold PU;exact jX.2 (hb i hi)
   · rw[Bool.not_eq_true,jX];intro j hj;rw[hs j hj];rfl
end Go.Eng
end
section
namespace Go.Eng
open Go.Proofs Go.Eng.Gall
end Go.Eng
end
section
namespace Go.Eng
open Go.Proofs Go.Eng.Gall
section
variable (O:Int) (U:Nat) (Z:Nat→Int) (V:Nat) (J:Nat→Int)
end
end Go.Eng
end
section
namespace Go.Eng
open Go.Proofs Go.Eng.Gall
section
variable (O:Int) (U:Nat) (Z:Nat→Int) (V:Nat) (J:Nat→Int)
variable (n:Nat) (H:aa) (m:Nat) (z:Nat→Int) (w:Int)
end
end Go.Eng
end
section
namespace Go.Eng
open Int (ofNat)
open Go.Proofs Go.Eng.Gall
noncomputable def lf (R:Row) (u:Bool) (U:Nat) (i:Int):aE:=[(0,.ptrT none R 0),(2,.ptr 0 0 0 0),(4,.ptr 0 1 0 0),(5,.ptr 0 2 0 0),(6,.bool u),(19,.int .i64 (ofNat U)),(20,.int .i64 i)]
noncomputable def im (R:Row) (u:Bool) (U:Nat) (i k:Int):aE:=[(0,.ptrT none R 0),(2,.ptr 0 0 0 0),(4,.ptr 0 1 0 0),(5,.ptr 0 2 0 0),(6,.bool u),(7,.int .i64 i),(19,.int .i64 (ofNat U)),(20,.int .i64 i),(28,.int .i64 (ofNat U)),(29,.int .i64 k)]
noncomputable def gh (R:Row) (u:Bool) (U:Nat) (i k c:Int):aE:=[(0,.ptrT none R 0),(2,.ptr 0 0 0 0),(4,.ptr 0 1 0 0),(5,.ptr 0 2 0 0),(6,.bool u),(7,.int .i64 i),(9,.ptr 0 3 0 0),(19,.int .i64 (ofNat U)),(20,.int .i64 i),(28,.int .i64 (ofNat U)),(29,.int .i64 k),(46,.int .i64 (ofNat U)),(47,.int .i64 c)]
noncomputable def LB (q:Nat→Int) (f t:Int) (A:AV):List (Nat×ao):=[(0,.row (.G [.int .i64 (ofNat 0),.int .i64 (ofNat 0),.nils])),(0,.row (.M [.arr .i64 q 20])),(0,.row (.G [.int .i64 f,.int .i64 t,A]))]
noncomputable def eZ (q:Nat→Int) (f t:Int) (A:AV):bK:=⟨false,LB q f t A⟩
noncomputable def yF (q:Nat→Int) (f t:Int) (A:AV) (F T:Int):bK:=⟨false,LB q f t A++[(0,.row (.G [.int .i64 F,.int .i64 T,.nils]))]⟩
noncomputable def Bp (q:Nat→Int) (f t:Int) (A:AV) (F T:Int) (c:Nat) (y:Nat→Int):bK:=⟨false,LB q f t A++[(0,.row (.G [.int .i64 F,.int .i64 T,.slc 0 4 0 0 1 c none])),(0,.row (.M [.arr .i64 y c]))]⟩
theorem Kn (n:Nat) (H:aa) (q:Nat→Int) (R:Row) (u:Bool) (f t:Int) (m:Nat) (y:Nat→Int) (U:Nat) (i k c F T:Int):aJ (bP n 65 128) (il aM n 0) aV aR (part Tryd.f65 [1,0,1,1,1,1,0,1,0,0,1,1,0,0,1,1,0,0,1,1,0,0,1,1,0,1,0,0]) (hints (gh R u U i k c)) (yF q f t .nils F T::H) =
 (fun (Z0:aG)=>((fun (Z1:bK)=>Tr.ite (bQ c (ofNat U)) (Tr.req (bL c 10) (Tr.req (aU 0 0) (Tr.req (bt (au 0 c 2) 20) (Tr.ite (dS F (q (au 0 c 2))) (Tr.req (bL c 10) (Tr.req (aU 0 0) (Tr.req (bt (ah (au 0 c 2) 1) 20) (Tr.ite (dS (q (ah (au 0 c 2) 1)) T) (Tr.req (kS (ofNat 0) 0) (Tr.req (kS (ofNat 0) (cg (ofNat 0))) (Tr.req (da 0 1 8) (Tr.req (aU 0 0) (Tr.req (bH 1 1) (Tr.ok (Ex.normal,Z0,(bO [(0,ao.row (Row.G [iI 0,iI 0,AV.nils])),(0,ao.row (rM q 20)),(0,ao.row (Row.G [AV.int .i64 f,AV.int .i64 t,AV.nils])),(0,ao.row (Row.G [AV.int .i64 F,AV.int .i64 T,AV.slc 0 5 0 0 1 1 none])),(0,ao.row (Row.I .i64 [c])),(0,ao.row (rM (ar [c]) 1))])::H))))))) (Tr.ok (Ex.normal,Z0,Z1::H)))))) (Tr.ok (Ex.normal,Z0,Z1::H)))))) (Tr.ok (Ex.exit 4,[(0,AV.ptrT none R 0,none),(2,AV.ptr 0 0 0 0,none),(4,AV.ptr 0 1 0 0,none),(5,AV.ptr 0 2 0 0,none),(6,AV.bool u,none),(7,AV.int .i64 i,none),(9,AV.ptr 0 3 0 0,none),(19,iI U,none),(20,AV.int .i64 i,none),(28,iI U,none),(29,AV.int .i64 k,none),(46,iI U,none),(47,AV.int .i64 c,none),(48,AV.bool false,some 1)],Z1::H))) (bO [(0,ao.row (Row.G [iI 0,iI 0,AV.nils])),(0,ao.row (rM q 20)),(0,ao.row (Row.G [AV.int .i64 f,AV.int .i64 t,AV.nils])),(0,ao.row (Row.G [AV.int .i64 F,AV.int .i64 T,AV.nils]))]))) [(0,AV.ptrT none R 0,none),(2,AV.ptr 0 0 0 0,none),(4,AV.ptr 0 1 0 0,none),(5,AV.ptr 0 2 0 0,none),(6,AV.bool u,none),(7,AV.int .i64 i,none),(9,AV.ptr 0 3 0 0,none),(19,iI U,none),(20,AV.int .i64 i,none),(28,iI U,none),(29,AV.int .i64 k,none),(46,iI U,none),(47,AV.int .i64 (bh .i64 c (ofNat 1)),none)]:=by kernel_rfl
theorem Ko (n:Nat) (H:aa) (q:Nat→Int) (R:Row) (u:Bool) (f t:Int) (m:Nat) (y:Nat→Int) (U:Nat) (i k c F T:Int) (g:Nat) (x:Nat→Int):aJ (bP n 65 128) (il aM n 0) aV aR (part Tryd.f65 [1,0,1,1,1,1,0,1,0,0,1,1,0,0,1,1,0,0,1,1,0,0,1,1,0,1,0,0]) (hints (gh R u U i k c)) (Bp q f t .nils F T g x::H) =
 (fun (Z0:aG)=>((fun (Z1:bK)=>Tr.ite (bQ c (ofNat U)) (Tr.req (bL c 10) (Tr.req (aU 0 0) (Tr.req (bt (au 0 c 2) 20) (Tr.ite (dS F (q (au 0 c 2))) (Tr.req (bL c 10) (Tr.req (aU 0 0) (Tr.req (bt (ah (au 0 c 2) 1) 20) (Tr.ite (dS (q (ah (au 0 c 2) 1)) T) (Tr.req (kS (ofNat g) g) (Tr.req (kS (ofNat g) (cg (ofNat g))) (Tr.req (da (cg (ofNat g)) 1 8) (Tr.req (aU 0 0) (Tr.req (bH 1 1) (Tr.ite (bt (cg (ofNat g)) (ah (cg (ofNat g)) 1)) (Tr.req (aU 0 0) (Tr.req (bH (cg (ofNat g)) (cg (ofNat g))) (Tr.req (dX 0 (cg (ofNat g)) 0 g) (Tr.ok (Ex.normal,Z0,(bO [(0,ao.row (Row.G [iI 0,iI 0,AV.nils])),(0,ao.row (rM q 20)),(0,ao.row (Row.G [AV.int .i64 f,AV.int .i64 t,AV.nils])),(0,ao.row (Row.G [AV.int .i64 F,AV.int .i64 T,AV.slc 0 6 0 0 1 (ah (cg (ofNat g)) 1) none])),(0,ao.row (rM x g)),(0,ao.row (Row.I .i64 [c])),(0,ao.row (rM (bJ (iO x 0) (cg (ofNat g)) (ar [c])) (ah (cg (ofNat g)) 1)))])::H))))) (Tr.req (aU 0 0) (Tr.req (bt (ah 0 (cg (ofNat g))) g) (Tr.ok (Ex.normal,Z0,(bO [(0,ao.row (Row.G [iI 0,iI 0,AV.nils])),(0,ao.row (rM q 20)),(0,ao.row (Row.G [AV.int .i64 f,AV.int .i64 t,AV.nils])),(0,ao.row (Row.G [AV.int .i64 F,AV.int .i64 T,AV.slc 0 4 0 0 1 (ah (cg (ofNat g)) 1) (some (cg (ofNat g)))])),(0,ao.row (rM (cu x (ah 0 (cg (ofNat g))) c) g)),(0,ao.row (Row.I .i64 [c]))])::H)))))))))) (Tr.ok (Ex.normal,Z0,Z1::H)))))) (Tr.ok (Ex.normal,Z0,Z1::H)))))) (Tr.ok (Ex.exit 4,[(0,AV.ptrT none R 0,none),(2,AV.ptr 0 0 0 0,none),(4,AV.ptr 0 1 0 0,none),(5,AV.ptr 0 2 0 0,none),(6,AV.bool u,none),(7,AV.int .i64 i,none),(9,AV.ptr 0 3 0 0,none),(19,iI U,none),(20,AV.int .i64 i,none),(28,iI U,none),(29,AV.int .i64 k,none),(46,iI U,none),(47,AV.int .i64 c,none),(48,AV.bool false,some 1)],Z1::H))) (bO [(0,ao.row (Row.G [iI 0,iI 0,AV.nils])),(0,ao.row (rM q 20)),(0,ao.row (Row.G [AV.int .i64 f,AV.int .i64 t,AV.nils])),(0,ao.row (Row.G [AV.int .i64 F,AV.int .i64 T,AV.slc 0 4 0 0 1 g none])),(0,ao.row (rM x g))]))) [(0,AV.ptrT none R 0,none),(2,AV.ptr 0 0 0 0,none),(4,AV.ptr 0 1 0 0,none),(5,AV.ptr 0 2 0 0,none),(6,AV.bool u,none),(7,AV.int .i64 i,none),(9,AV.ptr 0 3 0 0,none),(19,iI U,none),(20,AV.int .i64 i,none),(28,iI U,none),(29,AV.int .i64 k,none),(46,iI U,none),(47,AV.int .i64 (bh .i64 c (ofNat 1)),none)]:=by kernel_rfl
theorem Kp (n:Nat) (H:aa) (q:Nat→Int) (R:Row) (u:Bool) (f t:Int) (m:Nat) (y:Nat→Int) (U:Nat) (i k c F T:Int):aJ (bP n 65 128) (il aM n 0) aV aR (part Tryd.f65 [1,0,1,1,1,1,0,1,0,0,1,1,0,0,1,1,0,0,1,1,0,0,1,1,0,1,0,0]) (hints (gh R u U i k c)) (yF q f t (bk m y false) F T::H) =
 (fun (Z0:aG)=>((fun (Z1:bK)=>Tr.ite (bQ c (ofNat U)) (Tr.req (bL c 10) (Tr.req (aU 0 0) (Tr.req (bt (au 0 c 2) 20) (Tr.ite (dS F (q (au 0 c 2))) (Tr.req (bL c 10) (Tr.req (aU 0 0) (Tr.req (bt (ah (au 0 c 2) 1) 20) (Tr.ite (dS (q (ah (au 0 c 2) 1)) T) (Tr.req (kS (ofNat 0) 0) (Tr.req (kS (ofNat 0) (cg (ofNat 0))) (Tr.req (da 0 1 8) (Tr.req (aU 0 0) (Tr.req (bH 1 1) (Tr.ok (Ex.normal,Z0,(bO [(0,ao.row (Row.G [iI 0,iI 0,AV.nils])),(0,ao.row (rM q 20)),(0,ao.row (Row.G [AV.int .i64 f,AV.int .i64 t,bk m y false])),(0,ao.row (Row.G [AV.int .i64 F,AV.int .i64 T,AV.slc 0 5 0 0 1 1 none])),(0,ao.row (Row.I .i64 [c])),(0,ao.row (rM (ar [c]) 1))])::H))))))) (Tr.ok (Ex.normal,Z0,Z1::H)))))) (Tr.ok (Ex.normal,Z0,Z1::H)))))) (Tr.ok (Ex.exit 4,[(0,AV.ptrT none R 0,none),(2,AV.ptr 0 0 0 0,none),(4,AV.ptr 0 1 0 0,none),(5,AV.ptr 0 2 0 0,none),(6,AV.bool u,none),(7,AV.int .i64 i,none),(9,AV.ptr 0 3 0 0,none),(19,iI U,none),(20,AV.int .i64 i,none),(28,iI U,none),(29,AV.int .i64 k,none),(46,iI U,none),(47,AV.int .i64 c,none),(48,AV.bool false,some 1)],Z1::H))) (bO [(0,ao.row (Row.G [iI 0,iI 0,AV.nils])),(0,ao.row (rM q 20)),(0,ao.row (Row.G [AV.int .i64 f,AV.int .i64 t,bk m y false])),(0,ao.row (Row.G [AV.int .i64 F,AV.int .i64 T,AV.nils]))]))) [(0,AV.ptrT none R 0,none),(2,AV.ptr 0 0 0 0,none),(4,AV.ptr 0 1 0 0,none),(5,AV.ptr 0 2 0 0,none),(6,AV.bool u,none),(7,AV.int .i64 i,none),(9,AV.ptr 0 3 0 0,none),(19,iI U,none),(20,AV.int .i64 i,none),(28,iI U,none),(29,AV.int .i64 k,none),(46,iI U,none),(47,AV.int .i64 (bh .i64 c (ofNat 1)),none)]:=by kernel_rfl
theorem Kq (n:Nat) (H:aa) (q:Nat→Int) (R:Row) (u:Bool) (f t:Int) (m:Nat) (y:Nat→Int) (U:Nat) (i k c F T:Int) (g:Nat) (x:Nat→Int):aJ (bP n 65 128) (il aM n 0) aV aR (part Tryd.f65 [1,0,1,1,1,1,0,1,0,0,1,1,0,0,1,1,0,0,1,1,0,0,1,1,0,1,0,0]) (hints (gh R u U i k c)) (Bp q f t (bk m y false) F T g x::H) =
 (fun (Z0:aG)=>((fun (Z1:bK)=>Tr.ite (bQ c (ofNat U)) (Tr.req (bL c 10) (Tr.req (aU 0 0) (Tr.req (bt (au 0 c 2) 20) (Tr.ite (dS F (q (au 0 c 2))) (Tr.req (bL c 10) (Tr.req (aU 0 0) (Tr.req (bt (ah (au 0 c 2) 1) 20) (Tr.ite (dS (q (ah (au 0 c 2) 1)) T) (Tr.req (kS (ofNat g) g) (Tr.req (kS (ofNat g) (cg (ofNat g))) (Tr.req (da (cg (ofNat g)) 1 8) (Tr.req (aU 0 0) (Tr.req (bH 1 1) (Tr.ite (bt (cg (ofNat g)) (ah (cg (ofNat g)) 1)) (Tr.req (aU 0 0) (Tr.req (bH (cg (ofNat g)) (cg (ofNat g))) (Tr.req (dX 0 (cg (ofNat g)) 0 g) (Tr.ok (Ex.normal,Z0,(bO [(0,ao.row (Row.G [iI 0,iI 0,AV.nils])),(0,ao.row (rM q 20)),(0,ao.row (Row.G [AV.int .i64 f,AV.int .i64 t,bk m y false])),(0,ao.row (Row.G [AV.int .i64 F,AV.int .i64 T,AV.slc 0 6 0 0 1 (ah (cg (ofNat g)) 1) none])),(0,ao.row (rM x g)),(0,ao.row (Row.I .i64 [c])),(0,ao.row (rM (bJ (iO x 0) (cg (ofNat g)) (ar [c])) (ah (cg (ofNat g)) 1)))])::H))))) (Tr.req (aU 0 0) (Tr.req (bt (ah 0 (cg (ofNat g))) g) (Tr.ok (Ex.normal,Z0,(bO [(0,ao.row (Row.G [iI 0,iI 0,AV.nils])),(0,ao.row (rM q 20)),(0,ao.row (Row.G [AV.int .i64 f,AV.int .i64 t,bk m y false])),(0,ao.row (Row.G [AV.int .i64 F,AV.int .i64 T,AV.slc 0 4 0 0 1 (ah (cg (ofNat g)) 1) (some (cg (ofNat g)))])),(0,ao.row (rM (cu x (ah 0 (cg (ofNat g))) c) g)),(0,ao.row (Row.I .i64 [c]))])::H)))))))))) (Tr.ok (Ex.normal,Z0,Z1::H)))))) (Tr.ok (Ex.normal,Z0,Z1::H)))))) (Tr.ok (Ex.exit 4,[(0,AV.ptrT none R 0,none),(2,AV.ptr 0 0 0 0,none),(4,AV.ptr 0 1 0 0,none),(5,AV.ptr 0 2 0 0,none),(6,AV.bool u,none),(7,AV.int .i64 i,none),(9,AV.ptr 0 3 0 0,none),(19,iI U,none),(20,AV.int .i64 i,none),(28,iI U,none),(29,AV.int .i64 k,none),(46,iI U,none),(47,AV.int .i64 c,none),(48,AV.bool false,some 1)],Z1::H))) (bO [(0,ao.row (Row.G [iI 0,iI 0,AV.nils])),(0,ao.row (rM q 20)),(0,ao.row (Row.G [AV.int .i64 f,AV.int .i64 t,bk m y false])),(0,ao.row (Row.G [AV.int .i64 F,AV.int .i64 T,AV.slc 0 4 0 0 1 g none])),(0,ao.row (rM x g))]))) [(0,AV.ptrT none R 0,none),(2,AV.ptr 0 0 0 0,none),(4,AV.ptr 0 1 0 0,none),(5,AV.ptr 0 2 0 0,none),(6,AV.bool u,none),(7,AV.int .i64 i,none),(9,AV.ptr 0 3 0 0,none),(19,iI U,none),(20,AV.int .i64 i,none),(28,iI U,none),(29,AV.int .i64 k,none),(46,iI U,none),(47,AV.int .i64 (bh .i64 c (ofNat 1)),none)]:=by kernel_rfl
end Go.Eng
end
