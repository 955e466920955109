/- Gall: orders of colours; which are right (plain law). -/
import Derived.Test.YtgphpjdchnfjlaaDoorV5Gahx6
import Derived.Test.YtgphpjdchnfjlaaDoorV5Ga8x4
set_option linter.unusedVariables false
set_option linter.unusedSimpArgs false
set_option maxRecDepth 100000
section
namespace Go.Eng
open Go.Proofs Go.Eng.Gall
def zG (z:Nat→Int) (U m:Nat):Bool:=decide (m=U) && !dk (fun i=>!(decide (0≤z i) && decide (z i<U)) || dk (fun j=>decide (z j=z i)) i) m
theorem jZ {p:Nat→Bool} {k:Nat}:dk p k=false↔∀ j,j<k→p j=false:=⟨pc,wV⟩
theorem gk {z:Nat→Int} {U m:Nat}:zG z U m=true↔m=U∧∀ i,i<m→(0≤z i∧z i<U)∧∀ j,j<i→z j≠z i:=by
 unfold zG;rw[Bool.and_eq_true,decide_eq_true_iff,Bool.not_eq_true',jZ];constructor
 · rintro ⟨h1,h2⟩;refine ⟨h1,fun i hi=>?_⟩;have:=h2 i hi;rw[Bool.or_eq_false_iff,jZ,Bool.not_eq_false',Bool.and_eq_true,decide_eq_true_iff,decide_eq_true_iff] at this;exact ⟨this.1,fun j hj=>by simpa using this.2 j hj⟩
 · rintro ⟨h1,h2⟩;refine ⟨h1,fun i hi=>?_⟩;obtain ⟨h3,h4⟩:=h2 i hi;rw[Bool.or_eq_false_iff,jZ,Bool.not_eq_false',Bool.and_eq_true,decide_eq_true_iff,decide_eq_true_iff];exact ⟨h3,fun j hj=>by simpa using h4 j hj⟩
theorem B5 {z:Nat→Int} {m:Nat} {x:Int}:x ∈ kf z m↔∃ i,i<m∧z i=x:=by simp[kf]
theorem zV {z:Nat→Int} {m:Nat}:(kf z m).Nodup↔∀ i,i<m→∀ j,j<i→z j≠z i:=by
 unfold kf;rw[List.Nodup,List.pairwise_map,List.pairwise_iff_getElem];simp only[List.length_range,List.getElem_range];constructor
 · intro h i hi j hj;exact h j i wO hi hj
 · intro h j i hj hi hji;exact h i hi j hji
theorem z8 (L:List Int):(gr L).Perm L:=List.mergeSort_perm _ _
theorem Nw (L:List Int):(gr L).Pairwise (·≤·):=by
 have:=List.pairwise_mergeSort (le:=fun x y:Int=>decide (x≤y)) (by intro a b c h1 h2;simp at *;omega) (by intro a b;simp;omega) L;refine this.imp (fun h=>?_);simpa using h
theorem GG {m:Nat} {f:Nat→Int} (h0:∀ j,j<m→0≤f j) (hs:∀ i j,i<j→j<m→f i<f j):∀ j,j<m→(j:Int)≤f j
 | 0,h=>h0 0 h
 | j+1,h=>by
   have h1:=GG h0 hs j wO;have h2:=hs j (j+1) wO h;omega
theorem inc_le {m:Nat} {f:Nat→Int} (h0:∀ j,j<m→f j<m) (hs:∀ i j,i<j→j<m→f i<f j):∀ t j,j+t+1=m→f j≤j
 | 0,j,h=>by have:=h0 j wO;omega
 | t+1,j,h=>by
   have h1:=inc_le h0 hs t (j+1) wO;have h2:=hs j (j+1) wO wO;omega
theorem HM {z:Nat→Int} {U m:Nat}:(dk (fun j=>!decide (az (gr (kf z m)) j=(j:Int))) m=false∧m=U)↔zG z U m=true:=by
 have hl:(gr (kf z m)).length=m:=by rw[lL,iW]
 have hp:=z8 (kf z m);have hs:=Nw (kf z m);rw[gk,jZ];generalize gr (kf z m)=L at *;constructor
 · rintro ⟨h1,h2⟩;have he:∀ j,(hj:j<L.length)→L[j]=(j:Int):=fun j hj=>by
    have:=h1 j wO;rw[Bool.not_eq_false',decide_eq_true_iff,tr L j hj] at this;exact this
   have hn:L.Nodup:=by
    rw[List.Nodup,List.pairwise_iff_getElem];intro i j hi hj hij;rw[he i hi,he j hj];omega
   have hn2:=zV.1 (hp.nodup_iff.1 hn);refine ⟨h2,fun i hi=>⟨?_,hn2 i hi⟩⟩;have:z i ∈ L:=hp.mem_iff.2 (B5.2 ⟨i,hi,rfl⟩);obtain ⟨k,hk,hk2⟩:=List.mem_iff_getElem.1 this;rw[← hk2,he k hk];omega
 · rintro ⟨h1,h2⟩;refine ⟨fun j hj=>?_,h1⟩;have hn:L.Nodup:=hp.nodup_iff.2 (zV.2 fun i hi=>(h2 i hi).2);have hb:∀ x ∈ L,0≤x∧x<U:=fun x hx=>by
    obtain ⟨i,hi,rfl⟩:=B5.1 (hp.mem_iff.1 hx);exact (h2 i hi).1
   have hgs:∀ i j,i<j→j<m→az L i<az L j:=fun i j hij hj=>by
    have a1:=(List.pairwise_iff_getElem.1 hs) i j wO wO hij;have a2:=(List.pairwise_iff_getElem.1 hn) i j wO wO hij;rw[tr L i wO,tr L j wO];have a1:L[i]≤L[j]:=a1;have a2:L[i]≠L[j]:=a2;omega
   have hg:∀ j,j<m→0≤az L j∧az L j<m:=fun j hj=>by
    rw[tr L j wO];have:=hb _ (List.getElem_mem (l:=L) (n:=j) wO);omega
   have e1:=GG (fun j hj=>(hg j hj).1) hgs j hj;have e2:=inc_le (fun j hj=>(hg j hj).2) hgs (m-1-j) j wO;rw[Bool.not_eq_false',decide_eq_true_iff];omega
def l9 (z:Nat→Int) (m:Nat):List Nat:=(List.range m).map fun j=>(z j).toNat
theorem JO (z:Nat→Int) (m:Nat):l9 z (m+1)=l9 z m++[(z m).toNat]:=by unfold l9;rw[List.range_succ,List.map_append];rfl
theorem jQ {z:Nat→Int} {m x:Nat}:x ∈ l9 z m↔∃ i,i<m∧(z i).toNat=x:=by simp[l9]
theorem qM {z:Nat→Int} {m U:Nat} (h:zG z U m=true):∀ k,k≤m→(l9 z k).Nodup:=fun k hk=>by
 obtain ⟨h1,h2⟩:=gk.1 h;unfold l9;rw[List.Nodup,List.pairwise_map,List.pairwise_iff_getElem];simp only[List.length_range,List.getElem_range];intro j i hj hi hji;have a:=(h2 i wO).1;have b:=(h2 j wO).1;have c:=(h2 i wO).2 j hji;omega
theorem nk {L:List Nat} (hn:L.Nodup) {n:Nat} (h:∀ x ∈ L,x<n):mask L<2 ^ n:=by
 refine Nat.lt_pow_two_of_testBit _ fun i hi=>?_;rw[cV hn];exact decide_eq_false fun hm=>by have:=h i hm;omega
theorem Hg {z:Nat→Int} {m U:Nat} (h:zG z U m=true) {a:Nat} (ha:a<U):∃ i,i<m∧z i=(a:Int):=by
 obtain ⟨h1,h2⟩:=gk.1 h;have h3:=(HM (z:=z) (U:=U) (m:=m)).2 h;have h4:=jZ.1 h3.1 a wO;rw[Bool.not_eq_false',decide_eq_true_iff] at h4;have hl:(gr (kf z m)).length=m:=by rw[lL,iW]
 rw[tr _ a wO] at h4;have:(a:Int) ∈ gr (kf z m):=by rw[← h4];exact List.getElem_mem _
 exact B5.1 ((z8 _).mem_iff.1 this)
def oT (W:Nat→Int) (c:Int) (p:Int):Bool:=decide (W (2*c.toNat)≤p) && decide (p≤W (2*c.toNat+1))
noncomputable def KF (B:Nat→Int) (z:Nat→Int) (j:Nat):Bool:=!cq (A3 .u64 (B (z j).toNat) (mask (l9 z j):Int)) (Int.ofNat 0)
def Km (V:Nat) (J:Nat→Int) (z:Nat→Int) (i:Nat):Bool:=dk (fun j=>pI V J (z i) (z j)) i
theorem pJ {V U:Nat} {J:Nat→Int} (hp:iL U V J) (a c:Nat):pI V J (a:Int) (c:Int)=(dq J c V).testBit a:=by
 unfold pI;rw[Bool.eq_iff_iff,cQ,m7 J c a V (fun i hi=>(hp i hi).1.1)];constructor
 · rintro ⟨i,hi,he⟩;unfold iC at he;rw[Bool.and_eq_true,decide_eq_true_iff,decide_eq_true_iff] at he;exact ⟨i,hi,he.1.symm,he.2.symm⟩
 · rintro ⟨i,hi,he⟩;refine ⟨i,hi,?_⟩;unfold iC;rw[Bool.and_eq_true,decide_eq_true_iff,decide_eq_true_iff];exact ⟨he.1.symm,he.2.symm⟩
theorem DG {O:Int} {U:Nat} {Z:Nat→Int} {V:Nat} {J:Nat→Int} (h:dm O U Z V J=0) (a:Int):pI V J a a=false:=by
 unfold pI;refine wV fun j hj=>?_;unfold dm at h;split at h
 · cases h
 · rename_i h1;split at h
   · cases h
   · rename_i h2;split at h
     · cases h
     · rename_i h3;have h3:dk (gI U J) V=false:=by simpa using h3
       have:=pc h3 j hj;unfold gI at this;rw[Bool.or_eq_false_iff,decide_eq_false_iff_not] at this;unfold iC;rw[Bool.and_eq_false_iff,decide_eq_false_iff_not,decide_eq_false_iff_not];have:=this.1;omega
theorem Pa {V U m:Nat} {J:Nat→Int} {z:Nat→Int} (hp:iL U V J) (hs:∀ a,pI V J a a=false) (hl:U≤10) (hm:zG z U m=true):dk (KF (gv V J) z) m=dk (Km V J z) m:=by
 obtain ⟨h1,h2⟩:=gk.1 hm;have key:∀ j,j<m→(KF (gv V J) z j=true↔∃ i,j<i∧i<m∧pI V J (z i) (z j)=true):=fun j hj=>by
  have hn:=qM hm j wO;have hlt:∀ x ∈ l9 z j,x<U:=fun x hx=>by
   obtain ⟨i,hi,rfl⟩:=jQ.1 hx;have:=(h2 i wO).1;omega
  have hc:=(h2 j hj).1;have hb:dq J (z j).toNat V<2 ^ U:=qc J _ U V fun i hi=>(hp i hi).1;have hb2:dq J (z j).toNat V<2 ^ 62:=Nat.lt_of_lt_of_le hb (Nat.pow_le_pow_right wO wO);have hX2:mask (l9 z j)<2 ^ 62:=Nat.lt_of_lt_of_le (nk hn hlt) (Nat.pow_le_pow_right wO wO);obtain ⟨w,hw,hw2⟩:=QU hb2 hX2;unfold KF;rw[show gv V J (z j).toNat=(dq J (z j).toNat V:Int) from rfl,hw,aQ];have e1:(!((w:Int) == Int.ofNat 0))=true↔w≠0:=by simp
  rw[e1];constructor
  · intro hw0;obtain ⟨a,ha⟩:=Nat.exists_testBit_of_ne_zero hw0;rw[hw2,Bool.and_eq_true,cV hn,Bool.not_eq_true',decide_eq_false_iff_not] at ha;have hal:a<U:=by
     refine Nat.lt_of_not_le fun hge=>?_;rw[Nat.testBit_lt_two_pow (Nat.lt_of_lt_of_le hb (Nat.pow_le_pow_right wO hge))] at ha;cases ha.1
    obtain ⟨i,hi,hia⟩:=Hg hm hal;have hpr:pI V J (z i) (z j)=true:=by
     rw[hia,show z j=((z j).toNat:Int) by omega,pJ hp];exact ha.1
    refine ⟨i,?_,hi,hpr⟩;rcases Nat.lt_trichotomy i j with q | q | q
    · exact absurd (jQ.2 ⟨i,q,by omega⟩) ha.2
    · subst q;rw[hs] at hpr;cases hpr
    · exact q
  · rintro ⟨i,hij,hi,hpr⟩;have hzi:=(h2 i hi).1;intro hw0;have:=hw2 (z i).toNat
    rw[hw0,Nat.zero_testBit,cV hn] at this;rw[show z i=((z i).toNat:Int) by omega,show z j=((z j).toNat:Int) by omega,pJ hp] at hpr;rw[hpr,Bool.true_and] at this;have hmem:(z i).toNat ∈ l9 z j:=by
     cases hd:decide ((z i).toNat ∈ l9 z j) with
     | true=>exact of_decide_eq_true hd
     | false=>rw[hd] at this;cases this
    obtain ⟨k,hk,hk2⟩:=jQ.1 hmem;have hzk:=(h2 k wO).1;exact (h2 i hi).2 k wO wO
 rw[Bool.eq_iff_iff,cQ,cQ];constructor
 · rintro ⟨j,hj,h⟩;obtain ⟨i,hij,hi,hpr⟩:=(key j hj).1 h;exact ⟨i,hi,(cQ _ _).2 ⟨j,hij,hpr⟩⟩
 · rintro ⟨i,hi,h⟩;obtain ⟨j,hij,hpr⟩:=(cQ _ _).1 h;exact ⟨j,by omega,(key j wO).2 ⟨i,hij,hi,hpr⟩⟩
noncomputable def uY (U:Nat) (W:Nat→Int) (V:Nat) (J:Nat→Int) (m:Nat) (z:Nat→Int):Int:=if zG z U m=true then (if dk (fun j=>!oT W (z j) j) m=true then 21 else if dk (Km V J z) m=true then 16 else 0) else 15
end Go.Eng
end
section
namespace Go.Eng
open Int (ofNat)
open Go.Proofs Go.Eng.Gall
noncomputable def x6 (d:Nat):AV:=.slc d 2 0 0 1 1 (some 1)
noncomputable def mL (b0 b1:Nat×al) (c:Int):bC:=⟨false,[b0,b1,(0,.row (.I .i64 [c]))]⟩
noncomputable def lY (d:Nat):AV:=.fn (.func 80) [] [.ptr d 0 0 0]
noncomputable def xb (j:Int):aD:=[(0,x6 3),(1,lY 2),(7,.int .i64 (ofNat 1)),(8,.int .i64 j)]
theorem u16 (n:Nat) (O:Int) (U:Nat) (Z:Nat→Int) (V:Nat) (J:Nat→Int) (H:aa) (c:Int) (p:Int) (W B:Nat→Int):aZ Tryd.prog (cd (n+1)) 100000 16 Tryd.f16 (KtG.kt 16) (il (kX aC 49 [bt O U Z V J,x6 0] (mL (0,.row (.G [.int .i64 O,slA 4 U Z,slA 2 V J])) (0,.row (.I .i64 [ofNat 0,ofNat 0])) c::H) (.ok (.tup [shV O U Z V J W B,.int .i64 (ofNat 0)],mL (0,.row (.G [.int .i64 O,slA 4 U Z,slA 2 V J])) (0,.row (.I .i64 [ofNat 0,ofNat 0])) c::H))) n 1) aK aJ [(bt O U Z V J,none),(.int .i64 c,none),(.int .i64 p,none)] H =
 (fun (Z0:Row)=>Tr.reqP ([bt O U Z V J,AV.slc 0 2 0 0 1 1 (some 1)]=[bt O U Z V J,AV.slc 0 2 0 0 1 1 (some 1)]∧(bm [(0,dc O U Z V J),(0,al.row Z0),(0,al.row (Row.I .i64 [c]))])::H=(bm [(0,dc O U Z V J),(0,al.row Z0),(0,al.row (Row.I .i64 [c]))])::H) (Tr.ite (bf (cq (ofNat 0) (ofNat 0))) (Tr.ok ((AV.tup [AV.agg Z0,iI 0],none),H)) (Tr.ite (bF p (ofNat 0)) (Tr.ok ((AV.tup [AV.agg Z0,iI 3],none),H)) (Tr.ite (di (ofNat U) p) (Tr.ok ((AV.tup [AV.agg Z0,iI 3],none),H)) (Tr.req (cu c U) (Tr.req (bX (aq 0 c 4) (cr U 4)) (Tr.req (bX (au (aq 0 c 4) 1) (cr U 4)) (Tr.req (bT (dW 0 0) (dW 0 1)) (Tr.ok ((AV.tup [AV.agg (Row.I .i64 [bL .i64 (Z (aq 0 c 4)) (ly .i64 p O),bL .i64 (Z (au (aq 0 c 4) 1)) (ly .i64 p O)]),iI 0],none),H)))))))))) (Row.I .i64 [ofNat 0,ofNat 0]):=by kernel_rfl
theorem TU (n:Nat) (O:Int) (U:Nat) (Z:Nat→Int) (V:Nat) (J:Nat→Int) (H:aa) (c:Int) (p:Int) (e:Int):aZ Tryd.prog (cd (n+1)) 100000 16 Tryd.f16 (KtG.kt 16) (il (kX aC 49 [bt O U Z V J,x6 0] (mL (0,.row (.G [.int .i64 O,slA 4 U Z,slA 2 V J])) (0,.row (.I .i64 [ofNat 0,ofNat 0])) c::H) (.ok (.tup [.nilp,.int .i64 e],mL (0,.row (.G [.int .i64 O,slA 4 U Z,slA 2 V J])) (0,.row (.I .i64 [ofNat 0,ofNat 0])) c::H))) n 1) aK aJ [(bt O U Z V J,none),(.int .i64 c,none),(.int .i64 p,none)] H =
 (fun (Z0:Row)=>Tr.reqP ([bt O U Z V J,AV.slc 0 2 0 0 1 1 (some 1)]=[bt O U Z V J,AV.slc 0 2 0 0 1 1 (some 1)]∧(bm [(0,dc O U Z V J),(0,al.row Z0),(0,al.row (Row.I .i64 [c]))])::H=(bm [(0,dc O U Z V J),(0,al.row Z0),(0,al.row (Row.I .i64 [c]))])::H) (Tr.ite (bf (cq e (ofNat 0))) (Tr.ok ((AV.tup [AV.agg Z0,AV.int .i64 e],none),H)) (Tr.ite (bF p (ofNat 0)) (Tr.ok ((AV.tup [AV.agg Z0,iI 3],none),H)) (Tr.ite (di (ofNat U) p) (Tr.ok ((AV.tup [AV.agg Z0,iI 3],none),H)) Tr.bad)))) (Row.I .i64 [ofNat 0,ofNat 0]):=by kernel_rfl
theorem Yr (n:Nat) (O:Int) (U:Nat) (Z:Nat→Int) (V:Nat) (J:Nat→Int) (H:aa) (c:Int) (W B:Nat→Int):aZ Tryd.prog (cd (n+1)) 100000 18 Tryd.f18 (KtG.kt 18) (il (kX aC 49 [bt O U Z V J,x6 0] (mL (0,.row (.G [.int .i64 O,slA 4 U Z,slA 2 V J])) (0,.row (.I .i64 [ofNat 0,ofNat 0])) c::H) (.ok (.tup [shV O U Z V J W B,.int .i64 (ofNat 0)],mL (0,.row (.G [.int .i64 O,slA 4 U Z,slA 2 V J])) (0,.row (.I .i64 [ofNat 0,ofNat 0])) c::H))) n 1) aK aJ [(bt O U Z V J,none),(.int .i64 c,none)] H =
 (fun (Z0:bC)=>Tr.reqP ([bt O U Z V J,AV.slc 0 2 0 0 1 1 (some 1)]=[bt O U Z V J,AV.slc 0 2 0 0 1 1 (some 1)]∧Z0::H=Z0::H) (Tr.ite (bf (cq (ofNat 0) (ofNat 0))) (Tr.ok ((AV.tup [AV.agg (Row.I .i64 [ofNat 0,ofNat 0]),iI 0],none),H)) (Tr.req (cu c 10) (Tr.req (dP (aq 3 c 2) 1 3 20) (Tr.req (dP (au (aq 3 c 2) 1) 1 3 20) (Tr.ite (bF (W (bQ (au (aq 3 c 2) 1) 3)) (W (bQ (aq 3 c 2) 3))) (Tr.ok ((AV.tup [AV.agg (Row.I .i64 [ofNat 0,ofNat 0]),iI 21],none),H)) (Tr.ok ((AV.tup [AV.agg (Row.I .i64 [W (bQ (aq 3 c 2) 3),W (bQ (au (aq 3 c 2) 1) 3)]),iI 0],none),H)))))))) (bm [(0,dc O U Z V J),(0,al.row (Row.I .i64 [ofNat 0,ofNat 0])),(0,al.row (Row.I .i64 [c]))]):=by kernel_rfl
theorem TV (n:Nat) (O:Int) (U:Nat) (Z:Nat→Int) (V:Nat) (J:Nat→Int) (H:aa) (c:Int) (e:Int):aZ Tryd.prog (cd (n+1)) 100000 18 Tryd.f18 (KtG.kt 18) (il (kX aC 49 [bt O U Z V J,x6 0] (mL (0,.row (.G [.int .i64 O,slA 4 U Z,slA 2 V J])) (0,.row (.I .i64 [ofNat 0,ofNat 0])) c::H) (.ok (.tup [.nilp,.int .i64 e],mL (0,.row (.G [.int .i64 O,slA 4 U Z,slA 2 V J])) (0,.row (.I .i64 [ofNat 0,ofNat 0])) c::H))) n 1) aK aJ [(bt O U Z V J,none),(.int .i64 c,none)] H =
 (fun (Z0:bC)=>Tr.reqP ([bt O U Z V J,AV.slc 0 2 0 0 1 1 (some 1)]=[bt O U Z V J,AV.slc 0 2 0 0 1 1 (some 1)]∧Z0::H=Z0::H) (Tr.ite (bf (cq e (ofNat 0))) (Tr.ok ((AV.tup [AV.agg (Row.I .i64 [ofNat 0,ofNat 0]),AV.int .i64 e],none),H)) Tr.bad)) (bm [(0,dc O U Z V J),(0,al.row (Row.I .i64 [ofNat 0,ofNat 0])),(0,al.row (Row.I .i64 [c]))]):=by kernel_rfl
theorem Ys (n:Nat) (O:Int) (U:Nat) (Z:Nat→Int) (V:Nat) (J:Nat→Int) (H:aa) (c:Int) (W B:Nat→Int) (r:Nat→Int):aZ Tryd.prog (cd (n+1)) 100000 20 Tryd.f20 (KtG.kt 20) (il (kX (tX aC 56 [shV O U Z V J W B] (.agg (.M [.arr .i64 r 20]))) 49 [bt O U Z V J,x6 0] (mL (0,.row (.G [.int .i64 O,slA 4 U Z,slA 2 V J])) (0,.row (.I .i64 [ofNat 0,ofNat 0])) c::H) (.ok (.tup [shV O U Z V J W B,.int .i64 (ofNat 0)],mL (0,.row (.G [.int .i64 O,slA 4 U Z,slA 2 V J])) (0,.row (.I .i64 [ofNat 0,ofNat 0])) c::H))) n 1) aK aJ [(bt O U Z V J,none),(.int .i64 c,none)] H =
 (fun (Z0:bC)=>Tr.reqP ([bt O U Z V J,AV.slc 0 2 0 0 1 1 (some 1)]=[bt O U Z V J,AV.slc 0 2 0 0 1 1 (some 1)]∧Z0::H=Z0::H) (Tr.ite (bf (cq (ofNat 0) (ofNat 0))) (Tr.ok ((AV.tup [AV.agg (Row.I .i64 [ofNat 0,ofNat 0]),iI 0],none),H)) (Tr.reqP ([shV O U Z V J W B]=[shV O U Z V J W B]) (Tr.req (cu c 10) (Tr.req (bX (aq 0 c 2) 20) (Tr.req (bX (au (aq 0 c 2) 1) 20) (Tr.ite (bF (r (au (aq 0 c 2) 1)) (r (aq 0 c 2))) (Tr.ok ((AV.tup [AV.agg (Row.I .i64 [ofNat 0,ofNat 0]),iI 21],none),H)) (Tr.ok ((AV.tup [AV.agg (Row.I .i64 [r (aq 0 c 2),r (au (aq 0 c 2) 1)]),iI 0],none),H))))))))) (bm [(0,dc O U Z V J),(0,al.row (Row.I .i64 [ofNat 0,ofNat 0])),(0,al.row (Row.I .i64 [c]))]):=by kernel_rfl
theorem TW (n:Nat) (O:Int) (U:Nat) (Z:Nat→Int) (V:Nat) (J:Nat→Int) (H:aa) (c:Int) (e:Int):aZ Tryd.prog (cd (n+1)) 100000 20 Tryd.f20 (KtG.kt 20) (il (kX aC 49 [bt O U Z V J,x6 0] (mL (0,.row (.G [.int .i64 O,slA 4 U Z,slA 2 V J])) (0,.row (.I .i64 [ofNat 0,ofNat 0])) c::H) (.ok (.tup [.nilp,.int .i64 e],mL (0,.row (.G [.int .i64 O,slA 4 U Z,slA 2 V J])) (0,.row (.I .i64 [ofNat 0,ofNat 0])) c::H))) n 1) aK aJ [(bt O U Z V J,none),(.int .i64 c,none)] H =
 (fun (Z0:bC)=>Tr.reqP ([bt O U Z V J,AV.slc 0 2 0 0 1 1 (some 1)]=[bt O U Z V J,AV.slc 0 2 0 0 1 1 (some 1)]∧Z0::H=Z0::H) (Tr.ite (bf (cq e (ofNat 0))) (Tr.ok ((AV.tup [AV.agg (Row.I .i64 [ofNat 0,ofNat 0]),AV.int .i64 e],none),H)) Tr.bad)) (bm [(0,dc O U Z V J),(0,al.row (Row.I .i64 [ofNat 0,ofNat 0])),(0,al.row (Row.I .i64 [c]))]):=by kernel_rfl
theorem t89 (n:Nat) (O:Int) (U:Nat) (Z:Nat→Int) (V:Nat) (J:Nat→Int) (H:aa) (b0 b1:Nat×al) (c:Int):aF (bJ (n+1) 89 19) (il aC n 1) aK aJ (part Tryd.f89 [1,0,1,0,0]) (hints (xb (ofNat 0))) (ao::ao::bU O U Z V J::mL b0 b1 c::H) =
 (fun (Z0:bC)=>((fun (Z1:bC)=>Tr.ite (bF (ofNat 0) (ofNat 1)) (Tr.req (cu (ofNat 0) 1) (Tr.req (cH 0 0) (Tr.req (bX (aq 0 (ofNat 0) 1) (EF [c])) (Tr.ite (bF (az [c] (aq 0 (ofNat 0) 1)) (ofNat 0)) (Tr.ok (Ex.ret,[(4,iI 0,none)],ao::ao::Z1::Z0::H)) (Tr.ite (di (ofNat U) (az [c] (aq 0 (ofNat 0) 1))) (Tr.ok (Ex.ret,[(4,iI 0,none)],ao::ao::Z1::Z0::H)) (Tr.ok (Ex.normal,[(0,AV.slc 3 2 0 0 1 1 (some 1),none),(1,AV.fn (Fn.func 80) [] [AV.ptr 2 0 0 0],none),(7,iI 1,none),(8,AV.int .i64 (bj .i64 (ofNat 0) (ofNat 1)),none)],ao::ao::Z1::Z0::H))))))) (Tr.ok (Ex.exit 0,[(0,AV.slc 3 2 0 0 1 1 (some 1),none),(1,AV.fn (Fn.func 80) [] [AV.ptr 2 0 0 0],none),(7,iI 1,none),(8,iI 0,none),(9,AV.bool false,some 1)],ao::ao::Z1::Z0::H))) (bm [(0,dc O U Z V J)]))) (bm [b0,b1,(0,al.row (Row.I .i64 [c]))]):=by kernel_rfl
theorem TN (n:Nat) (O:Int) (U:Nat) (Z:Nat→Int) (V:Nat) (J:Nat→Int) (H:aa) (b0 b1:Nat×al) (c:Int):aF (bJ (n+1) 89 19) (il aC n 1) aK aJ (part Tryd.f89 [1,0,1,0,0]) (hints (xb (ofNat 1))) (ao::ao::bU O U Z V J::mL b0 b1 c::H) =
 (fun (Z0:bC)=>((fun (Z1:bC)=>Tr.ite (bF (ofNat 1) (ofNat 1)) (Tr.req (cu (ofNat 1) 1) (Tr.req (cH 0 0) (Tr.req (bX (aq 0 (ofNat 1) 1) (EF [c])) (Tr.ite (bF (az [c] (aq 0 (ofNat 1) 1)) (ofNat 0)) (Tr.ok (Ex.ret,[(4,iI 1,none)],ao::ao::Z1::Z0::H)) (Tr.ite (di (ofNat U) (az [c] (aq 0 (ofNat 1) 1))) (Tr.ok (Ex.ret,[(4,iI 1,none)],ao::ao::Z1::Z0::H)) (Tr.ok (Ex.normal,[(0,AV.slc 3 2 0 0 1 1 (some 1),none),(1,AV.fn (Fn.func 80) [] [AV.ptr 2 0 0 0],none),(7,iI 1,none),(8,AV.int .i64 (bj .i64 (ofNat 1) (ofNat 1)),none)],ao::ao::Z1::Z0::H))))))) (Tr.ok (Ex.exit 0,[(0,AV.slc 3 2 0 0 1 1 (some 1),none),(1,AV.fn (Fn.func 80) [] [AV.ptr 2 0 0 0],none),(7,iI 1,none),(8,iI 1,none),(9,AV.bool false,some 1)],ao::ao::Z1::Z0::H))) (bm [(0,dc O U Z V J)]))) (bm [b0,b1,(0,al.row (Row.I .i64 [c]))]):=by kernel_rfl
theorem YW (n:Nat) (e:Bool) (G:aa):aZ Tryd.prog (cd n) 100000 89 Tryd.f89 (KtG.kt 89) (il aC n 0) (cE aK 0 (xb (ofNat 0)) (ao::G) (.ite e (.ok (.ret,[(4,.int .i64 (ofNat 0),none)],ao::G)) (.ok (.normal,hints (xb (ofNat 1)++[(9,.bool false)]),ao::G)))) aJ [(x6 2,none),(lY 1,none)] G =
 (fun (Z0:aD)=>Tr.reqP (Z0=Z0∧ao::G=ao::G) (Tr.ite e (Tr.ok ((iI 0,none),G)) (Tr.ok ((AV.int .i64 (Int.negSucc 0),some 1),G)))) [(0,AV.slc 3 2 0 0 1 1 (some 1)),(1,AV.fn (Fn.func 80) [] [AV.ptr 2 0 0 0]),(7,iI 1),(8,iI 0)]:=by kernel_rfl
theorem YF (n:Nat) (i:Int) (G:aa):aZ Tryd.prog (cd n) 100000 67 Tryd.f67 (KtG.kt 67) (il (kX aC 89 [x6 2,lY 1] (ao::G) (.ok (.int .i64 i,ao::G))) n 0) aK aJ [(x6 1,none),(lY 0,none)] G =
 Tr.reqP ([AV.slc 2 2 0 0 1 1 (some 1),AV.fn (Fn.func 80) [] [AV.ptr 1 0 0 0]]=[AV.slc 2 2 0 0 1 1 (some 1),AV.fn (Fn.func 80) [] [AV.ptr 1 0 0 0]]∧ao::G=ao::G) (Tr.ok ((AV.bool (di (ofNat 0) i),none),G)):=by kernel_rfl
theorem Yz (n:Nat) (O:Int) (U:Nat) (Z:Nat→Int) (V:Nat) (J:Nat→Int) (W B:Nat→Int) (G:aa) (e:Int) (q:Bool) (C:List AV→Prop):aZ Tryd.prog (cd n) 100000 49 Tryd.f49 (KtG.kt 49) (il (kX (mc (tX aC 22 [bt O U Z V J] (.int .i64 e)) 62 (fun x=>some (C x,shV O U Z V J W B))) 67 [x6 1,lY 0] (bU O U Z V J::G) (.ok (.bool q,bU O U Z V J::G))) n 0) aK aJ [(bt O U Z V J,none),(x6 0,none)] G =
 Tr.reqP ([bt O U Z V J]=[bt O U Z V J]) (Tr.ite (bf (cq e (ofNat 0))) (Tr.ok ((AV.tup [AV.nilp,AV.int .i64 e],none),G)) (Tr.reqP ([AV.slc 1 2 0 0 1 1 (some 1),AV.fn (Fn.func 80) [] [AV.ptr 0 0 0 0]]=[AV.slc 1 2 0 0 1 1 (some 1),AV.fn (Fn.func 80) [] [AV.ptr 0 0 0 0]]∧(bm [(0,dc O U Z V J)])::G=(bm [(0,dc O U Z V J)])::G) (Tr.ite q (Tr.ok ((AV.tup [AV.nilp,iI 2],none),G)) (Tr.reqP (C [bt O U Z V J]) (Tr.ok ((AV.tup [shV O U Z V J W B,iI 0],none),G)))))):=by kernel_rfl
end Go.Eng
end
section
namespace Go.Eng
open Int (ofNat)
open Go.Proofs Go.Eng.Gall
theorem Vh:∀ b,(0,b) ∈ aI (aW Tryd.f89)→b=.loop (part Tryd.f89 [1,0,1,0,0]):=dJ (by kernel_rfl)
def jG (O:Int) (U:Nat) (Z:Nat→Int) (V:Nat) (J:Nat→Int) (c:Int):Int:=if dm O U Z V J=0 then (if c<0∨(U:Int)≤c then 2 else 0) else dm O U Z V J
noncomputable def rT (x y e:Int):AV:=.tup [VD x y,.int .i64 e]
theorem kr {O:Int} {U:Nat} {Z:Nat→Int} {V:Nat} {J:Nat→Int} (h:dm O U Z V J=0):(1≤U∧U≤10)∧V≤40∧(1≤O∧O≤100)∧wH U Z∧iL U V J∧ma U (fun c=>dq J c V)=false:=by
 unfold dm at h;split at h
 · cases h
 · rename_i h1;split at h
   · cases h
   · rename_i h2;split at h
     · cases h
     · rename_i h3;split at h
       · cases h
       · rename_i h4;exact ⟨by omega,by omega,by omega,pc (by simpa using fun q=>h2 (.inr (.inr q))),pW (by simpa using h3),by simpa using h4⟩
theorem Gc {O:Int} {U:Nat} {Z:Nat→Int} {V:Nat} {J:Nat→Int} {c:Int} (h:jG O U Z V J c=0):dm O U Z V J=0∧0≤c∧c<U:=by
 unfold jG at h;split at h
 · rename_i h1;split at h
   · cases h
   · exact ⟨h1,by omega,by omega⟩
 · rename_i h1;exact absurd h h1
section
variable (n:Nat) (O:Int) (U:Nat) (Z:Nat→Int) (V:Nat) (J:Nat→Int) (H:aa)
theorem Rb (b0 b1:Nat×al) (c:Int) (hl:U≤1000):cd (n+3) (.fn 67) [x6 1,lY 0] (bU O U Z V J::mL b0 b1 c::H)=some (.bool (decide (c<0) || decide ((U:Int)≤c)),bU O U Z V J::mL b0 b1 c::H):=by
 have i0:aq 0 (ofNat 0) 1=0:=by rw[bo];rfl
 have l0:az [c] 0=c:=by rw[fa];rfl
 have s1:bj .i64 (ofNat 0) (ofNat 1)=ofNat 1:=dO (j:=0) wO;have hp:∀ e,(decide (c<0) || decide ((U:Int)≤c))=e→exec (bJ (n+1) 89 19) (.block 0 (.loop (part Tryd.f89 [1,0,1,0,0]))) (xb (ofNat 0)) (ao::ao::bU O U Z V J::mL b0 b1 c::H)=some (cond e (.ret,[(4,.int .i64 (ofNat 0))],ao::ao::bU O U Z V J::mL b0 b1 c::H) (.normal,xb (ofNat 1)++[(9,.bool false)],ao::ao::bU O U Z V J::mL b0 b1 c::H)):=by
  intro e he;have hx:=ff (n:=n+1) (f:=89) (nt:=19) (c:=part Tryd.f89 [1,0,1,0,0]) 0 (fun j=>xb (j:Int)) (fun _=>ao::ao::bU O U Z V J::mL b0 b1 c::H) 1 (fun _=>e) (fun _=>([(4,.int .i64 (ofNat 0))],ao::ao::bU O U Z V J::mL b0 b1 c::H)) (xb (ofNat 1)++[(9,.bool false)],ao::ao::bU O U Z V J::mL b0 b1 c::H) wO (fun j hj=>?_) ?_
  · have ee:dk (fun _=>e) 1=e:=by
     cases e with
     | true=>exact (cQ _ _).2 ⟨0,by omega,rfl⟩
     | false=>exact wV (fun _ _=>rfl)
    rw[ee] at hx;cases e with
    | true=>exact hx
    | false=>exact hx
  · have:j=0:=by omega
    subst this;have T:=t89 n O U Z V J H b0 b1 c;rw[i0,l0,s1] at T;refine aA T (dT n 1) (ah _ _) (aj _ _) ?_;refine Tr.ae (fun h0=>?_) wJ;refine Tr.ab wG (Tr.ab wG (Tr.ab (by simp (disch:=omega) only[nV,nW];rw[xo];exact Nat.zero_lt_one) (Tr.ae (fun q=>Tr.ag ?_) (fun q=>Tr.ae (fun r=>Tr.ag ?_) (fun r=>Tr.ag ?_)))))
    · rw[bD] at q;have q:decide (c<0)=true:=q;rw[if_pos (by rw[← he,q];rfl)];rfl
    · rw[bk] at r;have r:decide ((U:Int)≤c)=true:=r;rw[if_pos (by rw[← he,r];simp)];rfl
    · rw[bD] at q;rw[bk] at r;have q:decide (c<0)=false:=q;have r:decide ((U:Int)≤c)=false:=r;rw[if_neg (by rw[← he,q,r];decide)];exact ⟨rfl,rfl⟩
  · obtain ⟨x,h1,rfl⟩:=aA (Q:=fun x=>x=(.exit 0,xb (ofNat 1)++[(9,.bool false)],ao::ao::bU O U Z V J::mL b0 b1 c::H)) (TN n O U Z V J H b0 b1 c) (dT n 1) (ah _ _) (aj _ _) (by
     refine Tr.ae wJ (fun h0=>Tr.ag rfl))
    exact h1
 have h89:cd (n+2) (.fn 89) [x6 2,lY 1] (ao::bU O U Z V J::mL b0 b1 c::H)=some (.int .i64 (cond (decide (c<0) || decide ((U:Int)≤c)) 0 (-1)),ao::bU O U Z V J::mL b0 b1 c::H):=by
  refine bp (n:=n+1) Tryd.func89 rfl rfl rfl (YW (n+1) (decide (c<0) || decide ((U:Int)≤c)) (ao::bU O U Z V J::mL b0 b1 c::H)) (aw _) (aU (ah _ _) Vh (fun x h=>cK h (hp _ rfl))) (aj _ _) ?_;refine Tr.ak ⟨rfl,rfl⟩ (Tr.ae (fun q=>Tr.ag ⟨?_,rfl⟩) (fun q=>Tr.ag ⟨?_,rfl⟩))
  · rw[q];rfl
  · rw[q];rfl
 refine bp (n:=n+2) Tryd.func67 rfl rfl rfl (YF (n+2) (cond (decide (c<0) || decide ((U:Int)≤c)) 0 (-1)) (bU O U Z V J::mL b0 b1 c::H)) (bw _ _ (bN (aR _) (fun x hy=>by rw[← Tr.af hy];exact h89))) (ah _ _) (aj _ _) ?_;refine Tr.ak ⟨rfl,rfl⟩ (Tr.ag ⟨?_,rfl⟩);rw[bk];cases (decide (c<0) || decide ((U:Int)≤c))<;>rfl
noncomputable def uT (c:Int):AV:=if jG O U Z V J c=0 then .tup [KU O U Z V J,.int .i64 0] else .tup [.nilp,.int .i64 (jG O U Z V J c)]
theorem Q9 (b0 b1:Nat×al) (c:Int) (hl:U≤1000) (hb:V≤1000):cd (n+12) (.fn 49) [bt O U Z V J,x6 0] (mL b0 b1 c::H)=some (uT O U Z V J c,mL b0 b1 c::H):=by
 have h22:=fun H=>Q6 n O U Z V J H hl hb;have h67:cd (n+11) (.fn 67) [x6 1,lY 0] (bU O U Z V J::mL b0 b1 c::H)=_:=Rb (n+8) O U Z V J H b0 b1 c hl;have ht:(kX (mc (tX aC 22 [bt O U Z V J] (.int .i64 (dm O U Z V J))) 62 (fun x=>some (x=[bt O U Z V J]∧dm O U Z V J=0,shV O U Z V J (bR O U Z) (gv V J)))) 67 [x6 1,lY 0] (bU O U Z V J::mL b0 b1 c::H) (.ok (.bool (decide (c<0) || decide ((U:Int)≤c)),bU O U Z V J::mL b0 b1 c::H))).Ok (cd (n+11)) :=
  bN (yD (bW (aR _) h22) (fun A H hA=>by
   obtain ⟨rfl,h0⟩:=hA;obtain ⟨h1,h2,h3,h4,h5,_⟩:=kr h0;exact QF (n+4) O U Z V J H h1.2 hb h3 h4 h5)) (fun x hy=>by rw[← Tr.af hy];exact h67)
 refine bp (n:=n+11) Tryd.func49 rfl rfl rfl (Yz (n+11) O U Z V J (bR O U Z) (gv V J) (mL b0 b1 c::H) (dm O U Z V J) (decide (c<0) || decide ((U:Int)≤c)) (fun x=>x=[bt O U Z V J]∧dm O U Z V J=0)) (bw _ _ ht) (ah _ _) (aj _ _) ?_;refine Tr.ak rfl (Tr.ae (fun q=>Tr.ag ⟨?_,rfl⟩) (fun q=>Tr.ak ⟨rfl,rfl⟩ (Tr.ae (fun r=>Tr.ag ⟨?_,rfl⟩) (fun r=>Tr.ak ⟨rfl,?_⟩ (Tr.ag ⟨?_,rfl⟩)))))
 · rw[av,aQ] at q;have h:¬ dm O U Z V J=0:=by simpa using q
   have e:jG O U Z V J c=dm O U Z V J:=by unfold jG;rw[if_neg h]
   unfold uT;rw[e,if_neg h]
 all_goals rw[av,aQ] at q
 all_goals have h:dm O U Z V J=0:=by simpa using q
 · rw[Bool.or_eq_true,decide_eq_true_iff,decide_eq_true_iff] at r;have e:jG O U Z V J c=2:=by unfold jG;rw[if_pos h,if_pos r]
   unfold uT;rw[e];rfl
 · exact h
 · rw[Bool.or_eq_false_iff,decide_eq_false_iff_not,decide_eq_false_iff_not] at r;have e:jG O U Z V J c=0:=by unfold jG;rw[if_pos h,if_neg wO]
   unfold uT;rw[e,if_pos rfl];rfl
def NZ (c p:Int):Int×Int×Int:=if jG O U Z V J c=0 then (if p<0∨(U:Int)≤p then (0,0,3) else (Z (c.toNat*4)-p*O,Z (c.toNat*4+1)-p*O,0)) else (0,0,jG O U Z V J c)
def N1 (c:Int):Int×Int×Int:=if jG O U Z V J c=0 then (if bR O U Z (2*c.toNat+1)<bR O U Z (2*c.toNat) then (0,0,21) else (bR O U Z (2*c.toNat),bR O U Z (2*c.toNat+1),0)) else (0,0,jG O U Z V J c)
def NP (c:Int):Int×Int×Int:=if jG O U Z V J c=0 then (if eU U (fun c=>dq J c V) (bR O U Z) (2*c.toNat+1)<eU U (fun c=>dq J c V) (bR O U Z) (2*c.toNat) then (0,0,21) else (eU U (fun c=>dq J c V) (bR O U Z) (2*c.toNat),eU U (fun c=>dq J c V) (bR O U Z) (2*c.toNat+1),0)) else (0,0,jG O U Z V J c)
noncomputable def rX (x:Int×Int×Int):AV:=rT x.1 x.2.1 x.2.2
theorem vh {k:Nat} (hk:12≤k) (b0 b1:Nat×al) (c:Int) (hl:U≤1000) (hb:V≤1000):cd k (.fn 49) [bt O U Z V J,x6 0] (mL b0 b1 c::H)=some (uT O U Z V J c,mL b0 b1 c::H):=by
 obtain ⟨m,rfl⟩:∃ m,k=m+12:=⟨k-12,by omega⟩
 exact Q9 m O U Z V J H b0 b1 c hl hb
theorem VV (c p:Int) (hl:U≤1000) (hb:V≤1000) (hp:-9223372036854775808≤p∧p≤9223372036854775807):cd (n+14) (.fn 16) [bt O U Z V J,.int .i64 c,.int .i64 p] H=some (rX (NZ O U Z V J c p),H):=by
 by_cases h0:jG O U Z V J c=0
 · obtain ⟨h1,h2,h3⟩:=Gc h0;obtain ⟨k1,k2,k3,k4,k5,_⟩:=kr h1;obtain ⟨v1,v2,v3,v4,v5,v6⟩:=H5 k4 (show c.toNat<U by omega);have e:NZ O U Z V J c p=if p<0∨(U:Int)≤p then (0,0,3) else (Z (c.toNat*4)-p*O,Z (c.toNat*4+1)-p*O,0):=by unfold NZ;rw[if_pos h0]
   rw[e];have eo:uT O U Z V J c=.tup [shV O U Z V J (bR O U Z) (gv V J),.int .i64 (ofNat 0)]:=by unfold uT;rw[if_pos h0];rfl
   have ei:aq 0 c 4=c.toNat*4:=by rw[bo];omega
   refine bp (n:=n+13) Tryd.func16 rfl rfl rfl (u16 (n+12) O U Z V J H c p (bR O U Z) (gv V J)) (gx _ (n+12) 1 (fun q=>bN (aR _) (fun x hy=>by rw[← Tr.af hy,← eo];exact vh O U Z V J H wO _ _ c hl hb))) (ah _ _) (aj _ _) ?_;refine Tr.ak ⟨rfl,rfl⟩ (Tr.ae (fun q=>by simp[av,aQ] at q) (fun q=>Tr.ae (fun r=>Tr.ag ⟨?_,rfl⟩) (fun r=>Tr.ae (fun s=>Tr.ag ⟨?_,rfl⟩) (fun s=>?_))))
   · rw[bD,decide_eq_true_iff] at r;rw[if_pos (.inl r)];rfl
   · rw[bk,decide_eq_true_iff] at s;rw[if_pos (.inr s)];rfl
   · rw[bD,decide_eq_false_iff_not] at r;rw[bk,decide_eq_false_iff_not] at s;have r:¬ p<0:=r;have s:¬ (U:Int)≤p:=s;have hm0:0≤p*O:=Int.mul_nonneg wO wO;have hm1:p*O≤10*100:=Int.mul_le_mul wO wO wO wO;have em:ly .i64 p O=p*O:=by rw[lz];exact iB wO wO
     rw[if_neg wO,ei,aH,em,Fc wO wO,Fc wO wO];exact Tr.ab wG (Tr.ab wG (Tr.ab wG (Tr.ab wG (Tr.ag ⟨rfl,rfl⟩))))
 · have e:NZ O U Z V J c p=(0,0,jG O U Z V J c):=by unfold NZ;rw[if_neg h0]
   rw[e];have eo:uT O U Z V J c=.tup [.nilp,.int .i64 (jG O U Z V J c)]:=by unfold uT;rw[if_neg h0]
   refine bp (n:=n+13) Tryd.func16 rfl rfl rfl (TU (n+12) O U Z V J H c p (jG O U Z V J c)) (gx _ (n+12) 1 (fun q=>bN (aR _) (fun x hy=>by rw[← Tr.af hy,← eo];exact vh O U Z V J H wO _ _ c hl hb))) (ah _ _) (aj _ _) ?_;refine Tr.ak ⟨rfl,rfl⟩ (Tr.ae (fun q=>Tr.ag ⟨rfl,rfl⟩) (fun q=>?_));rw[av,aQ] at q;exact absurd (by simpa using q) h0
theorem VW (c:Int) (hl:U≤1000) (hb:V≤1000):cd (n+14) (.fn 18) [bt O U Z V J,.int .i64 c] H=some (rX (N1 O U Z V J c),H):=by
 by_cases h0:jG O U Z V J c=0
 · obtain ⟨h1,h2,h3⟩:=Gc h0;obtain ⟨k1,k2,k3,k4,k5,_⟩:=kr h1;have e:N1 O U Z V J c=if bR O U Z (2*c.toNat+1)<bR O U Z (2*c.toNat) then (0,0,21) else (bR O U Z (2*c.toNat),bR O U Z (2*c.toNat+1),0):=by unfold N1;rw[if_pos h0]
   rw[e];have eo:uT O U Z V J c=.tup [shV O U Z V J (bR O U Z) (gv V J),.int .i64 (ofNat 0)]:=by unfold uT;rw[if_pos h0];rfl
   have es:bQ (aq 3 c 2) 3=2*c.toNat:=by rw[bo,cw];omega
   have es1:bQ (au (aq 3 c 2) 1) 3=2*c.toNat+1:=by rw[bo,aH,cw];omega
   refine bp (n:=n+13) Tryd.func18 rfl rfl rfl (Yr (n+12) O U Z V J H c (bR O U Z) (gv V J)) (gx _ (n+12) 1 (fun q=>bN (aR _) (fun x hy=>by rw[← Tr.af hy,← eo];exact vh O U Z V J H wO _ _ c hl hb))) (ah _ _) (aj _ _) ?_;rw[es,es1];refine Tr.ak ⟨rfl,rfl⟩ (Tr.ae (fun q=>by simp[av,aQ] at q) (fun q=>Tr.ab wG (Tr.ab wG (Tr.ab wG (Tr.ae (fun r=>Tr.ag ⟨?_,rfl⟩) (fun r=>Tr.ag ⟨?_,rfl⟩))))))
   · rw[bD,decide_eq_true_iff] at r;rw[if_pos r];rfl
   · rw[bD,decide_eq_false_iff_not] at r;rw[if_neg r];rfl
 · have e:N1 O U Z V J c=(0,0,jG O U Z V J c):=by unfold N1;rw[if_neg h0]
   rw[e];have eo:uT O U Z V J c=.tup [.nilp,.int .i64 (jG O U Z V J c)]:=by unfold uT;rw[if_neg h0]
   refine bp (n:=n+13) Tryd.func18 rfl rfl rfl (TV (n+12) O U Z V J H c (jG O U Z V J c)) (gx _ (n+12) 1 (fun q=>bN (aR _) (fun x hy=>by rw[← Tr.af hy,← eo];exact vh O U Z V J H wO _ _ c hl hb))) (ah _ _) (aj _ _) ?_;refine Tr.ak ⟨rfl,rfl⟩ (Tr.ae (fun q=>Tr.ag ⟨rfl,rfl⟩) (fun q=>?_));rw[av,aQ] at q;exact absurd (by simpa using q) h0
theorem VX (c:Int) (hl:U≤1000) (hb:V≤1000):cd (n+14) (.fn 20) [bt O U Z V J,.int .i64 c] H=some (rX (NP O U Z V J c),H):=by
 by_cases h0:jG O U Z V J c=0
 · obtain ⟨h1,h2,h3⟩:=Gc h0;obtain ⟨k1,k2,k3,k4,k5,k6⟩:=kr h1;have hS:=Ca O U Z V J k1.2 k3 k4 k5 k6;have e:NP O U Z V J c=if eU U (fun c=>dq J c V) (bR O U Z) (2*c.toNat+1)<eU U (fun c=>dq J c V) (bR O U Z) (2*c.toNat) then (0,0,21) else (eU U (fun c=>dq J c V) (bR O U Z) (2*c.toNat),eU U (fun c=>dq J c V) (bR O U Z) (2*c.toNat+1),0):=by unfold NP;rw[if_pos h0]
   rw[e];have eo:uT O U Z V J c=.tup [shV O U Z V J (bR O U Z) (gv V J),.int .i64 (ofNat 0)]:=by unfold uT;rw[if_pos h0];rfl
   have es:aq 0 c 2=2*c.toNat:=by rw[bo];omega
   refine bp (n:=n+13) Tryd.func20 rfl rfl rfl (Ys (n+12) O U Z V J H c (bR O U Z) (gv V J) (eU U (fun c=>dq J c V) (bR O U Z))) (gx _ (n+12) 1 (fun q=>bN (bW (aR _) (fun H=>by
    rw[show n+12+q=n+10+q+2 by omega];exact Vk (n+10+q) O U Z V J (bR O U Z) (fun c=>dq J c V) H hS)) (fun x hy=>by rw[← Tr.af hy,← eo];exact vh O U Z V J H wO _ _ c hl hb))) (ah _ _) (aj _ _) ?_
   rw[es,aH];refine Tr.ak ⟨rfl,rfl⟩ (Tr.ae (fun q=>by simp[av,aQ] at q) (fun q=>Tr.ak rfl (Tr.ab wG (Tr.ab wG (Tr.ab wG (Tr.ae (fun r=>Tr.ag ⟨?_,rfl⟩) (fun r=>Tr.ag ⟨?_,rfl⟩)))))))
   · rw[bD,decide_eq_true_iff] at r;rw[if_pos r];rfl
   · rw[bD,decide_eq_false_iff_not] at r;rw[if_neg r];rfl
 · have e:NP O U Z V J c=(0,0,jG O U Z V J c):=by unfold NP;rw[if_neg h0]
   rw[e];have eo:uT O U Z V J c=.tup [.nilp,.int .i64 (jG O U Z V J c)]:=by unfold uT;rw[if_neg h0]
   refine bp (n:=n+13) Tryd.func20 rfl rfl rfl (TW (n+12) O U Z V J H c (jG O U Z V J c)) (gx _ (n+12) 1 (fun q=>bN (aR _) (fun x hy=>by rw[← Tr.af hy,← eo];exact vh O U Z V J H wO _ _ c hl hb))) (ah _ _) (aj _ _) ?_;refine Tr.ak ⟨rfl,rfl⟩ (Tr.ae (fun q=>Tr.ag ⟨rfl,rfl⟩) (fun q=>?_));rw[av,aQ] at q;exact absurd (by simpa using q) h0
end
end Go.Eng
end
section
namespace Go.Eng
open Int (ofNat)
open Go.Proofs Go.Eng.Gall
theorem Ob:∀ b,(0,b) ∈ aI (aW Tryd.f39)→b=.loop (part Tryd.f39 [1,1,1,1,0,1,0,0]):=dJ (by kernel_rfl)
theorem QW:∀ b,(2,b) ∈ aI (aW Tryd.f39)→b=.loop (part Tryd.f39 [1,1,1,1,1,1,0,1,0,0]):=dJ (by kernel_rfl)
theorem QX:∀ b,(4,b) ∈ aI (aW Tryd.f39)→b=.loop (part Tryd.f39 [1,1,1,1,1,1,1,1,0,1,0,0]):=dJ (by kernel_rfl)
section
variable (n:Nat) (O:Int) (U:Nat) (Z:Nat→Int) (V:Nat) (J:Nat→Int) (H:aa)
theorem Oj (hb:V≤1000) (h0:dm O U Z V J=0):cd (n+14) (.fn 49) [bt O U Z V J,.nils] H=some (.tup [KU O U Z V J,.int .i64 (ofNat 0)],H):=by
 obtain ⟨h1,h2,h3,h4,h5,_⟩:=kr h0;refine bp (n:=n+13) Tryd.func49 rfl rfl rfl (T6 (n+11) O U Z V J (bR O U Z) (gv V J) H (fun x=>x=[bt O U Z V J])) (gx _ (n+11) 2 (fun q=>yD (bW (aR _) (fun H=>by
  rw[show n+11+q=n+q+11 by omega];have:=Q6 (n+q) O U Z V J H wO hb;rw[h0] at this;exact this)) (fun A H hA=>by
   subst hA;rw[show n+11+q=n+q+4+7 by omega];exact QF (n+q+4) O U Z V J H h1.2 hb h3 h4 h5))) (ah _ _) (aj _ _) ?_
 refine Tr.ak rfl (Tr.ae (fun q=>by simp[av,aQ] at q) (fun q=>Tr.ak rfl (Tr.ag ⟨rfl,rfl⟩)))
variable (W B:Nat→Int)
theorem Vm (c p:Int) (hc:0≤c∧c<10):cd (n+1) (.fn 71) [shV O U Z V J W B,.int .i64 c,.int .i64 p] H=some (.bool (oT W c p),H):=by
 have T:=YG n O U Z V J W B H c p;have es:bQ (aq 3 c 2) 3=2*c.toNat:=by rw[bo,cw];omega
 have es1:bQ (au (aq 3 c 2) 1) 3=2*c.toNat+1:=by rw[bo,aH,cw];omega
 rw[es,es1] at T;refine bp (n:=n) Tryd.func71 rfl rfl rfl T (aw n) (ah _ _) (aj _ _) ?_;refine Tr.ab wG (Tr.ab wG (Tr.ab wG (Tr.ae (fun q=>Tr.ag ⟨?_,rfl⟩) (fun q=>Tr.ag ⟨?_,rfl⟩))));all_goals rw[bk] at q
 all_goals unfold oT
 · rw[q,bk,Bool.true_and]
 · rw[q,Bool.false_and]
end
section
variable (n:Nat) (r:Row) (G:aa) (m:Nat) (z S:Nat→Int) (R:Row)
theorem Sc (hm:m≤1000):exec (bJ n 39 76) (.block 0 (.loop (part Tryd.f39 [1,1,1,1,0,1,0,0]))) (vc m z S R (ofNat 0)) (⟨false,[(0,.row r)]⟩::G)=some (cond (dk (fun j=>!decide (S j=(j:Int))) m) (.ret,[(4,.int .i64 (ofNat 15))],⟨false,[(0,.row r)]⟩::G) (.normal,vc m z S R (ofNat m)++[(29,.bool false)],⟨false,[(0,.row r)]⟩::G)):=by
 refine ff (n:=n) (f:=39) (nt:=76) (c:=part Tryd.f39 [1,1,1,1,0,1,0,0]) 0 (fun j=>vc m z S R (j:Int)) (fun _=>⟨false,[(0,.row r)]⟩::G) m (fun j=>!decide (S j=(j:Int))) (fun _=>([(4,.int .i64 (ofNat 15))],⟨false,[(0,.row r)]⟩::G)) (vc m z S R (ofNat m)++[(29,.bool false)],⟨false,[(0,.row r)]⟩::G) wO (fun j hj=>?_) ?_
 · have T:=PZ n r G m z S R (j:Int);rw[uP,dO wO] at T;refine aA T (aw n) (ah _ _) (aj _ _) ?_;refine Tr.ae (fun h0=>?_) wJ;refine Tr.ab wG (Tr.ab wG (Tr.ae (fun q=>Tr.ag ?_) (fun q=>Tr.ag ?_)));all_goals rw[av,aQ] at q
   · rw[if_pos (by simpa using q)];rfl
   · rw[if_neg (by simpa using q)];exact ⟨rfl,rfl⟩
 · obtain ⟨x,h1,rfl⟩:=aA (Q:=fun x=>x=(.exit 0,vc m z S R (ofNat m)++[(29,.bool false)],⟨false,[(0,.row r)]⟩::G)) (PZ n r G m z S R (ofNat m)) (aw n) (ah _ _) (aj _ _) (by
    refine Tr.ae wJ (fun h0=>Tr.ag rfl))
   exact h1
theorem Sd (hm:m≤1000) (s:Int→Nat→Bool) (h71:∀ j,j<m→∀ H,cd n (.fn 71) [.ptrT none R 0,.int .i64 (z j),.int .i64 (j:Int)] H=some (.bool (s (z j) j),H)):exec (bJ n 39 76) (.block 2 (.loop (part Tryd.f39 [1,1,1,1,1,1,0,1,0,0]))) (wW m z R (ofNat 0)) (⟨false,[(0,.row r)]⟩::G)=some (cond (dk (fun j=>!s (z j) j) m) (.ret,[(4,.int .i64 (ofNat 21))],⟨false,[(0,.row r)]⟩::G) (.normal,wW m z R (ofNat m)++[(46,.bool false)],⟨false,[(0,.row r)]⟩::G)):=by
 refine ff (n:=n) (f:=39) (nt:=76) (c:=part Tryd.f39 [1,1,1,1,1,1,0,1,0,0]) 2 (fun j=>wW m z R (j:Int)) (fun _=>⟨false,[(0,.row r)]⟩::G) m (fun j=>!s (z j) j) (fun _=>([(4,.int .i64 (ofNat 21))],⟨false,[(0,.row r)]⟩::G)) (wW m z R (ofNat m)++[(46,.bool false)],⟨false,[(0,.row r)]⟩::G) wO (fun j hj=>?_) ?_
 · have T:=TE n r G m z R (j:Int) (z j) (s (z j) j);rw[uP,dO wO] at T;refine aA T (bw _ _ (bW (aR _) (h71 j hj))) (ah _ _) (aj _ _) ?_;refine Tr.ae (fun h0=>?_) wJ;refine Tr.ab wG (Tr.ab wG (Tr.ak rfl (Tr.ae (fun q=>Tr.ag ?_) (fun q=>Tr.ag ?_))));all_goals rw[av] at q
   · rw[if_pos q];rfl
   · rw[if_neg (by rw[q];decide)];exact ⟨rfl,rfl⟩
 · obtain ⟨x,h1,rfl⟩:=aA (Q:=fun x=>x=(.exit 2,wW m z R (ofNat m)++[(46,.bool false)],⟨false,[(0,.row r)]⟩::G)) (P0 n r G m z R (ofNat m)) (aw n) (ah _ _) (aj _ _) (by
    refine Tr.ae wJ (fun h0=>Tr.ag rfl))
   exact h1
end
section
variable (n:Nat) (O:Int) (U:Nat) (Z:Nat→Int) (V:Nat) (J:Nat→Int) (W B:Nat→Int) (r:Row) (G:aa) (m:Nat) (z:Nat→Int)
theorem Jz {m:Nat} {z:Nat→Int} (hl:U≤10) (hm:zG z U m=true) {j:Nat} (hj:j<m):sf .u64 (mask (l9 z j):Int) (eC .u64 (ofNat 1) (z j))=(mask (l9 z (j+1)):Int):=by
 obtain ⟨h1,h2⟩:=gk.1 hm;have hc:=(h2 j hj).1;have hn:=qM hm j wO;have hlt:mask (l9 z j)<2 ^ U:=nk hn fun x hx=>by
  obtain ⟨i,hi,rfl⟩:=jQ.1 hx;have:=(h2 i wO).1;omega
 have hlt:mask (l9 z j)<2 ^ 10:=Nat.lt_of_lt_of_le hlt (Nat.pow_le_pow_right wO hl);have hno:(mask (l9 z j)).testBit (z j).toNat=false:=by
  rw[cV hn];refine decide_eq_false fun hx=>?_;obtain ⟨i,hi,he⟩:=jQ.1 hx;have:=(h2 i wO).1;exact (h2 j hj).2 i hi wO
 have h2p:2 ^ (z j).toNat≤2 ^ 9:=Nat.pow_le_pow_right wO wO;rw[show z j=((z j).toNat:Int) by omega,B9 wO,QP wO wO,JO,mP,Hc hno]
theorem Se (hl:U≤10) (hm:zG z U m=true):exec (bJ n 39 76) (.block 4 (.loop (part Tryd.f39 [1,1,1,1,1,1,1,1,0,1,0,0]))) (yt m z (shR O U Z V J W B) (ofNat 0) (ofNat 0)) (⟨false,[(0,.row r)]⟩::G)=some (cond (dk (KF B z) m) (.ret,[(4,.int .i64 (ofNat 16))],⟨false,[(0,.row r)]⟩::G) (.normal,yt m z (shR O U Z V J W B) (mask (l9 z m):Int) (ofNat m)++[(59,.bool false)],⟨false,[(0,.row r)]⟩::G)):=by
 obtain ⟨h1,h2⟩:=gk.1 hm;refine ff (n:=n) (f:=39) (nt:=76) (c:=part Tryd.f39 [1,1,1,1,1,1,1,1,0,1,0,0]) 4 (fun j=>yt m z (shR O U Z V J W B) (mask (l9 z j):Int) (j:Int)) (fun _=>⟨false,[(0,.row r)]⟩::G) m (KF B z) (fun _=>([(4,.int .i64 (ofNat 16))],⟨false,[(0,.row r)]⟩::G)) (yt m z (shR O U Z V J W B) (mask (l9 z m):Int) (ofNat m)++[(59,.bool false)],⟨false,[(0,.row r)]⟩::G) wO (fun j hj=>?_) ?_
 · have hc:=(h2 j hj).1;have T:=P1 n O U Z V J W B r G m z (mask (l9 z j):Int) (j:Int);rw[uP,dO wO,Jz U hl hm hj,show bQ (aq 23 (z j) 1) 23=(z j).toNat by rw[bo,cw];omega] at T;refine aA T (aw n) (ah _ _) (aj _ _) ?_;refine Tr.ae (fun h0=>?_) wJ;refine Tr.ab wG (Tr.ab wG (Tr.ab wG (Tr.ab wG (Tr.ae (fun q=>Tr.ag ?_) (fun q=>Tr.ab wG (Tr.ag ?_))))));all_goals rw[av] at q
   · rw[if_pos (show KF B z j=true from q)];rfl
   · rw[if_neg (by rw[show KF B z j=false from q];decide)];exact ⟨rfl,rfl⟩
 · obtain ⟨x,h1,rfl⟩:=aA (Q:=fun x=>x=(.exit 4,yt m z (shR O U Z V J W B) (mask (l9 z m):Int) (ofNat m)++[(59,.bool false)],⟨false,[(0,.row r)]⟩::G)) (P1 n O U Z V J W B r G m z (mask (l9 z m):Int) (ofNat m)) (aw n) (ah _ _) (aj _ _) (by
    refine Tr.ae wJ (fun h0=>Tr.ag rfl))
   exact h1
theorem Vj (H:aa) (hb:V≤1000) (h0:dm O U Z V J=0) (hm:m≤1000):cd (n+15) (.fn 39) [bt O U Z V J,aP m z false] H=some (.int .i64 (uY U (bR O U Z) V J m z),H):=by
 obtain ⟨h1,h2,h3,h4,h5,_⟩:=kr h0;have vh:=fun H=>Oj n O U Z V J H hb h0;have h76:=fun H=>V7 (n+13) m z H;have h75:=fun H=>V6 (n+3) 0 m z H hm;have hsp:=HM (z:=z) (U:=U) (m:=m);unfold uY;rcases Nat.eq_zero_or_pos m with hz | hz
 · subst hz;have e0:Nu z 0=.nils:=by
    have h:gr (kf z 0)=[]:=List.eq_nil_of_length_eq_zero (by rw[lL,iW]);unfold Nu;rw[h];rfl
   rw[e0] at h75;have hp:¬ zG z U 0=true:=fun h=>by have:=(gk.1 h).1;omega
   rw[if_neg hp];refine bp (n:=n+14) Tryd.func39 rfl rfl rfl (Tz (n+14) O U Z V J H 0 z z (shR O U Z V J (bR O U Z) (gv V J))) (bw _ _ (bW (bW (bW (aR _) vh) h76) h75)) (b9 (b9 (ah _ _) 2) 4) (aj _ _) ?_;refine Tr.ak rfl (Tr.ae (fun q=>by simp[av,aQ] at q) (fun q=>Tr.ak rfl (Tr.ak rfl (Tr.ae (fun q=>Tr.ag ⟨rfl,rfl⟩) (fun q=>?_)))));rw[av,aQ] at q;have:(0:Int)=U:=by simpa using q
   omega
 · obtain ⟨k,rfl⟩:∃ k,m=k+1:=⟨m-1,by omega⟩
   have e:Nu z (k+1)=aP (k+1) (az (gr (kf z (k+1)))) false:=Kr _ k (by rw[lL,iW]);rw[e] at h75;generalize hM:k+1=M at *;have hM1000:M≤1000:=hm;have hla:=Sc (n+14) (.G [.int .i64 O,slA 4 U Z,slA 2 V J]) H M z (az (gr (kf z M))) (shR O U Z V J (bR O U Z) (gv V J)) hm;by_cases hp:zG z U M=true
   · rw[if_pos hp];obtain ⟨p1,p2⟩:=gk.1 hp;obtain ⟨q1,q2⟩:=hsp.2 hp;have hlb:=Sd (n+14) (.G [.int .i64 O,slA 4 U Z,slA 2 V J]) H M z (shR O U Z V J (bR O U Z) (gv V J)) hm (fun c j=>oT (bR O U Z) c j) (fun j hj H=>Vm (n+13) O U Z V J H (bR O U Z) (gv V J) (z j) j (by have:=(p2 j hj).1;omega));have hlc:=Se (n+14) O U Z V J (bR O U Z) (gv V J) (.G [.int .i64 O,slA 4 U Z,slA 2 V J]) H M z h1.2 hp;refine bp (n:=n+14) Tryd.func39 rfl rfl rfl (Yw (n+14) O U Z V J H M z (az (gr (kf z M))) (shR O U Z V J (bR O U Z) (gv V J)) (dk (fun j=>!decide (az (gr (kf z M)) j=(j:Int))) M) (dk (fun j=>!oT (bR O U Z) (z j) j) M) (dk (KF (gv V J) z) M) (mask (l9 z M):Int)) (bw _ _ (bW (bW (bW (aR _) vh) h76) h75)) (aU (aU (aU (ah _ _) Ob (fun x hx=>cK hx hla)) QW (fun x hx=>cK hx hlb)) QX (fun x hx=>cK hx hlc)) (aj _ _) ?_;rw[q1,Pa h5 (DG h0) h1.2 hp];refine Tr.ak rfl (Tr.ae (fun q=>by simp[av,aQ] at q) (fun q=>Tr.ak rfl (Tr.ak rfl (Tr.ak ⟨rfl,rfl⟩ (Tr.ae (fun q=>by cases q) (fun _=>Tr.ae (fun q=>?_) (fun _=>Tr.ak ⟨rfl,rfl⟩ (Tr.ae (fun q=>Tr.ag ⟨?_,rfl⟩) (fun q=>Tr.ak ⟨rfl,rfl⟩ (Tr.ae (fun q2=>Tr.ag ⟨?_,rfl⟩) (fun q2=>Tr.ag ⟨?_,rfl⟩)))))))))))
     · rw[av,aQ] at q;have:¬ (M:Int)=U:=by simpa using q
       omega
     · rw[if_pos q];rfl
     · rw[if_neg (by rw[q];decide),if_pos q2];rfl
     · rw[if_neg (by rw[q];decide),if_neg (by rw[q2];decide)];rfl
   · rw[if_neg hp];refine bp (n:=n+14) Tryd.func39 rfl rfl rfl (T4 (n+14) O U Z V J H M z (az (gr (kf z M))) (shR O U Z V J (bR O U Z) (gv V J)) (dk (fun j=>!decide (az (gr (kf z M)) j=(j:Int))) M)) (bw _ _ (bW (bW (bW (aR _) vh) h76) h75)) (b9 (b9 (aU (ah _ _) Ob (fun x hx=>cK hx hla)) 2) 4) (aj _ _) ?_;refine Tr.ak rfl (Tr.ae (fun q=>by simp[av,aQ] at q) (fun q=>Tr.ak rfl (Tr.ak rfl (Tr.ak ⟨rfl,rfl⟩ (Tr.ae (fun q=>Tr.ag ⟨rfl,rfl⟩) (fun q3=>Tr.ae (fun q=>Tr.ag ⟨rfl,rfl⟩) (fun q=>?_)))))));rw[av,aQ] at q;have:(M:Int)=U:=by simpa using q
     exact absurd (hsp.1 ⟨q3,by omega⟩) hp
end
end Go.Eng
end
