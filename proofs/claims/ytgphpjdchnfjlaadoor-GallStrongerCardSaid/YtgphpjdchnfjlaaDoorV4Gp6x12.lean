/- Gall: orders of colours; which are right (plain law). -/
import Derived.Test.YtgphpjdchnfjlaaDoorV4Gahx6
import Derived.Test.YtgphpjdchnfjlaaDoorV4Ga8x4
set_option linter.unusedVariables false
set_option linter.unusedSimpArgs false
set_option maxRecDepth 100000
section
namespace Go.Eng
open Go.Proofs Go.Eng.Gall
def Gt (z:Nat→Int) (lc m:Nat):Bool:=decide (m=lc) && !dx (fun i=>!(decide (0≤z i) && decide (z i<lc)) || dx (fun j=>decide (z j=z i)) i) m
theorem sh {p:Nat→Bool} {k:Nat}:dx p k=false↔∀ j,j<k→p j=false:=⟨oP,wa⟩
theorem mr {z:Nat→Int} {lc m:Nat}:Gt z lc m=true↔m=lc∧∀ i,i<m→(0≤z i∧z i<lc)∧∀ j,j<i→z j≠z i:=by
 unfold Gt;rw[Bool.and_eq_true,decide_eq_true_iff,Bool.not_eq_true',sh];constructor
 · rintro ⟨h1,h2⟩;refine ⟨h1,fun i hi=>?_⟩;have:=h2 i hi;rw[Bool.or_eq_false_iff,sh,Bool.not_eq_false',Bool.and_eq_true,decide_eq_true_iff,decide_eq_true_iff] at this;exact ⟨this.1,fun j hj=>by simpa using this.2 j hj⟩
 · rintro ⟨h1,h2⟩;refine ⟨h1,fun i hi=>?_⟩;obtain ⟨h3,h4⟩:=h2 i hi;rw[Bool.or_eq_false_iff,sh,Bool.not_eq_false',Bool.and_eq_true,decide_eq_true_iff,decide_eq_true_iff];exact ⟨h3,fun j hj=>by simpa using h4 j hj⟩
theorem Bn {z:Nat→Int} {m:Nat} {x:Int}:x ∈ jX z m↔∃ i,i<m∧z i=x:=by simp[jX]
theorem yW {z:Nat→Int} {m:Nat}:(jX z m).Nodup↔∀ i,i<m→∀ j,j<i→z j≠z i:=by
 unfold jX;rw[List.Nodup,List.pairwise_map,List.pairwise_iff_getElem];simp only[List.length_range,List.getElem_range];constructor
 · intro h i hi j hj;exact h j i (by omega) hi hj
 · intro h j i hj hi hji;exact h i hi j hji
theorem zd (L:List Int):(ga L).Perm L:=List.mergeSort_perm _ _
theorem MD (L:List Int):(ga L).Pairwise (·≤·):=by
 have:=List.pairwise_mergeSort (le:=fun x y:Int=>decide (x≤y)) (by intro a b c h1 h2;simp at *;omega) (by intro a b;simp;omega) L;refine this.imp (fun h=>?_);simpa using h
theorem FQ {m:Nat} {f:Nat→Int} (h0:∀ j,j<m→0≤f j) (hs:∀ i j,i<j→j<m→f i<f j):∀ j,j<m→(j:Int)≤f j
 | 0,h=>h0 0 h
 | j+1,h=>by
   have h1:=FQ h0 hs j (by omega);have h2:=hs j (j+1) (by omega) h;omega
theorem inc_le {m:Nat} {f:Nat→Int} (h0:∀ j,j<m→f j<m) (hs:∀ i j,i<j→j<m→f i<f j):∀ t j,j+t+1=m→f j≤j
 | 0,j,h=>by have:=h0 j (by omega);omega
 | t+1,j,h=>by
   have h1:=inc_le h0 hs t (j+1) (by omega);have h2:=hs j (j+1) (by omega) (by omega);omega
theorem GV {z:Nat→Int} {lc m:Nat}:(dx (fun j=>!decide (az (ga (jX z m)) j=(j:Int))) m=false∧m=lc)↔Gt z lc m=true:=by
 have hl:(ga (jX z m)).length=m:=by rw[lr,iG]
 have hp:=zd (jX z m);have hs:=MD (jX z m);rw[mr,sh];generalize ga (jX z m)=L at *;constructor
 · rintro ⟨h1,h2⟩;have he:∀ j,(hj:j<L.length)→L[j]=(j:Int):=fun j hj=>by
    have:=h1 j (by omega);rw[Bool.not_eq_false',decide_eq_true_iff,sM L j hj] at this;exact this
   have hn:L.Nodup:=by
    rw[List.Nodup,List.pairwise_iff_getElem];intro i j hi hj hij;rw[he i hi,he j hj];omega
   have hn2:=yW.1 (hp.nodup_iff.1 hn);refine ⟨h2,fun i hi=>⟨?_,hn2 i hi⟩⟩;have:z i ∈ L:=hp.mem_iff.2 (Bn.2 ⟨i,hi,rfl⟩);obtain ⟨k,hk,hk2⟩:=List.mem_iff_getElem.1 this;rw[← hk2,he k hk];omega
 · rintro ⟨h1,h2⟩;refine ⟨fun j hj=>?_,h1⟩;have hn:L.Nodup:=hp.nodup_iff.2 (yW.2 fun i hi=>(h2 i hi).2);have hb:∀ x ∈ L,0≤x∧x<lc:=fun x hx=>by
    obtain ⟨i,hi,rfl⟩:=Bn.1 (hp.mem_iff.1 hx);exact (h2 i hi).1
   have hgs:∀ i j,i<j→j<m→az L i<az L j:=fun i j hij hj=>by
    have a1:=(List.pairwise_iff_getElem.1 hs) i j (by omega) (by omega) hij;have a2:=(List.pairwise_iff_getElem.1 hn) i j (by omega) (by omega) hij;rw[sM L i (by omega),sM L j (by omega)];have a1:L[i]≤L[j]:=a1;have a2:L[i]≠L[j]:=a2;omega
   have hg:∀ j,j<m→0≤az L j∧az L j<m:=fun j hj=>by
    rw[sM L j (by omega)];have:=hb _ (List.getElem_mem (l:=L) (n:=j) (by omega));omega
   have e1:=FQ (fun j hj=>(hg j hj).1) hgs j hj;have e2:=inc_le (fun j hj=>(hg j hj).2) hgs (m-1-j) j (by omega);rw[Bool.not_eq_false',decide_eq_true_iff];omega
def rJ (z:Nat→Int) (m:Nat):List Nat:=(List.range m).map fun j=>(z j).toNat
theorem I5 (z:Nat→Int) (m:Nat):rJ z (m+1)=rJ z m++[(z m).toNat]:=by unfold rJ;rw[List.range_succ,List.map_append];rfl
theorem px {z:Nat→Int} {m x:Nat}:x ∈ rJ z m↔∃ i,i<m∧(z i).toNat=x:=by simp[rJ]
theorem vH {z:Nat→Int} {m lc:Nat} (h:Gt z lc m=true):∀ k,k≤m→(rJ z k).Nodup:=fun k hk=>by
 obtain ⟨h1,h2⟩:=mr.1 h;unfold rJ;rw[List.Nodup,List.pairwise_map,List.pairwise_iff_getElem];simp only[List.length_range,List.getElem_range];intro j i hj hi hji;have a:=(h2 i (by omega)).1;have b:=(h2 j (by omega)).1;have c:=(h2 i (by omega)).2 j hji;omega
theorem mS {L:List Nat} (hn:L.Nodup) {n:Nat} (h:∀ x ∈ L,x<n):mask L<2 ^ n:=by
 refine Nat.lt_pow_two_of_testBit _ fun i hi=>?_;rw[cC hn];exact decide_eq_false fun hm=>by have:=h i hm;omega
theorem Mk {z:Nat→Int} {m lc:Nat} (h:Gt z lc m=true) {a:Nat} (ha:a<lc):∃ i,i<m∧z i=(a:Int):=by
 obtain ⟨h1,h2⟩:=mr.1 h;have h3:=(GV (z:=z) (lc:=lc) (m:=m)).2 h;have h4:=sh.1 h3.1 a (by omega);rw[Bool.not_eq_false',decide_eq_true_iff] at h4;have hl:(ga (jX z m)).length=m:=by rw[lr,iG]
 rw[sM _ a (by omega)] at h4;have:(a:Int) ∈ ga (jX z m):=by rw[← h4];exact List.getElem_mem _
 exact Bn.1 ((zd _).mem_iff.1 this)
def GZ (W:Nat→Int) (c:Int) (p:Int):Bool:=decide (W (2*c.toNat)≤p) && decide (p≤W (2*c.toNat+1))
noncomputable def JS (B:Nat→Int) (z:Nat→Int) (j:Nat):Bool:=!bw (Ah .u64 (B (z j).toNat) (mask (rJ z j):Int)) (Int.ofNat 0)
def TG (lb:Nat) (zb:Nat→Int) (z:Nat→Int) (i:Nat):Bool:=dx (fun j=>rI lb zb (z i) (z j)) i
theorem CT {lb lc:Nat} {zb:Nat→Int} (hp:iq lc lb zb) (a c:Nat):rI lb zb (a:Int) (c:Int)=(gY zb c lb).testBit a:=by
 unfold rI;rw[Bool.eq_iff_iff,cP,mH zb c a lb (fun i hi=>(hp i hi).1.1)];constructor
 · rintro ⟨i,hi,he⟩;unfold gZ at he;rw[Bool.and_eq_true,decide_eq_true_iff,decide_eq_true_iff] at he;exact ⟨i,hi,he.1.symm,he.2.symm⟩
 · rintro ⟨i,hi,he⟩;refine ⟨i,hi,?_⟩;unfold gZ;rw[Bool.and_eq_true,decide_eq_true_iff,decide_eq_true_iff];exact ⟨he.1.symm,he.2.symm⟩
theorem IT {dr:Int} {lc:Nat} {zc:Nat→Int} {lb:Nat} {zb:Nat→Int} (h:c9 dr lc zc lb zb=0) (a:Int):rI lb zb a a=false:=by
 unfold rI;refine wa fun j hj=>?_;unfold c9 at h;split at h
 · cases h
 · rename_i h1;split at h
   · cases h
   · rename_i h2;split at h
     · cases h
     · rename_i h3;have h3:dx (gl lc zb) lb=false:=by simpa using h3
       have:=oP h3 j hj;unfold gl at this;rw[Bool.or_eq_false_iff,decide_eq_false_iff_not] at this;unfold gZ;rw[Bool.and_eq_false_iff,decide_eq_false_iff_not,decide_eq_false_iff_not];have:=this.1;omega
theorem Ob {lb lc m:Nat} {zb:Nat→Int} {z:Nat→Int} (hp:iq lc lb zb) (hs:∀ a,rI lb zb a a=false) (hl:lc≤10) (hm:Gt z lc m=true):dx (JS (jr lb zb) z) m=dx (TG lb zb z) m:=by
 obtain ⟨h1,h2⟩:=mr.1 hm;have key:∀ j,j<m→(JS (jr lb zb) z j=true↔∃ i,j<i∧i<m∧rI lb zb (z i) (z j)=true):=fun j hj=>by
  have hn:=vH hm j (by omega);have hlt:∀ x ∈ rJ z j,x<lc:=fun x hx=>by
   obtain ⟨i,hi,rfl⟩:=px.1 hx;have:=(h2 i (by omega)).1;omega
  have hc:=(h2 j hj).1;have hb:gY zb (z j).toNat lb<2 ^ lc:=vS zb _ lc lb fun i hi=>(hp i hi).1;have hb2:gY zb (z j).toNat lb<2 ^ 62:=Nat.lt_of_lt_of_le hb (Nat.pow_le_pow_right (by omega) (by omega));have hX2:mask (rJ z j)<2 ^ 62:=Nat.lt_of_lt_of_le (mS hn hlt) (Nat.pow_le_pow_right (by omega) (by omega));obtain ⟨w,hw,hw2⟩:=PH hb2 hX2;unfold JS;rw[show jr lb zb (z j).toNat=(gY zb (z j).toNat lb:Int) from rfl,hw,bm];have e1:(!((w:Int) == Int.ofNat 0))=true↔w≠0:=by simp
  rw[e1];constructor
  · intro hw0;obtain ⟨a,ha⟩:=Nat.exists_testBit_of_ne_zero hw0;rw[hw2,Bool.and_eq_true,cC hn,Bool.not_eq_true',decide_eq_false_iff_not] at ha;have hal:a<lc:=by
     refine Nat.lt_of_not_le fun hge=>?_;rw[Nat.testBit_lt_two_pow (Nat.lt_of_lt_of_le hb (Nat.pow_le_pow_right (by omega) hge))] at ha;cases ha.1
    obtain ⟨i,hi,hia⟩:=Mk hm hal;have hpr:rI lb zb (z i) (z j)=true:=by
     rw[hia,show z j=((z j).toNat:Int) by omega,CT hp];exact ha.1
    refine ⟨i,?_,hi,hpr⟩;rcases Nat.lt_trichotomy i j with q | q | q
    · exact absurd (px.2 ⟨i,q,by omega⟩) ha.2
    · subst q;rw[hs] at hpr;cases hpr
    · exact q
  · rintro ⟨i,hij,hi,hpr⟩;have hzi:=(h2 i hi).1;intro hw0;have:=hw2 (z i).toNat
    rw[hw0,Nat.zero_testBit,cC hn] at this;rw[show z i=((z i).toNat:Int) by omega,show z j=((z j).toNat:Int) by omega,CT hp] at hpr;rw[hpr,Bool.true_and] at this;have hmem:(z i).toNat ∈ rJ z j:=by
     cases hd:decide ((z i).toNat ∈ rJ z j) with
     | true=>exact of_decide_eq_true hd
     | false=>rw[hd] at this;cases this
    obtain ⟨k,hk,hk2⟩:=px.1 hmem;have hzk:=(h2 k (by omega)).1;exact (h2 i hi).2 k (by omega) (by omega)
 rw[Bool.eq_iff_iff,cP,cP];constructor
 · rintro ⟨j,hj,h⟩;obtain ⟨i,hij,hi,hpr⟩:=(key j hj).1 h;exact ⟨i,hi,(cP _ _).2 ⟨j,hij,hpr⟩⟩
 · rintro ⟨i,hi,h⟩;obtain ⟨j,hij,hpr⟩:=(cP _ _).1 h;exact ⟨j,by omega,(key j (by omega)).2 ⟨i,hij,hi,hpr⟩⟩
noncomputable def Ln (lc:Nat) (W:Nat→Int) (lb:Nat) (zb:Nat→Int) (m:Nat) (z:Nat→Int):Int:=if Gt z lc m=true then (if dx (fun j=>!GZ W (z j) j) m=true then 21 else if dx (TG lb zb z) m=true then 16 else 0) else 15
end Go.Eng
end
section
namespace Go.Eng
open Go.Proofs Go.Eng.Gall
noncomputable def Az (d:Nat):AV:=.slc d 2 0 0 1 1 (some 1)
noncomputable def pc (b0 b1:Nat×an) (c:Int):bF:=⟨false,[b0,b1,(0,.row (.I .i64 [c]))]⟩
noncomputable def wb (d:Nat):AV:=.fn (.func 80) [] [.ptr d 0 0 0]
noncomputable def wq (j:Int):aD:=[(0,Az 3),(1,wb 2),(7,.int .i64 (Int.ofNat 1)),(8,.int .i64 j)]
theorem u16 (n:Nat) (dr:Int) (lc:Nat) (zc:Nat→Int) (lb:Nat) (zb:Nat→Int) (H:aa) (c:Int) (p:Int) (W B:Nat→Int):bk Tryd.prog (cd (n+1)) 100000 16 Tryd.f16 (KtG.kt 16) (il (se aH 49 [bG dr lc zc lb zb,Az 0] (pc (0,.row (.G [.int .i64 dr,slA 4 lc zc,slA 2 lb zb])) (0,.row (.I .i64 [Int.ofNat 0,Int.ofNat 0])) c::H) (.ok (.tup [shV dr lc zc lb zb W B,.int .i64 (Int.ofNat 0)],pc (0,.row (.G [.int .i64 dr,slA 4 lc zc,slA 2 lb zb])) (0,.row (.I .i64 [Int.ofNat 0,Int.ofNat 0])) c::H))) n 1) aS aR [(bG dr lc zc lb zb,none),(.int .i64 c,none),(.int .i64 p,none)] H =
 (fun (Z0:Row)=>Tr.reqP ([bG dr lc zc lb zb,AV.slc 0 2 0 0 1 1 (some 1)]=[bG dr lc zc lb zb,AV.slc 0 2 0 0 1 1 (some 1)]∧(bC [(0,eV dr lc zc lb zb),(0,an.row Z0),(0,an.row (Row.I .i64 [c]))])::H=(bC [(0,eV dr lc zc lb zb),(0,an.row Z0),(0,an.row (Row.I .i64 [c]))])::H) (Tr.ite (aE (bw (Int.ofNat 0) (Int.ofNat 0))) (Tr.ok ((AV.tup [AV.agg Z0,iI 0],none),H)) (Tr.ite (bH p (Int.ofNat 0)) (Tr.ok ((AV.tup [AV.agg Z0,iI 3],none),H)) (Tr.ite (dJ (Int.ofNat lc) p) (Tr.ok ((AV.tup [AV.agg Z0,iI 3],none),H)) (Tr.req (bR c lc) (Tr.req (cH (av 0 c 4) (bU lc 4)) (Tr.req (cH (aq (av 0 c 4) 1) (bU lc 4)) (Tr.req (bJ (dD 0 0) (dD 0 1)) (Tr.ok ((AV.tup [AV.agg (Row.I .i64 [ct .i64 (zc (av 0 c 4)) (gk .i64 p dr),ct .i64 (zc (aq (av 0 c 4) 1)) (gk .i64 p dr)]),iI 0],none),H)))))))))) (Row.I .i64 [Int.ofNat 0,Int.ofNat 0]):=by kernel_rfl
theorem WM (n:Nat) (dr:Int) (lc:Nat) (zc:Nat→Int) (lb:Nat) (zb:Nat→Int) (H:aa) (c:Int) (W B:Nat→Int):bk Tryd.prog (cd (n+1)) 100000 18 Tryd.f18 (KtG.kt 18) (il (se aH 49 [bG dr lc zc lb zb,Az 0] (pc (0,.row (.G [.int .i64 dr,slA 4 lc zc,slA 2 lb zb])) (0,.row (.I .i64 [Int.ofNat 0,Int.ofNat 0])) c::H) (.ok (.tup [shV dr lc zc lb zb W B,.int .i64 (Int.ofNat 0)],pc (0,.row (.G [.int .i64 dr,slA 4 lc zc,slA 2 lb zb])) (0,.row (.I .i64 [Int.ofNat 0,Int.ofNat 0])) c::H))) n 1) aS aR [(bG dr lc zc lb zb,none),(.int .i64 c,none)] H =
 (fun (Z0:bF)=>Tr.reqP ([bG dr lc zc lb zb,AV.slc 0 2 0 0 1 1 (some 1)]=[bG dr lc zc lb zb,AV.slc 0 2 0 0 1 1 (some 1)]∧Z0::H=Z0::H) (Tr.ite (aE (bw (Int.ofNat 0) (Int.ofNat 0))) (Tr.ok ((AV.tup [AV.agg (Row.I .i64 [Int.ofNat 0,Int.ofNat 0]),iI 0],none),H)) (Tr.req (bR c 10) (Tr.req (dT (av 3 c 2) 1 3 20) (Tr.req (dT (aq (av 3 c 2) 1) 1 3 20) (Tr.ite (bH (W (cY (aq (av 3 c 2) 1) 3)) (W (cY (av 3 c 2) 3))) (Tr.ok ((AV.tup [AV.agg (Row.I .i64 [Int.ofNat 0,Int.ofNat 0]),iI 21],none),H)) (Tr.ok ((AV.tup [AV.agg (Row.I .i64 [W (cY (av 3 c 2) 3),W (cY (aq (av 3 c 2) 1) 3)]),iI 0],none),H)))))))) (bC [(0,eV dr lc zc lb zb),(0,an.row (Row.I .i64 [Int.ofNat 0,Int.ofNat 0])),(0,an.row (Row.I .i64 [c]))]):=by kernel_rfl
theorem Sv (n:Nat) (dr:Int) (lc:Nat) (zc:Nat→Int) (lb:Nat) (zb:Nat→Int) (H:aa) (c:Int) (e:Int):bk Tryd.prog (cd (n+1)) 100000 18 Tryd.f18 (KtG.kt 18) (il (se aH 49 [bG dr lc zc lb zb,Az 0] (pc (0,.row (.G [.int .i64 dr,slA 4 lc zc,slA 2 lb zb])) (0,.row (.I .i64 [Int.ofNat 0,Int.ofNat 0])) c::H) (.ok (.tup [.nilp,.int .i64 e],pc (0,.row (.G [.int .i64 dr,slA 4 lc zc,slA 2 lb zb])) (0,.row (.I .i64 [Int.ofNat 0,Int.ofNat 0])) c::H))) n 1) aS aR [(bG dr lc zc lb zb,none),(.int .i64 c,none)] H =
 (fun (Z0:bF)=>Tr.reqP ([bG dr lc zc lb zb,AV.slc 0 2 0 0 1 1 (some 1)]=[bG dr lc zc lb zb,AV.slc 0 2 0 0 1 1 (some 1)]∧Z0::H=Z0::H) (Tr.ite (aE (bw e (Int.ofNat 0))) (Tr.ok ((AV.tup [AV.agg (Row.I .i64 [Int.ofNat 0,Int.ofNat 0]),AV.int .i64 e],none),H)) Tr.bad)) (bC [(0,eV dr lc zc lb zb),(0,an.row (Row.I .i64 [Int.ofNat 0,Int.ofNat 0])),(0,an.row (Row.I .i64 [c]))]):=by kernel_rfl
theorem t89 (n:Nat) (dr:Int) (lc:Nat) (zc:Nat→Int) (lb:Nat) (zb:Nat→Int) (H:aa) (b0 b1:Nat×an) (c:Int):aJ (bP (n+1) 89 19) (il aH n 1) aS aR (part Tryd.f89 [1,0,1,0,0]) (hints (wq (Int.ofNat 0))) (ar::ar::gi dr lc zc lb zb::pc b0 b1 c::H) =
 (fun (Z0:bF)=>((fun (Z1:bF)=>Tr.ite (bH (Int.ofNat 0) (Int.ofNat 1)) (Tr.req (bR (Int.ofNat 0) 1) (Tr.req (cj 0 0) (Tr.req (cH (av 0 (Int.ofNat 0) 1) (FX [c])) (Tr.ite (bH (az [c] (av 0 (Int.ofNat 0) 1)) (Int.ofNat 0)) (Tr.ok (Ex.ret,[(4,iI 0,none)],ar::ar::Z1::Z0::H)) (Tr.ite (dJ (Int.ofNat lc) (az [c] (av 0 (Int.ofNat 0) 1))) (Tr.ok (Ex.ret,[(4,iI 0,none)],ar::ar::Z1::Z0::H)) (Tr.ok (Ex.normal,[(0,AV.slc 3 2 0 0 1 1 (some 1),none),(1,AV.fn (Fn.func 80) [] [AV.ptr 2 0 0 0],none),(7,iI 1,none),(8,AV.int .i64 (a6 .i64 (Int.ofNat 0) (Int.ofNat 1)),none)],ar::ar::Z1::Z0::H))))))) (Tr.ok (Ex.exit 0,[(0,AV.slc 3 2 0 0 1 1 (some 1),none),(1,AV.fn (Fn.func 80) [] [AV.ptr 2 0 0 0],none),(7,iI 1,none),(8,iI 0,none),(9,AV.bool false,some 1)],ar::ar::Z1::Z0::H))) (bC [(0,eV dr lc zc lb zb)]))) (bC [b0,b1,(0,an.row (Row.I .i64 [c]))]):=by kernel_rfl
theorem Sk (n:Nat) (dr:Int) (lc:Nat) (zc:Nat→Int) (lb:Nat) (zb:Nat→Int) (H:aa) (b0 b1:Nat×an) (c:Int):aJ (bP (n+1) 89 19) (il aH n 1) aS aR (part Tryd.f89 [1,0,1,0,0]) (hints (wq (Int.ofNat 1))) (ar::ar::gi dr lc zc lb zb::pc b0 b1 c::H) =
 (fun (Z0:bF)=>((fun (Z1:bF)=>Tr.ite (bH (Int.ofNat 1) (Int.ofNat 1)) (Tr.req (bR (Int.ofNat 1) 1) (Tr.req (cj 0 0) (Tr.req (cH (av 0 (Int.ofNat 1) 1) (FX [c])) (Tr.ite (bH (az [c] (av 0 (Int.ofNat 1) 1)) (Int.ofNat 0)) (Tr.ok (Ex.ret,[(4,iI 1,none)],ar::ar::Z1::Z0::H)) (Tr.ite (dJ (Int.ofNat lc) (az [c] (av 0 (Int.ofNat 1) 1))) (Tr.ok (Ex.ret,[(4,iI 1,none)],ar::ar::Z1::Z0::H)) (Tr.ok (Ex.normal,[(0,AV.slc 3 2 0 0 1 1 (some 1),none),(1,AV.fn (Fn.func 80) [] [AV.ptr 2 0 0 0],none),(7,iI 1,none),(8,AV.int .i64 (a6 .i64 (Int.ofNat 1) (Int.ofNat 1)),none)],ar::ar::Z1::Z0::H))))))) (Tr.ok (Ex.exit 0,[(0,AV.slc 3 2 0 0 1 1 (some 1),none),(1,AV.fn (Fn.func 80) [] [AV.ptr 2 0 0 0],none),(7,iI 1,none),(8,iI 1,none),(9,AV.bool false,some 1)],ar::ar::Z1::Z0::H))) (bC [(0,eV dr lc zc lb zb)]))) (bC [b0,b1,(0,an.row (Row.I .i64 [c]))]):=by kernel_rfl
theorem Xb (n:Nat) (e:Bool) (G:aa):bk Tryd.prog (cd n) 100000 89 Tryd.f89 (KtG.kt 89) (il aH n 0) (cM aS 0 (wq (Int.ofNat 0)) (ar::G) (.ite e (.ok (.ret,[(4,.int .i64 (Int.ofNat 0),none)],ar::G)) (.ok (.normal,hints (wq (Int.ofNat 1)++[(9,.bool false)]),ar::G)))) aR [(Az 2,none),(wb 1,none)] G =
 (fun (Z0:aD)=>Tr.reqP (Z0=Z0∧ar::G=ar::G) (Tr.ite e (Tr.ok ((iI 0,none),G)) (Tr.ok ((AV.int .i64 (Int.negSucc 0),some 1),G)))) [(0,AV.slc 3 2 0 0 1 1 (some 1)),(1,AV.fn (Fn.func 80) [] [AV.ptr 2 0 0 0]),(7,iI 1),(8,iI 0)]:=by kernel_rfl
theorem W0 (n:Nat) (i:Int) (G:aa):bk Tryd.prog (cd n) 100000 67 Tryd.f67 (KtG.kt 67) (il (se aH 89 [Az 2,wb 1] (ar::G) (.ok (.int .i64 i,ar::G))) n 0) aS aR [(Az 1,none),(wb 0,none)] G =
 Tr.reqP ([AV.slc 2 2 0 0 1 1 (some 1),AV.fn (Fn.func 80) [] [AV.ptr 1 0 0 0]]=[AV.slc 2 2 0 0 1 1 (some 1),AV.fn (Fn.func 80) [] [AV.ptr 1 0 0 0]]∧ar::G=ar::G) (Tr.ok ((AV.bool (dJ (Int.ofNat 0) i),none),G)):=by kernel_rfl
theorem WU (n:Nat) (dr:Int) (lc:Nat) (zc:Nat→Int) (lb:Nat) (zb:Nat→Int) (W B:Nat→Int) (G:aa) (e:Int) (q:Bool) (C:List AV→Prop):bk Tryd.prog (cd n) 100000 49 Tryd.f49 (KtG.kt 49) (il (se (jV (tX aH 22 [bG dr lc zc lb zb] (.int .i64 e)) 62 (fun x=>some (C x,shV dr lc zc lb zb W B))) 67 [Az 1,wb 0] (gi dr lc zc lb zb::G) (.ok (.bool q,gi dr lc zc lb zb::G))) n 0) aS aR [(bG dr lc zc lb zb,none),(Az 0,none)] G =
 Tr.reqP ([bG dr lc zc lb zb]=[bG dr lc zc lb zb]) (Tr.ite (aE (bw e (Int.ofNat 0))) (Tr.ok ((AV.tup [AV.nilp,AV.int .i64 e],none),G)) (Tr.reqP ([AV.slc 1 2 0 0 1 1 (some 1),AV.fn (Fn.func 80) [] [AV.ptr 0 0 0 0]]=[AV.slc 1 2 0 0 1 1 (some 1),AV.fn (Fn.func 80) [] [AV.ptr 0 0 0 0]]∧(bC [(0,eV dr lc zc lb zb)])::G=(bC [(0,eV dr lc zc lb zb)])::G) (Tr.ite q (Tr.ok ((AV.tup [AV.nilp,iI 2],none),G)) (Tr.reqP (C [bG dr lc zc lb zb]) (Tr.ok ((AV.tup [shV dr lc zc lb zb W B,iI 0],none),G)))))):=by kernel_rfl
end Go.Eng
end
section
namespace Go.Eng
open Go.Proofs Go.Eng.Gall
theorem Ua:∀ b,(0,b) ∈ aL (aV Tryd.f89)→b=.loop (part Tryd.f89 [1,0,1,0,0]):=ey (by kernel_rfl)
def v8 (dr:Int) (lc:Nat) (zc:Nat→Int) (lb:Nat) (zb:Nat→Int) (c:Int):Int:=if c9 dr lc zc lb zb=0 then (if c<0∨(lc:Int)≤c then 2 else 0) else c9 dr lc zc lb zb
noncomputable def rT (x y e:Int):AV:=.tup [TZ x y,.int .i64 e]
theorem vV {dr:Int} {lc:Nat} {zc:Nat→Int} {lb:Nat} {zb:Nat→Int} (h:c9 dr lc zc lb zb=0):(1≤lc∧lc≤10)∧lb≤40∧(1≤dr∧dr≤100)∧vP lc zc∧iq lc lb zb∧lK lc (fun c=>gY zb c lb)=false:=by
 unfold c9 at h;split at h
 · cases h
 · rename_i h1;split at h
   · cases h
   · rename_i h2;split at h
     · cases h
     · rename_i h3;split at h
       · cases h
       · rename_i h4;exact ⟨by omega,by omega,by omega,oP (by simpa using fun q=>h2 (.inr (.inr q))),pD (by simpa using h3),by simpa using h4⟩
theorem P8 {dr:Int} {lc:Nat} {zc:Nat→Int} {lb:Nat} {zb:Nat→Int} {c:Int} (h:v8 dr lc zc lb zb c=0):c9 dr lc zc lb zb=0∧0≤c∧c<lc:=by
 unfold v8 at h;split at h
 · rename_i h1;split at h
   · cases h
   · exact ⟨h1,by omega,by omega⟩
 · rename_i h1;exact absurd h h1
section
variable (n:Nat) (dr:Int) (lc:Nat) (zc:Nat→Int) (lb:Nat) (zb:Nat→Int) (H:aa)
theorem PZ (b0 b1:Nat×an) (c:Int) (hl:lc≤1000):cd (n+3) (.fn 67) [Az 1,wb 0] (gi dr lc zc lb zb::pc b0 b1 c::H)=some (.bool (decide (c<0) || decide ((lc:Int)≤c)),gi dr lc zc lb zb::pc b0 b1 c::H):=by
 have i0:av 0 (Int.ofNat 0) 1=0:=by rw[bE];rfl
 have l0:az [c] 0=c:=by rw[fT];rfl
 have s1:a6 .i64 (Int.ofNat 0) (Int.ofNat 1)=Int.ofNat 1:=eN (j:=0) (by omega);have hp:∀ e,(decide (c<0) || decide ((lc:Int)≤c))=e→exec (bP (n+1) 89 19) (.block 0 (.loop (part Tryd.f89 [1,0,1,0,0]))) (wq (Int.ofNat 0)) (ar::ar::gi dr lc zc lb zb::pc b0 b1 c::H)=some (cond e (.ret,[(4,.int .i64 (Int.ofNat 0))],ar::ar::gi dr lc zc lb zb::pc b0 b1 c::H) (.normal,wq (Int.ofNat 1)++[(9,.bool false)],ar::ar::gi dr lc zc lb zb::pc b0 b1 c::H)):=by
  intro e he;have hx:=iu (n:=n+1) (f:=89) (nt:=19) (c:=part Tryd.f89 [1,0,1,0,0]) 0 (fun j=>wq (j:Int)) (fun _=>ar::ar::gi dr lc zc lb zb::pc b0 b1 c::H) 1 (fun _=>e) (fun _=>([(4,.int .i64 (Int.ofNat 0))],ar::ar::gi dr lc zc lb zb::pc b0 b1 c::H)) (wq (Int.ofNat 1)++[(9,.bool false)],ar::ar::gi dr lc zc lb zb::pc b0 b1 c::H) (by omega) (fun j hj=>?_) ?_
  · have ee:dx (fun _=>e) 1=e:=by
     cases e with
     | true=>exact (cP _ _).2 ⟨0,by omega,rfl⟩
     | false=>exact wa (fun _ _=>rfl)
    rw[ee] at hx;cases e with
    | true=>exact hx
    | false=>exact hx
  · have:j=0:=by omega
    subst this;have T:=t89 n dr lc zc lb zb H b0 b1 c;rw[i0,l0,s1] at T;refine aB T (fc n 1) (ai _ _) (aj _ _) ?_;refine Tr.af (fun h0=>?_) wJ;refine Tr.ae wG (Tr.ae wG (Tr.ae (by simp (disch:=omega) only[nV,nW];rw[Cv];exact Nat.zero_lt_one) (Tr.af (fun q=>Tr.ah ?_) (fun q=>Tr.af (fun r=>Tr.ah ?_) (fun r=>Tr.ah ?_)))))
    · rw[bK] at q;have q:decide (c<0)=true:=q;rw[if_pos (by rw[← he,q];rfl)];rfl
    · rw[bn] at r;have r:decide ((lc:Int)≤c)=true:=r;rw[if_pos (by rw[← he,r];simp)];rfl
    · rw[bK] at q;rw[bn] at r;have q:decide (c<0)=false:=q;have r:decide ((lc:Int)≤c)=false:=r;rw[if_neg (by rw[← he,q,r];decide)];exact ⟨rfl,rfl⟩
  · obtain ⟨x,h1,rfl⟩:=aB (Q:=fun x=>x=(.exit 0,wq (Int.ofNat 1)++[(9,.bool false)],ar::ar::gi dr lc zc lb zb::pc b0 b1 c::H)) (Sk n dr lc zc lb zb H b0 b1 c) (fc n 1) (ai _ _) (aj _ _) (by
     refine Tr.af wJ (fun h0=>Tr.ah rfl))
    exact h1
 have h89:cd (n+2) (.fn 89) [Az 2,wb 1] (ar::gi dr lc zc lb zb::pc b0 b1 c::H)=some (.int .i64 (cond (decide (c<0) || decide ((lc:Int)≤c)) 0 (-1)),ar::gi dr lc zc lb zb::pc b0 b1 c::H):=by
  refine bB (n:=n+1) Tryd.func89 rfl rfl rfl (Xb (n+1) (decide (c<0) || decide ((lc:Int)≤c)) (ar::gi dr lc zc lb zb::pc b0 b1 c::H)) (aw _) (a8 (ai _ _) Ua (fun x h=>dq h (hp _ rfl))) (aj _ _) ?_;refine Tr.al ⟨rfl,rfl⟩ (Tr.af (fun q=>Tr.ah ⟨?_,rfl⟩) (fun q=>Tr.ah ⟨?_,rfl⟩))
  · rw[q];rfl
  · rw[q];rfl
 refine bB (n:=n+2) Tryd.func67 rfl rfl rfl (W0 (n+2) (cond (decide (c<0) || decide ((lc:Int)≤c)) 0 (-1)) (gi dr lc zc lb zb::pc b0 b1 c::H)) (bM _ _ (dN (bj _) (fun x hy=>by rw[← Tr.ab hy];exact h89))) (ai _ _) (aj _ _) ?_;refine Tr.al ⟨rfl,rfl⟩ (Tr.ah ⟨?_,rfl⟩);rw[bn];cases (decide (c<0) || decide ((lc:Int)≤c))<;>rfl
noncomputable def IK (c:Int):AV:=if v8 dr lc zc lb zb c=0 then .tup [My dr lc zc lb zb,.int .i64 0] else .tup [.nilp,.int .i64 (v8 dr lc zc lb zb c)]
theorem PW (b0 b1:Nat×an) (c:Int) (hl:lc≤1000) (hb:lb≤1000):cd (n+12) (.fn 49) [bG dr lc zc lb zb,Az 0] (pc b0 b1 c::H)=some (IK dr lc zc lb zb c,pc b0 b1 c::H):=by
 have h22:=fun H=>PT n dr lc zc lb zb H hl hb;have h67:cd (n+11) (.fn 67) [Az 1,wb 0] (gi dr lc zc lb zb::pc b0 b1 c::H)=_:=PZ (n+8) dr lc zc lb zb H b0 b1 c hl;have ht:(se (jV (tX aH 22 [bG dr lc zc lb zb] (.int .i64 (c9 dr lc zc lb zb))) 62 (fun x=>some (x=[bG dr lc zc lb zb]∧c9 dr lc zc lb zb=0,shV dr lc zc lb zb (dg dr lc zc) (jr lb zb)))) 67 [Az 1,wb 0] (gi dr lc zc lb zb::pc b0 b1 c::H) (.ok (.bool (decide (c<0) || decide ((lc:Int)≤c)),gi dr lc zc lb zb::pc b0 b1 c::H))).Ok (cd (n+11)) :=
  dN (qz (dk (bj _) h22) (fun A H hA=>by
   obtain ⟨rfl,h0⟩:=hA;obtain ⟨h1,h2,h3,h4,h5,_⟩:=vV h0;exact PY (n+4) dr lc zc lb zb H h1.2 hb h3 h4 h5)) (fun x hy=>by rw[← Tr.ab hy];exact h67)
 refine bB (n:=n+11) Tryd.func49 rfl rfl rfl (WU (n+11) dr lc zc lb zb (dg dr lc zc) (jr lb zb) (pc b0 b1 c::H) (c9 dr lc zc lb zb) (decide (c<0) || decide ((lc:Int)≤c)) (fun x=>x=[bG dr lc zc lb zb]∧c9 dr lc zc lb zb=0)) (bM _ _ ht) (ai _ _) (aj _ _) ?_;refine Tr.al rfl (Tr.af (fun q=>Tr.ah ⟨?_,rfl⟩) (fun q=>Tr.al ⟨rfl,rfl⟩ (Tr.af (fun r=>Tr.ah ⟨?_,rfl⟩) (fun r=>Tr.al ⟨rfl,?_⟩ (Tr.ah ⟨?_,rfl⟩)))))
 · rw[aM,bm] at q;have h:¬ c9 dr lc zc lb zb=0:=by simpa using q
   have e:v8 dr lc zc lb zb c=c9 dr lc zc lb zb:=by unfold v8;rw[if_neg h]
   unfold IK;rw[e,if_neg h]
 all_goals rw[aM,bm] at q
 all_goals have h:c9 dr lc zc lb zb=0:=by simpa using q
 · rw[Bool.or_eq_true,decide_eq_true_iff,decide_eq_true_iff] at r;have e:v8 dr lc zc lb zb c=2:=by unfold v8;rw[if_pos h,if_pos r]
   unfold IK;rw[e];rfl
 · exact h
 · rw[Bool.or_eq_false_iff,decide_eq_false_iff_not,decide_eq_false_iff_not] at r;have e:v8 dr lc zc lb zb c=0:=by unfold v8;rw[if_pos h,if_neg (by omega)]
   unfold IK;rw[e,if_pos rfl];rfl
def xp (c:Int):Int×Int×Int:=if v8 dr lc zc lb zb c=0 then (if dg dr lc zc (2*c.toNat+1)<dg dr lc zc (2*c.toNat) then (0,0,21) else (dg dr lc zc (2*c.toNat),dg dr lc zc (2*c.toNat+1),0)) else (0,0,v8 dr lc zc lb zb c)
noncomputable def rX (x:Int×Int×Int):AV:=rT x.1 x.2.1 x.2.2
theorem Hh {k:Nat} (hk:12≤k) (b0 b1:Nat×an) (c:Int) (hl:lc≤1000) (hb:lb≤1000):cd k (.fn 49) [bG dr lc zc lb zb,Az 0] (pc b0 b1 c::H)=some (IK dr lc zc lb zb c,pc b0 b1 c::H):=by
 obtain ⟨m,rfl⟩:∃ m,k=m+12:=⟨k-12,by omega⟩
 exact PW m dr lc zc lb zb H b0 b1 c hl hb
theorem Ui (c:Int) (hl:lc≤1000) (hb:lb≤1000):cd (n+14) (.fn 18) [bG dr lc zc lb zb,.int .i64 c] H=some (rX (xp dr lc zc lb zb c),H):=by
 by_cases h0:v8 dr lc zc lb zb c=0
 · obtain ⟨h1,h2,h3⟩:=P8 h0;obtain ⟨k1,k2,k3,k4,k5,_⟩:=vV h1;have e:xp dr lc zc lb zb c=if dg dr lc zc (2*c.toNat+1)<dg dr lc zc (2*c.toNat) then (0,0,21) else (dg dr lc zc (2*c.toNat),dg dr lc zc (2*c.toNat+1),0):=by unfold xp;rw[if_pos h0]
   rw[e];have eo:IK dr lc zc lb zb c=.tup [shV dr lc zc lb zb (dg dr lc zc) (jr lb zb),.int .i64 (Int.ofNat 0)]:=by unfold IK;rw[if_pos h0];rfl
   have es:cY (av 3 c 2) 3=2*c.toNat:=by rw[bE,cQ];omega
   have es1:cY (aq (av 3 c 2) 1) 3=2*c.toNat+1:=by rw[bE,aK,cQ];omega
   refine bB (n:=n+13) Tryd.func18 rfl rfl rfl (WM (n+12) dr lc zc lb zb H c (dg dr lc zc) (jr lb zb)) (kg _ (n+12) 1 (fun q=>dN (bj _) (fun x hy=>by rw[← Tr.ab hy,← eo];exact Hh dr lc zc lb zb H (by omega) _ _ c hl hb))) (ai _ _) (aj _ _) ?_;rw[es,es1];refine Tr.al ⟨rfl,rfl⟩ (Tr.af (fun q=>by simp[aM,bm] at q) (fun q=>Tr.ae wG (Tr.ae wG (Tr.ae wG (Tr.af (fun r=>Tr.ah ⟨?_,rfl⟩) (fun r=>Tr.ah ⟨?_,rfl⟩))))))
   · rw[bK,decide_eq_true_iff] at r;rw[if_pos r];rfl
   · rw[bK,decide_eq_false_iff_not] at r;rw[if_neg r];rfl
 · have e:xp dr lc zc lb zb c=(0,0,v8 dr lc zc lb zb c):=by unfold xp;rw[if_neg h0]
   rw[e];have eo:IK dr lc zc lb zb c=.tup [.nilp,.int .i64 (v8 dr lc zc lb zb c)]:=by unfold IK;rw[if_neg h0]
   refine bB (n:=n+13) Tryd.func18 rfl rfl rfl (Sv (n+12) dr lc zc lb zb H c (v8 dr lc zc lb zb c)) (kg _ (n+12) 1 (fun q=>dN (bj _) (fun x hy=>by rw[← Tr.ab hy,← eo];exact Hh dr lc zc lb zb H (by omega) _ _ c hl hb))) (ai _ _) (aj _ _) ?_;refine Tr.al ⟨rfl,rfl⟩ (Tr.af (fun q=>Tr.ah ⟨rfl,rfl⟩) (fun q=>?_));rw[aM,bm] at q;exact absurd (by simpa using q) h0
end
end Go.Eng
end
section
namespace Go.Eng
open Go.Proofs Go.Eng.Gall
theorem Nk:∀ b,(0,b) ∈ aL (aV Tryd.f39)→b=.loop (part Tryd.f39 [1,1,1,1,0,1,0,0]):=ey (by kernel_rfl)
theorem PJ:∀ b,(2,b) ∈ aL (aV Tryd.f39)→b=.loop (part Tryd.f39 [1,1,1,1,1,1,0,1,0,0]):=ey (by kernel_rfl)
theorem PK:∀ b,(4,b) ∈ aL (aV Tryd.f39)→b=.loop (part Tryd.f39 [1,1,1,1,1,1,1,1,0,1,0,0]):=ey (by kernel_rfl)
section
variable (n:Nat) (dr:Int) (lc:Nat) (zc:Nat→Int) (lb:Nat) (zb:Nat→Int) (H:aa)
theorem Lj (hb:lb≤1000) (h0:c9 dr lc zc lb zb=0):cd (n+14) (.fn 49) [bG dr lc zc lb zb,.nils] H=some (.tup [My dr lc zc lb zb,.int .i64 (Int.ofNat 0)],H):=by
 obtain ⟨h1,h2,h3,h4,h5,_⟩:=vV h0;refine bB (n:=n+13) Tryd.func49 rfl rfl rfl (SE (n+11) dr lc zc lb zb (dg dr lc zc) (jr lb zb) H (fun x=>x=[bG dr lc zc lb zb])) (kg _ (n+11) 2 (fun q=>qz (dk (bj _) (fun H=>by
  rw[show n+11+q=n+q+11 by omega];have:=PT (n+q) dr lc zc lb zb H (by omega) hb;rw[h0] at this;exact this)) (fun A H hA=>by
   subst hA;rw[show n+11+q=n+q+4+7 by omega];exact PY (n+q+4) dr lc zc lb zb H h1.2 hb h3 h4 h5))) (ai _ _) (aj _ _) ?_
 refine Tr.al rfl (Tr.af (fun q=>by simp[aM,bm] at q) (fun q=>Tr.al rfl (Tr.ah ⟨rfl,rfl⟩)))
variable (W B:Nat→Int)
theorem TI (c p:Int) (hc:0≤c∧c<10):cd (n+1) (.fn 71) [shV dr lc zc lb zb W B,.int .i64 c,.int .i64 p] H=some (.bool (GZ W c p),H):=by
 have T:=W1 n dr lc zc lb zb W B H c p;have es:cY (av 3 c 2) 3=2*c.toNat:=by rw[bE,cQ];omega
 have es1:cY (aq (av 3 c 2) 1) 3=2*c.toNat+1:=by rw[bE,aK,cQ];omega
 rw[es,es1] at T;refine bB (n:=n) Tryd.func71 rfl rfl rfl T (aw n) (ai _ _) (aj _ _) ?_;refine Tr.ae wG (Tr.ae wG (Tr.ae wG (Tr.af (fun q=>Tr.ah ⟨?_,rfl⟩) (fun q=>Tr.ah ⟨?_,rfl⟩))));all_goals rw[bn] at q
 all_goals unfold GZ
 · rw[q,bn,Bool.true_and]
 · rw[q,Bool.false_and]
end
section
variable (n:Nat) (r:Row) (G:aa) (m:Nat) (z S:Nat→Int) (R:Row)
theorem QW (hm:m≤1000):exec (bP n 39 76) (.block 0 (.loop (part Tryd.f39 [1,1,1,1,0,1,0,0]))) (uv m z S R (Int.ofNat 0)) (⟨false,[(0,.row r)]⟩::G)=some (cond (dx (fun j=>!decide (S j=(j:Int))) m) (.ret,[(4,.int .i64 (Int.ofNat 15))],⟨false,[(0,.row r)]⟩::G) (.normal,uv m z S R (Int.ofNat m)++[(29,.bool false)],⟨false,[(0,.row r)]⟩::G)):=by
 refine iu (n:=n) (f:=39) (nt:=76) (c:=part Tryd.f39 [1,1,1,1,0,1,0,0]) 0 (fun j=>uv m z S R (j:Int)) (fun _=>⟨false,[(0,.row r)]⟩::G) m (fun j=>!decide (S j=(j:Int))) (fun _=>([(4,.int .i64 (Int.ofNat 15))],⟨false,[(0,.row r)]⟩::G)) (uv m z S R (Int.ofNat m)++[(29,.bool false)],⟨false,[(0,.row r)]⟩::G) (by omega) (fun j hj=>?_) ?_
 · have T:=OX n r G m z S R (j:Int);rw[Aj,eN (by omega)] at T;refine aB T (aw n) (ai _ _) (aj _ _) ?_;refine Tr.af (fun h0=>?_) wJ;refine Tr.ae wG (Tr.ae wG (Tr.af (fun q=>Tr.ah ?_) (fun q=>Tr.ah ?_)));all_goals rw[aM,bm] at q
   · rw[if_pos (by simpa using q)];rfl
   · rw[if_neg (by simpa using q)];exact ⟨rfl,rfl⟩
 · obtain ⟨x,h1,rfl⟩:=aB (Q:=fun x=>x=(.exit 0,uv m z S R (Int.ofNat m)++[(29,.bool false)],⟨false,[(0,.row r)]⟩::G)) (OX n r G m z S R (Int.ofNat m)) (aw n) (ai _ _) (aj _ _) (by
    refine Tr.af wJ (fun h0=>Tr.ah rfl))
   exact h1
theorem QX (hm:m≤1000) (s:Int→Nat→Bool) (h71:∀ j,j<m→∀ H,cd n (.fn 71) [.ptrT none R 0,.int .i64 (z j),.int .i64 (j:Int)] H=some (.bool (s (z j) j),H)):exec (bP n 39 76) (.block 2 (.loop (part Tryd.f39 [1,1,1,1,1,1,0,1,0,0]))) (wc m z R (Int.ofNat 0)) (⟨false,[(0,.row r)]⟩::G)=some (cond (dx (fun j=>!s (z j) j) m) (.ret,[(4,.int .i64 (Int.ofNat 21))],⟨false,[(0,.row r)]⟩::G) (.normal,wc m z R (Int.ofNat m)++[(46,.bool false)],⟨false,[(0,.row r)]⟩::G)):=by
 refine iu (n:=n) (f:=39) (nt:=76) (c:=part Tryd.f39 [1,1,1,1,1,1,0,1,0,0]) 2 (fun j=>wc m z R (j:Int)) (fun _=>⟨false,[(0,.row r)]⟩::G) m (fun j=>!s (z j) j) (fun _=>([(4,.int .i64 (Int.ofNat 21))],⟨false,[(0,.row r)]⟩::G)) (wc m z R (Int.ofNat m)++[(46,.bool false)],⟨false,[(0,.row r)]⟩::G) (by omega) (fun j hj=>?_) ?_
 · have T:=Sf n r G m z R (j:Int) (z j) (s (z j) j);rw[Aj,eN (by omega)] at T;refine aB T (bM _ _ (dk (bj _) (h71 j hj))) (ai _ _) (aj _ _) ?_;refine Tr.af (fun h0=>?_) wJ;refine Tr.ae wG (Tr.ae wG (Tr.al rfl (Tr.af (fun q=>Tr.ah ?_) (fun q=>Tr.ah ?_))));all_goals rw[aM] at q
   · rw[if_pos q];rfl
   · rw[if_neg (by rw[q];decide)];exact ⟨rfl,rfl⟩
 · obtain ⟨x,h1,rfl⟩:=aB (Q:=fun x=>x=(.exit 2,wc m z R (Int.ofNat m)++[(46,.bool false)],⟨false,[(0,.row r)]⟩::G)) (OY n r G m z R (Int.ofNat m)) (aw n) (ai _ _) (aj _ _) (by
    refine Tr.af wJ (fun h0=>Tr.ah rfl))
   exact h1
end
section
variable (n:Nat) (dr:Int) (lc:Nat) (zc:Nat→Int) (lb:Nat) (zb:Nat→Int) (W B:Nat→Int) (r:Row) (G:aa) (m:Nat) (z:Nat→Int)
theorem IN {m:Nat} {z:Nat→Int} (hl:lc≤10) (hm:Gt z lc m=true) {j:Nat} (hj:j<m):rH .u64 (mask (rJ z j):Int) (ef .u64 (Int.ofNat 1) (z j))=(mask (rJ z (j+1)):Int):=by
 obtain ⟨h1,h2⟩:=mr.1 hm;have hc:=(h2 j hj).1;have hn:=vH hm j (by omega);have hlt:mask (rJ z j)<2 ^ lc:=mS hn fun x hx=>by
  obtain ⟨i,hi,rfl⟩:=px.1 hx;have:=(h2 i (by omega)).1;omega
 have hlt:mask (rJ z j)<2 ^ 10:=Nat.lt_of_lt_of_le hlt (Nat.pow_le_pow_right (by omega) hl);have hno:(mask (rJ z j)).testBit (z j).toNat=false:=by
  rw[cC hn];refine decide_eq_false fun hx=>?_;obtain ⟨i,hi,he⟩:=px.1 hx;have:=(h2 i (by omega)).1;exact (h2 j hj).2 i hi (by omega)
 have h2p:2 ^ (z j).toNat≤2 ^ 9:=Nat.pow_le_pow_right (by omega) (by omega);rw[show z j=((z j).toNat:Int) by omega,Br (by omega),PC (by omega) (by omega),I5,mi,Gq hno]
theorem QY (hl:lc≤10) (hm:Gt z lc m=true):exec (bP n 39 76) (.block 4 (.loop (part Tryd.f39 [1,1,1,1,1,1,1,1,0,1,0,0]))) (xP m z (shR dr lc zc lb zb W B) (Int.ofNat 0) (Int.ofNat 0)) (⟨false,[(0,.row r)]⟩::G)=some (cond (dx (JS B z) m) (.ret,[(4,.int .i64 (Int.ofNat 16))],⟨false,[(0,.row r)]⟩::G) (.normal,xP m z (shR dr lc zc lb zb W B) (mask (rJ z m):Int) (Int.ofNat m)++[(59,.bool false)],⟨false,[(0,.row r)]⟩::G)):=by
 obtain ⟨h1,h2⟩:=mr.1 hm;refine iu (n:=n) (f:=39) (nt:=76) (c:=part Tryd.f39 [1,1,1,1,1,1,1,1,0,1,0,0]) 4 (fun j=>xP m z (shR dr lc zc lb zb W B) (mask (rJ z j):Int) (j:Int)) (fun _=>⟨false,[(0,.row r)]⟩::G) m (JS B z) (fun _=>([(4,.int .i64 (Int.ofNat 16))],⟨false,[(0,.row r)]⟩::G)) (xP m z (shR dr lc zc lb zb W B) (mask (rJ z m):Int) (Int.ofNat m)++[(59,.bool false)],⟨false,[(0,.row r)]⟩::G) (by omega) (fun j hj=>?_) ?_
 · have hc:=(h2 j hj).1;have T:=OZ n dr lc zc lb zb W B r G m z (mask (rJ z j):Int) (j:Int);rw[Aj,eN (by omega),IN lc hl hm hj,show cY (av 23 (z j) 1) 23=(z j).toNat by rw[bE,cQ];omega] at T;refine aB T (aw n) (ai _ _) (aj _ _) ?_;refine Tr.af (fun h0=>?_) wJ;refine Tr.ae wG (Tr.ae wG (Tr.ae wG (Tr.ae wG (Tr.af (fun q=>Tr.ah ?_) (fun q=>Tr.ae wG (Tr.ah ?_))))));all_goals rw[aM] at q
   · rw[if_pos (show JS B z j=true from q)];rfl
   · rw[if_neg (by rw[show JS B z j=false from q];decide)];exact ⟨rfl,rfl⟩
 · obtain ⟨x,h1,rfl⟩:=aB (Q:=fun x=>x=(.exit 4,xP m z (shR dr lc zc lb zb W B) (mask (rJ z m):Int) (Int.ofNat m)++[(59,.bool false)],⟨false,[(0,.row r)]⟩::G)) (OZ n dr lc zc lb zb W B r G m z (mask (rJ z m):Int) (Int.ofNat m)) (aw n) (ai _ _) (aj _ _) (by
    refine Tr.af wJ (fun h0=>Tr.ah rfl))
   exact h1
theorem Um (H:aa) (hb:lb≤1000) (h0:c9 dr lc zc lb zb=0) (hm:m≤1000):cd (n+15) (.fn 39) [bG dr lc zc lb zb,aY m z false] H=some (.int .i64 (Ln lc (dg dr lc zc) lb zb m z),H):=by
 obtain ⟨h1,h2,h3,h4,h5,_⟩:=vV h0;have Hh:=fun H=>Lj n dr lc zc lb zb H hb h0;have h76:=fun H=>Uw (n+13) m z H;have h75:=fun H=>Uv (n+3) 0 m z H hm;have hsp:=GV (z:=z) (lc:=lc) (m:=m);unfold Ln;rcases Nat.eq_zero_or_pos m with hz | hz
 · subst hz;have e0:MB z 0=.nils:=by
    have h:ga (jX z 0)=[]:=List.eq_nil_of_length_eq_zero (by rw[lr,iG]);unfold MB;rw[h];rfl
   rw[e0] at h75;have hp:¬ Gt z lc 0=true:=fun h=>by have:=(mr.1 h).1;omega
   rw[if_neg hp];refine bB (n:=n+14) Tryd.func39 rfl rfl rfl (Sb (n+14) dr lc zc lb zb H 0 z z (shR dr lc zc lb zb (dg dr lc zc) (jr lb zb))) (bM _ _ (dk (dk (dk (bj _) Hh) h76) h75)) (cD (cD (ai _ _) 2) 4) (aj _ _) ?_;refine Tr.al rfl (Tr.af (fun q=>by simp[aM,bm] at q) (fun q=>Tr.al rfl (Tr.al rfl (Tr.af (fun q=>Tr.ah ⟨rfl,rfl⟩) (fun q=>?_)))));rw[aM,bm] at q;have:(0:Int)=lc:=by simpa using q
   omega
 · obtain ⟨k,rfl⟩:∃ k,m=k+1:=⟨m-1,by omega⟩
   have e:MB z (k+1)=aY (k+1) (az (ga (jX z (k+1)))) false:=JG _ k (by rw[lr,iG]);rw[e] at h75;generalize hM:k+1=M at *;have hM1000:M≤1000:=hm;have hla:=QW (n+14) (.G [.int .i64 dr,slA 4 lc zc,slA 2 lb zb]) H M z (az (ga (jX z M))) (shR dr lc zc lb zb (dg dr lc zc) (jr lb zb)) hm;by_cases hp:Gt z lc M=true
   · rw[if_pos hp];obtain ⟨p1,p2⟩:=mr.1 hp;obtain ⟨q1,q2⟩:=hsp.2 hp;have hlb:=QX (n+14) (.G [.int .i64 dr,slA 4 lc zc,slA 2 lb zb]) H M z (shR dr lc zc lb zb (dg dr lc zc) (jr lb zb)) hm (fun c j=>GZ (dg dr lc zc) c j) (fun j hj H=>TI (n+13) dr lc zc lb zb H (dg dr lc zc) (jr lb zb) (z j) j (by have:=(p2 j hj).1;omega));have hlc:=QY (n+14) dr lc zc lb zb (dg dr lc zc) (jr lb zb) (.G [.int .i64 dr,slA 4 lc zc,slA 2 lb zb]) H M z h1.2 hp;refine bB (n:=n+14) Tryd.func39 rfl rfl rfl (WT (n+14) dr lc zc lb zb H M z (az (ga (jX z M))) (shR dr lc zc lb zb (dg dr lc zc) (jr lb zb)) (dx (fun j=>!decide (az (ga (jX z M)) j=(j:Int))) M) (dx (fun j=>!GZ (dg dr lc zc) (z j) j) M) (dx (JS (jr lb zb) z) M) (mask (rJ z M):Int)) (bM _ _ (dk (dk (dk (bj _) Hh) h76) h75)) (a8 (a8 (a8 (ai _ _) Nk (fun x hx=>dq hx hla)) PJ (fun x hx=>dq hx hlb)) PK (fun x hx=>dq hx hlc)) (aj _ _) ?_;rw[q1,Ob h5 (IT h0) h1.2 hp];refine Tr.al rfl (Tr.af (fun q=>by simp[aM,bm] at q) (fun q=>Tr.al rfl (Tr.al rfl (Tr.al ⟨rfl,rfl⟩ (Tr.af (fun q=>by cases q) (fun _=>Tr.af (fun q=>?_) (fun _=>Tr.al ⟨rfl,rfl⟩ (Tr.af (fun q=>Tr.ah ⟨?_,rfl⟩) (fun q=>Tr.al ⟨rfl,rfl⟩ (Tr.af (fun q2=>Tr.ah ⟨?_,rfl⟩) (fun q2=>Tr.ah ⟨?_,rfl⟩)))))))))))
     · rw[aM,bm] at q;have:¬ (M:Int)=lc:=by simpa using q
       omega
     · rw[if_pos q];rfl
     · rw[if_neg (by rw[q];decide),if_pos q2];rfl
     · rw[if_neg (by rw[q];decide),if_neg (by rw[q2];decide)];rfl
   · rw[if_neg hp];refine bB (n:=n+14) Tryd.func39 rfl rfl rfl (SC (n+14) dr lc zc lb zb H M z (az (ga (jX z M))) (shR dr lc zc lb zb (dg dr lc zc) (jr lb zb)) (dx (fun j=>!decide (az (ga (jX z M)) j=(j:Int))) M)) (bM _ _ (dk (dk (dk (bj _) Hh) h76) h75)) (cD (cD (a8 (ai _ _) Nk (fun x hx=>dq hx hla)) 2) 4) (aj _ _) ?_;refine Tr.al rfl (Tr.af (fun q=>by simp[aM,bm] at q) (fun q=>Tr.al rfl (Tr.al rfl (Tr.al ⟨rfl,rfl⟩ (Tr.af (fun q=>Tr.ah ⟨rfl,rfl⟩) (fun q3=>Tr.af (fun q=>Tr.ah ⟨rfl,rfl⟩) (fun q=>?_)))))));rw[aM,bm] at q;have:(M:Int)=lc:=by simpa using q
     exact absurd (hsp.1 ⟨q3,by omega⟩) hp
end
end Go.Eng
end
section
namespace Go.Eng
open Go.Proofs Go.Eng.Gall
end Go.Eng
end
section
namespace Go.Eng
open Go.Proofs Go.Eng.Gall
section
variable (n:Nat) (dr:Int) (lc:Nat) (zc:Nat→Int) (lb:Nat) (zb:Nat→Int) (H:aa) (m:Nat) (z:Nat→Int)
end
end Go.Eng
end
section
namespace Go.Eng
open Go.Proofs Go.Eng.Gall
end Go.Eng
end
section
namespace Go.Eng
open Go.Proofs Go.Eng.Gall
section
variable (n:Nat) (dr:Int) (lc:Nat) (zc:Nat→Int) (lb:Nat) (zb:Nat→Int) (H:aa)
variable (m:Nat) (z:Nat→Int) (W B:Nat→Int)
end
end Go.Eng
end
section
namespace Go.Eng
open Go.Proofs Go.Eng.Gall
end Go.Eng
end
section
namespace Go.Eng
open Go.Proofs Go.Eng.Gall
end Go.Eng
end
section
namespace Go.Eng
open Go.Proofs Go.Eng.Gall
section
variable (dr:Int) (lc:Nat) (zc:Nat→Int) (lb:Nat) (zb:Nat→Int)
end
end Go.Eng
end
section
namespace Go.Eng
open Go.Proofs Go.Eng.Gall
section
variable (dr:Int) (lc:Nat) (zc:Nat→Int) (lb:Nat) (zb:Nat→Int)
variable (n:Nat) (H:aa) (m:Nat) (z:Nat→Int) (w:Int)
end
end Go.Eng
end
