/- Gall: the first block that is overfull (plain law). -/
import Derived.Test.YtgphpjdchnfjlaaDoorV2Gbax3
set_option linter.unusedVariables false
set_option linter.unusedSimpArgs false
set_option maxRecDepth 100000
section
namespace Go.Eng
open Go.Proofs Go.Eng.Gall
def sY (q:Nat→Int) (lc:Nat) (F T:Int):Bool:=decide (0<(dy q F T lc).length) && decide (T-F+1<((dy q F T lc).length:Int))
def Lw:Option (Int×Int)→Int→Int→Bool
 | none,_,_=>true
 | some (f,t),F,T=>decide (F<f) || decide (T<t)
def DE (q:Nat→Int) (lc:Nat) (F:Int) (b:Option (Int×Int)) (T:Int):Option (Int×Int):=if (Lw b F T && sY q lc F T)=true then some (F,T) else b
def wV (q:Nat→Int) (lc:Nat) (F:Int) (b:Option (Int×Int)):Nat→Option (Int×Int)
 | 0=>b
 | k+1=>DE q lc F (wV q lc F b k) (q (2*k+1))
def DM:Option (Int×Int)→Int→Bool
 | none,_=>false
 | some (f,_),F=>decide (f<F)
def jq (q:Nat→Int) (lc:Nat):Nat→Option (Int×Int)
 | 0=>none
 | i+1=>if DM (jq q lc i) (q (2*i))=true then jq q lc i else wV q lc (q (2*i)) (jq q lc i) lc
def jI (P:Int→Int→Prop):Option (Int×Int)→Prop
 | none=>∀ F T,¬ P F T
 | some (f,t)=>P f t∧∀ F T,P F T→f<F∨(f=F∧t≤T)
theorem iB {P Q:Int→Int→Prop} (h:∀ F T,P F T↔Q F T) {b:Option (Int×Int)}:jI P b↔jI Q b:=by
 have:P=Q:=funext fun F=>funext fun T=>propext (h F T)
 rw[this]
theorem EO {q:Nat→Int} {lc:Nat} {F:Int} {b:Option (Int×Int)} (h:DM b F=false):∀ k,DM (wV q lc F b k) F=false
 | 0=>h
 | k+1=>by
   unfold wV DE
   split
   · exact decide_eq_false (Int.lt_irrefl _)
   · exact EO h k
theorem F0 {P:Int→Int→Prop} {q:Nat→Int} {lc:Nat} {F T:Int} {b:Option (Int×Int)} (hb:jI P b) (hg:DM b F=false):jI (fun x y=>P x y∨(x=F∧y=T∧sY q lc F T=true)) (DE q lc F b T):=by
 unfold DE
 by_cases ho:sY q lc F T=true
 · cases b with
   | none =>
     rw[if_pos (by rw[ho];rfl)]
     refine ⟨.inr ⟨rfl,rfl,ho⟩,?_⟩
     rintro x y (h | ⟨rfl,rfl,_⟩)
     · exact absurd h (hb x y)
     · exact .inr ⟨rfl,Int.le_refl _⟩
   | some v =>
     obtain ⟨f,t⟩:=v
     obtain ⟨h1,h2⟩:=hb
     have hg:¬ f<F:=of_decide_eq_false hg
     by_cases hc:F<f∨T<t
     · rw[if_pos (by rw[ho,Bool.and_true];show (decide (F<f) || decide (T<t))=true;simpa using hc)]
       refine ⟨.inr ⟨rfl,rfl,ho⟩,?_⟩
       rintro x y (h | ⟨rfl,rfl,_⟩)
       · have:=h2 x y h
         omega
       · exact .inr ⟨rfl,Int.le_refl _⟩
     · rw[if_neg (by rw[ho,Bool.and_true];show ¬ (decide (F<f) || decide (T<t))=true;simpa using hc)]
       refine ⟨.inl h1,?_⟩
       rintro x y (h | ⟨rfl,rfl,_⟩)
       · exact h2 x y h
       · omega
 · rw[if_neg (by simp[ho])]
   exact (iB (fun x y=>⟨fun h=>.inl h,fun h=>h.elim id fun h=>absurd h.2.2 ho⟩)).1 hb
theorem xM {P:Int→Int→Prop} {q:Nat→Int} {lc:Nat} {F:Int} {b:Option (Int×Int)} (hb:jI P b) (hg:DM b F=false):∀ k,jI (fun x y=>P x y∨(x=F∧∃ j,j<k∧y=q (2*j+1)∧sY q lc F y=true)) (wV q lc F b k)
 | 0=>(iB (fun x y=>⟨fun h=>.inl h,fun h=>h.elim id fun ⟨_,j,h,_⟩=>absurd h (Nat.not_lt_zero j)⟩)).1 hb
 | k + 1=>by
   have:=F0 (q:=q) (lc:=lc) (F:=F) (T:=q (2*k+1)) (b:=wV q lc F b k) (xM (q:=q) (lc:=lc) hb hg k) (EO (q:=q) (lc:=lc) hg k)
   refine (iB (fun x y=>?_)).1 this
   constructor
   · rintro ((h | ⟨h1,j,h2,h3,h4⟩) | ⟨rfl,rfl,h3⟩)
     · exact .inl h
     · exact .inr ⟨h1,j,by omega,h3,h4⟩
     · exact .inr ⟨rfl,k,by omega,rfl,h3⟩
   · rintro (h | ⟨rfl,j,h2,rfl,h4⟩)
     · exact .inl (.inl h)
     · by_cases e:j=k
       · subst e;exact .inr ⟨rfl,rfl,h4⟩
       · exact .inl (.inr ⟨rfl,j,by omega,rfl,h4⟩)
theorem sX (q:Nat→Int) (lc:Nat):∀ i,jI (fun x y=>∃ j k,j<i∧k<lc∧x=q (2*j)∧y=q (2*k+1)∧sY q lc x y=true) (jq q lc i)∨∃ f t,jq q lc i=some (f,t)∧jI (fun x y=>∃ j k,j<i∧k<lc∧x=q (2*j)∧y=q (2*k+1)∧sY q lc x y=true) (some (f,t))
 | 0=>.inl fun F T ⟨j,_,h,_⟩=>absurd h (Nat.not_lt_zero j)
 | i + 1=>by
   have ih:jI (fun x y=>∃ j k,j<i∧k<lc∧x=q (2*j)∧y=q (2*k+1)∧sY q lc x y=true) (jq q lc i):=by
    rcases sX q lc i with h | ⟨f,t,h1,h2⟩
    · exact h
    · rw[h1];exact h2
   refine .inl ?_
   unfold jq
   by_cases hg:DM (jq q lc i) (q (2*i))=true
   · rw[if_pos hg]
     generalize jq q lc i=b at *
     cases b with
     | none=>cases hg
     | some v =>
       obtain ⟨f,t⟩:=v
       have hg:f<q (2*i):=of_decide_eq_true hg
       obtain ⟨⟨j,k,h1,h2⟩,h3⟩:=ih
       refine ⟨⟨j,k,by omega,h2⟩,?_⟩
       rintro F T ⟨j',k',a1,a2,rfl,rfl,a3⟩
       by_cases e:j'=i
       · subst e;exact .inl hg
       · exact h3 _ _ ⟨j',k',by omega,a2,rfl,rfl,a3⟩
   · rw[if_neg hg]
     have hg:DM (jq q lc i) (q (2*i))=false:=by simpa using hg
     refine (iB (fun x y=>?_)).1 (xM ih hg lc)
     constructor
     · rintro (⟨j,k,h1,h2⟩ | ⟨rfl,k,h1,rfl,h2⟩)
       · exact ⟨j,k,by omega,h2⟩
       · exact ⟨i,k,by omega,h1,rfl,rfl,h2⟩
     · rintro ⟨j,k,h1,h2,rfl,rfl,h3⟩
       by_cases e:j=i
       · subst e;exact .inr ⟨rfl,k,h2,rfl,h3⟩
       · exact .inl ⟨j,k,by omega,h2,rfl,rfl,h3⟩
end Go.Eng
end
section
namespace Go.Eng
open Go.Proofs Go.Eng.Gall
theorem rb (q:Nat→Int) (F T x:Int):∀ j,x ∈ dy q F T j↔∃ k,k<j∧wW q F T k=true∧x=(k:Int)
 | 0=>by simp[dy]
 | j + 1=>by
   have ih:=rb q F T x j
   unfold dy
   split
   · rename_i h
     rw[List.mem_append,List.mem_singleton,ih]
     constructor
     · rintro (⟨k,h1,h2,h3⟩ | h1)
       · exact ⟨k,by omega,h2,h3⟩
       · exact ⟨j,by omega,h,h1⟩
     · rintro ⟨k,h1,h2,h3⟩
       by_cases e:k=j
       · subst e;exact .inr h3
       · exact .inl ⟨k,by omega,h2,h3⟩
   · rename_i h
     rw[ih]
     constructor
     · rintro ⟨k,h1,h2,h3⟩;exact ⟨k,by omega,h2,h3⟩
     · rintro ⟨k,h1,h2,h3⟩
       by_cases e:k=j
       · subst e;exact absurd h2 h
       · exact ⟨k,by omega,h2,h3⟩
theorem uY (q:Nat→Int) (F T:Int):∀ j,(dy q F T j).Nodup
 | 0=>List.nodup_nil
 | j + 1=>by
   have ih:=uY q F T j
   unfold dy
   split
   · rw[List.nodup_append]
     refine ⟨ih,by simp,?_⟩
     intro a ha b hb e
     rw[List.mem_singleton] at hb
     obtain ⟨k,h1,_,h3⟩:=(rb q F T a j).1 ha
     omega
   · exact ih
theorem cY {L:List Nat} (hn:L.Nodup) {M:List Int} (h:∀ x ∈ L,(x:Int) ∈ M):L.length≤M.length:=by
 have:=fY hn (M:=M.map Int.toNat) (fun x hx=>List.mem_map.2 ⟨(x:Int),h x hx,rfl⟩)
 rwa [List.length_map] at this
theorem nj (f:Nat→Int):∀ (L:List Nat),L≠[]→∃ a ∈ L,∀ b ∈ L,f a≤f b
 | [],h=>absurd rfl h
 | [a],_=>⟨a,by simp,by simp⟩
 | a::b::L,_=>by
   obtain ⟨c,hc,h⟩:=nj f (b::L) (by simp)
   by_cases e:f a≤f c
   · exact ⟨a,by simp,fun x hx=>by
      rcases List.mem_cons.1 hx with rfl | hx
      · exact Int.le_refl _
      · have:=h x hx;omega⟩
   · exact ⟨c,List.mem_cons_of_mem _ hc,fun x hx=>by
      rcases List.mem_cons.1 hx with rfl | hx
      · omega
      · exact h x hx⟩
theorem HP {q:Nat→Int} {lc:Nat} (h:jq q lc lc=none):Room lc (fun c=>q (2*c)) (fun c=>q (2*c+1)):=by
 have hf:∀ F T,¬ ∃ j k,j<lc∧k<lc∧F=q (2*j)∧T=q (2*k+1)∧sY q lc F T=true:=by
  rcases sX q lc lc with h1 | ⟨f,t,h1,_⟩
  · rw[h] at h1;exact h1
  · rw[h] at h1;cases h1
 intro s t L hn hne hL
 obtain ⟨a,ha,ha2⟩:=nj (fun c=>q (2*c)) L hne
 obtain ⟨b,hb,hb2⟩:=nj (fun c=>-q (2*c+1)) L hne
 have h1:=hf (q (2*a)) (q (2*b+1))
 have hov:sY q lc (q (2*a)) (q (2*b+1))=false:=by
  cases e:sY q lc (q (2*a)) (q (2*b+1)) with
  | false=>rfl
  | true=>exact absurd ⟨a,b,(hL a ha).1,(hL b hb).1,rfl,rfl,e⟩ h1
 have hle:L.length≤(dy q (q (2*a)) (q (2*b+1)) lc).length:=cY hn fun x hx=>by
  refine (rb _ _ _ _ _).2 ⟨x,(hL x hx).1,?_,rfl⟩
  have e1:=ha2 x hx
  have e2:=hb2 x hx
  unfold wW
  rw[Bool.and_eq_true,decide_eq_true_iff,decide_eq_true_iff]
  constructor
  · exact e1
  · have e2:-q (2*b+1)≤-q (2*x+1):=e2
    omega
 have hpos:0<L.length:=List.length_pos_iff.2 hne
 unfold sY at hov
 rw[decide_eq_true (show 0<(dy q (q (2*a)) (q (2*b+1)) lc).length by omega),Bool.true_and,decide_eq_false_iff_not] at hov
 have e3:s≤q (2*a):=(hL a ha).2.1
 have e4:q (2*b+1)≤t:=(hL b hb).2.2
 omega
theorem wD {n:Nat} {ok:Nat→Nat→Nat→Bool}:∀ {k:Nat} {L:List Nat},L ∈ ro n ok k↔L.length=k∧∀ i (h:i<L.length),L[i]<n∧(mask (L.take i)).testBit L[i]=false∧ok i (mask (L.take i)) L[i]=true
 | 0,L=>by
   show L ∈ [[]]↔_
   rw[List.mem_singleton]
   constructor
   · rintro rfl;exact ⟨rfl,fun i h=>absurd h (Nat.not_lt_zero i)⟩
   · rintro ⟨h,_⟩;exact List.eq_nil_of_length_eq_zero h
 | k + 1,L=>by
   show L ∈ (ro n ok k).flatMap (fun L=>(nx ok n k (mask L)).map fun c=>L++[c])↔_
   rw[List.mem_flatMap]
   constructor
   · rintro ⟨M,hM,hx⟩
     obtain ⟨c,hc,rfl⟩:=List.mem_map.1 hx
     obtain ⟨h1,h2⟩:=wD.1 hM
     obtain ⟨c1,c2,c3⟩:=nK.1 hc
     refine ⟨by rw[List.length_append,h1];rfl,fun i hi=>?_⟩
     by_cases e:i<M.length
     · rw[List.getElem_append_left e,List.take_append_of_le_length (by omega)]
       exact h2 i e
     · have:i=M.length:=by rw[List.length_append,List.length_singleton] at hi;omega
       subst this
       rw[List.getElem_append_right (Nat.le_refl _),List.take_left' rfl]
       simp only[Nat.sub_self,List.getElem_cons_zero]
       rw[h1]
       exact ⟨c1,c2,c3⟩
   · rintro ⟨h1,h2⟩
     have hne:L≠[]:=by intro e;rw[e] at h1;cases h1
     have hd:L.dropLast++[L.getLast hne]=L:=List.dropLast_concat_getLast hne
     have hdl:L.dropLast.length=k:=by rw[List.length_dropLast,h1];rfl
     have ht:∀ i,i≤k→L.dropLast.take i=L.take i:=fun i hi=>by
      rw[List.dropLast_eq_take,List.take_take,Nat.min_eq_left (by omega)]
     refine ⟨L.dropLast,wD.2 ⟨hdl,fun i hi=>?_⟩,List.mem_map.2 ⟨L.getLast hne,?_,hd⟩⟩
     · rw[ht i (by omega),List.getElem_dropLast]
       exact h2 i (by omega)
     · have:=h2 k (by omega)
       rw[nK,List.getLast_eq_getElem]
       have e:L.take k=L.dropLast:=by rw[List.dropLast_eq_take,h1];rfl
       rw[e] at this
       simpa[h1] using this
end Go.Eng
end
section
namespace Go.Eng
open Go.Proofs Go.Eng.Gall
noncomputable def sB (q:Nat→Int) (lc:Nat):Option (Int×Int)→bA
 | none=>eN q (Int.ofNat 0) (Int.ofNat 0) .nils
 | some (f,t)=>eN q f t (gn (dy q f t lc).length (aS (dy q f t lc)) false)
theorem tr {q:Nat→Int} {lc:Nat} {F T:Int} {b:Option (Int×Int)} (h:sY q lc F T=false):DE q lc F b T=b:=by unfold DE;rw[h,Bool.and_false,if_neg (by decide)]
theorem Lk {q:Nat→Int} {lc:Nat} {F T:Int} {b:Option (Int×Int)} (h:Lw b F T=false):DE q lc F b T=b:=by unfold DE;rw[h,Bool.false_and,if_neg (by decide)]
theorem wN {q:Nat→Int} {lc:Nat} {F T:Int} {b:Option (Int×Int)} (h:Lw b F T=true) (h2:sY q lc F T=true):DE q lc F b T=some (F,T):=by unfold DE;rw[h,h2];rfl
section
variable (n:Nat) (dr:Int) (lc:Nat) (zc:Nat→Int) (lb:Nat) (zb:Nat→Int) (W B:Nat→Int) (H:aa) (q:Nat→Int)
theorem Qo (hl:lc≤10) (hq:∀ j,j<2*lc→-1000000≤q j∧q j≤1000000) (i k:Nat) (hi:i<lc) (hk:k<lc) (b:Option (Int×Int)) (hb:DM b (q (2*i))=false) :
 ∃ x,exec (cj n 65 128) (part Tryd.f65 [1,0,1,1,1,1,0,1,0,0,1,1,0,0,1,1,0,0]) (ie (shR dr lc zc lb zb W B) b.isSome lc i k) (sB q lc b::H)=some x∧x.1=.normal∧tidy 3 x.2.1 x.2.2=(ie (shR dr lc zc lb zb W B) (DE q lc (q (2*i)) b (q (2*k+1))).isSome lc i ((k+1:Nat):Int),sB q lc (DE q lc (q (2*i)) b (q (2*k+1)))::H):=by
 have e1:bg .i64 (k:Int) (Int.ofNat 1)=((k+1:Nat):Int):=gr (by omega)
 have ei:aC 0 (i:Int) 2=2*i:=by rw[bY];omega
 have ek:aC 0 (k:Int) 2=2*k:=by rw[bY];omega
 have q1:=hq (2*i) (by omega)
 have q2:=hq (2*k+1) (by omega)
 have es:bg .i64 (bX .i64 (q (2*k+1)) (q (2*i))) (Int.ofNat 1)=q (2*k+1)-q (2*i)+1:=by
  rw[Ld (by omega) (by omega)]
  exact Gm (by show _≤q (2*k+1)-q (2*i)+1;omega) (by show q (2*k+1)-q (2*i)+1≤_;omega)
 generalize hF:q (2*i)=F at *
 generalize hT:q (2*k+1)=T at *
 cases b with
 | none =>
   have hlp:=Pf n H q (shR dr lc zc lb zb W B) false (Int.ofNat 0) (Int.ofNat 0) lc i k F T hl
   cases hS:dy q F T lc with
   | nil =>
     rw[hS] at hlp
     have ho:sY q lc F T=false:=by unfold sY;rw[hS];rfl
     have T0:=MA n dr lc zc lb zb W B H q i k (Int.ofNat 0) (Int.ofNat 0) 0 q
     rw[ei,ek,aH,e1,hF,hT] at T0
     rw[tr ho]
     refine aK T0 (aJ _) (a8 (ak _ _) uD (fun x hx=>fL hx (by simp only[fq.st,aV];exact hlp))) (al _ _) ?_
     refine Tr.af (fun h0=>?_) (fun h0=>by simp (disch:=omega) only[nV,nW] at h0;omega)
     refine Tr.ab (by simp (disch:=omega) only[nV,nW];try omega) (Tr.ab (by simp (disch:=omega) only[nV,nW];try omega) (Tr.ab (by simp (disch:=omega) only[nV,nW];try omega) (Tr.ab (by simp (disch:=omega) only[nV,nW];try omega) (Tr.ab (by simp (disch:=omega) only[nV,nW];try omega) (Tr.ab (by simp (disch:=omega) only[nV,nW];try omega) (Tr.ab (by simp (disch:=omega) only[nV,nW];try omega) (Tr.aj ⟨rfl,rfl⟩ (Tr.af (fun h=>by cases h) (fun _=>Tr.af (fun _=>Tr.ah ⟨rfl,rfl⟩) (fun h=>by simp[aY] at h))))))))))
   | cons a r =>
     rw[hS] at hlp
     have hg:r.length+1≤lc:=by have:=oJ q F T lc;rw[hS] at this;simpa using this
     have hov:sY q lc F T=decide (T-F+1<((r.length+1:Nat):Int)):=by unfold sY;rw[hS];rfl
     have hup:sB q lc (some (F,T))=eN q F T (gn (r.length+1) (aS (a::r)) false):=by show eN q F T (gn (dy q F T lc).length (aS (dy q F T lc)) false)=_;rw[hS];rfl
     have T0:=MB n dr lc zc lb zb W B H q i k (Int.ofNat 0) (Int.ofNat 0) 0 q (r.length+1) (aS (a::r))
     rw[ei,ek,aH,e1,hF,hT,es,jj] at T0
     refine aK T0 (aJ _) (a8 (ak _ _) uD (fun x hx=>fL hx (by simp only[fq.st,aV];exact hlp))) (al _ _) ?_
     refine Tr.af (fun h0=>?_) (fun h0=>by simp (disch:=omega) only[nV,nW] at h0;omega)
     refine Tr.ab (by simp (disch:=omega) only[nV,nW];try omega) (Tr.ab (by simp (disch:=omega) only[nV,nW];try omega) (Tr.ab (by simp (disch:=omega) only[nV,nW];try omega) (Tr.ab (by simp (disch:=omega) only[nV,nW];try omega) (Tr.ab (by simp (disch:=omega) only[nV,nW];try omega) (Tr.ab (by simp (disch:=omega) only[nV,nW];try omega) (Tr.ab (by simp (disch:=omega) only[nV,nW];try omega) (Tr.aj ⟨rfl,rfl⟩ (Tr.af (fun h=>by cases h) (fun _=>Tr.af (fun _=>Tr.af (fun _=>Tr.af (fun h1=>?_) (fun h1=>Tr.ah ?_)) (fun h=>by exfalso;simp (disch:=omega) only[nV,nW] at h;omega)) (fun h=>by simp[aY] at h))))))))))
     all_goals rw[bF] at h1
     · rw[wN rfl (hov.trans h1),hup]
       exact Tr.ab (by simp (disch:=omega) only[nV,nW];try omega) (Tr.ab (by simp (disch:=omega) only[nV,nW];try omega) (Tr.ab (by simp (disch:=omega) only[nV,nW];try omega) (Tr.ab (by simp (disch:=omega) only[nV,nW];try omega) (Tr.ah ⟨rfl,rfl⟩))))
     · rw[tr (hov.trans h1)];exact ⟨rfl,rfl⟩
 | some v =>
   obtain ⟨f,t⟩:=v
   have hb:decide (f<F)=false:=hb
   have hlp:=MG n H q (shR dr lc zc lb zb W B) true f t (dy q f t lc).length (aS (dy q f t lc)) lc i k F T hl
   have hlv:sB q lc (some (f,t))=eN q f t (gn (dy q f t lc).length (aS (dy q f t lc)) false):=rfl
   generalize dy q f t lc=L0 at hlp hlv
   cases hS:dy q F T lc with
   | nil =>
     rw[hS] at hlp
     have ho:sY q lc F T=false:=by unfold sY;rw[hS];rfl
     have T0:=IK n dr lc zc lb zb W B H q i k f t L0.length (aS L0)
     rw[ei,ek,aH,e1,hF,hT] at T0
     rw[tr ho,hlv]
     refine aK T0 (aJ _) (a8 (ak _ _) uD (fun x hx=>fL hx (by simp only[fq.st,aV];exact hlp))) (al _ _) ?_
     refine Tr.af (fun h0=>?_) (fun h0=>by simp (disch:=omega) only[nV,nW] at h0;omega)
     refine Tr.ab (by simp (disch:=omega) only[nV,nW];try omega) (Tr.ab (by simp (disch:=omega) only[nV,nW];try omega) (Tr.ab (by simp (disch:=omega) only[nV,nW];try omega) (Tr.ab (by simp (disch:=omega) only[nV,nW];try omega) (Tr.ab (by simp (disch:=omega) only[nV,nW];try omega) (Tr.ab (by simp (disch:=omega) only[nV,nW];try omega) (Tr.ab (by simp (disch:=omega) only[nV,nW];try omega) (Tr.aj ⟨rfl,rfl⟩ (Tr.af (fun _=>Tr.af (fun h=>by rw[bF,hb] at h;cases h) (fun _=>Tr.af (fun h=>by simp[aY] at h) (fun _=>Tr.af (fun _=>Tr.ah ⟨rfl,rfl⟩) (fun _=>Tr.af (fun _=>Tr.ah ⟨rfl,rfl⟩) (fun _=>Tr.ah ⟨rfl,rfl⟩))))) (fun h=>by cases h)))))))))
   | cons a r =>
     rw[hS] at hlp
     have hg:r.length+1≤lc:=by have:=oJ q F T lc;rw[hS] at this;simpa using this
     have hov:sY q lc F T=decide (T-F+1<((r.length+1:Nat):Int)):=by unfold sY;rw[hS];rfl
     have hup:sB q lc (some (F,T))=eN q F T (gn (r.length+1) (aS (a::r)) false):=by show eN q F T (gn (dy q F T lc).length (aS (dy q F T lc)) false)=_;rw[hS];rfl
     have T0:=IL n dr lc zc lb zb W B H q i k f t L0.length (aS L0) (r.length+1) (aS (a::r))
     rw[ei,ek,aH,e1,hF,hT,es,jj] at T0
     rw[hlv]
     refine aK T0 (aJ _) (a8 (ak _ _) uD (fun x hx=>fL hx (by simp only[fq.st,aV];exact hlp))) (al _ _) ?_
     refine Tr.af (fun h0=>?_) (fun h0=>by simp (disch:=omega) only[nV,nW] at h0;omega)
     refine Tr.ab (by simp (disch:=omega) only[nV,nW];try omega) (Tr.ab (by simp (disch:=omega) only[nV,nW];try omega) (Tr.ab (by simp (disch:=omega) only[nV,nW];try omega) (Tr.ab (by simp (disch:=omega) only[nV,nW];try omega) (Tr.ab (by simp (disch:=omega) only[nV,nW];try omega) (Tr.ab (by simp (disch:=omega) only[nV,nW];try omega) (Tr.ab (by simp (disch:=omega) only[nV,nW];try omega) (Tr.aj ⟨rfl,rfl⟩ (Tr.af (fun _=>Tr.af (fun h=>by rw[bF,hb] at h;cases h) (fun _=>Tr.af (fun h=>by simp[aY] at h) (fun _=>Tr.af (fun h2=>Tr.af (fun _=>Tr.af (fun h1=>?_) (fun h1=>Tr.ah ?_)) (fun h=>by exfalso;simp (disch:=omega) only[nV,nW] at h;omega)) (fun h2=>Tr.af (fun h3=>Tr.af (fun _=>Tr.af (fun h1=>?_) (fun h1=>Tr.ah ?_)) (fun h=>by exfalso;simp (disch:=omega) only[nV,nW] at h;omega)) (fun h3=>Tr.ah ?_))))) (fun h=>by cases h)))))))))
     all_goals rw[bF] at h2
     · rw[bF] at h1
       rw[wN (show Lw (some (f,t)) F T=true by show (decide (F<f) || decide (T<t))=true;rw[h2];rfl) (hov.trans h1),hup]
       exact Tr.ab (by simp (disch:=omega) only[nV,nW];try omega) (Tr.ab (by simp (disch:=omega) only[nV,nW];try omega) (Tr.ab (by simp (disch:=omega) only[nV,nW];try omega) (Tr.ab (by simp (disch:=omega) only[nV,nW];try omega) (Tr.ah ⟨rfl,rfl⟩))))
     · rw[bF] at h1
       rw[tr (hov.trans h1),hlv];exact ⟨rfl,rfl⟩
     all_goals rw[bF] at h3
     · rw[bF] at h1
       rw[wN (show Lw (some (f,t)) F T=true by show (decide (F<f) || decide (T<t))=true;rw[h3,Bool.or_true]) (hov.trans h1),hup]
       exact Tr.ab (by simp (disch:=omega) only[nV,nW];try omega) (Tr.ab (by simp (disch:=omega) only[nV,nW];try omega) (Tr.ab (by simp (disch:=omega) only[nV,nW];try omega) (Tr.ab (by simp (disch:=omega) only[nV,nW];try omega) (Tr.ah ⟨rfl,rfl⟩))))
     · rw[bF] at h1
       rw[tr (hov.trans h1),hlv];exact ⟨rfl,rfl⟩
     · rw[Lk (show Lw (some (f,t)) F T=false by show (decide (F<f) || decide (T<t))=false;rw[h2,h3];rfl),hlv];exact ⟨rfl,rfl⟩
end
end Go.Eng
end
section
namespace Go.Eng
open Go.Proofs Go.Eng.Gall
noncomputable def Ai (R:Row) (lc:Nat) (i k:Int):az:=[(0,.ptrT none R 0),(2,.ptr 0 0 0 0),(4,.ptr 0 1 0 0),(5,.ptr 0 2 0 0),(6,.bool true),(7,.int .i64 i),(9,.ptr 0 3 0 0),(19,.int .i64 (Int.ofNat lc)),(20,.int .i64 i),(28,.int .i64 (Int.ofNat lc)),(29,.int .i64 k),(87,.bool true)]
theorem MC (n:Nat) (dr:Int) (lc:Nat) (zc:Nat→Int) (lb:Nat) (zb:Nat→Int) (W B:Nat→Int) (H:aa) (q:Nat→Int) (i k:Int):aW (cj n 65 128) (il a6 n 0) (jB bp 4) br (part Tryd.f65 [1,0,1,1,1,1,0,1,0,0,1,1,0,0,1,1,0,0]) (hints (ie (shR dr lc zc lb zb W B) false lc i k)) (eN q (Int.ofNat 0) (Int.ofNat 0) .nils::H) =
 Tr.ite (bO k (Int.ofNat lc)) (Tr.req (dj i 10) (Tr.req (cG 0 0) (Tr.req (cZ (aC 0 i 2) 20) (Tr.req (dj k 10) (Tr.req (cG 0 0) (Tr.req (cZ (av (aC 0 k 2) 1) 20) (Tr.req (b7 (gm 0 0) (gm 0 1)) Tr.bad))))))) (Tr.ok (Ex.exit 2,[(0,AV.ptrT none (Row.M [an.one (AV.int .i64 dr),an.one (AV.slcT none (Row.M [an.arr .i64 zc (ar lc 4)]) 4 lc false),an.one (AV.slcT none (Row.M [an.arr .i64 zb (ar lb 2)]) 2 lb false),an.arr .i64 W 20,an.arr IntKind.u64 B 10]) 0,none),(2,AV.ptr 0 0 0 0,none),(4,AV.ptr 0 1 0 0,none),(5,AV.ptr 0 2 0 0,none),(6,AV.bool false,none),(7,AV.int .i64 i,none),(19,AV.int .i64 (Int.ofNat lc),none),(20,AV.int .i64 i,none),(28,AV.int .i64 (Int.ofNat lc),none),(29,AV.int .i64 k,none),(30,AV.bool false,some 1)],{ lock:=false,bs:=[(0,aq.row (Row.G [AV.int .i64 (Int.ofNat 0),AV.int .i64 (Int.ofNat 0),AV.nils])),(0,aq.row (Row.M [an.arr .i64 q 20])),(0,aq.row (Row.G [AV.int .i64 (Int.ofNat 0),AV.int .i64 (Int.ofNat 0),AV.nils]))] } :: H)):=by kernel_rfl
theorem MD (n:Nat) (dr:Int) (lc:Nat) (zc:Nat→Int) (lb:Nat) (zb:Nat→Int) (W B:Nat→Int) (H:aa) (q:Nat→Int) (i k:Int) (f t:Int) (m:Nat) (y:Nat→Int):aW (cj n 65 128) (il a6 n 0) (jB bp 4) br (part Tryd.f65 [1,0,1,1,1,1,0,1,0,0,1,1,0,0,1,1,0,0]) (hints (ie (shR dr lc zc lb zb W B) true lc i k)) (eN q f t (gn m y false)::H) =
 Tr.ite (bO k (Int.ofNat lc)) (Tr.req (dj i 10) (Tr.req (cG 0 0) (Tr.req (cZ (aC 0 i 2) 20) (Tr.req (dj k 10) (Tr.req (cG 0 0) (Tr.req (cZ (av (aC 0 k 2) 1) 20) (Tr.req (b7 (gm 0 0) (gm 0 1)) Tr.bad))))))) (Tr.ok (Ex.exit 2,[(0,AV.ptrT none (Row.M [an.one (AV.int .i64 dr),an.one (AV.slcT none (Row.M [an.arr .i64 zc (ar lc 4)]) 4 lc false),an.one (AV.slcT none (Row.M [an.arr .i64 zb (ar lb 2)]) 2 lb false),an.arr .i64 W 20,an.arr IntKind.u64 B 10]) 0,none),(2,AV.ptr 0 0 0 0,none),(4,AV.ptr 0 1 0 0,none),(5,AV.ptr 0 2 0 0,none),(6,AV.bool true,none),(7,AV.int .i64 i,none),(19,AV.int .i64 (Int.ofNat lc),none),(20,AV.int .i64 i,none),(28,AV.int .i64 (Int.ofNat lc),none),(29,AV.int .i64 k,none),(30,AV.bool false,some 1)],{ lock:=false,bs:=[(0,aq.row (Row.G [AV.int .i64 (Int.ofNat 0),AV.int .i64 (Int.ofNat 0),AV.nils])),(0,aq.row (Row.M [an.arr .i64 q 20])),(0,aq.row (Row.G [AV.int .i64 f,AV.int .i64 t,AV.slcT none (Row.M [an.arr .i64 y m]) 1 m false]))] } :: H)):=by kernel_rfl
theorem MY (n:Nat) (dr:Int) (lc:Nat) (zc:Nat→Int) (lb:Nat) (zb:Nat→Int) (W B:Nat→Int) (H:aa) (q:Nat→Int) (i:Int):aW (cj n 65 128) (il a6 n 0) (dc bp 2 (ie (shR dr lc zc lb zb W B) false lc i (Int.ofNat 0)) (eN q (Int.ofNat 0) (Int.ofNat 0) .nils::H) (.ok (.normal,hints (ie (shR dr lc zc lb zb W B) false lc i (Int.ofNat lc)++[(30,.bool false)]),eN q (Int.ofNat 0) (Int.ofNat 0) .nils::H))) br (part Tryd.f65 [1,0,1,1,1,1,0,1,0,0]) (hints (kH (shR dr lc zc lb zb W B) false lc i)) (eN q (Int.ofNat 0) (Int.ofNat 0) .nils::H) =
 (fun (Z0:bA)=>((fun (Z1:Row)=>((fun (Z2:az)=>Tr.ite (bO i (Int.ofNat lc)) (Tr.reqP (Z2=Z2∧Z0::H=Z0::H) (Tr.ok (Ex.normal,[(0,AV.ptrT none Z1 0,none),(2,AV.ptr 0 0 0 0,none),(4,AV.ptr 0 1 0 0,none),(5,AV.ptr 0 2 0 0,none),(6,AV.bool false,none),(19,AV.int .i64 (Int.ofNat lc),none),(20,AV.int .i64 (bg .i64 i (Int.ofNat 1)),none)],Z0::H))) (Tr.ok (Ex.exit 0,[(0,AV.ptrT none Z1 0,none),(2,AV.ptr 0 0 0 0,none),(4,AV.ptr 0 1 0 0,none),(5,AV.ptr 0 2 0 0,none),(6,AV.bool false,none),(19,AV.int .i64 (Int.ofNat lc),none),(20,AV.int .i64 i,none),(21,AV.bool false,some 1)],Z0::H))) [(0,AV.ptrT none Z1 0),(2,AV.ptr 0 0 0 0),(4,AV.ptr 0 1 0 0),(5,AV.ptr 0 2 0 0),(6,AV.bool false),(7,AV.int .i64 i),(19,AV.int .i64 (Int.ofNat lc)),(20,AV.int .i64 i),(28,AV.int .i64 (Int.ofNat lc)),(29,AV.int .i64 (Int.ofNat 0))])) (Row.M [an.one (AV.int .i64 dr),an.one (AV.slcT none (Row.M [an.arr .i64 zc (ar lc 4)]) 4 lc false),an.one (AV.slcT none (Row.M [an.arr .i64 zb (ar lb 2)]) 2 lb false),an.arr .i64 W 20,an.arr IntKind.u64 B 10]))) { lock:=false,bs:=[(0,aq.row (Row.G [AV.int .i64 (Int.ofNat 0),AV.int .i64 (Int.ofNat 0),AV.nils])),(0,aq.row (Row.M [an.arr .i64 q 20])),(0,aq.row (Row.G [AV.int .i64 (Int.ofNat 0),AV.int .i64 (Int.ofNat 0),AV.nils]))] }:=by kernel_rfl
theorem MZ (n:Nat) (dr:Int) (lc:Nat) (zc:Nat→Int) (lb:Nat) (zb:Nat→Int) (W B:Nat→Int) (H:aa) (q:Nat→Int) (i:Int) (f2 t2:Int) (m2:Nat) (y2:Nat→Int):aW (cj n 65 128) (il a6 n 0) (dc bp 2 (ie (shR dr lc zc lb zb W B) false lc i (Int.ofNat 0)) (eN q (Int.ofNat 0) (Int.ofNat 0) .nils::H) (.ok (.normal,hints (ie (shR dr lc zc lb zb W B) true lc i (Int.ofNat lc)++[(30,.bool false)]),eN q f2 t2 (gn m2 y2 false)::H))) br (part Tryd.f65 [1,0,1,1,1,1,0,1,0,0]) (hints (kH (shR dr lc zc lb zb W B) false lc i)) (eN q (Int.ofNat 0) (Int.ofNat 0) .nils::H) =
 (fun (Z0:Row)=>((fun (Z1:Nat×aq)=>((fun (Z2:az)=>((fun (Z3:bA)=>Tr.ite (bO i (Int.ofNat lc)) (Tr.reqP (Z2=Z2∧Z3::H=Z3::H) (Tr.ok (Ex.normal,[(0,AV.ptrT none Z0 0,none),(2,AV.ptr 0 0 0 0,none),(4,AV.ptr 0 1 0 0,none),(5,AV.ptr 0 2 0 0,none),(6,AV.bool true,none),(19,AV.int .i64 (Int.ofNat lc),none),(20,AV.int .i64 (bg .i64 i (Int.ofNat 1)),none)],{ lock:=false,bs:=[Z1,(0,aq.row (Row.M [an.arr .i64 q 20])),(0,aq.row (Row.G [AV.int .i64 f2,AV.int .i64 t2,AV.slcT none (Row.M [an.arr .i64 y2 m2]) 1 m2 false]))] } :: H))) (Tr.ok (Ex.exit 0,[(0,AV.ptrT none Z0 0,none),(2,AV.ptr 0 0 0 0,none),(4,AV.ptr 0 1 0 0,none),(5,AV.ptr 0 2 0 0,none),(6,AV.bool false,none),(19,AV.int .i64 (Int.ofNat lc),none),(20,AV.int .i64 i,none),(21,AV.bool false,some 1)],Z3::H))) { lock:=false,bs:=[Z1,(0,aq.row (Row.M [an.arr .i64 q 20])),Z1] })) [(0,AV.ptrT none Z0 0),(2,AV.ptr 0 0 0 0),(4,AV.ptr 0 1 0 0),(5,AV.ptr 0 2 0 0),(6,AV.bool false),(7,AV.int .i64 i),(19,AV.int .i64 (Int.ofNat lc)),(20,AV.int .i64 i),(28,AV.int .i64 (Int.ofNat lc)),(29,AV.int .i64 (Int.ofNat 0))])) (0,aq.row (Row.G [AV.int .i64 (Int.ofNat 0),AV.int .i64 (Int.ofNat 0),AV.nils])))) (Row.M [an.one (AV.int .i64 dr),an.one (AV.slcT none (Row.M [an.arr .i64 zc (ar lc 4)]) 4 lc false),an.one (AV.slcT none (Row.M [an.arr .i64 zb (ar lb 2)]) 2 lb false),an.arr .i64 W 20,an.arr IntKind.u64 B 10]):=by kernel_rfl
theorem M8 (n:Nat) (dr:Int) (lc:Nat) (zc:Nat→Int) (lb:Nat) (zb:Nat→Int) (W B:Nat→Int) (H:aa) (q:Nat→Int) (i:Int) (f t:Int) (m:Nat) (y:Nat→Int) (f2 t2:Int) (m2:Nat) (y2:Nat→Int):aW (cj n 65 128) (il a6 n 0) (dc bp 2 (ie (shR dr lc zc lb zb W B) true lc i (Int.ofNat 0)) (eN q f t (gn m y false)::H) (.ok (.normal,hints (ie (shR dr lc zc lb zb W B) true lc i (Int.ofNat lc)++[(30,.bool false)]),eN q f2 t2 (gn m2 y2 false)::H))) br (part Tryd.f65 [1,0,1,1,1,1,0,1,0,0]) (hints (kH (shR dr lc zc lb zb W B) true lc i)) (eN q f t (gn m y false)::H) =
 (fun (Z0:Row)=>((fun (Z1:bA)=>((fun (Z2:az)=>Tr.ite (bO i (Int.ofNat lc)) (Tr.reqP (Z2=Z2∧Z1::H=Z1::H) (Tr.ok (Ex.normal,[(0,AV.ptrT none Z0 0,none),(2,AV.ptr 0 0 0 0,none),(4,AV.ptr 0 1 0 0,none),(5,AV.ptr 0 2 0 0,none),(6,AV.bool true,none),(19,AV.int .i64 (Int.ofNat lc),none),(20,AV.int .i64 (bg .i64 i (Int.ofNat 1)),none)],{ lock:=false,bs:=[(0,aq.row (Row.G [AV.int .i64 (Int.ofNat 0),AV.int .i64 (Int.ofNat 0),AV.nils])),(0,aq.row (Row.M [an.arr .i64 q 20])),(0,aq.row (Row.G [AV.int .i64 f2,AV.int .i64 t2,AV.slcT none (Row.M [an.arr .i64 y2 m2]) 1 m2 false]))] } :: H))) (Tr.ok (Ex.exit 0,[(0,AV.ptrT none Z0 0,none),(2,AV.ptr 0 0 0 0,none),(4,AV.ptr 0 1 0 0,none),(5,AV.ptr 0 2 0 0,none),(6,AV.bool true,none),(19,AV.int .i64 (Int.ofNat lc),none),(20,AV.int .i64 i,none),(21,AV.bool false,some 1)],Z1::H))) [(0,AV.ptrT none Z0 0),(2,AV.ptr 0 0 0 0),(4,AV.ptr 0 1 0 0),(5,AV.ptr 0 2 0 0),(6,AV.bool true),(7,AV.int .i64 i),(19,AV.int .i64 (Int.ofNat lc)),(20,AV.int .i64 i),(28,AV.int .i64 (Int.ofNat lc)),(29,AV.int .i64 (Int.ofNat 0))])) { lock:=false,bs:=[(0,aq.row (Row.G [AV.int .i64 (Int.ofNat 0),AV.int .i64 (Int.ofNat 0),AV.nils])),(0,aq.row (Row.M [an.arr .i64 q 20])),(0,aq.row (Row.G [AV.int .i64 f,AV.int .i64 t,AV.slcT none (Row.M [an.arr .i64 y m]) 1 m false]))] })) (Row.M [an.one (AV.int .i64 dr),an.one (AV.slcT none (Row.M [an.arr .i64 zc (ar lc 4)]) 4 lc false),an.one (AV.slcT none (Row.M [an.arr .i64 zb (ar lb 2)]) 2 lb false),an.arr .i64 W 20,an.arr IntKind.u64 B 10]):=by kernel_rfl
theorem M9 (n:Nat) (dr:Int) (lc:Nat) (zc:Nat→Int) (lb:Nat) (zb:Nat→Int) (W B:Nat→Int) (H:aa) (q:Nat→Int) (i:Int) (f t:Int) (m:Nat) (y:Nat→Int) (F T:Int):aW (cj n 65 128) (il a6 n 0) (dc bp 2 (ie (shR dr lc zc lb zb W B) true lc i (Int.ofNat 0)) (eN q f t (gn m y false)::H) (.ok (.exit 1,hints (Ai (shR dr lc zc lb zb W B) lc i (Int.ofNat 0)),x4 q f t (gn m y false) F T::H))) br (part Tryd.f65 [1,0,1,1,1,1,0,1,0,0]) (hints (kH (shR dr lc zc lb zb W B) true lc i)) (eN q f t (gn m y false)::H) =
 (fun (Z0:Row)=>((fun (Z1:bA)=>((fun (Z2:az)=>Tr.ite (bO i (Int.ofNat lc)) (Tr.reqP (Z2=Z2∧Z1::H=Z1::H) (Tr.ok (Ex.normal,[(0,AV.ptrT none Z0 0,none),(2,AV.ptr 0 0 0 0,none),(4,AV.ptr 0 1 0 0,none),(5,AV.ptr 0 2 0 0,none),(6,AV.bool true,none),(19,AV.int .i64 (Int.ofNat lc),none),(20,AV.int .i64 (bg .i64 i (Int.ofNat 1)),none)],{ lock:=false,bs:=[(0,aq.row (Row.G [AV.int .i64 (Int.ofNat 0),AV.int .i64 (Int.ofNat 0),AV.nils])),(0,aq.row (Row.M [an.arr .i64 q 20])),(0,aq.row (Row.G [AV.int .i64 f,AV.int .i64 t,AV.slcT none (Row.M [an.arr .i64 y m]) 1 m false])),(0,aq.row (Row.G [AV.int .i64 F,AV.int .i64 T,AV.nils]))] } :: H))) (Tr.ok (Ex.exit 0,[(0,AV.ptrT none Z0 0,none),(2,AV.ptr 0 0 0 0,none),(4,AV.ptr 0 1 0 0,none),(5,AV.ptr 0 2 0 0,none),(6,AV.bool true,none),(19,AV.int .i64 (Int.ofNat lc),none),(20,AV.int .i64 i,none),(21,AV.bool false,some 1)],Z1::H))) [(0,AV.ptrT none Z0 0),(2,AV.ptr 0 0 0 0),(4,AV.ptr 0 1 0 0),(5,AV.ptr 0 2 0 0),(6,AV.bool true),(7,AV.int .i64 i),(19,AV.int .i64 (Int.ofNat lc)),(20,AV.int .i64 i),(28,AV.int .i64 (Int.ofNat lc)),(29,AV.int .i64 (Int.ofNat 0))])) { lock:=false,bs:=[(0,aq.row (Row.G [AV.int .i64 (Int.ofNat 0),AV.int .i64 (Int.ofNat 0),AV.nils])),(0,aq.row (Row.M [an.arr .i64 q 20])),(0,aq.row (Row.G [AV.int .i64 f,AV.int .i64 t,AV.slcT none (Row.M [an.arr .i64 y m]) 1 m false]))] })) (Row.M [an.one (AV.int .i64 dr),an.one (AV.slcT none (Row.M [an.arr .i64 zc (ar lc 4)]) 4 lc false),an.one (AV.slcT none (Row.M [an.arr .i64 zb (ar lb 2)]) 2 lb false),an.arr .i64 W 20,an.arr IntKind.u64 B 10]):=by kernel_rfl
theorem Na (n:Nat) (dr:Int) (lc:Nat) (zc:Nat→Int) (lb:Nat) (zb:Nat→Int) (W B:Nat→Int) (H:aa) (q:Nat→Int) (i:Int) (f t:Int) (m:Nat) (y:Nat→Int) (F T:Int) (g:Nat) (x:Nat→Int):aW (cj n 65 128) (il a6 n 0) (dc bp 2 (ie (shR dr lc zc lb zb W B) true lc i (Int.ofNat 0)) (eN q f t (gn m y false)::H) (.ok (.exit 1,hints (Ai (shR dr lc zc lb zb W B) lc i (Int.ofNat 0)),Ax q f t (gn m y false) F T g x::H))) br (part Tryd.f65 [1,0,1,1,1,1,0,1,0,0]) (hints (kH (shR dr lc zc lb zb W B) true lc i)) (eN q f t (gn m y false)::H) =
 (fun (Z0:Row)=>((fun (Z1:bA)=>((fun (Z2:az)=>Tr.ite (bO i (Int.ofNat lc)) (Tr.reqP (Z2=Z2∧Z1::H=Z1::H) (Tr.ok (Ex.normal,[(0,AV.ptrT none Z0 0,none),(2,AV.ptr 0 0 0 0,none),(4,AV.ptr 0 1 0 0,none),(5,AV.ptr 0 2 0 0,none),(6,AV.bool true,none),(19,AV.int .i64 (Int.ofNat lc),none),(20,AV.int .i64 (bg .i64 i (Int.ofNat 1)),none)],{ lock:=false,bs:=[(0,aq.row (Row.G [AV.int .i64 (Int.ofNat 0),AV.int .i64 (Int.ofNat 0),AV.nils])),(0,aq.row (Row.M [an.arr .i64 q 20])),(0,aq.row (Row.G [AV.int .i64 f,AV.int .i64 t,AV.slcT none (Row.M [an.arr .i64 y m]) 1 m false])),(0,aq.row (Row.G [AV.int .i64 F,AV.int .i64 T,AV.slc 0 4 0 0 1 g none])),(0,aq.row (Row.M [an.arr .i64 x g]))] } :: H))) (Tr.ok (Ex.exit 0,[(0,AV.ptrT none Z0 0,none),(2,AV.ptr 0 0 0 0,none),(4,AV.ptr 0 1 0 0,none),(5,AV.ptr 0 2 0 0,none),(6,AV.bool true,none),(19,AV.int .i64 (Int.ofNat lc),none),(20,AV.int .i64 i,none),(21,AV.bool false,some 1)],Z1::H))) [(0,AV.ptrT none Z0 0),(2,AV.ptr 0 0 0 0),(4,AV.ptr 0 1 0 0),(5,AV.ptr 0 2 0 0),(6,AV.bool true),(7,AV.int .i64 i),(19,AV.int .i64 (Int.ofNat lc)),(20,AV.int .i64 i),(28,AV.int .i64 (Int.ofNat lc)),(29,AV.int .i64 (Int.ofNat 0))])) { lock:=false,bs:=[(0,aq.row (Row.G [AV.int .i64 (Int.ofNat 0),AV.int .i64 (Int.ofNat 0),AV.nils])),(0,aq.row (Row.M [an.arr .i64 q 20])),(0,aq.row (Row.G [AV.int .i64 f,AV.int .i64 t,AV.slcT none (Row.M [an.arr .i64 y m]) 1 m false]))] })) (Row.M [an.one (AV.int .i64 dr),an.one (AV.slcT none (Row.M [an.arr .i64 zc (ar lc 4)]) 4 lc false),an.one (AV.slcT none (Row.M [an.arr .i64 zb (ar lb 2)]) 2 lb false),an.arr .i64 W 20,an.arr IntKind.u64 B 10]):=by kernel_rfl
theorem MX (n:Nat) (dr:Int) (lc:Nat) (zc:Nat→Int) (lb:Nat) (zb:Nat→Int) (W B:Nat→Int) (H:aa) (q:Nat→Int) (i:Int):aW (cj n 65 128) (il a6 n 0) (jB bp 2) br (part Tryd.f65 [1,0,1,1,1,1,0,1,0,0]) (hints (kH (shR dr lc zc lb zb W B) false lc i)) (eN q (Int.ofNat 0) (Int.ofNat 0) .nils::H) =
 Tr.ite (bO i (Int.ofNat lc)) Tr.bad (Tr.ok (Ex.exit 0,[(0,AV.ptrT none (Row.M [an.one (AV.int .i64 dr),an.one (AV.slcT none (Row.M [an.arr .i64 zc (ar lc 4)]) 4 lc false),an.one (AV.slcT none (Row.M [an.arr .i64 zb (ar lb 2)]) 2 lb false),an.arr .i64 W 20,an.arr IntKind.u64 B 10]) 0,none),(2,AV.ptr 0 0 0 0,none),(4,AV.ptr 0 1 0 0,none),(5,AV.ptr 0 2 0 0,none),(6,AV.bool false,none),(19,AV.int .i64 (Int.ofNat lc),none),(20,AV.int .i64 i,none),(21,AV.bool false,some 1)],{ lock:=false,bs:=[(0,aq.row (Row.G [AV.int .i64 (Int.ofNat 0),AV.int .i64 (Int.ofNat 0),AV.nils])),(0,aq.row (Row.M [an.arr .i64 q 20])),(0,aq.row (Row.G [AV.int .i64 (Int.ofNat 0),AV.int .i64 (Int.ofNat 0),AV.nils]))] } :: H)):=by kernel_rfl
theorem M7 (n:Nat) (dr:Int) (lc:Nat) (zc:Nat→Int) (lb:Nat) (zb:Nat→Int) (W B:Nat→Int) (H:aa) (q:Nat→Int) (i:Int) (f t:Int) (m:Nat) (y:Nat→Int):aW (cj n 65 128) (il a6 n 0) (jB bp 2) br (part Tryd.f65 [1,0,1,1,1,1,0,1,0,0]) (hints (kH (shR dr lc zc lb zb W B) true lc i)) (eN q f t (gn m y false)::H) =
 Tr.ite (bO i (Int.ofNat lc)) Tr.bad (Tr.ok (Ex.exit 0,[(0,AV.ptrT none (Row.M [an.one (AV.int .i64 dr),an.one (AV.slcT none (Row.M [an.arr .i64 zc (ar lc 4)]) 4 lc false),an.one (AV.slcT none (Row.M [an.arr .i64 zb (ar lb 2)]) 2 lb false),an.arr .i64 W 20,an.arr IntKind.u64 B 10]) 0,none),(2,AV.ptr 0 0 0 0,none),(4,AV.ptr 0 1 0 0,none),(5,AV.ptr 0 2 0 0,none),(6,AV.bool true,none),(19,AV.int .i64 (Int.ofNat lc),none),(20,AV.int .i64 i,none),(21,AV.bool false,some 1)],{ lock:=false,bs:=[(0,aq.row (Row.G [AV.int .i64 (Int.ofNat 0),AV.int .i64 (Int.ofNat 0),AV.nils])),(0,aq.row (Row.M [an.arr .i64 q 20])),(0,aq.row (Row.G [AV.int .i64 f,AV.int .i64 t,AV.slcT none (Row.M [an.arr .i64 y m]) 1 m false]))] } :: H)):=by kernel_rfl
theorem QG (n:Nat) (dr:Int) (lc:Nat) (zc:Nat→Int) (lb:Nat) (zb:Nat→Int) (W B:Nat→Int) (H:aa) (q:Nat→Int) (r:Nat→Int):bE Tryd.prog (cd n) 100000 65 Tryd.f65 (KtG.kt 65) (il (tX a6 56 [shV dr lc zc lb zb W B] (.agg (.M [.arr .i64 r 20]))) n 0) (dc bp 0 (kH (shR dr lc zc lb zb W B) false lc (Int.ofNat 0)) (eN (oo (fun x=>Int.ofNat 0) 0 r 20) (Int.ofNat 0) (Int.ofNat 0) .nils::H) (.ok (.normal,hints (kH (shR dr lc zc lb zb W B) false lc (Int.ofNat lc)++[(21,.bool false)]),eN q (Int.ofNat 0) (Int.ofNat 0) .nils::H))) br [(shV dr lc zc lb zb W B,none)] H =
 (fun (Z0:Row)=>((fun (Z1:Row)=>((fun (Z2:az)=>((fun (Z3:bA)=>Tr.reqP ([AV.ptrT none Z0 0]=[AV.ptrT none Z0 0]) (Tr.req (fC 0 20 0 20) (Tr.reqP (Z2=Z2∧Z3::H=Z3::H) (Tr.ok ((AV.tup [AV.agg Z1,AV.bool false],none),H))))) { lock:=false,bs:=[(0,aq.row Z1),(0,aq.row (Row.M [an.arr .i64 (oo (fun x=>Int.ofNat 0) 0 r 20) 20])),(0,aq.row Z1)] })) [(0,AV.ptrT none Z0 0),(2,AV.ptr 0 0 0 0),(4,AV.ptr 0 1 0 0),(5,AV.ptr 0 2 0 0),(6,AV.bool false),(19,AV.int .i64 (Int.ofNat lc)),(20,AV.int .i64 (Int.ofNat 0))])) (Row.G [AV.int .i64 (Int.ofNat 0),AV.int .i64 (Int.ofNat 0),AV.nils]))) (Row.M [an.one (AV.int .i64 dr),an.one (AV.slcT none (Row.M [an.arr .i64 zc (ar lc 4)]) 4 lc false),an.one (AV.slcT none (Row.M [an.arr .i64 zb (ar lb 2)]) 2 lb false),an.arr .i64 W 20,an.arr IntKind.u64 B 10]):=by kernel_rfl
theorem QH (n:Nat) (dr:Int) (lc:Nat) (zc:Nat→Int) (lb:Nat) (zb:Nat→Int) (W B:Nat→Int) (H:aa) (q:Nat→Int) (r:Nat→Int) (f2 t2:Int) (m2:Nat) (y2:Nat→Int):bE Tryd.prog (cd n) 100000 65 Tryd.f65 (KtG.kt 65) (il (tX a6 56 [shV dr lc zc lb zb W B] (.agg (.M [.arr .i64 r 20]))) n 0) (dc bp 0 (kH (shR dr lc zc lb zb W B) false lc (Int.ofNat 0)) (eN (oo (fun x=>Int.ofNat 0) 0 r 20) (Int.ofNat 0) (Int.ofNat 0) .nils::H) (.ok (.normal,hints (kH (shR dr lc zc lb zb W B) true lc (Int.ofNat lc)++[(21,.bool false)]),eN q f2 t2 (gn m2 y2 false)::H))) br [(shV dr lc zc lb zb W B,none)] H =
 (fun (Z0:Row)=>((fun (Z1:bA)=>((fun (Z2:az)=>Tr.reqP ([AV.ptrT none Z0 0]=[AV.ptrT none Z0 0]) (Tr.req (fC 0 20 0 20) (Tr.reqP (Z2=Z2∧Z1::H=Z1::H) (Tr.ok ((AV.tup [AV.agg (Row.G [AV.int .i64 f2,AV.int .i64 t2,AV.slcT none (Row.M [an.arr .i64 y2 m2]) 1 m2 false]),AV.bool true],none),H))))) [(0,AV.ptrT none Z0 0),(2,AV.ptr 0 0 0 0),(4,AV.ptr 0 1 0 0),(5,AV.ptr 0 2 0 0),(6,AV.bool false),(19,AV.int .i64 (Int.ofNat lc)),(20,AV.int .i64 (Int.ofNat 0))])) { lock:=false,bs:=[(0,aq.row (Row.G [AV.int .i64 (Int.ofNat 0),AV.int .i64 (Int.ofNat 0),AV.nils])),(0,aq.row (Row.M [an.arr .i64 (oo (fun x=>Int.ofNat 0) 0 r 20) 20])),(0,aq.row (Row.G [AV.int .i64 (Int.ofNat 0),AV.int .i64 (Int.ofNat 0),AV.nils]))] })) (Row.M [an.one (AV.int .i64 dr),an.one (AV.slcT none (Row.M [an.arr .i64 zc (ar lc 4)]) 4 lc false),an.one (AV.slcT none (Row.M [an.arr .i64 zb (ar lb 2)]) 2 lb false),an.arr .i64 W 20,an.arr IntKind.u64 B 10]):=by kernel_rfl
end Go.Eng
end
