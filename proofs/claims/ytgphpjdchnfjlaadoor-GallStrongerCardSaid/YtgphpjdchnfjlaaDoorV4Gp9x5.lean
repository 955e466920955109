/- Gall: no block is overfull if and only if there is a right order (plain law). -/
import Derived.Test.YtgphpjdchnfjlaaDoorV4Gbax4
set_option linter.unusedVariables false
set_option linter.unusedSimpArgs false
set_option maxRecDepth 100000
section
namespace Go.Eng
open Go.Proofs Go.Eng.Gall
theorem ru (q:Nat→Int) (F T x:Int):∀ j,x ∈ dO q F T j↔∃ k,k<j∧xw q F T k=true∧x=(k:Int)
 | 0=>by simp[dO]
 | j + 1=>by
   have ih:=ru q F T x j;unfold dO;split
   · rename_i h;rw[List.mem_append,List.mem_singleton,ih];constructor
     · rintro (⟨k,h1,h2,h3⟩ | h1)
       · exact ⟨k,by omega,h2,h3⟩
       · exact ⟨j,by omega,h,h1⟩
     · rintro ⟨k,h1,h2,h3⟩;by_cases e:k=j
       · subst e;exact .inr h3
       · exact .inl ⟨k,by omega,h2,h3⟩
   · rename_i h;rw[ih];constructor
     · rintro ⟨k,h1,h2,h3⟩;exact ⟨k,by omega,h2,h3⟩
     · rintro ⟨k,h1,h2,h3⟩;by_cases e:k=j
       · subst e;exact absurd h2 h
       · exact ⟨k,by omega,h2,h3⟩
theorem vk (q:Nat→Int) (F T:Int):∀ j,(dO q F T j).Nodup
 | 0=>List.nodup_nil
 | j + 1=>by
   have ih:=vk q F T j;unfold dO;split
   · rw[List.nodup_append];refine ⟨ih,by simp,?_⟩;intro a ha b hb e;rw[List.mem_singleton] at hb;obtain ⟨k,h1,_,h3⟩:=(ru q F T a j).1 ha;omega
   · exact ih
theorem di {L:List Nat} (hn:L.Nodup) {M:List Int} (h:∀ x ∈ L,(x:Int) ∈ M):L.length≤M.length:=by
 have:=eI hn (M:=M.map Int.toNat) (fun x hx=>List.mem_map.2 ⟨(x:Int),h x hx,rfl⟩);rwa [List.length_map] at this
theorem nF (f:Nat→Int):∀ (L:List Nat),L≠[]→∃ a ∈ L,∀ b ∈ L,f a≤f b
 | [],h=>absurd rfl h
 | [a],_=>⟨a,by simp,by simp⟩
 | a::b::L,_=>by
   obtain ⟨c,hc,h⟩:=nF f (b::L) (by simp);by_cases e:f a≤f c
   · exact ⟨a,by simp,fun x hx=>by
      rcases List.mem_cons.1 hx with rfl | hx
      · exact Int.le_refl _
      · have:=h x hx;omega⟩
   · exact ⟨c,List.mem_cons_of_mem _ hc,fun x hx=>by
      rcases List.mem_cons.1 hx with rfl | hx
      · omega
      · exact h x hx⟩
theorem I2 {q:Nat→Int} {lc:Nat} (h:lj q lc lc=none):Room lc (fun c=>q (2*c)) (fun c=>q (2*c+1)):=by
 have hf:∀ F T,¬ ∃ j k,j<lc∧k<lc∧F=q (2*j)∧T=q (2*k+1)∧tl q lc F T=true:=by
  rcases tk q lc lc with h1 | ⟨f,t,h1,_⟩
  · rw[h] at h1;exact h1
  · rw[h] at h1;cases h1
 intro s t L hn hne hL;obtain ⟨a,ha,ha2⟩:=nF (fun c=>q (2*c)) L hne;obtain ⟨b,hb,hb2⟩:=nF (fun c=>-q (2*c+1)) L hne;have h1:=hf (q (2*a)) (q (2*b+1));have hov:tl q lc (q (2*a)) (q (2*b+1))=false:=by
  cases e:tl q lc (q (2*a)) (q (2*b+1)) with
  | false=>rfl
  | true=>exact absurd ⟨a,b,(hL a ha).1,(hL b hb).1,rfl,rfl,e⟩ h1
 have hle:L.length≤(dO q (q (2*a)) (q (2*b+1)) lc).length:=di hn fun x hx=>by
  refine (ru _ _ _ _ _).2 ⟨x,(hL x hx).1,?_,rfl⟩;have e1:=ha2 x hx;have e2:=hb2 x hx;unfold xw;rw[Bool.and_eq_true,decide_eq_true_iff,decide_eq_true_iff];constructor
  · exact e1
  · have e2:-q (2*b+1)≤-q (2*x+1):=e2;omega
 have hpos:0<L.length:=List.length_pos_iff.2 hne;unfold tl at hov;rw[decide_eq_true (show 0<(dO q (q (2*a)) (q (2*b+1)) lc).length by omega),Bool.true_and,decide_eq_false_iff_not] at hov;have e3:s≤q (2*a):=(hL a ha).2.1;have e4:q (2*b+1)≤t:=(hL b hb).2.2;omega
theorem tC {n:Nat} {ok:Nat→Nat→Nat→Bool}:∀ {k:Nat} {L:List Nat},L ∈ ro n ok k↔L.length=k∧∀ i (h:i<L.length),L[i]<n∧(mask (L.take i)).testBit L[i]=false∧ok i (mask (L.take i)) L[i]=true
 | 0,L=>by
   show L ∈ [[]]↔_;rw[List.mem_singleton];constructor
   · rintro rfl;exact ⟨rfl,fun i h=>absurd h (Nat.not_lt_zero i)⟩
   · rintro ⟨h,_⟩;exact List.eq_nil_of_length_eq_zero h
 | k + 1,L=>by
   show L ∈ (ro n ok k).flatMap (fun L=>(nx ok n k (mask L)).map fun c=>L++[c])↔_;rw[List.mem_flatMap];constructor
   · rintro ⟨M,hM,hx⟩;obtain ⟨c,hc,rfl⟩:=List.mem_map.1 hx;obtain ⟨h1,h2⟩:=tC.1 hM;obtain ⟨c1,c2,c3⟩:=oc.1 hc;refine ⟨by rw[List.length_append,h1];rfl,fun i hi=>?_⟩;by_cases e:i<M.length
     · rw[List.getElem_append_left e,List.take_append_of_le_length (by omega)];exact h2 i e
     · have:i=M.length:=by rw[List.length_append,List.length_singleton] at hi;omega
       subst this;rw[List.getElem_append_right (Nat.le_refl _),List.take_left' rfl];simp only[Nat.sub_self,List.getElem_cons_zero];rw[h1];exact ⟨c1,c2,c3⟩
   · rintro ⟨h1,h2⟩;have hne:L≠[]:=by intro e;rw[e] at h1;cases h1
     have hd:L.dropLast++[L.getLast hne]=L:=List.dropLast_concat_getLast hne;have hdl:L.dropLast.length=k:=by rw[List.length_dropLast,h1];rfl
     have ht:∀ i,i≤k→L.dropLast.take i=L.take i:=fun i hi=>by
      rw[List.dropLast_eq_take,List.take_take,Nat.min_eq_left (by omega)]
     refine ⟨L.dropLast,tC.2 ⟨hdl,fun i hi=>?_⟩,List.mem_map.2 ⟨L.getLast hne,?_,hd⟩⟩
     · rw[ht i (by omega),List.getElem_dropLast];exact h2 i (by omega)
     · have:=h2 k (by omega);rw[oc,List.getLast_eq_getElem];have e:L.take k=L.dropLast:=by rw[List.dropLast_eq_take,h1];rfl
       rw[e] at this;simpa[h1] using this
end Go.Eng
end
section
namespace Go.Eng
open Go.Proofs Go.Eng.Gall
noncomputable def sN (q:Nat→Int) (lc:Nat):Option (Int×Int)→bF
 | none=>eX q (Int.ofNat 0) (Int.ofNat 0) .nils
 | some (f,t)=>eX q f t (aY (dO q f t lc).length (az (dO q f t lc)) false)
theorem tT {q:Nat→Int} {lc:Nat} {F T:Int} {b:Option (Int×Int)} (h:tl q lc F T=false):Ek q lc F b T=b:=by unfold Ek;rw[h,Bool.and_false,if_neg (by decide)]
theorem ME {q:Nat→Int} {lc:Nat} {F T:Int} {b:Option (Int×Int)} (h:MT b F T=false):Ek q lc F b T=b:=by unfold Ek;rw[h,Bool.false_and,if_neg (by decide)]
theorem xl {q:Nat→Int} {lc:Nat} {F T:Int} {b:Option (Int×Int)} (h:MT b F T=true) (h2:tl q lc F T=true):Ek q lc F b T=some (F,T):=by unfold Ek;rw[h,h2];rfl
section
variable (n:Nat) (dr:Int) (lc:Nat) (zc:Nat→Int) (lb:Nat) (zb:Nat→Int) (W B:Nat→Int) (H:aa) (q:Nat→Int)
theorem R9 (hl:lc≤10) (hq:∀ j,j<2*lc→-1000000≤q j∧q j≤1000000) (i k:Nat) (hi:i<lc) (hk:k<lc) (b:Option (Int×Int)) (hb:Eu b (q (2*i))=false) :
 ∃ x,exec (bP n 65 128) (part Tryd.f65 [1,0,1,1,1,1,0,1,0,0,1,1,0,0,1,1,0,0]) (ia (shR dr lc zc lb zb W B) b.isSome lc i k) (sN q lc b::H)=some x∧x.1=.normal∧tidy 3 x.2.1 x.2.2=(ia (shR dr lc zc lb zb W B) (Ek q lc (q (2*i)) b (q (2*k+1))).isSome lc i ((k+1:Nat):Int),sN q lc (Ek q lc (q (2*i)) b (q (2*k+1)))::H):=by
 have e1:a6 .i64 (k:Int) (Int.ofNat 1)=((k+1:Nat):Int):=eN (by omega)
 have ei:av 0 (i:Int) 2=2*i:=by rw[bE];omega
 have ek:av 0 (k:Int) 2=2*k:=by rw[bE];omega
 have q1:=hq (2*i) (by omega)
 have q2:=hq (2*k+1) (by omega)
 have es:a6 .i64 (ct .i64 (q (2*k+1)) (q (2*i))) (Int.ofNat 1)=q (2*k+1)-q (2*i)+1:=by
  rw[ON (by omega) (by omega)];exact Ez (by show _≤q (2*k+1)-q (2*i)+1;omega) (by show q (2*k+1)-q (2*i)+1≤_;omega)
 generalize hF:q (2*i)=F at *
 generalize hT:q (2*k+1)=T at *
 cases b with
 | none =>
   have hlp:=QZ n H q (shR dr lc zc lb zb W B) false (Int.ofNat 0) (Int.ofNat 0) lc i k F T hl
   cases hS:dO q F T lc with
   | nil =>
     rw[hS] at hlp
     have ho:tl q lc F T=false:=by unfold tl;rw[hS];rfl
     have T0:=N4 n dr lc zc lb zb W B H q i k (Int.ofNat 0) (Int.ofNat 0) 0 q
     rw[ei,ek,aK,e1,hF,hT] at T0
     rw[tT ho]
     refine aB T0 (aw _) (a8 (ai _ _) uU (fun x hx=>fk hx (by simp only[eC.st,aP];exact hlp))) (aj _ _) ?_
     refine Tr.af (fun h0=>?_) wJ
     refine Tr.ae wG (Tr.ae wG (Tr.ae wG (Tr.ae wG (Tr.ae wG (Tr.ae wG (Tr.ae wG (Tr.al ⟨rfl,rfl⟩ (Tr.af (fun h=>by cases h) (fun _=>Tr.af (fun _=>Tr.ah ⟨rfl,rfl⟩) (fun h=>by simp[aM] at h))))))))))
   | cons a r =>
     rw[hS] at hlp
     have hg:r.length+1≤lc:=by have:=o7 q F T lc;rw[hS] at this;simpa using this
     have hov:tl q lc F T=decide (T-F+1<((r.length+1:Nat):Int)):=by unfold tl;rw[hS];rfl
     have hup:sN q lc (some (F,T))=eX q F T (aY (r.length+1) (az (a::r)) false):=by show eX q F T (aY (dO q F T lc).length (az (dO q F T lc)) false)=_;rw[hS];rfl
     have T0:=N5 n dr lc zc lb zb W B H q i k (Int.ofNat 0) (Int.ofNat 0) 0 q (r.length+1) (az (a::r))
     rw[ei,ek,aK,e1,hF,hT,es,dH] at T0
     refine aB T0 (aw _) (a8 (ai _ _) uU (fun x hx=>fk hx (by simp only[eC.st,aP];exact hlp))) (aj _ _) ?_
     refine Tr.af (fun h0=>?_) wJ
     refine Tr.ae wG (Tr.ae wG (Tr.ae wG (Tr.ae wG (Tr.ae wG (Tr.ae wG (Tr.ae wG (Tr.al ⟨rfl,rfl⟩ (Tr.af (fun h=>by cases h) (fun _=>Tr.af (fun _=>Tr.af (fun _=>Tr.af (fun h1=>?_) (fun h1=>Tr.ah ?_)) wJ) (fun h=>by simp[aM] at h))))))))))
     all_goals rw[bK] at h1
     · rw[xl rfl (hov.trans h1),hup]
       exact Tr.ae wG (Tr.ae wG (Tr.ae wG (Tr.ae wG (Tr.ah ⟨rfl,rfl⟩))))
     · rw[tT (hov.trans h1)];exact ⟨rfl,rfl⟩
 | some v =>
   obtain ⟨f,t⟩:=v
   have hb:decide (f<F)=false:=hb
   have hlp:=Oa n H q (shR dr lc zc lb zb W B) true f t (dO q f t lc).length (az (dO q f t lc)) lc i k F T hl
   have hlv:sN q lc (some (f,t))=eX q f t (aY (dO q f t lc).length (az (dO q f t lc)) false):=rfl
   generalize dO q f t lc=L0 at hlp hlv
   cases hS:dO q F T lc with
   | nil =>
     rw[hS] at hlp
     have ho:tl q lc F T=false:=by unfold tl;rw[hS];rfl
     have T0:=JP n dr lc zc lb zb W B H q i k f t L0.length (az L0)
     rw[ei,ek,aK,e1,hF,hT] at T0
     rw[tT ho,hlv]
     refine aB T0 (aw _) (a8 (ai _ _) uU (fun x hx=>fk hx (by simp only[eC.st,aP];exact hlp))) (aj _ _) ?_
     refine Tr.af (fun h0=>?_) wJ
     refine Tr.ae wG (Tr.ae wG (Tr.ae wG (Tr.ae wG (Tr.ae wG (Tr.ae wG (Tr.ae wG (Tr.al ⟨rfl,rfl⟩ (Tr.af (fun _=>Tr.af (fun h=>by rw[bK,hb] at h;cases h) (fun _=>Tr.af (fun h=>by simp[aM] at h) (fun _=>Tr.af (fun _=>Tr.ah ⟨rfl,rfl⟩) (fun _=>Tr.af (fun _=>Tr.ah ⟨rfl,rfl⟩) (fun _=>Tr.ah ⟨rfl,rfl⟩))))) (fun h=>by cases h)))))))))
   | cons a r =>
     rw[hS] at hlp
     have hg:r.length+1≤lc:=by have:=o7 q F T lc;rw[hS] at this;simpa using this
     have hov:tl q lc F T=decide (T-F+1<((r.length+1:Nat):Int)):=by unfold tl;rw[hS];rfl
     have hup:sN q lc (some (F,T))=eX q F T (aY (r.length+1) (az (a::r)) false):=by show eX q F T (aY (dO q F T lc).length (az (dO q F T lc)) false)=_;rw[hS];rfl
     have T0:=JQ n dr lc zc lb zb W B H q i k f t L0.length (az L0) (r.length+1) (az (a::r))
     rw[ei,ek,aK,e1,hF,hT,es,dH] at T0
     rw[hlv]
     refine aB T0 (aw _) (a8 (ai _ _) uU (fun x hx=>fk hx (by simp only[eC.st,aP];exact hlp))) (aj _ _) ?_
     refine Tr.af (fun h0=>?_) wJ
     refine Tr.ae wG (Tr.ae wG (Tr.ae wG (Tr.ae wG (Tr.ae wG (Tr.ae wG (Tr.ae wG (Tr.al ⟨rfl,rfl⟩ (Tr.af (fun _=>Tr.af (fun h=>by rw[bK,hb] at h;cases h) (fun _=>Tr.af (fun h=>by simp[aM] at h) (fun _=>Tr.af (fun h2=>Tr.af (fun _=>Tr.af (fun h1=>?_) (fun h1=>Tr.ah ?_)) wJ) (fun h2=>Tr.af (fun h3=>Tr.af (fun _=>Tr.af (fun h1=>?_) (fun h1=>Tr.ah ?_)) wJ) (fun h3=>Tr.ah ?_))))) (fun h=>by cases h)))))))))
     all_goals rw[bK] at h2
     · rw[bK] at h1
       rw[xl (show MT (some (f,t)) F T=true by show (decide (F<f) || decide (T<t))=true;rw[h2];rfl) (hov.trans h1),hup]
       exact Tr.ae wG (Tr.ae wG (Tr.ae wG (Tr.ae wG (Tr.ah ⟨rfl,rfl⟩))))
     · rw[bK] at h1
       rw[tT (hov.trans h1),hlv];exact ⟨rfl,rfl⟩
     all_goals rw[bK] at h3
     · rw[bK] at h1
       rw[xl (show MT (some (f,t)) F T=true by show (decide (F<f) || decide (T<t))=true;rw[h3,Bool.or_true]) (hov.trans h1),hup]
       exact Tr.ae wG (Tr.ae wG (Tr.ae wG (Tr.ae wG (Tr.ah ⟨rfl,rfl⟩))))
     · rw[bK] at h1
       rw[tT (hov.trans h1),hlv];exact ⟨rfl,rfl⟩
     · rw[ME (show MT (some (f,t)) F T=false by show (decide (F<f) || decide (T<t))=false;rw[h2,h3];rfl),hlv];exact ⟨rfl,rfl⟩
end
end Go.Eng
end
section
namespace Go.Eng
open Go.Proofs Go.Eng.Gall
noncomputable def AR (R:Row) (lc:Nat) (i k:Int):aD:=[(0,.ptrT none R 0),(2,.ptr 0 0 0 0),(4,.ptr 0 1 0 0),(5,.ptr 0 2 0 0),(6,.bool true),(7,.int .i64 i),(9,.ptr 0 3 0 0),(19,.int .i64 (Int.ofNat lc)),(20,.int .i64 i),(28,.int .i64 (Int.ofNat lc)),(29,.int .i64 k),(87,.bool true)]
theorem N6 (n:Nat) (dr:Int) (lc:Nat) (zc:Nat→Int) (lb:Nat) (zb:Nat→Int) (W B:Nat→Int) (H:aa) (q:Nat→Int) (i k:Int):aJ (bP n 65 128) (il aH n 0) (fC aS 4) aR (part Tryd.f65 [1,0,1,1,1,1,0,1,0,0,1,1,0,0,1,1,0,0]) (hints (ia (shR dr lc zc lb zb W B) false lc i k)) (eX q (Int.ofNat 0) (Int.ofNat 0) .nils::H) =
 Tr.ite (bH k (Int.ofNat lc)) (Tr.req (bR i 10) (Tr.req (cj 0 0) (Tr.req (cH (av 0 i 2) 20) (Tr.req (bR k 10) (Tr.req (cj 0 0) (Tr.req (cH (aq (av 0 k 2) 1) 20) (Tr.req (bJ (dD 0 0) (dD 0 1)) Tr.bad))))))) (Tr.ok (Ex.exit 2,[(0,shV dr lc zc lb zb W B,none),(2,AV.ptr 0 0 0 0,none),(4,AV.ptr 0 1 0 0,none),(5,AV.ptr 0 2 0 0,none),(6,AV.bool false,none),(7,AV.int .i64 i,none),(19,iI lc,none),(20,AV.int .i64 i,none),(28,iI lc,none),(29,AV.int .i64 k,none),(30,AV.bool false,some 1)],(bC [(0,an.row (Row.G [iI 0,iI 0,AV.nils])),(0,an.row (rM q 20)),(0,an.row (Row.G [iI 0,iI 0,AV.nils]))])::H)):=by kernel_rfl
theorem N7 (n:Nat) (dr:Int) (lc:Nat) (zc:Nat→Int) (lb:Nat) (zb:Nat→Int) (W B:Nat→Int) (H:aa) (q:Nat→Int) (i k:Int) (f t:Int) (m:Nat) (y:Nat→Int):aJ (bP n 65 128) (il aH n 0) (fC aS 4) aR (part Tryd.f65 [1,0,1,1,1,1,0,1,0,0,1,1,0,0,1,1,0,0]) (hints (ia (shR dr lc zc lb zb W B) true lc i k)) (eX q f t (aY m y false)::H) =
 Tr.ite (bH k (Int.ofNat lc)) (Tr.req (bR i 10) (Tr.req (cj 0 0) (Tr.req (cH (av 0 i 2) 20) (Tr.req (bR k 10) (Tr.req (cj 0 0) (Tr.req (cH (aq (av 0 k 2) 1) 20) (Tr.req (bJ (dD 0 0) (dD 0 1)) Tr.bad))))))) (Tr.ok (Ex.exit 2,[(0,shV dr lc zc lb zb W B,none),(2,AV.ptr 0 0 0 0,none),(4,AV.ptr 0 1 0 0,none),(5,AV.ptr 0 2 0 0,none),(6,AV.bool true,none),(7,AV.int .i64 i,none),(19,iI lc,none),(20,AV.int .i64 i,none),(28,iI lc,none),(29,AV.int .i64 k,none),(30,AV.bool false,some 1)],(bC [(0,an.row (Row.G [iI 0,iI 0,AV.nils])),(0,an.row (rM q 20)),(0,an.row (Row.G [AV.int .i64 f,AV.int .i64 t,aY m y false]))])::H)):=by kernel_rfl
theorem Oy (n:Nat) (dr:Int) (lc:Nat) (zc:Nat→Int) (lb:Nat) (zb:Nat→Int) (W B:Nat→Int) (H:aa) (q:Nat→Int) (i:Int):aJ (bP n 65 128) (il aH n 0) (cM aS 2 (ia (shR dr lc zc lb zb W B) false lc i (Int.ofNat 0)) (eX q (Int.ofNat 0) (Int.ofNat 0) .nils::H) (.ok (.normal,hints (ia (shR dr lc zc lb zb W B) false lc i (Int.ofNat lc)++[(30,.bool false)]),eX q (Int.ofNat 0) (Int.ofNat 0) .nils::H))) aR (part Tryd.f65 [1,0,1,1,1,1,0,1,0,0]) (hints (kO (shR dr lc zc lb zb W B) false lc i)) (eX q (Int.ofNat 0) (Int.ofNat 0) .nils::H) =
 (fun (Z0:bF)=>((fun (Z1:aD)=>Tr.ite (bH i (Int.ofNat lc)) (Tr.reqP (Z1=Z1∧Z0::H=Z0::H) (Tr.ok (Ex.normal,[(0,shV dr lc zc lb zb W B,none),(2,AV.ptr 0 0 0 0,none),(4,AV.ptr 0 1 0 0,none),(5,AV.ptr 0 2 0 0,none),(6,AV.bool false,none),(19,iI lc,none),(20,AV.int .i64 (a6 .i64 i (Int.ofNat 1)),none)],Z0::H))) (Tr.ok (Ex.exit 0,[(0,shV dr lc zc lb zb W B,none),(2,AV.ptr 0 0 0 0,none),(4,AV.ptr 0 1 0 0,none),(5,AV.ptr 0 2 0 0,none),(6,AV.bool false,none),(19,iI lc,none),(20,AV.int .i64 i,none),(21,AV.bool false,some 1)],Z0::H))) [(0,shV dr lc zc lb zb W B),(2,AV.ptr 0 0 0 0),(4,AV.ptr 0 1 0 0),(5,AV.ptr 0 2 0 0),(6,AV.bool false),(7,AV.int .i64 i),(19,iI lc),(20,AV.int .i64 i),(28,iI lc),(29,iI 0)])) (bC [(0,an.row (Row.G [iI 0,iI 0,AV.nils])),(0,an.row (rM q 20)),(0,an.row (Row.G [iI 0,iI 0,AV.nils]))]):=by kernel_rfl
theorem Oz (n:Nat) (dr:Int) (lc:Nat) (zc:Nat→Int) (lb:Nat) (zb:Nat→Int) (W B:Nat→Int) (H:aa) (q:Nat→Int) (i:Int) (f2 t2:Int) (m2:Nat) (y2:Nat→Int):aJ (bP n 65 128) (il aH n 0) (cM aS 2 (ia (shR dr lc zc lb zb W B) false lc i (Int.ofNat 0)) (eX q (Int.ofNat 0) (Int.ofNat 0) .nils::H) (.ok (.normal,hints (ia (shR dr lc zc lb zb W B) true lc i (Int.ofNat lc)++[(30,.bool false)]),eX q f2 t2 (aY m2 y2 false)::H))) aR (part Tryd.f65 [1,0,1,1,1,1,0,1,0,0]) (hints (kO (shR dr lc zc lb zb W B) false lc i)) (eX q (Int.ofNat 0) (Int.ofNat 0) .nils::H) =
 (fun (Z0:bF)=>((fun (Z1:aD)=>Tr.ite (bH i (Int.ofNat lc)) (Tr.reqP (Z1=Z1∧Z0::H=Z0::H) (Tr.ok (Ex.normal,[(0,shV dr lc zc lb zb W B,none),(2,AV.ptr 0 0 0 0,none),(4,AV.ptr 0 1 0 0,none),(5,AV.ptr 0 2 0 0,none),(6,AV.bool true,none),(19,iI lc,none),(20,AV.int .i64 (a6 .i64 i (Int.ofNat 1)),none)],(bC [(0,an.row (Row.G [iI 0,iI 0,AV.nils])),(0,an.row (rM q 20)),(0,an.row (Row.G [AV.int .i64 f2,AV.int .i64 t2,aY m2 y2 false]))])::H))) (Tr.ok (Ex.exit 0,[(0,shV dr lc zc lb zb W B,none),(2,AV.ptr 0 0 0 0,none),(4,AV.ptr 0 1 0 0,none),(5,AV.ptr 0 2 0 0,none),(6,AV.bool false,none),(19,iI lc,none),(20,AV.int .i64 i,none),(21,AV.bool false,some 1)],Z0::H))) [(0,shV dr lc zc lb zb W B),(2,AV.ptr 0 0 0 0),(4,AV.ptr 0 1 0 0),(5,AV.ptr 0 2 0 0),(6,AV.bool false),(7,AV.int .i64 i),(19,iI lc),(20,AV.int .i64 i),(28,iI lc),(29,iI 0)])) (bC [(0,an.row (Row.G [iI 0,iI 0,AV.nils])),(0,an.row (rM q 20)),(0,an.row (Row.G [iI 0,iI 0,AV.nils]))]):=by kernel_rfl
theorem OB (n:Nat) (dr:Int) (lc:Nat) (zc:Nat→Int) (lb:Nat) (zb:Nat→Int) (W B:Nat→Int) (H:aa) (q:Nat→Int) (i:Int) (f t:Int) (m:Nat) (y:Nat→Int) (f2 t2:Int) (m2:Nat) (y2:Nat→Int):aJ (bP n 65 128) (il aH n 0) (cM aS 2 (ia (shR dr lc zc lb zb W B) true lc i (Int.ofNat 0)) (eX q f t (aY m y false)::H) (.ok (.normal,hints (ia (shR dr lc zc lb zb W B) true lc i (Int.ofNat lc)++[(30,.bool false)]),eX q f2 t2 (aY m2 y2 false)::H))) aR (part Tryd.f65 [1,0,1,1,1,1,0,1,0,0]) (hints (kO (shR dr lc zc lb zb W B) true lc i)) (eX q f t (aY m y false)::H) =
 (fun (Z0:bF)=>((fun (Z1:aD)=>Tr.ite (bH i (Int.ofNat lc)) (Tr.reqP (Z1=Z1∧Z0::H=Z0::H) (Tr.ok (Ex.normal,[(0,shV dr lc zc lb zb W B,none),(2,AV.ptr 0 0 0 0,none),(4,AV.ptr 0 1 0 0,none),(5,AV.ptr 0 2 0 0,none),(6,AV.bool true,none),(19,iI lc,none),(20,AV.int .i64 (a6 .i64 i (Int.ofNat 1)),none)],(bC [(0,an.row (Row.G [iI 0,iI 0,AV.nils])),(0,an.row (rM q 20)),(0,an.row (Row.G [AV.int .i64 f2,AV.int .i64 t2,aY m2 y2 false]))])::H))) (Tr.ok (Ex.exit 0,[(0,shV dr lc zc lb zb W B,none),(2,AV.ptr 0 0 0 0,none),(4,AV.ptr 0 1 0 0,none),(5,AV.ptr 0 2 0 0,none),(6,AV.bool true,none),(19,iI lc,none),(20,AV.int .i64 i,none),(21,AV.bool false,some 1)],Z0::H))) [(0,shV dr lc zc lb zb W B),(2,AV.ptr 0 0 0 0),(4,AV.ptr 0 1 0 0),(5,AV.ptr 0 2 0 0),(6,AV.bool true),(7,AV.int .i64 i),(19,iI lc),(20,AV.int .i64 i),(28,iI lc),(29,iI 0)])) (bC [(0,an.row (Row.G [iI 0,iI 0,AV.nils])),(0,an.row (rM q 20)),(0,an.row (Row.G [AV.int .i64 f,AV.int .i64 t,aY m y false]))]):=by kernel_rfl
theorem OC (n:Nat) (dr:Int) (lc:Nat) (zc:Nat→Int) (lb:Nat) (zb:Nat→Int) (W B:Nat→Int) (H:aa) (q:Nat→Int) (i:Int) (f t:Int) (m:Nat) (y:Nat→Int) (F T:Int):aJ (bP n 65 128) (il aH n 0) (cM aS 2 (ia (shR dr lc zc lb zb W B) true lc i (Int.ofNat 0)) (eX q f t (aY m y false)::H) (.ok (.exit 1,hints (AR (shR dr lc zc lb zb W B) lc i (Int.ofNat 0)),yp q f t (aY m y false) F T::H))) aR (part Tryd.f65 [1,0,1,1,1,1,0,1,0,0]) (hints (kO (shR dr lc zc lb zb W B) true lc i)) (eX q f t (aY m y false)::H) =
 (fun (Z0:bF)=>((fun (Z1:aD)=>Tr.ite (bH i (Int.ofNat lc)) (Tr.reqP (Z1=Z1∧Z0::H=Z0::H) (Tr.ok (Ex.normal,[(0,shV dr lc zc lb zb W B,none),(2,AV.ptr 0 0 0 0,none),(4,AV.ptr 0 1 0 0,none),(5,AV.ptr 0 2 0 0,none),(6,AV.bool true,none),(19,iI lc,none),(20,AV.int .i64 (a6 .i64 i (Int.ofNat 1)),none)],(bC [(0,an.row (Row.G [iI 0,iI 0,AV.nils])),(0,an.row (rM q 20)),(0,an.row (Row.G [AV.int .i64 f,AV.int .i64 t,aY m y false])),(0,an.row (Row.G [AV.int .i64 F,AV.int .i64 T,AV.nils]))])::H))) (Tr.ok (Ex.exit 0,[(0,shV dr lc zc lb zb W B,none),(2,AV.ptr 0 0 0 0,none),(4,AV.ptr 0 1 0 0,none),(5,AV.ptr 0 2 0 0,none),(6,AV.bool true,none),(19,iI lc,none),(20,AV.int .i64 i,none),(21,AV.bool false,some 1)],Z0::H))) [(0,shV dr lc zc lb zb W B),(2,AV.ptr 0 0 0 0),(4,AV.ptr 0 1 0 0),(5,AV.ptr 0 2 0 0),(6,AV.bool true),(7,AV.int .i64 i),(19,iI lc),(20,AV.int .i64 i),(28,iI lc),(29,iI 0)])) (bC [(0,an.row (Row.G [iI 0,iI 0,AV.nils])),(0,an.row (rM q 20)),(0,an.row (Row.G [AV.int .i64 f,AV.int .i64 t,aY m y false]))]):=by kernel_rfl
theorem OD (n:Nat) (dr:Int) (lc:Nat) (zc:Nat→Int) (lb:Nat) (zb:Nat→Int) (W B:Nat→Int) (H:aa) (q:Nat→Int) (i:Int) (f t:Int) (m:Nat) (y:Nat→Int) (F T:Int) (g:Nat) (x:Nat→Int):aJ (bP n 65 128) (il aH n 0) (cM aS 2 (ia (shR dr lc zc lb zb W B) true lc i (Int.ofNat 0)) (eX q f t (aY m y false)::H) (.ok (.exit 1,hints (AR (shR dr lc zc lb zb W B) lc i (Int.ofNat 0)),A7 q f t (aY m y false) F T g x::H))) aR (part Tryd.f65 [1,0,1,1,1,1,0,1,0,0]) (hints (kO (shR dr lc zc lb zb W B) true lc i)) (eX q f t (aY m y false)::H) =
 (fun (Z0:bF)=>((fun (Z1:aD)=>Tr.ite (bH i (Int.ofNat lc)) (Tr.reqP (Z1=Z1∧Z0::H=Z0::H) (Tr.ok (Ex.normal,[(0,shV dr lc zc lb zb W B,none),(2,AV.ptr 0 0 0 0,none),(4,AV.ptr 0 1 0 0,none),(5,AV.ptr 0 2 0 0,none),(6,AV.bool true,none),(19,iI lc,none),(20,AV.int .i64 (a6 .i64 i (Int.ofNat 1)),none)],(bC [(0,an.row (Row.G [iI 0,iI 0,AV.nils])),(0,an.row (rM q 20)),(0,an.row (Row.G [AV.int .i64 f,AV.int .i64 t,aY m y false])),(0,an.row (Row.G [AV.int .i64 F,AV.int .i64 T,AV.slc 0 4 0 0 1 g none])),(0,an.row (rM x g))])::H))) (Tr.ok (Ex.exit 0,[(0,shV dr lc zc lb zb W B,none),(2,AV.ptr 0 0 0 0,none),(4,AV.ptr 0 1 0 0,none),(5,AV.ptr 0 2 0 0,none),(6,AV.bool true,none),(19,iI lc,none),(20,AV.int .i64 i,none),(21,AV.bool false,some 1)],Z0::H))) [(0,shV dr lc zc lb zb W B),(2,AV.ptr 0 0 0 0),(4,AV.ptr 0 1 0 0),(5,AV.ptr 0 2 0 0),(6,AV.bool true),(7,AV.int .i64 i),(19,iI lc),(20,AV.int .i64 i),(28,iI lc),(29,iI 0)])) (bC [(0,an.row (Row.G [iI 0,iI 0,AV.nils])),(0,an.row (rM q 20)),(0,an.row (Row.G [AV.int .i64 f,AV.int .i64 t,aY m y false]))]):=by kernel_rfl
theorem Ox (n:Nat) (dr:Int) (lc:Nat) (zc:Nat→Int) (lb:Nat) (zb:Nat→Int) (W B:Nat→Int) (H:aa) (q:Nat→Int) (i:Int):aJ (bP n 65 128) (il aH n 0) (fC aS 2) aR (part Tryd.f65 [1,0,1,1,1,1,0,1,0,0]) (hints (kO (shR dr lc zc lb zb W B) false lc i)) (eX q (Int.ofNat 0) (Int.ofNat 0) .nils::H) =
 Tr.ite (bH i (Int.ofNat lc)) Tr.bad (Tr.ok (Ex.exit 0,[(0,shV dr lc zc lb zb W B,none),(2,AV.ptr 0 0 0 0,none),(4,AV.ptr 0 1 0 0,none),(5,AV.ptr 0 2 0 0,none),(6,AV.bool false,none),(19,iI lc,none),(20,AV.int .i64 i,none),(21,AV.bool false,some 1)],(bC [(0,an.row (Row.G [iI 0,iI 0,AV.nils])),(0,an.row (rM q 20)),(0,an.row (Row.G [iI 0,iI 0,AV.nils]))])::H)):=by kernel_rfl
theorem OA (n:Nat) (dr:Int) (lc:Nat) (zc:Nat→Int) (lb:Nat) (zb:Nat→Int) (W B:Nat→Int) (H:aa) (q:Nat→Int) (i:Int) (f t:Int) (m:Nat) (y:Nat→Int):aJ (bP n 65 128) (il aH n 0) (fC aS 2) aR (part Tryd.f65 [1,0,1,1,1,1,0,1,0,0]) (hints (kO (shR dr lc zc lb zb W B) true lc i)) (eX q f t (aY m y false)::H) =
 Tr.ite (bH i (Int.ofNat lc)) Tr.bad (Tr.ok (Ex.exit 0,[(0,shV dr lc zc lb zb W B,none),(2,AV.ptr 0 0 0 0,none),(4,AV.ptr 0 1 0 0,none),(5,AV.ptr 0 2 0 0,none),(6,AV.bool true,none),(19,iI lc,none),(20,AV.int .i64 i,none),(21,AV.bool false,some 1)],(bC [(0,an.row (Row.G [iI 0,iI 0,AV.nils])),(0,an.row (rM q 20)),(0,an.row (Row.G [AV.int .i64 f,AV.int .i64 t,aY m y false]))])::H)):=by kernel_rfl
theorem SH (n:Nat) (dr:Int) (lc:Nat) (zc:Nat→Int) (lb:Nat) (zb:Nat→Int) (W B:Nat→Int) (H:aa) (q:Nat→Int) (r:Nat→Int):bk Tryd.prog (cd n) 100000 65 Tryd.f65 (KtG.kt 65) (il (tX aH 56 [shV dr lc zc lb zb W B] (.agg (.M [.arr .i64 r 20]))) n 0) (cM aS 0 (kO (shR dr lc zc lb zb W B) false lc (Int.ofNat 0)) (eX (m6 (fun x=>Int.ofNat 0) 0 r 20) (Int.ofNat 0) (Int.ofNat 0) .nils::H) (.ok (.normal,hints (kO (shR dr lc zc lb zb W B) false lc (Int.ofNat lc)++[(21,.bool false)]),eX q (Int.ofNat 0) (Int.ofNat 0) .nils::H))) aR [(shV dr lc zc lb zb W B,none)] H =
 (fun (Z0:bF)=>((fun (Z1:aD)=>Tr.reqP ([shV dr lc zc lb zb W B]=[shV dr lc zc lb zb W B]) (Tr.req (dT 0 20 0 20) (Tr.reqP (Z1=Z1∧Z0::H=Z0::H) (Tr.ok ((AV.tup [AV.agg (Row.G [iI 0,iI 0,AV.nils]),AV.bool false],none),H))))) [(0,shV dr lc zc lb zb W B),(2,AV.ptr 0 0 0 0),(4,AV.ptr 0 1 0 0),(5,AV.ptr 0 2 0 0),(6,AV.bool false),(19,iI lc),(20,iI 0)])) (bC [(0,an.row (Row.G [iI 0,iI 0,AV.nils])),(0,an.row (rM (m6 (fun x=>Int.ofNat 0) 0 r 20) 20)),(0,an.row (Row.G [iI 0,iI 0,AV.nils]))]):=by kernel_rfl
theorem SI (n:Nat) (dr:Int) (lc:Nat) (zc:Nat→Int) (lb:Nat) (zb:Nat→Int) (W B:Nat→Int) (H:aa) (q:Nat→Int) (r:Nat→Int) (f2 t2:Int) (m2:Nat) (y2:Nat→Int):bk Tryd.prog (cd n) 100000 65 Tryd.f65 (KtG.kt 65) (il (tX aH 56 [shV dr lc zc lb zb W B] (.agg (.M [.arr .i64 r 20]))) n 0) (cM aS 0 (kO (shR dr lc zc lb zb W B) false lc (Int.ofNat 0)) (eX (m6 (fun x=>Int.ofNat 0) 0 r 20) (Int.ofNat 0) (Int.ofNat 0) .nils::H) (.ok (.normal,hints (kO (shR dr lc zc lb zb W B) true lc (Int.ofNat lc)++[(21,.bool false)]),eX q f2 t2 (aY m2 y2 false)::H))) aR [(shV dr lc zc lb zb W B,none)] H =
 (fun (Z0:bF)=>((fun (Z1:aD)=>Tr.reqP ([shV dr lc zc lb zb W B]=[shV dr lc zc lb zb W B]) (Tr.req (dT 0 20 0 20) (Tr.reqP (Z1=Z1∧Z0::H=Z0::H) (Tr.ok ((AV.tup [AV.agg (Row.G [AV.int .i64 f2,AV.int .i64 t2,aY m2 y2 false]),AV.bool true],none),H))))) [(0,shV dr lc zc lb zb W B),(2,AV.ptr 0 0 0 0),(4,AV.ptr 0 1 0 0),(5,AV.ptr 0 2 0 0),(6,AV.bool false),(19,iI lc),(20,iI 0)])) (bC [(0,an.row (Row.G [iI 0,iI 0,AV.nils])),(0,an.row (rM (m6 (fun x=>Int.ofNat 0) 0 r 20) 20)),(0,an.row (Row.G [iI 0,iI 0,AV.nils]))]):=by kernel_rfl
end Go.Eng
end
section
namespace Go.Eng
open Go.Proofs Go.Eng.Gall
theorem JB:∀ b,(0,b) ∈ aL (aV Tryd.f65)→b=.loop (part Tryd.f65 [1,0,1,1,1,1,0,1,0,0]):=ey (by kernel_rfl)
theorem xD:∀ b,(2,b) ∈ aL (part Tryd.f65 [1,0,1,1,1,1,0,1,0,0])→b=.loop (part Tryd.f65 [1,0,1,1,1,1,0,1,0,0,1,1,0,0,1,1,0,0]):=ey (by kernel_rfl)
theorem BR (q:Nat→Int) (lc:Nat) (F:Int) (v:Int×Int):∀ k,xv q lc F (some v) k≠none
 | 0=>by intro h;cases h
 | k+1=>by
   unfold xv Ek;split
   · intro h;cases h
   · exact BR q lc F v k
section
variable (n:Nat) (dr:Int) (lc:Nat) (zc:Nat→Int) (lb:Nat) (zb:Nat→Int) (W B:Nat→Int) (H:aa) (q:Nat→Int)
theorem NX (b:Option (Int×Int)):a7 (sN q lc b::H)=3:=by cases b<;>rfl
theorem Ra (hl:lc≤10) (hq:∀ j,j<2*lc→-1000000≤q j∧q j≤1000000) (i:Nat) (hi:i<lc) (b:Option (Int×Int)) (hb:Eu b (q (2*i))=false) :
 exec (bP n 65 128) (.block 2 (.loop (part Tryd.f65 [1,0,1,1,1,1,0,1,0,0,1,1,0,0,1,1,0,0]))) (ia (shR dr lc zc lb zb W B) b.isSome lc i (Int.ofNat 0)) (sN q lc b::H)=some (.normal,ia (shR dr lc zc lb zb W B) (xv q lc (q (2*i)) b lc).isSome lc i (Int.ofNat lc)++[(30,.bool false)],sN q lc (xv q lc (q (2*i)) b lc)::H):=by
 refine jM (n:=n) (f:=65) (nt:=128) (c:=part Tryd.f65 [1,0,1,1,1,1,0,1,0,0,1,1,0,0,1,1,0,0]) 2 (fun k=>ia (shR dr lc zc lb zb W B) (xv q lc (q (2*i)) b k).isSome lc i (k:Int)) (fun k=>sN q lc (xv q lc (q (2*i)) b k)::H) lc (ia (shR dr lc zc lb zb W B) (xv q lc (q (2*i)) b lc).isSome lc i (Int.ofNat lc)++[(30,.bool false)],sN q lc (xv q lc (q (2*i)) b lc)::H) (by omega) (fun k hk=>?_) ?_
 · rw[NX]
   exact R9 n dr lc zc lb zb W B H q hl hq i k hi hk (xv q lc (q (2*i)) b k) (FP hb k)
 · generalize xv q lc (q (2*i)) b lc=c
   cases c with
   | none =>
     obtain ⟨x,h1,rfl⟩:=aB (Q:=fun x=>x=(.exit 2,ia (shR dr lc zc lb zb W B) false lc i (Int.ofNat lc)++[(30,.bool false)],sN q lc none::H)) (N6 n dr lc zc lb zb W B H q i (Int.ofNat lc)) (aw _) (cD (ai _ _) 4) (aj _ _) (by
      refine Tr.af wJ (fun h0=>Tr.ah rfl))
     exact h1
   | some v =>
     obtain ⟨f,t⟩:=v
     obtain ⟨x,h1,rfl⟩:=aB (Q:=fun x=>x=(.exit 2,ia (shR dr lc zc lb zb W B) true lc i (Int.ofNat lc)++[(30,.bool false)],sN q lc (some (f,t))::H)) (N7 n dr lc zc lb zb W B H q i (Int.ofNat lc) f t (dO q f t lc).length (az (dO q f t lc))) (aw _) (cD (ai _ _) 4) (aj _ _) (by
      refine Tr.af wJ (fun h0=>Tr.ah rfl))
     exact h1
noncomputable def Fq (q:Nat→Int) (lc:Nat) (f t F T:Int):bF:=D3 q f t (aY (dO q f t lc).length (az (dO q f t lc)) false) F T (dO q F T lc)
theorem Rf (hl:lc≤10) (hq:∀ j,j<2*lc→-1000000≤q j∧q j≤1000000) (i:Nat) (hi:i<lc) (f t:Int) (hb:f<q (2*i)) :
 exec (bP n 65 128) (.block 2 (.loop (part Tryd.f65 [1,0,1,1,1,1,0,1,0,0,1,1,0,0,1,1,0,0]))) (ia (shR dr lc zc lb zb W B) true lc i (Int.ofNat 0)) (sN q lc (some (f,t))::H)=some (.exit 1,AR (shR dr lc zc lb zb W B) lc i (Int.ofNat 0),Fq q lc f t (q (2*i)) (q 1)::H):=by
 have ei:av 0 (i:Int) 2=2*i:=by rw[bE];omega
 have ek:av 0 (Int.ofNat 0) 2=0:=by rw[bE];rfl
 have hb2:decide (f<q (2*i))=true:=decide_eq_true hb
 have hx:exec (bP n 65 128) (part Tryd.f65 [1,0,1,1,1,1,0,1,0,0,1,1,0,0,1,1,0,0]) (ia (shR dr lc zc lb zb W B) true lc i (Int.ofNat 0)) (sN q lc (some (f,t))::H)=some (.exit 1,AR (shR dr lc zc lb zb W B) lc i (Int.ofNat 0),Fq q lc f t (q (2*i)) (q 1)::H):=by
  have hlp:=Oa n H q (shR dr lc zc lb zb W B) true f t (dO q f t lc).length (az (dO q f t lc)) lc i (Int.ofNat 0) (q (2*i)) (q 1) hl;cases hS:dO q (q (2*i)) (q 1) lc with
  | nil =>
    rw[hS] at hlp;have e:Fq q lc f t (q (2*i)) (q 1)=yp q f t (aY (dO q f t lc).length (az (dO q f t lc)) false) (q (2*i)) (q 1):=by unfold Fq;rw[hS];rfl
    rw[e];have T0:=JP n dr lc zc lb zb W B H q i (Int.ofNat 0) f t (dO q f t lc).length (az (dO q f t lc));rw[ei,ek,aK,Nat.zero_add] at T0;obtain ⟨x,h1,rfl⟩:=aB (Q:=fun x=>x=(.exit 1,AR (shR dr lc zc lb zb W B) lc i (Int.ofNat 0),yp q f t (aY (dO q f t lc).length (az (dO q f t lc)) false) (q (2*i)) (q 1)::H)) T0 (aw _) (a8 (ai _ _) uU (fun x hx=>fk hx (by simp only[eC.st,aP];exact hlp))) (aj _ _) (by
     refine Tr.af (fun h0=>?_) wJ;exact Tr.ae wG (Tr.ae wG (Tr.ae wG (Tr.ae wG (Tr.ae wG (Tr.ae wG (Tr.ae wG (Tr.al ⟨rfl,rfl⟩ (Tr.af (fun _=>Tr.af (fun _=>Tr.ah rfl) (fun h=>by rw[bK,hb2] at h;cases h)) (fun h=>by cases h))))))))))
    exact h1
  | cons a r =>
    rw[hS] at hlp;have e:Fq q lc f t (q (2*i)) (q 1)=A7 q f t (aY (dO q f t lc).length (az (dO q f t lc)) false) (q (2*i)) (q 1) (r.length+1) (az (a::r)):=by unfold Fq;rw[hS];rfl
    rw[e];have T0:=JQ n dr lc zc lb zb W B H q i (Int.ofNat 0) f t (dO q f t lc).length (az (dO q f t lc)) (r.length+1) (az (a::r));rw[ei,ek,aK,Nat.zero_add] at T0;obtain ⟨x,h1,rfl⟩:=aB (Q:=fun x=>x=(.exit 1,AR (shR dr lc zc lb zb W B) lc i (Int.ofNat 0),A7 q f t (aY (dO q f t lc).length (az (dO q f t lc)) false) (q (2*i)) (q 1) (r.length+1) (az (a::r))::H)) T0 (aw _) (a8 (ai _ _) uU (fun x hx=>fk hx (by simp only[eC.st,aP];exact hlp))) (aj _ _) (by
     refine Tr.af (fun h0=>?_) wJ;exact Tr.ae wG (Tr.ae wG (Tr.ae wG (Tr.ae wG (Tr.ae wG (Tr.ae wG (Tr.ae wG (Tr.al ⟨rfl,rfl⟩ (Tr.af (fun _=>Tr.af (fun _=>Tr.ah rfl) (fun h=>by rw[bK,hb2] at h;cases h)) (fun h=>by cases h))))))))))
    exact h1
 exact dh (fun id' h=>by cases h;rfl) (iM (body:=exec (bP n 65 128) (part Tryd.f65 [1,0,1,1,1,1,0,1,0,0,1,1,0,0,1,1,0,0])) (n:=a7 (sN q lc (some (f,t))::H)) (fun _=>ia (shR dr lc zc lb zb W B) true lc i (Int.ofNat 0)) (fun _=>sN q lc (some (f,t))::H) 0 (fun _=>false) (fun _=>(.exit 1,AR (shR dr lc zc lb zb W B) lc i (Int.ofNat 0),Fq q lc f t (q (2*i)) (q 1)::H)) (fun j h=>absurd h (Nat.not_lt_zero j)) (fun j h=>absurd h (Nat.not_lt_zero j)) ⟨hx,by simp⟩ 0 0 100000 rfl (by omega))
theorem Sa (hl:lc≤10) (hq:∀ j,j<2*lc→-1000000≤q j∧q j≤1000000) (i:Nat) (hi:i<lc) :
 ∃ x,exec (bP n 65 128) (part Tryd.f65 [1,0,1,1,1,1,0,1,0,0]) (kO (shR dr lc zc lb zb W B) (lj q lc i).isSome lc i) (sN q lc (lj q lc i)::H)=some x∧x.1=.normal∧tidy 3 x.2.1 x.2.2=(kO (shR dr lc zc lb zb W B) (lj q lc (i+1)).isSome lc ((i+1:Nat):Int),sN q lc (lj q lc (i+1))::H):=by
 have e1:a6 .i64 (i:Int) (Int.ofNat 1)=((i+1:Nat):Int):=eN (by omega)
 have eo:lj q lc (i+1)=if Eu (lj q lc i) (q (2*i))=true then lj q lc i else xv q lc (q (2*i)) (lj q lc i) lc:=rfl
 rw[eo]
 by_cases hg:Eu (lj q lc i) (q (2*i))=true
 · rw[if_pos hg]
   generalize lj q lc i=b at *
   cases b with
   | none=>cases hg
   | some v =>
     obtain ⟨f,t⟩:=v
     have hx:=Rf n dr lc zc lb zb W B H q hl hq i hi f t (of_decide_eq_true hg)
     cases hS:dO q (q (2*i)) (q 1) lc with
     | nil =>
       have e:Fq q lc f t (q (2*i)) (q 1)=yp q f t (aY (dO q f t lc).length (az (dO q f t lc)) false) (q (2*i)) (q 1):=by unfold Fq;rw[hS];rfl
       rw[e] at hx
       have T0:=OC n dr lc zc lb zb W B H q i f t (dO q f t lc).length (az (dO q f t lc)) (q (2*i)) (q 1)
       rw[e1] at T0
       refine aB T0 (aw _) (a8 (ai _ _) xD (fun x h=>fk h (by simp only[eC.st,aP];exact hx))) (aj _ _) ?_
       exact Tr.af (fun h0=>Tr.al ⟨rfl,rfl⟩ (Tr.ah ⟨rfl,rfl⟩)) wJ
     | cons a r =>
       have e:Fq q lc f t (q (2*i)) (q 1)=A7 q f t (aY (dO q f t lc).length (az (dO q f t lc)) false) (q (2*i)) (q 1) (r.length+1) (az (a::r)):=by unfold Fq;rw[hS];rfl
       rw[e] at hx
       have T0:=OD n dr lc zc lb zb W B H q i f t (dO q f t lc).length (az (dO q f t lc)) (q (2*i)) (q 1) (r.length+1) (az (a::r))
       rw[e1] at T0
       refine aB T0 (aw _) (a8 (ai _ _) xD (fun x h=>fk h (by simp only[eC.st,aP];exact hx))) (aj _ _) ?_
       exact Tr.af (fun h0=>Tr.al ⟨rfl,rfl⟩ (Tr.ah ⟨rfl,rfl⟩)) wJ
 · rw[if_neg hg]
   have hg:Eu (lj q lc i) (q (2*i))=false:=by simpa using hg
   have hx:=Ra n dr lc zc lb zb W B H q hl hq i hi _ hg
   generalize hc:xv q lc (q (2*i)) (lj q lc i) lc=c at *
   generalize lj q lc i=b at *
   cases b with
   | none =>
     cases c with
     | none =>
       have T0:=Oy n dr lc zc lb zb W B H q i
       rw[e1] at T0
       refine aB T0 (aw _) (a8 (ai _ _) xD (fun x h=>fk h (by simp only[eC.st,aP];exact hx))) (aj _ _) ?_
       exact Tr.af (fun h0=>Tr.al ⟨rfl,rfl⟩ (Tr.ah ⟨rfl,rfl⟩)) wJ
     | some v =>
       obtain ⟨f,t⟩:=v
       have T0:=Oz n dr lc zc lb zb W B H q i f t (dO q f t lc).length (az (dO q f t lc))
       rw[e1] at T0
       refine aB T0 (aw _) (a8 (ai _ _) xD (fun x h=>fk h (by simp only[eC.st,aP];exact hx))) (aj _ _) ?_
       exact Tr.af (fun h0=>Tr.al ⟨rfl,rfl⟩ (Tr.ah ⟨rfl,rfl⟩)) wJ
   | some v =>
     obtain ⟨f,t⟩:=v
     cases c with
     | none=>exact absurd hc (BR _ _ _ _ _)
     | some v2 =>
       obtain ⟨f2,t2⟩:=v2
       have T0:=OB n dr lc zc lb zb W B H q i f t (dO q f t lc).length (az (dO q f t lc)) f2 t2 (dO q f2 t2 lc).length (az (dO q f2 t2 lc))
       rw[e1] at T0
       refine aB T0 (aw _) (a8 (ai _ _) xD (fun x h=>fk h (by simp only[eC.st,aP];exact hx))) (aj _ _) ?_
       exact Tr.af (fun h0=>Tr.al ⟨rfl,rfl⟩ (Tr.ah ⟨rfl,rfl⟩)) wJ
end
end Go.Eng
end
section
namespace Go.Eng
open Go.Proofs Go.Eng.Gall
theorem HD (n:Nat) (b:Nat→Nat) (w:Nat→Int):Bd n b w n (jm n b w) where
 lo c hc:=by
  have:jm n b w (2*c)=fo n b w n c:=by unfold jm;rw[if_pos (by omega),if_pos (by omega),show 2*c / 2=c by omega]
  omega
 hi c hc:=by
  have:jm n b w (2*c+1)=-fm n b w n c:=by unfold jm;rw[if_pos (by omega),if_neg (by omega),show (2*c+1) / 2=c by omega]
  omega
 out i hi:=by unfold jm;rw[if_neg (by omega)]
section
variable (n:Nat) (dr:Int) (lc:Nat) (zc:Nat→Int) (lb:Nat) (zb:Nat→Int) (W B:Nat→Int) (H:aa) (q:Nat→Int)
theorem Rb (hl:lc≤10) (hq:∀ j,j<2*lc→-1000000≤q j∧q j≤1000000) :
 exec (bP n 65 128) (.block 0 (.loop (part Tryd.f65 [1,0,1,1,1,1,0,1,0,0]))) (kO (shR dr lc zc lb zb W B) false lc (Int.ofNat 0)) (eX q (Int.ofNat 0) (Int.ofNat 0) .nils::H)=some (.normal,kO (shR dr lc zc lb zb W B) (lj q lc lc).isSome lc (Int.ofNat lc)++[(21,.bool false)],sN q lc (lj q lc lc)::H):=by
 refine jM (n:=n) (f:=65) (nt:=128) (c:=part Tryd.f65 [1,0,1,1,1,1,0,1,0,0]) 0 (fun i=>kO (shR dr lc zc lb zb W B) (lj q lc i).isSome lc (i:Int)) (fun i=>sN q lc (lj q lc i)::H) lc (kO (shR dr lc zc lb zb W B) (lj q lc lc).isSome lc (Int.ofNat lc)++[(21,.bool false)],sN q lc (lj q lc lc)::H) (by omega) (fun i hi=>?_) ?_
 · rw[NX]
   exact Sa n dr lc zc lb zb W B H q hl hq i hi
 · generalize lj q lc lc=c
   cases c with
   | none =>
     obtain ⟨x,h1,rfl⟩:=aB (Q:=fun x=>x=(.exit 0,kO (shR dr lc zc lb zb W B) false lc (Int.ofNat lc)++[(21,.bool false)],sN q lc none::H)) (Ox n dr lc zc lb zb W B H q (Int.ofNat lc)) (aw _) (cD (ai _ _) 2) (aj _ _) (by
      refine Tr.af wJ (fun h0=>Tr.ah rfl))
     exact h1
   | some v =>
     obtain ⟨f,t⟩:=v
     obtain ⟨x,h1,rfl⟩:=aB (Q:=fun x=>x=(.exit 0,kO (shR dr lc zc lb zb W B) true lc (Int.ofNat lc)++[(21,.bool false)],sN q lc (some (f,t))::H)) (OA n dr lc zc lb zb W B H q (Int.ofNat lc) f t (dO q f t lc).length (az (dO q f t lc))) (aw _) (cD (ai _ _) 2) (aj _ _) (by
      refine Tr.af wJ (fun h0=>Tr.ah rfl))
     exact h1
noncomputable def Uf (q:Nat→Int) (lc:Nat):Option (Int×Int)→AV
 | none=>.tup [.agg (.G [.int .i64 (Int.ofNat 0),.int .i64 (Int.ofNat 0),.nils]),.bool false]
 | some (f,t)=>.tup [.agg (.G [.int .i64 f,.int .i64 t,aY (dO q f t lc).length (az (dO q f t lc)) false]),.bool true]
noncomputable def qB (r:Nat→Int):Nat→Int:=m6 (fun _=>Int.ofNat 0) 0 r 20
theorem GB (r:Nat→Int) {j:Nat} (hj:j<20):qB r j=r j:=by unfold qB;rw[ri];unfold vX;simp[hj]
theorem Ut (b:Nat→Nat) (hS:gE lc W b):cd (n+3) (.fn 65) [shV dr lc zc lb zb W (bI b)] H=some (Uf (qB (jm lc b W)) lc (lj (qB (jm lc b W)) lc lc),H):=by
 have hq:∀ j,j<2*lc→-1000000≤qB (jm lc b W) j∧qB (jm lc b W) j≤1000000:=fun j hj=>by
  have hl:=hS.len;rw[GB _ (by omega)];have h:=Ap (K:=100000) (by omega) hS.win (HD lc b W) (j / 2) (by omega);rcases Nat.mod_two_eq_zero_or_one j with e | e
  · rw[show 2*(j / 2)=j by omega] at h;omega
  · rw[show 2*(j / 2)+1=j by omega] at h;omega
 have h56:=fun H=>Un n dr lc zc lb zb W b H hS;have hlp:=Rb (n+2) dr lc zc lb zb W (bI b) H (qB (jm lc b W)) hS.len hq;generalize hQ:lj (qB (jm lc b W)) lc lc=c at *;cases c with
 | none =>
   refine oU (n:=n+2) Tryd.func65 rfl (fun _ _=>rfl) rfl (SH (n+2) dr lc zc lb zb W (bI b) H (qB (jm lc b W)) (jm lc b W)) (bM _ _ (dk (bj _) h56)) (a8 (ai _ _) JB (fun x h=>fk h (by simp only[eC.st,aP];exact hlp))) (aj _ _) ?_;exact Tr.al rfl (Tr.ae wG (Tr.al ⟨rfl,rfl⟩ (Tr.ah ⟨rfl,rfl⟩)))
 | some v =>
   obtain ⟨f,t⟩:=v;refine oU (n:=n+2) Tryd.func65 rfl (fun _ _=>rfl) rfl (SI (n+2) dr lc zc lb zb W (bI b) H (qB (jm lc b W)) (jm lc b W) f t (dO (qB (jm lc b W)) f t lc).length (az (dO (qB (jm lc b W)) f t lc))) (bM _ _ (dk (bj _) h56)) (a8 (ai _ _) JB (fun x h=>fk h (by simp only[eC.st,aP];exact hlp))) (aj _ _) ?_;exact Tr.al rfl (Tr.ae wG (Tr.al ⟨rfl,rfl⟩ (Tr.ah ⟨rfl,rfl⟩)))
end
end Go.Eng
end
