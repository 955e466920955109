/- Gall: no block is overfull if and only if there is a right order (plain law). -/
import Derived.Test.YtgphpjdchnfjlaaDoorV3Gbax4
set_option linter.unusedVariables false
set_option linter.unusedSimpArgs false
set_option maxRecDepth 100000
section
namespace Go.Eng
open Go.Proofs Go.Eng.Gall
theorem nb (q:Nat→Int) (F T x:Int):∀ j,x ∈ dB q F T j↔∃ k,k<j∧vQ q F T k=true∧x=(k:Int)
 | 0=>by simp[dB]
 | j + 1=>by
   have ih:=nb q F T x j;unfold dB;split
   · rename_i h;rw[List.mem_append,List.mem_singleton,ih];constructor
     · rintro (⟨k,h1,h2,h3⟩ | h1)
       · exact ⟨k,by omega,h2,h3⟩
       · exact ⟨j,by omega,h,h1⟩
     · rintro ⟨k,h1,h2,h3⟩;by_cases e:k=j
       · subst e;exact .inr h3
       · exact .inl ⟨k,by omega,h2,h3⟩
   · rename_i h;rw[ih];constructor
     · rintro ⟨k,h1,h2,h3⟩;exact ⟨k,by omega,h2,h3⟩
     · rintro ⟨k,h1,h2,h3⟩;by_cases e:k=j
       · subst e;exact absurd h2 h
       · exact ⟨k,by omega,h2,h3⟩
theorem vR (q:Nat→Int) (F T:Int):∀ j,(dB q F T j).Nodup
 | 0=>List.nodup_nil
 | j + 1=>by
   have ih:=vR q F T j;unfold dB;split
   · rw[List.nodup_append];refine ⟨ih,by simp,?_⟩;intro a ha b hb e;rw[List.mem_singleton] at hb;obtain ⟨k,h1,_,h3⟩:=(nb q F T a j).1 ha;omega
   · exact ih
theorem dw {L:List Nat} (hn:L.Nodup) {M:List Int} (h:∀ x ∈ L,(x:Int) ∈ M):L.length≤M.length:=by
 have:=eQ hn (M:=M.map Int.toNat) (fun x hx=>List.mem_map.2 ⟨(x:Int),h x hx,rfl⟩);rwa [List.length_map] at this
theorem oe (f:Nat→Int):∀ (L:List Nat),L≠[]→∃ a ∈ L,∀ b ∈ L,f a≤f b
 | [],h=>absurd rfl h
 | [a],_=>⟨a,by simp,by simp⟩
 | a::b::L,_=>by
   obtain ⟨c,hc,h⟩:=oe f (b::L) (by simp);by_cases e:f a≤f c
   · exact ⟨a,by simp,fun x hx=>by
      rcases List.mem_cons.1 hx with rfl | hx
      · exact Int.le_refl _
      · have:=h x hx;omega⟩
   · exact ⟨c,List.mem_cons_of_mem _ hc,fun x hx=>by
      rcases List.mem_cons.1 hx with rfl | hx
      · omega
      · exact h x hx⟩
theorem JB {q:Nat→Int} {lc:Nat} (h:kD q lc lc=none):Room lc (fun c=>q (2*c)) (fun c=>q (2*c+1)):=by
 have hf:∀ F T,¬ ∃ j k,j<lc∧k<lc∧F=q (2*j)∧T=q (2*k+1)∧rH q lc F T=true:=by
  rcases pG q lc lc with h1 | ⟨f,t,h1,_⟩
  · rw[h] at h1;exact h1
  · rw[h] at h1;cases h1
 intro s t L hn hne hL;obtain ⟨a,ha,ha2⟩:=oe (fun c=>q (2*c)) L hne;obtain ⟨b,hb,hb2⟩:=oe (fun c=>-q (2*c+1)) L hne;have h1:=hf (q (2*a)) (q (2*b+1));have hov:rH q lc (q (2*a)) (q (2*b+1))=false:=by
  cases e:rH q lc (q (2*a)) (q (2*b+1)) with
  | false=>rfl
  | true=>exact absurd ⟨a,b,(hL a ha).1,(hL b hb).1,rfl,rfl,e⟩ h1
 have hle:L.length≤(dB q (q (2*a)) (q (2*b+1)) lc).length:=dw hn fun x hx=>by
  refine (nb _ _ _ _ _).2 ⟨x,(hL x hx).1,?_,rfl⟩;have e1:=ha2 x hx;have e2:=hb2 x hx;unfold vQ;rw[Bool.and_eq_true,decide_eq_true_iff,decide_eq_true_iff];constructor
  · exact e1
  · have e2:-q (2*b+1)≤-q (2*x+1):=e2;omega
 have hpos:0<L.length:=List.length_pos_iff.2 hne;unfold rH at hov;rw[decide_eq_true (show 0<(dB q (q (2*a)) (q (2*b+1)) lc).length by omega),Bool.true_and,decide_eq_false_iff_not] at hov;have e3:s≤q (2*a):=(hL a ha).2.1;have e4:q (2*b+1)≤t:=(hL b hb).2.2;omega
theorem uc {n:Nat} {ok:Nat→Nat→Nat→Bool}:∀ {k:Nat} {L:List Nat},L ∈ ro n ok k↔L.length=k∧∀ i (h:i<L.length),L[i]<n∧(mask (L.take i)).testBit L[i]=false∧ok i (mask (L.take i)) L[i]=true
 | 0,L=>by
   show L ∈ [[]]↔_;rw[List.mem_singleton];constructor
   · rintro rfl;exact ⟨rfl,fun i h=>absurd h (Nat.not_lt_zero i)⟩
   · rintro ⟨h,_⟩;exact List.eq_nil_of_length_eq_zero h
 | k + 1,L=>by
   show L ∈ (ro n ok k).flatMap (fun L=>(nx ok n k (mask L)).map fun c=>L++[c])↔_;rw[List.mem_flatMap];constructor
   · rintro ⟨M,hM,hx⟩;obtain ⟨c,hc,rfl⟩:=List.mem_map.1 hx;obtain ⟨h1,h2⟩:=uc.1 hM;obtain ⟨c1,c2,c3⟩:=oG.1 hc;refine ⟨by rw[List.length_append,h1];rfl,fun i hi=>?_⟩;by_cases e:i<M.length
     · rw[List.getElem_append_left e,List.take_append_of_le_length (by omega)];exact h2 i e
     · have:i=M.length:=by rw[List.length_append,List.length_singleton] at hi;omega
       subst this;rw[List.getElem_append_right (Nat.le_refl _),List.take_left' rfl];simp only[Nat.sub_self,List.getElem_cons_zero];rw[h1];exact ⟨c1,c2,c3⟩
   · rintro ⟨h1,h2⟩;have hne:L≠[]:=by intro e;rw[e] at h1;cases h1
     have hd:L.dropLast++[L.getLast hne]=L:=List.dropLast_concat_getLast hne;have hdl:L.dropLast.length=k:=by rw[List.length_dropLast,h1];rfl
     have ht:∀ i,i≤k→L.dropLast.take i=L.take i:=fun i hi=>by
      rw[List.dropLast_eq_take,List.take_take,Nat.min_eq_left (by omega)]
     refine ⟨L.dropLast,uc.2 ⟨hdl,fun i hi=>?_⟩,List.mem_map.2 ⟨L.getLast hne,?_,hd⟩⟩
     · rw[ht i (by omega),List.getElem_dropLast];exact h2 i (by omega)
     · have:=h2 k (by omega);rw[oG,List.getLast_eq_getElem];have e:L.take k=L.dropLast:=by rw[List.dropLast_eq_take,h1];rfl
       rw[e] at this;simpa[h1] using this
end Go.Eng
end
section
namespace Go.Eng
open Go.Proofs Go.Eng.Gall
noncomputable def tj (q:Nat→Int) (lc:Nat):Option (Int×Int)→bF
 | none=>ff q (Int.ofNat 0) (Int.ofNat 0) .nils
 | some (f,t)=>ff q f t (aK (dB q f t lc).length (az (dB q f t lc)) false)
theorem ur {q:Nat→Int} {lc:Nat} {F T:Int} {b:Option (Int×Int)} (h:rH q lc F T=false):EZ q lc F b T=b:=by unfold EZ;rw[h,Bool.and_false,if_neg (by decide)]
theorem Ni {q:Nat→Int} {lc:Nat} {F T:Int} {b:Option (Int×Int)} (h:Ny b F T=false):EZ q lc F b T=b:=by unfold EZ;rw[h,Bool.false_and,if_neg (by decide)]
theorem xT {q:Nat→Int} {lc:Nat} {F T:Int} {b:Option (Int×Int)} (h:Ny b F T=true) (h2:rH q lc F T=true):EZ q lc F b T=some (F,T):=by unfold EZ;rw[h,h2];rfl
section
variable (n:Nat) (dr:Int) (lc:Nat) (zc:Nat→Int) (lb:Nat) (zb:Nat→Int) (W B:Nat→Int) (H:ab) (q:Nat→Int)
theorem Tg (hl:lc≤10) (hq:∀ j,j<2*lc→-1000000≤q j∧q j≤1000000) (i k:Nat) (hi:i<lc) (hk:k<lc) (b:Option (Int×Int)) (hb:Fi b (q (2*i))=false) :
 ∃ x,exec (bL n 65 128) (part Tryd.f65 [1,0,1,1,1,1,0,1,0,0,1,1,0,0,1,1,0,0]) (iv (shR dr lc zc lb zb W B) b.isSome lc i k) (tj q lc b::H)=some x∧x.1=.normal∧tidy 3 x.2.1 x.2.2=(iv (shR dr lc zc lb zb W B) (EZ q lc (q (2*i)) b (q (2*k+1))).isSome lc i ((k+1:Nat):Int),tj q lc (EZ q lc (q (2*i)) b (q (2*k+1)))::H):=by
 have e1:bh .i64 (k:Int) (Int.ofNat 1)=((k+1:Nat):Int):=dJ (by omega)
 have ei:aq 0 (i:Int) 2=2*i:=by rw[bG];omega
 have ek:aq 0 (k:Int) 2=2*k:=by rw[bG];omega
 have q1:=hq (2*i) (by omega)
 have q2:=hq (2*k+1) (by omega)
 have es:bh .i64 (bN .i64 (q (2*k+1)) (q (2*i))) (Int.ofNat 1)=q (2*k+1)-q (2*i)+1:=by
  rw[rJ (by omega) (by omega)];exact Fm (by show _≤q (2*k+1)-q (2*i)+1;omega) (by show q (2*k+1)-q (2*i)+1≤_;omega)
 generalize hF:q (2*i)=F at *
 generalize hT:q (2*k+1)=T at *
 cases b with
 | none =>
   have hlp:=R2 n H q (shR dr lc zc lb zb W B) false (Int.ofNat 0) (Int.ofNat 0) lc i k F T hl
   cases hS:dB q F T lc with
   | nil =>
     rw[hS] at hlp
     have ho:rH q lc F T=false:=by unfold rH;rw[hS];rfl
     have T0:=OK n dr lc zc lb zb W B H q i k (Int.ofNat 0) (Int.ofNat 0) 0 q
     rw[ei,ek,aI,e1,hF,hT] at T0
     rw[ur ho]
     refine ay T0 (av _) (aP (ai _ _) vA (fun x hx=>gq hx (by simp only[eI.st,aT];exact hlp))) (aj _ _) ?_
     refine Tr.ae (fun h0=>?_) wJ
     refine Tr.aa wG (Tr.aa wG (Tr.aa wG (Tr.aa wG (Tr.aa wG (Tr.aa wG (Tr.aa wG (Tr.ak ⟨rfl,rfl⟩ (Tr.ae (fun h=>by cases h) (fun _=>Tr.ae (fun _=>Tr.ag ⟨rfl,rfl⟩) (fun h=>by simp[aB] at h))))))))))
   | cons a r =>
     rw[hS] at hlp
     have hg:r.length+1≤lc:=by have:=na q F T lc;rw[hS] at this;simpa using this
     have hov:rH q lc F T=decide (T-F+1<((r.length+1:Nat):Int)):=by unfold rH;rw[hS];rfl
     have hup:tj q lc (some (F,T))=ff q F T (aK (r.length+1) (az (a::r)) false):=by show ff q F T (aK (dB q F T lc).length (az (dB q F T lc)) false)=_;rw[hS];rfl
     have T0:=OL n dr lc zc lb zb W B H q i k (Int.ofNat 0) (Int.ofNat 0) 0 q (r.length+1) (az (a::r))
     rw[ei,ek,aI,e1,hF,hT,es,fq] at T0
     refine ay T0 (av _) (aP (ai _ _) vA (fun x hx=>gq hx (by simp only[eI.st,aT];exact hlp))) (aj _ _) ?_
     refine Tr.ae (fun h0=>?_) wJ
     refine Tr.aa wG (Tr.aa wG (Tr.aa wG (Tr.aa wG (Tr.aa wG (Tr.aa wG (Tr.aa wG (Tr.ak ⟨rfl,rfl⟩ (Tr.ae (fun h=>by cases h) (fun _=>Tr.ae (fun _=>Tr.ae (fun _=>Tr.ae (fun h1=>?_) (fun h1=>Tr.ag ?_)) wJ) (fun h=>by simp[aB] at h))))))))))
     all_goals rw[bw] at h1
     · rw[xT rfl (hov.trans h1),hup]
       exact Tr.aa wG (Tr.aa wG (Tr.aa wG (Tr.aa wG (Tr.ag ⟨rfl,rfl⟩))))
     · rw[ur (hov.trans h1)];exact ⟨rfl,rfl⟩
 | some v =>
   obtain ⟨f,t⟩:=v
   have hb:decide (f<F)=false:=hb
   have hlp:=OR n H q (shR dr lc zc lb zb W B) true f t (dB q f t lc).length (az (dB q f t lc)) lc i k F T hl
   have hlv:tj q lc (some (f,t))=ff q f t (aK (dB q f t lc).length (az (dB q f t lc)) false):=rfl
   generalize dB q f t lc=L0 at hlp hlv
   cases hS:dB q F T lc with
   | nil =>
     rw[hS] at hlp
     have ho:rH q lc F T=false:=by unfold rH;rw[hS];rfl
     have T0:=Kr n dr lc zc lb zb W B H q i k f t L0.length (az L0)
     rw[ei,ek,aI,e1,hF,hT] at T0
     rw[ur ho,hlv]
     refine ay T0 (av _) (aP (ai _ _) vA (fun x hx=>gq hx (by simp only[eI.st,aT];exact hlp))) (aj _ _) ?_
     refine Tr.ae (fun h0=>?_) wJ
     refine Tr.aa wG (Tr.aa wG (Tr.aa wG (Tr.aa wG (Tr.aa wG (Tr.aa wG (Tr.aa wG (Tr.ak ⟨rfl,rfl⟩ (Tr.ae (fun _=>Tr.ae (fun h=>by rw[bw,hb] at h;cases h) (fun _=>Tr.ae (fun h=>by simp[aB] at h) (fun _=>Tr.ae (fun _=>Tr.ag ⟨rfl,rfl⟩) (fun _=>Tr.ae (fun _=>Tr.ag ⟨rfl,rfl⟩) (fun _=>Tr.ag ⟨rfl,rfl⟩))))) (fun h=>by cases h)))))))))
   | cons a r =>
     rw[hS] at hlp
     have hg:r.length+1≤lc:=by have:=na q F T lc;rw[hS] at this;simpa using this
     have hov:rH q lc F T=decide (T-F+1<((r.length+1:Nat):Int)):=by unfold rH;rw[hS];rfl
     have hup:tj q lc (some (F,T))=ff q F T (aK (r.length+1) (az (a::r)) false):=by show ff q F T (aK (dB q F T lc).length (az (dB q F T lc)) false)=_;rw[hS];rfl
     have T0:=Kt n dr lc zc lb zb W B H q i k f t L0.length (az L0) (r.length+1) (az (a::r))
     rw[ei,ek,aI,e1,hF,hT,es,fq] at T0
     rw[hlv]
     refine ay T0 (av _) (aP (ai _ _) vA (fun x hx=>gq hx (by simp only[eI.st,aT];exact hlp))) (aj _ _) ?_
     refine Tr.ae (fun h0=>?_) wJ
     refine Tr.aa wG (Tr.aa wG (Tr.aa wG (Tr.aa wG (Tr.aa wG (Tr.aa wG (Tr.aa wG (Tr.ak ⟨rfl,rfl⟩ (Tr.ae (fun _=>Tr.ae (fun h=>by rw[bw,hb] at h;cases h) (fun _=>Tr.ae (fun h=>by simp[aB] at h) (fun _=>Tr.ae (fun h2=>Tr.ae (fun _=>Tr.ae (fun h1=>?_) (fun h1=>Tr.ag ?_)) wJ) (fun h2=>Tr.ae (fun h3=>Tr.ae (fun _=>Tr.ae (fun h1=>?_) (fun h1=>Tr.ag ?_)) wJ) (fun h3=>Tr.ag ?_))))) (fun h=>by cases h)))))))))
     all_goals rw[bw] at h2
     · rw[bw] at h1
       rw[xT (show Ny (some (f,t)) F T=true by show (decide (F<f) || decide (T<t))=true;rw[h2];rfl) (hov.trans h1),hup]
       exact Tr.aa wG (Tr.aa wG (Tr.aa wG (Tr.aa wG (Tr.ag ⟨rfl,rfl⟩))))
     · rw[bw] at h1
       rw[ur (hov.trans h1),hlv];exact ⟨rfl,rfl⟩
     all_goals rw[bw] at h3
     · rw[bw] at h1
       rw[xT (show Ny (some (f,t)) F T=true by show (decide (F<f) || decide (T<t))=true;rw[h3,Bool.or_true]) (hov.trans h1),hup]
       exact Tr.aa wG (Tr.aa wG (Tr.aa wG (Tr.aa wG (Tr.ag ⟨rfl,rfl⟩))))
     · rw[bw] at h1
       rw[ur (hov.trans h1),hlv];exact ⟨rfl,rfl⟩
     · rw[Ni (show Ny (some (f,t)) F T=false by show (decide (F<f) || decide (T<t))=false;rw[h2,h3];rfl),hlv];exact ⟨rfl,rfl⟩
end
end Go.Eng
end
section
namespace Go.Eng
open Go.Proofs Go.Eng.Gall
noncomputable def Bx (R:Row) (lc:Nat) (i k:Int):aF:=[(0,.ptrT none R 0),(2,.ptr 0 0 0 0),(4,.ptr 0 1 0 0),(5,.ptr 0 2 0 0),(6,.bool true),(7,.int .i64 i),(9,.ptr 0 3 0 0),(19,.int .i64 (Int.ofNat lc)),(20,.int .i64 i),(28,.int .i64 (Int.ofNat lc)),(29,.int .i64 k),(87,.bool true)]
theorem OM (n:Nat) (dr:Int) (lc:Nat) (zc:Nat→Int) (lb:Nat) (zb:Nat→Int) (W B:Nat→Int) (H:ab) (q:Nat→Int) (i k:Int):aH (bL n 65 128) (il aD n 0) (eF aL 4) aJ (part Tryd.f65 [1,0,1,1,1,1,0,1,0,0,1,1,0,0,1,1,0,0]) (hints (iv (shR dr lc zc lb zb W B) false lc i k)) (ff q (Int.ofNat 0) (Int.ofNat 0) .nils::H) =
 Tr.ite (bD k (Int.ofNat lc)) (Tr.req (cj i 10) (Tr.req (cD 0 0) (Tr.req (bW (aq 0 i 2) 20) (Tr.req (cj k 10) (Tr.req (cD 0 0) (Tr.req (bW (ar (aq 0 k 2) 1) 20) (Tr.req (bO (eR 0 0) (eR 0 1)) Tr.bad))))))) (Tr.ok (Ex.exit 2,[(0,shV dr lc zc lb zb W B,none),(2,AV.ptr 0 0 0 0,none),(4,AV.ptr 0 1 0 0,none),(5,AV.ptr 0 2 0 0,none),(6,AV.bool false,none),(7,AV.int .i64 i,none),(19,iI lc,none),(20,AV.int .i64 i,none),(28,iI lc,none),(29,AV.int .i64 k,none),(30,AV.bool false,some 1)],(bA [(0,an.row (Row.G [iI 0,iI 0,AV.nils])),(0,an.row (rM q 20)),(0,an.row (Row.G [iI 0,iI 0,AV.nils]))])::H)):=by kernel_rfl
theorem ON (n:Nat) (dr:Int) (lc:Nat) (zc:Nat→Int) (lb:Nat) (zb:Nat→Int) (W B:Nat→Int) (H:ab) (q:Nat→Int) (i k:Int) (f t:Int) (m:Nat) (y:Nat→Int):aH (bL n 65 128) (il aD n 0) (eF aL 4) aJ (part Tryd.f65 [1,0,1,1,1,1,0,1,0,0,1,1,0,0,1,1,0,0]) (hints (iv (shR dr lc zc lb zb W B) true lc i k)) (ff q f t (aK m y false)::H) =
 Tr.ite (bD k (Int.ofNat lc)) (Tr.req (cj i 10) (Tr.req (cD 0 0) (Tr.req (bW (aq 0 i 2) 20) (Tr.req (cj k 10) (Tr.req (cD 0 0) (Tr.req (bW (ar (aq 0 k 2) 1) 20) (Tr.req (bO (eR 0 0) (eR 0 1)) Tr.bad))))))) (Tr.ok (Ex.exit 2,[(0,shV dr lc zc lb zb W B,none),(2,AV.ptr 0 0 0 0,none),(4,AV.ptr 0 1 0 0,none),(5,AV.ptr 0 2 0 0,none),(6,AV.bool true,none),(7,AV.int .i64 i,none),(19,iI lc,none),(20,AV.int .i64 i,none),(28,iI lc,none),(29,AV.int .i64 k,none),(30,AV.bool false,some 1)],(bA [(0,an.row (Row.G [iI 0,iI 0,AV.nils])),(0,an.row (rM q 20)),(0,an.row (Row.G [AV.int .i64 f,AV.int .i64 t,aK m y false]))])::H)):=by kernel_rfl
theorem Pc (n:Nat) (dr:Int) (lc:Nat) (zc:Nat→Int) (lb:Nat) (zb:Nat→Int) (W B:Nat→Int) (H:ab) (q:Nat→Int) (i:Int):aH (bL n 65 128) (il aD n 0) (cr aL 2 (iv (shR dr lc zc lb zb W B) false lc i (Int.ofNat 0)) (ff q (Int.ofNat 0) (Int.ofNat 0) .nils::H) (.ok (.normal,hints (iv (shR dr lc zc lb zb W B) false lc i (Int.ofNat lc)++[(30,.bool false)]),ff q (Int.ofNat 0) (Int.ofNat 0) .nils::H))) aJ (part Tryd.f65 [1,0,1,1,1,1,0,1,0,0]) (hints (kY (shR dr lc zc lb zb W B) false lc i)) (ff q (Int.ofNat 0) (Int.ofNat 0) .nils::H) =
 (fun (Z0:bF)=>((fun (Z1:aF)=>Tr.ite (bD i (Int.ofNat lc)) (Tr.reqP (Z1=Z1∧Z0::H=Z0::H) (Tr.ok (Ex.normal,[(0,shV dr lc zc lb zb W B,none),(2,AV.ptr 0 0 0 0,none),(4,AV.ptr 0 1 0 0,none),(5,AV.ptr 0 2 0 0,none),(6,AV.bool false,none),(19,iI lc,none),(20,AV.int .i64 (bh .i64 i (Int.ofNat 1)),none)],Z0::H))) (Tr.ok (Ex.exit 0,[(0,shV dr lc zc lb zb W B,none),(2,AV.ptr 0 0 0 0,none),(4,AV.ptr 0 1 0 0,none),(5,AV.ptr 0 2 0 0,none),(6,AV.bool false,none),(19,iI lc,none),(20,AV.int .i64 i,none),(21,AV.bool false,some 1)],Z0::H))) [(0,shV dr lc zc lb zb W B),(2,AV.ptr 0 0 0 0),(4,AV.ptr 0 1 0 0),(5,AV.ptr 0 2 0 0),(6,AV.bool false),(7,AV.int .i64 i),(19,iI lc),(20,AV.int .i64 i),(28,iI lc),(29,iI 0)])) (bA [(0,an.row (Row.G [iI 0,iI 0,AV.nils])),(0,an.row (rM q 20)),(0,an.row (Row.G [iI 0,iI 0,AV.nils]))]):=by kernel_rfl
theorem Pd (n:Nat) (dr:Int) (lc:Nat) (zc:Nat→Int) (lb:Nat) (zb:Nat→Int) (W B:Nat→Int) (H:ab) (q:Nat→Int) (i:Int) (f2 t2:Int) (m2:Nat) (y2:Nat→Int):aH (bL n 65 128) (il aD n 0) (cr aL 2 (iv (shR dr lc zc lb zb W B) false lc i (Int.ofNat 0)) (ff q (Int.ofNat 0) (Int.ofNat 0) .nils::H) (.ok (.normal,hints (iv (shR dr lc zc lb zb W B) true lc i (Int.ofNat lc)++[(30,.bool false)]),ff q f2 t2 (aK m2 y2 false)::H))) aJ (part Tryd.f65 [1,0,1,1,1,1,0,1,0,0]) (hints (kY (shR dr lc zc lb zb W B) false lc i)) (ff q (Int.ofNat 0) (Int.ofNat 0) .nils::H) =
 (fun (Z0:bF)=>((fun (Z1:aF)=>Tr.ite (bD i (Int.ofNat lc)) (Tr.reqP (Z1=Z1∧Z0::H=Z0::H) (Tr.ok (Ex.normal,[(0,shV dr lc zc lb zb W B,none),(2,AV.ptr 0 0 0 0,none),(4,AV.ptr 0 1 0 0,none),(5,AV.ptr 0 2 0 0,none),(6,AV.bool true,none),(19,iI lc,none),(20,AV.int .i64 (bh .i64 i (Int.ofNat 1)),none)],(bA [(0,an.row (Row.G [iI 0,iI 0,AV.nils])),(0,an.row (rM q 20)),(0,an.row (Row.G [AV.int .i64 f2,AV.int .i64 t2,aK m2 y2 false]))])::H))) (Tr.ok (Ex.exit 0,[(0,shV dr lc zc lb zb W B,none),(2,AV.ptr 0 0 0 0,none),(4,AV.ptr 0 1 0 0,none),(5,AV.ptr 0 2 0 0,none),(6,AV.bool false,none),(19,iI lc,none),(20,AV.int .i64 i,none),(21,AV.bool false,some 1)],Z0::H))) [(0,shV dr lc zc lb zb W B),(2,AV.ptr 0 0 0 0),(4,AV.ptr 0 1 0 0),(5,AV.ptr 0 2 0 0),(6,AV.bool false),(7,AV.int .i64 i),(19,iI lc),(20,AV.int .i64 i),(28,iI lc),(29,iI 0)])) (bA [(0,an.row (Row.G [iI 0,iI 0,AV.nils])),(0,an.row (rM q 20)),(0,an.row (Row.G [iI 0,iI 0,AV.nils]))]):=by kernel_rfl
theorem Pf (n:Nat) (dr:Int) (lc:Nat) (zc:Nat→Int) (lb:Nat) (zb:Nat→Int) (W B:Nat→Int) (H:ab) (q:Nat→Int) (i:Int) (f t:Int) (m:Nat) (y:Nat→Int) (f2 t2:Int) (m2:Nat) (y2:Nat→Int):aH (bL n 65 128) (il aD n 0) (cr aL 2 (iv (shR dr lc zc lb zb W B) true lc i (Int.ofNat 0)) (ff q f t (aK m y false)::H) (.ok (.normal,hints (iv (shR dr lc zc lb zb W B) true lc i (Int.ofNat lc)++[(30,.bool false)]),ff q f2 t2 (aK m2 y2 false)::H))) aJ (part Tryd.f65 [1,0,1,1,1,1,0,1,0,0]) (hints (kY (shR dr lc zc lb zb W B) true lc i)) (ff q f t (aK m y false)::H) =
 (fun (Z0:bF)=>((fun (Z1:aF)=>Tr.ite (bD i (Int.ofNat lc)) (Tr.reqP (Z1=Z1∧Z0::H=Z0::H) (Tr.ok (Ex.normal,[(0,shV dr lc zc lb zb W B,none),(2,AV.ptr 0 0 0 0,none),(4,AV.ptr 0 1 0 0,none),(5,AV.ptr 0 2 0 0,none),(6,AV.bool true,none),(19,iI lc,none),(20,AV.int .i64 (bh .i64 i (Int.ofNat 1)),none)],(bA [(0,an.row (Row.G [iI 0,iI 0,AV.nils])),(0,an.row (rM q 20)),(0,an.row (Row.G [AV.int .i64 f2,AV.int .i64 t2,aK m2 y2 false]))])::H))) (Tr.ok (Ex.exit 0,[(0,shV dr lc zc lb zb W B,none),(2,AV.ptr 0 0 0 0,none),(4,AV.ptr 0 1 0 0,none),(5,AV.ptr 0 2 0 0,none),(6,AV.bool true,none),(19,iI lc,none),(20,AV.int .i64 i,none),(21,AV.bool false,some 1)],Z0::H))) [(0,shV dr lc zc lb zb W B),(2,AV.ptr 0 0 0 0),(4,AV.ptr 0 1 0 0),(5,AV.ptr 0 2 0 0),(6,AV.bool true),(7,AV.int .i64 i),(19,iI lc),(20,AV.int .i64 i),(28,iI lc),(29,iI 0)])) (bA [(0,an.row (Row.G [iI 0,iI 0,AV.nils])),(0,an.row (rM q 20)),(0,an.row (Row.G [AV.int .i64 f,AV.int .i64 t,aK m y false]))]):=by kernel_rfl
theorem Pg (n:Nat) (dr:Int) (lc:Nat) (zc:Nat→Int) (lb:Nat) (zb:Nat→Int) (W B:Nat→Int) (H:ab) (q:Nat→Int) (i:Int) (f t:Int) (m:Nat) (y:Nat→Int) (F T:Int):aH (bL n 65 128) (il aD n 0) (cr aL 2 (iv (shR dr lc zc lb zb W B) true lc i (Int.ofNat 0)) (ff q f t (aK m y false)::H) (.ok (.exit 1,hints (Bx (shR dr lc zc lb zb W B) lc i (Int.ofNat 0)),za q f t (aK m y false) F T::H))) aJ (part Tryd.f65 [1,0,1,1,1,1,0,1,0,0]) (hints (kY (shR dr lc zc lb zb W B) true lc i)) (ff q f t (aK m y false)::H) =
 (fun (Z0:bF)=>((fun (Z1:aF)=>Tr.ite (bD i (Int.ofNat lc)) (Tr.reqP (Z1=Z1∧Z0::H=Z0::H) (Tr.ok (Ex.normal,[(0,shV dr lc zc lb zb W B,none),(2,AV.ptr 0 0 0 0,none),(4,AV.ptr 0 1 0 0,none),(5,AV.ptr 0 2 0 0,none),(6,AV.bool true,none),(19,iI lc,none),(20,AV.int .i64 (bh .i64 i (Int.ofNat 1)),none)],(bA [(0,an.row (Row.G [iI 0,iI 0,AV.nils])),(0,an.row (rM q 20)),(0,an.row (Row.G [AV.int .i64 f,AV.int .i64 t,aK m y false])),(0,an.row (Row.G [AV.int .i64 F,AV.int .i64 T,AV.nils]))])::H))) (Tr.ok (Ex.exit 0,[(0,shV dr lc zc lb zb W B,none),(2,AV.ptr 0 0 0 0,none),(4,AV.ptr 0 1 0 0,none),(5,AV.ptr 0 2 0 0,none),(6,AV.bool true,none),(19,iI lc,none),(20,AV.int .i64 i,none),(21,AV.bool false,some 1)],Z0::H))) [(0,shV dr lc zc lb zb W B),(2,AV.ptr 0 0 0 0),(4,AV.ptr 0 1 0 0),(5,AV.ptr 0 2 0 0),(6,AV.bool true),(7,AV.int .i64 i),(19,iI lc),(20,AV.int .i64 i),(28,iI lc),(29,iI 0)])) (bA [(0,an.row (Row.G [iI 0,iI 0,AV.nils])),(0,an.row (rM q 20)),(0,an.row (Row.G [AV.int .i64 f,AV.int .i64 t,aK m y false]))]):=by kernel_rfl
theorem Ph (n:Nat) (dr:Int) (lc:Nat) (zc:Nat→Int) (lb:Nat) (zb:Nat→Int) (W B:Nat→Int) (H:ab) (q:Nat→Int) (i:Int) (f t:Int) (m:Nat) (y:Nat→Int) (F T:Int) (g:Nat) (x:Nat→Int):aH (bL n 65 128) (il aD n 0) (cr aL 2 (iv (shR dr lc zc lb zb W B) true lc i (Int.ofNat 0)) (ff q f t (aK m y false)::H) (.ok (.exit 1,hints (Bx (shR dr lc zc lb zb W B) lc i (Int.ofNat 0)),BM q f t (aK m y false) F T g x::H))) aJ (part Tryd.f65 [1,0,1,1,1,1,0,1,0,0]) (hints (kY (shR dr lc zc lb zb W B) true lc i)) (ff q f t (aK m y false)::H) =
 (fun (Z0:bF)=>((fun (Z1:aF)=>Tr.ite (bD i (Int.ofNat lc)) (Tr.reqP (Z1=Z1∧Z0::H=Z0::H) (Tr.ok (Ex.normal,[(0,shV dr lc zc lb zb W B,none),(2,AV.ptr 0 0 0 0,none),(4,AV.ptr 0 1 0 0,none),(5,AV.ptr 0 2 0 0,none),(6,AV.bool true,none),(19,iI lc,none),(20,AV.int .i64 (bh .i64 i (Int.ofNat 1)),none)],(bA [(0,an.row (Row.G [iI 0,iI 0,AV.nils])),(0,an.row (rM q 20)),(0,an.row (Row.G [AV.int .i64 f,AV.int .i64 t,aK m y false])),(0,an.row (Row.G [AV.int .i64 F,AV.int .i64 T,AV.slc 0 4 0 0 1 g none])),(0,an.row (rM x g))])::H))) (Tr.ok (Ex.exit 0,[(0,shV dr lc zc lb zb W B,none),(2,AV.ptr 0 0 0 0,none),(4,AV.ptr 0 1 0 0,none),(5,AV.ptr 0 2 0 0,none),(6,AV.bool true,none),(19,iI lc,none),(20,AV.int .i64 i,none),(21,AV.bool false,some 1)],Z0::H))) [(0,shV dr lc zc lb zb W B),(2,AV.ptr 0 0 0 0),(4,AV.ptr 0 1 0 0),(5,AV.ptr 0 2 0 0),(6,AV.bool true),(7,AV.int .i64 i),(19,iI lc),(20,AV.int .i64 i),(28,iI lc),(29,iI 0)])) (bA [(0,an.row (Row.G [iI 0,iI 0,AV.nils])),(0,an.row (rM q 20)),(0,an.row (Row.G [AV.int .i64 f,AV.int .i64 t,aK m y false]))]):=by kernel_rfl
theorem Pb (n:Nat) (dr:Int) (lc:Nat) (zc:Nat→Int) (lb:Nat) (zb:Nat→Int) (W B:Nat→Int) (H:ab) (q:Nat→Int) (i:Int):aH (bL n 65 128) (il aD n 0) (eF aL 2) aJ (part Tryd.f65 [1,0,1,1,1,1,0,1,0,0]) (hints (kY (shR dr lc zc lb zb W B) false lc i)) (ff q (Int.ofNat 0) (Int.ofNat 0) .nils::H) =
 Tr.ite (bD i (Int.ofNat lc)) Tr.bad (Tr.ok (Ex.exit 0,[(0,shV dr lc zc lb zb W B,none),(2,AV.ptr 0 0 0 0,none),(4,AV.ptr 0 1 0 0,none),(5,AV.ptr 0 2 0 0,none),(6,AV.bool false,none),(19,iI lc,none),(20,AV.int .i64 i,none),(21,AV.bool false,some 1)],(bA [(0,an.row (Row.G [iI 0,iI 0,AV.nils])),(0,an.row (rM q 20)),(0,an.row (Row.G [iI 0,iI 0,AV.nils]))])::H)):=by kernel_rfl
theorem Pe (n:Nat) (dr:Int) (lc:Nat) (zc:Nat→Int) (lb:Nat) (zb:Nat→Int) (W B:Nat→Int) (H:ab) (q:Nat→Int) (i:Int) (f t:Int) (m:Nat) (y:Nat→Int):aH (bL n 65 128) (il aD n 0) (eF aL 2) aJ (part Tryd.f65 [1,0,1,1,1,1,0,1,0,0]) (hints (kY (shR dr lc zc lb zb W B) true lc i)) (ff q f t (aK m y false)::H) =
 Tr.ite (bD i (Int.ofNat lc)) Tr.bad (Tr.ok (Ex.exit 0,[(0,shV dr lc zc lb zb W B,none),(2,AV.ptr 0 0 0 0,none),(4,AV.ptr 0 1 0 0,none),(5,AV.ptr 0 2 0 0,none),(6,AV.bool true,none),(19,iI lc,none),(20,AV.int .i64 i,none),(21,AV.bool false,some 1)],(bA [(0,an.row (Row.G [iI 0,iI 0,AV.nils])),(0,an.row (rM q 20)),(0,an.row (Row.G [AV.int .i64 f,AV.int .i64 t,aK m y false]))])::H)):=by kernel_rfl
theorem TR (n:Nat) (dr:Int) (lc:Nat) (zc:Nat→Int) (lb:Nat) (zb:Nat→Int) (W B:Nat→Int) (H:ab) (q:Nat→Int) (r:Nat→Int):bj Tryd.prog (cd n) 100000 65 Tryd.f65 (KtG.kt 65) (il (tX aD 56 [shV dr lc zc lb zb W B] (.agg (.M [.arr .i64 r 20]))) n 0) (cr aL 0 (kY (shR dr lc zc lb zb W B) false lc (Int.ofNat 0)) (ff (kT (fun x=>Int.ofNat 0) 0 r 20) (Int.ofNat 0) (Int.ofNat 0) .nils::H) (.ok (.normal,hints (kY (shR dr lc zc lb zb W B) false lc (Int.ofNat lc)++[(21,.bool false)]),ff q (Int.ofNat 0) (Int.ofNat 0) .nils::H))) aJ [(shV dr lc zc lb zb W B,none)] H =
 (fun (Z0:bF)=>((fun (Z1:aF)=>Tr.reqP ([shV dr lc zc lb zb W B]=[shV dr lc zc lb zb W B]) (Tr.req (eD 0 20 0 20) (Tr.reqP (Z1=Z1∧Z0::H=Z0::H) (Tr.ok ((AV.tup [AV.agg (Row.G [iI 0,iI 0,AV.nils]),AV.bool false],none),H))))) [(0,shV dr lc zc lb zb W B),(2,AV.ptr 0 0 0 0),(4,AV.ptr 0 1 0 0),(5,AV.ptr 0 2 0 0),(6,AV.bool false),(19,iI lc),(20,iI 0)])) (bA [(0,an.row (Row.G [iI 0,iI 0,AV.nils])),(0,an.row (rM (kT (fun x=>Int.ofNat 0) 0 r 20) 20)),(0,an.row (Row.G [iI 0,iI 0,AV.nils]))]):=by kernel_rfl
theorem TS (n:Nat) (dr:Int) (lc:Nat) (zc:Nat→Int) (lb:Nat) (zb:Nat→Int) (W B:Nat→Int) (H:ab) (q:Nat→Int) (r:Nat→Int) (f2 t2:Int) (m2:Nat) (y2:Nat→Int):bj Tryd.prog (cd n) 100000 65 Tryd.f65 (KtG.kt 65) (il (tX aD 56 [shV dr lc zc lb zb W B] (.agg (.M [.arr .i64 r 20]))) n 0) (cr aL 0 (kY (shR dr lc zc lb zb W B) false lc (Int.ofNat 0)) (ff (kT (fun x=>Int.ofNat 0) 0 r 20) (Int.ofNat 0) (Int.ofNat 0) .nils::H) (.ok (.normal,hints (kY (shR dr lc zc lb zb W B) true lc (Int.ofNat lc)++[(21,.bool false)]),ff q f2 t2 (aK m2 y2 false)::H))) aJ [(shV dr lc zc lb zb W B,none)] H =
 (fun (Z0:bF)=>((fun (Z1:aF)=>Tr.reqP ([shV dr lc zc lb zb W B]=[shV dr lc zc lb zb W B]) (Tr.req (eD 0 20 0 20) (Tr.reqP (Z1=Z1∧Z0::H=Z0::H) (Tr.ok ((AV.tup [AV.agg (Row.G [AV.int .i64 f2,AV.int .i64 t2,aK m2 y2 false]),AV.bool true],none),H))))) [(0,shV dr lc zc lb zb W B),(2,AV.ptr 0 0 0 0),(4,AV.ptr 0 1 0 0),(5,AV.ptr 0 2 0 0),(6,AV.bool false),(19,iI lc),(20,iI 0)])) (bA [(0,an.row (Row.G [iI 0,iI 0,AV.nils])),(0,an.row (rM (kT (fun x=>Int.ofNat 0) 0 r 20) 20)),(0,an.row (Row.G [iI 0,iI 0,AV.nils]))]):=by kernel_rfl
end Go.Eng
end
section
namespace Go.Eng
open Go.Proofs Go.Eng.Gall
theorem J9:∀ b,(0,b) ∈ aE (aV Tryd.f65)→b=.loop (part Tryd.f65 [1,0,1,1,1,1,0,1,0,0]):=dz (by kernel_rfl)
theorem yd:∀ b,(2,b) ∈ aE (part Tryd.f65 [1,0,1,1,1,1,0,1,0,0])→b=.loop (part Tryd.f65 [1,0,1,1,1,1,0,1,0,0,1,1,0,0,1,1,0,0]):=dz (by kernel_rfl)
theorem Cz (q:Nat→Int) (lc:Nat) (F:Int) (v:Int×Int):∀ k,x4 q lc F (some v) k≠none
 | 0=>by intro h;cases h
 | k+1=>by
   unfold x4 EZ;split
   · intro h;cases h
   · exact Cz q lc F v k
section
variable (n:Nat) (dr:Int) (lc:Nat) (zc:Nat→Int) (lb:Nat) (zb:Nat→Int) (W B:Nat→Int) (H:ab) (q:Nat→Int)
theorem OC (b:Option (Int×Int)):a8 (tj q lc b::H)=3:=by cases b<;>rfl
theorem Sg (hl:lc≤10) (hq:∀ j,j<2*lc→-1000000≤q j∧q j≤1000000) (i:Nat) (hi:i<lc) (b:Option (Int×Int)) (hb:Fi b (q (2*i))=false) :
 exec (bL n 65 128) (.block 2 (.loop (part Tryd.f65 [1,0,1,1,1,1,0,1,0,0,1,1,0,0,1,1,0,0]))) (iv (shR dr lc zc lb zb W B) b.isSome lc i (Int.ofNat 0)) (tj q lc b::H)=some (.normal,iv (shR dr lc zc lb zb W B) (x4 q lc (q (2*i)) b lc).isSome lc i (Int.ofNat lc)++[(30,.bool false)],tj q lc (x4 q lc (q (2*i)) b lc)::H):=by
 refine iG (n:=n) (f:=65) (nt:=128) (c:=part Tryd.f65 [1,0,1,1,1,1,0,1,0,0,1,1,0,0,1,1,0,0]) 2 (fun k=>iv (shR dr lc zc lb zb W B) (x4 q lc (q (2*i)) b k).isSome lc i (k:Int)) (fun k=>tj q lc (x4 q lc (q (2*i)) b k)::H) lc (iv (shR dr lc zc lb zb W B) (x4 q lc (q (2*i)) b lc).isSome lc i (Int.ofNat lc)++[(30,.bool false)],tj q lc (x4 q lc (q (2*i)) b lc)::H) (by omega) (fun k hk=>?_) ?_
 · rw[OC]
   exact Tg n dr lc zc lb zb W B H q hl hq i k hi hk (x4 q lc (q (2*i)) b k) (Gv hb k)
 · generalize x4 q lc (q (2*i)) b lc=c
   cases c with
   | none =>
     obtain ⟨x,h1,rfl⟩:=ay (Q:=fun x=>x=(.exit 2,iv (shR dr lc zc lb zb W B) false lc i (Int.ofNat lc)++[(30,.bool false)],tj q lc none::H)) (OM n dr lc zc lb zb W B H q i (Int.ofNat lc)) (av _) (b8 (ai _ _) 4) (aj _ _) (by
      refine Tr.ae wJ (fun h0=>Tr.ag rfl))
     exact h1
   | some v =>
     obtain ⟨f,t⟩:=v
     obtain ⟨x,h1,rfl⟩:=ay (Q:=fun x=>x=(.exit 2,iv (shR dr lc zc lb zb W B) true lc i (Int.ofNat lc)++[(30,.bool false)],tj q lc (some (f,t))::H)) (ON n dr lc zc lb zb W B H q i (Int.ofNat lc) f t (dB q f t lc).length (az (dB q f t lc))) (av _) (b8 (ai _ _) 4) (aj _ _) (by
      refine Tr.ae wJ (fun h0=>Tr.ag rfl))
     exact h1
noncomputable def F3 (q:Nat→Int) (lc:Nat) (f t F T:Int):bF:=EH q f t (aK (dB q f t lc).length (az (dB q f t lc)) false) F T (dB q F T lc)
theorem Sl (hl:lc≤10) (hq:∀ j,j<2*lc→-1000000≤q j∧q j≤1000000) (i:Nat) (hi:i<lc) (f t:Int) (hb:f<q (2*i)) :
 exec (bL n 65 128) (.block 2 (.loop (part Tryd.f65 [1,0,1,1,1,1,0,1,0,0,1,1,0,0,1,1,0,0]))) (iv (shR dr lc zc lb zb W B) true lc i (Int.ofNat 0)) (tj q lc (some (f,t))::H)=some (.exit 1,Bx (shR dr lc zc lb zb W B) lc i (Int.ofNat 0),F3 q lc f t (q (2*i)) (q 1)::H):=by
 have ei:aq 0 (i:Int) 2=2*i:=by rw[bG];omega
 have ek:aq 0 (Int.ofNat 0) 2=0:=by rw[bG];rfl
 have hb2:decide (f<q (2*i))=true:=decide_eq_true hb
 have hx:exec (bL n 65 128) (part Tryd.f65 [1,0,1,1,1,1,0,1,0,0,1,1,0,0,1,1,0,0]) (iv (shR dr lc zc lb zb W B) true lc i (Int.ofNat 0)) (tj q lc (some (f,t))::H)=some (.exit 1,Bx (shR dr lc zc lb zb W B) lc i (Int.ofNat 0),F3 q lc f t (q (2*i)) (q 1)::H):=by
  have hlp:=OR n H q (shR dr lc zc lb zb W B) true f t (dB q f t lc).length (az (dB q f t lc)) lc i (Int.ofNat 0) (q (2*i)) (q 1) hl;cases hS:dB q (q (2*i)) (q 1) lc with
  | nil =>
    rw[hS] at hlp;have e:F3 q lc f t (q (2*i)) (q 1)=za q f t (aK (dB q f t lc).length (az (dB q f t lc)) false) (q (2*i)) (q 1):=by unfold F3;rw[hS];rfl
    rw[e];have T0:=Kr n dr lc zc lb zb W B H q i (Int.ofNat 0) f t (dB q f t lc).length (az (dB q f t lc));rw[ei,ek,aI,Nat.zero_add] at T0;obtain ⟨x,h1,rfl⟩:=ay (Q:=fun x=>x=(.exit 1,Bx (shR dr lc zc lb zb W B) lc i (Int.ofNat 0),za q f t (aK (dB q f t lc).length (az (dB q f t lc)) false) (q (2*i)) (q 1)::H)) T0 (av _) (aP (ai _ _) vA (fun x hx=>gq hx (by simp only[eI.st,aT];exact hlp))) (aj _ _) (by
     refine Tr.ae (fun h0=>?_) wJ;exact Tr.aa wG (Tr.aa wG (Tr.aa wG (Tr.aa wG (Tr.aa wG (Tr.aa wG (Tr.aa wG (Tr.ak ⟨rfl,rfl⟩ (Tr.ae (fun _=>Tr.ae (fun _=>Tr.ag rfl) (fun h=>by rw[bw,hb2] at h;cases h)) (fun h=>by cases h))))))))))
    exact h1
  | cons a r =>
    rw[hS] at hlp;have e:F3 q lc f t (q (2*i)) (q 1)=BM q f t (aK (dB q f t lc).length (az (dB q f t lc)) false) (q (2*i)) (q 1) (r.length+1) (az (a::r)):=by unfold F3;rw[hS];rfl
    rw[e];have T0:=Kt n dr lc zc lb zb W B H q i (Int.ofNat 0) f t (dB q f t lc).length (az (dB q f t lc)) (r.length+1) (az (a::r));rw[ei,ek,aI,Nat.zero_add] at T0;obtain ⟨x,h1,rfl⟩:=ay (Q:=fun x=>x=(.exit 1,Bx (shR dr lc zc lb zb W B) lc i (Int.ofNat 0),BM q f t (aK (dB q f t lc).length (az (dB q f t lc)) false) (q (2*i)) (q 1) (r.length+1) (az (a::r))::H)) T0 (av _) (aP (ai _ _) vA (fun x hx=>gq hx (by simp only[eI.st,aT];exact hlp))) (aj _ _) (by
     refine Tr.ae (fun h0=>?_) wJ;exact Tr.aa wG (Tr.aa wG (Tr.aa wG (Tr.aa wG (Tr.aa wG (Tr.aa wG (Tr.aa wG (Tr.ak ⟨rfl,rfl⟩ (Tr.ae (fun _=>Tr.ae (fun _=>Tr.ag rfl) (fun h=>by rw[bw,hb2] at h;cases h)) (fun h=>by cases h))))))))))
    exact h1
 exact dp (fun id' h=>by cases h;rfl) (iT (body:=exec (bL n 65 128) (part Tryd.f65 [1,0,1,1,1,1,0,1,0,0,1,1,0,0,1,1,0,0])) (n:=a8 (tj q lc (some (f,t))::H)) (fun _=>iv (shR dr lc zc lb zb W B) true lc i (Int.ofNat 0)) (fun _=>tj q lc (some (f,t))::H) 0 (fun _=>false) (fun _=>(.exit 1,Bx (shR dr lc zc lb zb W B) lc i (Int.ofNat 0),F3 q lc f t (q (2*i)) (q 1)::H)) (fun j h=>absurd h (Nat.not_lt_zero j)) (fun j h=>absurd h (Nat.not_lt_zero j)) ⟨hx,by simp⟩ 0 0 100000 rfl (by omega))
theorem Th (hl:lc≤10) (hq:∀ j,j<2*lc→-1000000≤q j∧q j≤1000000) (i:Nat) (hi:i<lc) :
 ∃ x,exec (bL n 65 128) (part Tryd.f65 [1,0,1,1,1,1,0,1,0,0]) (kY (shR dr lc zc lb zb W B) (kD q lc i).isSome lc i) (tj q lc (kD q lc i)::H)=some x∧x.1=.normal∧tidy 3 x.2.1 x.2.2=(kY (shR dr lc zc lb zb W B) (kD q lc (i+1)).isSome lc ((i+1:Nat):Int),tj q lc (kD q lc (i+1))::H):=by
 have e1:bh .i64 (i:Int) (Int.ofNat 1)=((i+1:Nat):Int):=dJ (by omega)
 have eo:kD q lc (i+1)=if Fi (kD q lc i) (q (2*i))=true then kD q lc i else x4 q lc (q (2*i)) (kD q lc i) lc:=rfl
 rw[eo]
 by_cases hg:Fi (kD q lc i) (q (2*i))=true
 · rw[if_pos hg]
   generalize kD q lc i=b at *
   cases b with
   | none=>cases hg
   | some v =>
     obtain ⟨f,t⟩:=v
     have hx:=Sl n dr lc zc lb zb W B H q hl hq i hi f t (of_decide_eq_true hg)
     cases hS:dB q (q (2*i)) (q 1) lc with
     | nil =>
       have e:F3 q lc f t (q (2*i)) (q 1)=za q f t (aK (dB q f t lc).length (az (dB q f t lc)) false) (q (2*i)) (q 1):=by unfold F3;rw[hS];rfl
       rw[e] at hx
       have T0:=Pg n dr lc zc lb zb W B H q i f t (dB q f t lc).length (az (dB q f t lc)) (q (2*i)) (q 1)
       rw[e1] at T0
       refine ay T0 (av _) (aP (ai _ _) yd (fun x h=>gq h (by simp only[eI.st,aT];exact hx))) (aj _ _) ?_
       exact Tr.ae (fun h0=>Tr.ak ⟨rfl,rfl⟩ (Tr.ag ⟨rfl,rfl⟩)) wJ
     | cons a r =>
       have e:F3 q lc f t (q (2*i)) (q 1)=BM q f t (aK (dB q f t lc).length (az (dB q f t lc)) false) (q (2*i)) (q 1) (r.length+1) (az (a::r)):=by unfold F3;rw[hS];rfl
       rw[e] at hx
       have T0:=Ph n dr lc zc lb zb W B H q i f t (dB q f t lc).length (az (dB q f t lc)) (q (2*i)) (q 1) (r.length+1) (az (a::r))
       rw[e1] at T0
       refine ay T0 (av _) (aP (ai _ _) yd (fun x h=>gq h (by simp only[eI.st,aT];exact hx))) (aj _ _) ?_
       exact Tr.ae (fun h0=>Tr.ak ⟨rfl,rfl⟩ (Tr.ag ⟨rfl,rfl⟩)) wJ
 · rw[if_neg hg]
   have hg:Fi (kD q lc i) (q (2*i))=false:=by simpa using hg
   have hx:=Sg n dr lc zc lb zb W B H q hl hq i hi _ hg
   generalize hc:x4 q lc (q (2*i)) (kD q lc i) lc=c at *
   generalize kD q lc i=b at *
   cases b with
   | none =>
     cases c with
     | none =>
       have T0:=Pc n dr lc zc lb zb W B H q i
       rw[e1] at T0
       refine ay T0 (av _) (aP (ai _ _) yd (fun x h=>gq h (by simp only[eI.st,aT];exact hx))) (aj _ _) ?_
       exact Tr.ae (fun h0=>Tr.ak ⟨rfl,rfl⟩ (Tr.ag ⟨rfl,rfl⟩)) wJ
     | some v =>
       obtain ⟨f,t⟩:=v
       have T0:=Pd n dr lc zc lb zb W B H q i f t (dB q f t lc).length (az (dB q f t lc))
       rw[e1] at T0
       refine ay T0 (av _) (aP (ai _ _) yd (fun x h=>gq h (by simp only[eI.st,aT];exact hx))) (aj _ _) ?_
       exact Tr.ae (fun h0=>Tr.ak ⟨rfl,rfl⟩ (Tr.ag ⟨rfl,rfl⟩)) wJ
   | some v =>
     obtain ⟨f,t⟩:=v
     cases c with
     | none=>exact absurd hc (Cz _ _ _ _ _)
     | some v2 =>
       obtain ⟨f2,t2⟩:=v2
       have T0:=Pf n dr lc zc lb zb W B H q i f t (dB q f t lc).length (az (dB q f t lc)) f2 t2 (dB q f2 t2 lc).length (az (dB q f2 t2 lc))
       rw[e1] at T0
       refine ay T0 (av _) (aP (ai _ _) yd (fun x h=>gq h (by simp only[eI.st,aT];exact hx))) (aj _ _) ?_
       exact Tr.ae (fun h0=>Tr.ak ⟨rfl,rfl⟩ (Tr.ag ⟨rfl,rfl⟩)) wJ
end
end Go.Eng
end
section
namespace Go.Eng
open Go.Proofs Go.Eng.Gall
theorem Cy (n:Nat) (b:Nat→Nat) (w:Nat→Int):Bd n b w n (dx n b w) where
 lo c hc:=by
  have:dx n b w (2*c)=fy n b w n c:=by unfold dx;rw[if_pos (by omega),if_pos (by omega),show 2*c / 2=c by omega]
  omega
 hi c hc:=by
  have:dx n b w (2*c+1)=-fw n b w n c:=by unfold dx;rw[if_pos (by omega),if_neg (by omega),show (2*c+1) / 2=c by omega]
  omega
 out i hi:=by unfold dx;rw[if_neg (by omega)]
section
variable (n:Nat) (dr:Int) (lc:Nat) (zc:Nat→Int) (lb:Nat) (zb:Nat→Int) (W B:Nat→Int) (H:ab) (q:Nat→Int)
theorem Si (hl:lc≤10) (hq:∀ j,j<2*lc→-1000000≤q j∧q j≤1000000) :
 exec (bL n 65 128) (.block 0 (.loop (part Tryd.f65 [1,0,1,1,1,1,0,1,0,0]))) (kY (shR dr lc zc lb zb W B) false lc (Int.ofNat 0)) (ff q (Int.ofNat 0) (Int.ofNat 0) .nils::H)=some (.normal,kY (shR dr lc zc lb zb W B) (kD q lc lc).isSome lc (Int.ofNat lc)++[(21,.bool false)],tj q lc (kD q lc lc)::H):=by
 refine iG (n:=n) (f:=65) (nt:=128) (c:=part Tryd.f65 [1,0,1,1,1,1,0,1,0,0]) 0 (fun i=>kY (shR dr lc zc lb zb W B) (kD q lc i).isSome lc (i:Int)) (fun i=>tj q lc (kD q lc i)::H) lc (kY (shR dr lc zc lb zb W B) (kD q lc lc).isSome lc (Int.ofNat lc)++[(21,.bool false)],tj q lc (kD q lc lc)::H) (by omega) (fun i hi=>?_) ?_
 · rw[OC]
   exact Th n dr lc zc lb zb W B H q hl hq i hi
 · generalize kD q lc lc=c
   cases c with
   | none =>
     obtain ⟨x,h1,rfl⟩:=ay (Q:=fun x=>x=(.exit 0,kY (shR dr lc zc lb zb W B) false lc (Int.ofNat lc)++[(21,.bool false)],tj q lc none::H)) (Pb n dr lc zc lb zb W B H q (Int.ofNat lc)) (av _) (b8 (ai _ _) 2) (aj _ _) (by
      refine Tr.ae wJ (fun h0=>Tr.ag rfl))
     exact h1
   | some v =>
     obtain ⟨f,t⟩:=v
     obtain ⟨x,h1,rfl⟩:=ay (Q:=fun x=>x=(.exit 0,kY (shR dr lc zc lb zb W B) true lc (Int.ofNat lc)++[(21,.bool false)],tj q lc (some (f,t))::H)) (Pe n dr lc zc lb zb W B H q (Int.ofNat lc) f t (dB q f t lc).length (az (dB q f t lc))) (av _) (b8 (ai _ _) 2) (aj _ _) (by
      refine Tr.ae wJ (fun h0=>Tr.ag rfl))
     exact h1
noncomputable def Vx (q:Nat→Int) (lc:Nat):Option (Int×Int)→AV
 | none=>.tup [.agg (.G [.int .i64 (Int.ofNat 0),.int .i64 (Int.ofNat 0),.nils]),.bool false]
 | some (f,t)=>.tup [.agg (.G [.int .i64 f,.int .i64 t,aK (dB q f t lc).length (az (dB q f t lc)) false]),.bool true]
noncomputable def qB (r:Nat→Int):Nat→Int:=kT (fun _=>Int.ofNat 0) 0 r 20
theorem rp (r:Nat→Int) {j:Nat} (hj:j<20):qB r j=r j:=by unfold qB;rw[rP];unfold wL;simp[hj]
theorem UY (b:Nat→Nat) (hS:fM lc W b):cd (n+3) (.fn 65) [shV dr lc zc lb zb W (bI b)] H=some (Vx (qB (dx lc b W)) lc (kD (qB (dx lc b W)) lc lc),H):=by
 have hq:∀ j,j<2*lc→-1000000≤qB (dx lc b W) j∧qB (dx lc b W) j≤1000000:=fun j hj=>by
  have hl:=hS.len;rw[rp _ (by omega)];have h:=qc (K:=100000) (by omega) hS.win (Cy lc b W) (j / 2) (by omega);rcases Nat.mod_two_eq_zero_or_one j with e | e
  · rw[show 2*(j / 2)=j by omega] at h;omega
  · rw[show 2*(j / 2)+1=j by omega] at h;omega
 have h56:=fun H=>UW n dr lc zc lb zb W b H hS;have hlp:=Si (n+2) dr lc zc lb zb W (bI b) H (qB (dx lc b W)) hS.len hq;generalize hQ:kD (qB (dx lc b W)) lc lc=c at *;cases c with
 | none =>
   refine pg (n:=n+2) Tryd.func65 rfl (fun _ _=>rfl) rfl (TR (n+2) dr lc zc lb zb W (bI b) H (qB (dx lc b W)) (dx lc b W)) (bo _ _ (bR (aW _) h56)) (aP (ai _ _) J9 (fun x h=>gq h (by simp only[eI.st,aT];exact hlp))) (aj _ _) ?_;exact Tr.ak rfl (Tr.aa wG (Tr.ak ⟨rfl,rfl⟩ (Tr.ag ⟨rfl,rfl⟩)))
 | some v =>
   obtain ⟨f,t⟩:=v;refine pg (n:=n+2) Tryd.func65 rfl (fun _ _=>rfl) rfl (TS (n+2) dr lc zc lb zb W (bI b) H (qB (dx lc b W)) (dx lc b W) f t (dB (qB (dx lc b W)) f t lc).length (az (dB (qB (dx lc b W)) f t lc))) (bo _ _ (bR (aW _) h56)) (aP (ai _ _) J9 (fun x h=>gq h (by simp only[eI.st,aT];exact hlp))) (aj _ _) ?_;exact Tr.ak rfl (Tr.aa wG (Tr.ak ⟨rfl,rfl⟩ (Tr.ag ⟨rfl,rfl⟩)))
end
end Go.Eng
end
