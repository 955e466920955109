/- Drop: what group makes is what is joined: plain laws of the sort and of reaching. -/
import Derived.Test.YtjmjkhpfipglcaaV7Klx13
import Derived.Test.YtjmjkhpfipglcaaV7DrVx8
namespace Go.Eng
open Go.Proofs
set_option linter.unusedVariables false
set_option linter.unusedSimpArgs false
theorem zH:∀ (j:Nat) (z:Nat→Int),(∀ a b,a<b→b<j→z a<z b)→(∀ a,a<j→z a≠z j) →
 (∀ a b,a<b→b≤j→kR z j a<kR z j b)∧(∀ x,(∃ i,i≤j∧kR z j i=x)↔∃ i,i≤j∧z i=x)
 | 0,z,_,_=>⟨fun a b h1 h2=>by omega,fun x=>Iff.rfl⟩
 | j + 1,z,  h1,h2=>by
   unfold kR
   by_cases hc:z (j+1)<z j
   · rw[if_pos hc]
     have s1:An z (j+1) (j+1)=z j:=by unfold An;simp[eF]
     have s2:An z (j+1) j=z (j+1):=by unfold An;simp[eF]
     have s3:∀ a,a≠j→a≠j+1→An z (j+1) a=z a:=fun a q1 q2=>by unfold An;simp[eF,q1,q2]
     generalize An z (j+1)=z' at *
     obtain ⟨i1,i2⟩:=zH j z' (fun a b q1 q2=>by rw[s3 a (by omega) (by omega),s3 b (by omega) (by omega)];exact h1 a b q1 (by omega)) (fun a q=>by rw[s3 a (by omega) (by omega),s2];exact h2 a (by omega))
     have o:=rG j z' (j+1) (by omega)
     rw[s1] at o
     refine ⟨fun a b q1 q2=>?_,fun x=>?_⟩
     · by_cases e:b=j+1
       · subst e
         rw[o]
         obtain ⟨i,q3,q4⟩:=(i2 (kR z' j a)).1 ⟨a,by omega,rfl⟩
         rw[← q4]
         by_cases e2:i=j
         · subst e2;rw[s2];exact hc
         · rw[s3 i e2 (by omega)];exact h1 i j (by omega) (by omega)
       · exact i1 a b q1 (by omega)
     · constructor
       · rintro ⟨i,q1,q2⟩
         by_cases e:i=j+1
         · subst e;rw[o] at q2;exact ⟨j,by omega,q2⟩
         · obtain ⟨k,q3,q4⟩:=(i2 x).1 ⟨i,by omega,q2⟩
           by_cases e2:k=j
           · subst e2;rw[s2] at q4;exact ⟨k+1,by omega,q4⟩
           · rw[s3 k e2 (by omega)] at q4;exact ⟨k,by omega,q4⟩
       · rintro ⟨i,q1,q2⟩
         by_cases e:i=j
         · subst e;exact ⟨i+1,by omega,by rw[o];exact q2⟩
         · by_cases e2:i=j+1
           · subst e2
             obtain ⟨k,q3,q4⟩:=(i2 x).2 ⟨j,by omega,by rw[s2];exact q2⟩
             exact ⟨k,by omega,q4⟩
           · obtain ⟨k,q3,q4⟩:=(i2 x).2 ⟨i,by omega,by rw[s3 i e e2];exact q2⟩
             exact ⟨k,by omega,q4⟩
   · rw[if_neg hc]
     refine ⟨fun a b q1 q2=>?_,fun x=>Iff.rfl⟩
     by_cases e:b=j+1
     · subst e
       have:=h2 j (by omega)
       by_cases e2:a=j
       · subst e2;omega
       · have:=h1 a j (by omega) (by omega);omega
     · exact h1 a b q1 (by omega)
theorem Al (z:Nat→Int):∀ k,(∀ a b,a<b→b≤k→z a≠z b) →
 (∀ a b,a<b→b≤k→fZ z k a<fZ z k b)∧(∀ x,(∃ i,i≤k∧fZ z k i=x)↔∃ i,i≤k∧z i=x)
 | 0,_=>⟨fun a b h1 h2=>by omega,fun x=>Iff.rfl⟩
 | k + 1,h=>by
   obtain ⟨i1,i2⟩:=Al z k (fun a b q1 q2=>h a b q1 (by omega))
   have o:=sv k z (k+1) (by omega)
   show (∀ a b,a<b→b≤k+1→kR (fZ z k) (k+1) a<kR (fZ z k) (k+1) b)∧(∀ x,(∃ i,i≤k+1∧kR (fZ z k) (k+1) i=x)↔∃ i,i≤k+1∧z i=x)
   generalize fZ z k=y at *
   obtain ⟨j1,j2⟩:=zH (k+1) y (fun a b q1 q2=>i1 a b q1 (by omega)) (fun a q=>by
    rw[o]
    obtain ⟨i,q1,q2⟩:=(i2 (y a)).1 ⟨a,by omega,rfl⟩
    rw[← q2];exact h i (k+1) (by omega) (by omega))
   refine ⟨j1,fun x=>(j2 x).trans ?_⟩
   constructor
   · rintro ⟨i,q1,q2⟩
     by_cases e:i=k+1
     · subst e;exact ⟨k+1,by omega,by rw[← o];exact q2⟩
     · obtain ⟨m,q3,q4⟩:=(i2 x).1 ⟨i,by omega,q2⟩
       exact ⟨m,by omega,q4⟩
   · rintro ⟨i,q1,q2⟩
     by_cases e:i=k+1
     · subst e;exact ⟨k+1,by omega,by rw[o];exact q2⟩
     · obtain ⟨m,q3,q4⟩:=(i2 x).2 ⟨i,by omega,q2⟩
       exact ⟨m,by omega,q4⟩
theorem FF (p:Int) (L:List Int) (hn:(p::L).Nodup):(kT p L).Pairwise (· < ·)∧∀ x,x ∈ kT p L↔x ∈ p::L:=by
 cases L with
 | nil=>exact ⟨by simp[kT],fun x=>Iff.rfl⟩
 | cons y r =>
   have hv:∀ a,(h:a<(p::y::r).length)→bE (p::y::r) a=(p::y::r)[a]:=fun a h=>by
    rw[fb,List.getD_eq_getElem?_getD,List.getElem?_eq_getElem h];rfl
   have hl:(p::y::r).length=r.length+2:=rfl
   have hd:∀ a b,a<b→b≤r.length+1→bE (p::y::r) a≠bE (p::y::r) b:=fun a b q1 q2=>by
    rw[hv a (by omega),hv b (by omega)]
    exact (List.pairwise_iff_getElem.1 hn) a b (by omega) (by omega) q1
   obtain ⟨s1,s2⟩:=Al (bE (p::y::r)) (r.length+1) hd
   unfold kT
   refine ⟨?_,fun x=>?_⟩
   · rw[List.pairwise_map]
     refine List.Pairwise.imp_of_mem ?_ (List.pairwise_lt_range)
     intro a b ha hb hab
     have:=List.mem_range.1 hb
     exact s1 a b hab (by omega)
   · rw[List.mem_map]
     constructor
     · rintro ⟨i,h1,rfl⟩
       have:=List.mem_range.1 h1
       obtain ⟨m,q1,q2⟩:=(s2 _).1 ⟨i,by omega,rfl⟩
       rw[← q2,hv m (by omega)];exact List.getElem_mem _
     · intro hx
       obtain ⟨m,q1,q2⟩:=List.mem_iff_getElem.1 hx
       obtain ⟨i,q3,q4⟩:=(s2 x).2 ⟨m,by omega,by rw[hv m q1];exact q2⟩
       exact ⟨i,List.mem_range.2 (by omega),q4⟩
theorem zF:∀ (l m:List Int),l.Pairwise (· < ·)→m.Pairwise (· < ·)→(∀ x,x ∈ l↔x ∈ m)→l=m
 | [],[],_,_,_=>rfl
 | [],y::m,_,_,h=>by have:=(h y).2 (by simp);cases this
 | x::l,[],_,_,h=>by have:=(h x).1 (by simp);cases this
 | x :: l,y::m,h1,h2,h=>by
   rw[List.pairwise_cons] at h1 h2
   have e:x=y:=by
    rcases List.mem_cons.1 ((h x).1 (by simp)) with e | e
    · exact e
    · rcases List.mem_cons.1 ((h y).2 (by simp)) with e2 | e2
      · exact e2.symm
      · have:=h2.1 x e
        have:=h1.1 y e2
        omega
   subst e
   rw[zF l m h1.2 h2.2 (fun z=>⟨fun hz=>?_,fun hz=>?_⟩)]
   · rcases List.mem_cons.1 ((h z).1 (by simp[hz])) with e | e
     · subst e;have:=h1.1 z hz;omega
     · exact e
   · rcases List.mem_cons.1 ((h z).2 (by simp[hz])) with e | e
     · subst e;have:=h2.1 z hz;omega
     · exact e
theorem z5 (f:Nat→Bool) (N:Nat):(HK f N).Pairwise (· < ·):=by
 unfold HK
 rw[List.pairwise_map]
 have:((List.range N).filter f).Pairwise (· < ·):=(List.pairwise_lt_range).filter f
 exact this.imp (fun h=>by omega)
inductive Bw (ls:Nat) (hl:Int→Int→Bool) (p:Int):Int→Prop
 | refl:Bw ls hl p p
 | step {q r:Int}:Bw ls hl p q→-2≤r∧r<ls→q≠r→hl q r=true→Bw ls hl p r
theorem Bw.side {ls:Nat} {hl:Int→Int→Bool} {p q:Int} (hp:-2≤p∧p<ls) (h:Bw ls hl p q):-2≤q∧q<ls:=by
 cases h with
 | refl=>exact hp
 | step _ h _ _=>exact h
theorem Bw.mono {ls:Nat} {hl hk:Int→Int→Bool} {p q:Int} (hp:-2≤p∧p<ls) (e:∀ a b:Int,-2≤a∧a<ls→-2≤b∧b<ls→a≠b→hl a b=hk a b) (h:Bw ls hl p q):Bw ls hk p q:=by
 induction h with
 | refl=>exact .refl
 | step h1 h2 h3 h4 ih=>exact .step ih h2 h3 (by rw[← e _ _ (h1.side hp) h2 h3];exact h4)
structure Bx (N:Nat) (hl:Int→Int→Bool) (t j:Nat) (z:Nat→Int):Prop where
 one:z t=1
 rng:∀ i,0≤z i∧z i≤j+1
 uni:∀ i,z i=1→i=t
 prev:∀ i,2≤z i→i<N∧∃ k,k<N∧k≠i∧hl ((i:Int)-2) ((k:Int)-2)=true∧z k=z i-1
 fro:∀ i k,i<N→k<N→k≠i→hl ((i:Int)-2) ((k:Int)-2)=true→z i=0→z k=0∨z k=j+1
theorem Bx.next {N:Nat} {hl:Int→Int→Bool} {t j:Nat} {z:Nat→Int} (h:Bx N hl t j z):Bx N hl t (j+1) (tj z ((j:Int)+1) hl N):=by
 have hit:∀ i k,Cl z ((j:Int)+1) hl i k=true↔k≠i∧z k=j+1∧hl ((i:Int)-2) ((k:Int)-2)=true:=fun i k=>by
  unfold Cl;simp
 have val:∀ i,(z i=0∧i<N∧(∃ k,k<N∧k≠i∧z k=j+1∧hl ((i:Int)-2) ((k:Int)-2)=true)∧tj z ((j:Int)+1) hl N i=j+2)∨(tj z ((j:Int)+1) hl N i=z i∧(z i=0→i<N→¬ ∃ k,k<N∧k≠i∧z k=j+1∧hl ((i:Int)-2) ((k:Int)-2)=true)):=fun i=>by
  unfold tj
  by_cases hi:i<N
  · rw[if_pos hi]
    unfold H6
    by_cases hc:z i=0∧bD (Cl z ((j:Int)+1) hl i) N=true
    · rw[if_pos hc]
      obtain ⟨k,k1,k2⟩:=(bV _ _).1 hc.2
      have:=(hit i k).1 k2
      exact .inl ⟨hc.1,hi,⟨k,k1,this⟩,by omega⟩
    · rw[if_neg hc]
      refine .inr ⟨rfl,fun h0 _ hx=>hc ⟨h0,?_⟩⟩
      obtain ⟨k,k1,k2⟩:=hx
      exact (bV _ _).2 ⟨k,k1,(hit i k).2 k2⟩
  · rw[if_neg hi]
    exact .inr ⟨rfl,fun _ x=>absurd x hi⟩
 generalize tj z ((j:Int)+1) hl N=y at *
 have bO:∀ i,z i≠0→y i=z i:=fun i hi=>by
  rcases val i with v | v
  · exact absurd v.1 hi
  · exact v.1
 refine ⟨?_,fun i=>?_,fun i hi=>?_,fun i hi=>?_,fun i k hi hk hki hh h0=>?_⟩
 · rw[bO t (by rw[h.one];decide)];exact h.one
 · have:=h.rng i
   rcases val i with v | v
   · omega
   · rw[v.1];omega
 · rcases val i with v | v
   · omega
   · exact h.uni i (by rw[← v.1];exact hi)
 · rcases val i with v | v
   · obtain ⟨v1,v2,⟨k,k1,k2,k3,k4⟩,v4⟩:=v
     exact ⟨v2,k,k1,k2,k4,by rw[bO k (by omega),k3,v4];omega⟩
   · rw[v.1] at hi ⊢
     obtain ⟨g1,k,k1,k2,k3,k4⟩:=h.prev i hi
     exact ⟨g1,k,k1,k2,k3,by rw[bO k (by omega)];exact k4⟩
 · rcases val i with v | v
   · omega
   · rw[v.1] at h0
     have hz:=h.fro i k hi hk hki hh h0
     have hn:=v.2 h0 hi
     have hz0:z k=0:=by
      rcases hz with x | x
      · exact x
      · exact absurd ⟨k,hk,hki,x,hh⟩ hn
     rcases val k with u | u
     · right;rw[u.2.2.2];omega
     · left;rw[u.1];exact hz0
theorem vp {N:Nat} {hl:Int→Int→Bool} {p:Int} (hp:-2≤p):∀ j,Bx N hl (p+2).toNat j (Dz (yH p) hl N j)
 | 0 => by
   have v:∀ i,(Dz (yH p) hl N 0 i=1∧i=(p+2).toNat)∨(Dz (yH p) hl N 0 i=0∧i≠(p+2).toNat):=fun i=>by
    show (yH p i=1∧_)∨(yH p i=0∧_)
    unfold yH
    by_cases e:(i:Int)=p+2
    · rw[if_pos e];left;exact ⟨rfl,by omega⟩
    · rw[if_neg e];right;exact ⟨rfl,by omega⟩
   generalize Dz (yH p) hl N 0=y at *
   refine ⟨?_,fun i=>?_,fun i hi=>?_,fun i hi=>?_,fun i k hi hk hki hh h0=>?_⟩
   · rcases v (p+2).toNat with x | x
     · exact x.1
     · exact absurd rfl x.2
   · rcases v i with x | x<;>omega
   · rcases v i with x | x<;>omega
   · rcases v i with x | x<;>omega
   · rcases v k with x | x<;>omega
 | j+1=>(vp hp j).next
theorem Bx.count {N:Nat} {hl:Int→Int→Bool} {t j:Nat} {z:Nat→Int} (h:Bx N hl t j z) (ht:t<N):∀ s:Nat,1≤s→(∃ i,z i=s)→∃ l:List Int,l.Nodup∧l.length=s∧∀ q ∈ l,∃ i:Nat,q=i∧i<N∧1≤z i∧z i≤s
 | 0,hs,_=>by omega
 | 1,_,_=>⟨[(t:Int)],by simp,rfl,fun q hq=>by
    simp at hq
    exact ⟨t,hq,ht,by rw[h.one];omega,by rw[h.one];omega⟩⟩
 | s + 2,_,⟨i,hi⟩=>by
   obtain ⟨g1,k,k1,k2,k3,k4⟩:=h.prev i (by omega)
   obtain ⟨l,l1,l2,l3⟩:=h.count ht (s+1) (by omega) ⟨k,by omega⟩
   refine ⟨(i:Int)::l,List.nodup_cons.2 ⟨fun hm=>?_,l1⟩,by simp[l2],fun q hq=>?_⟩
   · obtain ⟨i',e1,_,_,e4⟩:=l3 _ hm
     have:i=i':=by omega
     subst this
     omega
   · rcases List.mem_cons.1 hq with e | e
     · exact ⟨i,e,g1,by omega,by omega⟩
     · obtain ⟨i',e1,e2,e3,e4⟩:=l3 _ e
       exact ⟨i',e1,e2,e3,by omega⟩
theorem Bx.closed {N:Nat} {hl:Int→Int→Bool} {t:Nat} {z:Nat→Int} (h:Bx N hl t (N-1) z) (ht:t<N) {i k:Nat} (hi:i<N) (hk:k<N) (hki:k≠i) (hh:hl ((i:Int)-2) ((k:Int)-2)=true) (h0:0<z k):0<z i:=by
 have r:=h.rng i
 by_cases e:z i=0
 · exfalso
   have hz:=h.fro i k hi hk hki hh e
   obtain ⟨l,l1,l2,l3⟩:=h.count ht N (by omega) ⟨k,by omega⟩
   have:=rZ N 0 ((i:Int)::l) (List.nodup_cons.2 ⟨fun hm=>?_,l1⟩) (fun q hq=>?_)
   · have e5:((i:Int)::l).length=N+1:=by simp[l2]
     omega
   · obtain ⟨i',e1,_,e3,_⟩:=l3 _ hm
     have:i=i':=by omega
     subst this
     omega
   · rcases List.mem_cons.1 hq with x | x
     · omega
     · obtain ⟨i',e1,e2,_,_⟩:=l3 _ x
       omega
 · omega
theorem H5 {ls:Nat} {hl:Int→Int→Bool} {p:Int} (hp:-2≤p∧p<ls) (hs:∀ a b:Int,-2≤a∧a<ls→-2≤b∧b<ls→a≠b→hl a b=hl b a) {z:Nat→Int} (h:Bx (ls+2) hl (p+2).toNat (ls+1) z) :
 (∀ (v i:Nat),i<ls+2→z i=v→0<v→Bw ls hl p ((i:Int)-2))∧∀ q,Bw ls hl p q→0<z (q+2).toNat:=by
 constructor
 · intro v
   induction v with
   | zero=>intro i _ _ h;omega
   | succ v ih =>
     intro i hi hz _
     by_cases h1:v=0
     · subst h1
       have:=h.uni i (by omega)
       rw[this,show (((p+2).toNat:Nat):Int)-2=p by omega]
       exact .refl
     · obtain ⟨_,k,k1,k2,k3,k4⟩:=h.prev i (by omega)
       exact .step (ih k k1 (by omega) (by omega)) (by omega) (by omega) (by rw[hs _ _ (by omega) (by omega) (by omega)];exact k3)
 · intro q hq
   induction hq with
   | refl=>rw[h.one];decide
   | step h1 h2 h3 h4 ih =>
     rename_i q r
     have hq:=h1.side hp
     refine Bx.closed (N:=ls+2) h (by omega) (i:=(r+2).toNat) (k:=(q+2).toNat) (by omega) (by omega) (by omega) ?_ ih
     rw[show (((r+2).toNat:Nat):Int)-2=r by omega,show (((q+2).toNat:Nat):Int)-2=q by omega,hs _ _ h2 hq (fun x=>h3 x.symm)]
     exact h4
def MI (p:Int) (s:(Nat→Int)×List Int):Prop:=∀ q:Int,-2≤q→q≠p→s.1 (q+2).toNat≠0→q ∈ s.2
theorem Ch {p q:Int} {s:(Nat→Int)×List Int} (hq:-2≤q) (h:MI p s):MI p (dO p q s)∧(∃ t,(dO p q s).2=s.2++t∧∀ x ∈ t,x=q)∧(q=p∨q ∈ (dO p q s).2):=by
 unfold dO
 by_cases hn:wi p q s.1=true
 · rw[if_pos hn]
   refine ⟨fun x hx hxp hm=>?_,⟨[q],rfl,by simp⟩,.inr (by simp)⟩
   by_cases e:x=q
   · subst e;simp
   · have:(x+2).toNat≠(q+2).toNat:=by omega
     simp only[eF,if_neg this] at hm
     exact List.mem_append.2 (.inl (h x hx hxp hm))
 · rw[if_neg hn]
   refine ⟨h,⟨[],by simp,by simp⟩,?_⟩
   by_cases e:q=p
   · exact .inl e
   · right
     refine h q hq e (fun x=>hn ?_)
     unfold wi
     simp[e,x]
theorem ly {p:Int} {hl:Nat→Bool} {s:(Nat→Int)×List Int} (h:MI p s):∀ j,MI p (cO hl p s j)∧(∃ t,(cO hl p s j).2=s.2++t∧∀ x ∈ t,∃ i:Nat,i<j∧hl i=true∧x=(i:Int)-2)∧∀ i:Nat,i<j→hl i=true→(i:Int)-2=p∨(i:Int)-2 ∈ (cO hl p s j).2
 | 0=>⟨h,⟨[],by simp[cO],by simp⟩,fun i hi=>by omega⟩
 | j + 1 => by
   obtain ⟨a1,⟨t,a2,a3⟩,a4⟩:=ly (hl:=hl) h j
   have e:cO hl p s (j+1)=if hl j=true then dO p ((j:Int)-2) (cO hl p s j) else cO hl p s j:=rfl
   rw[e]
   by_cases hh:hl j=true
   · rw[if_pos hh]
     generalize cO hl p s j=g at *
     obtain ⟨b1,⟨u,b2,b3⟩,b4⟩:=Ch (q:=(j:Int)-2) (by omega) a1
     refine ⟨b1,⟨t++u,by rw[b2,a2,List.append_assoc],fun x hx=>?_⟩,fun i hi hv=>?_⟩
     · rcases List.mem_append.1 hx with y | y
       · obtain ⟨i,i1,i2⟩:=a3 x y
         exact ⟨i,by omega,i2⟩
       · exact ⟨j,by omega,hh,b3 x y⟩
     · by_cases e:i=j
       · subst e;exact b4
       · rcases a4 i (by omega) hv with y | y
         · exact .inl y
         · right;rw[b2];exact List.mem_append.2 (.inl y)
   · rw[if_neg hh]
     refine ⟨a1,⟨t,a2,fun x hx=>?_⟩,fun i hi hv=>?_⟩
     · obtain ⟨i,i1,i2⟩:=a3 x hx
       exact ⟨i,by omega,i2⟩
     · by_cases e:i=j
       · subst e;exact absurd hv hh
       · exact a4 i (by omega) hv
theorem Hy (p:Int) (hp:-2≤p):MI p (mD p,[]):=by
 intro q hq hqp hm
 exfalso
 apply hm
 have:(q+2).toNat≠(p+2).toNat:=by omega
 show mD p (q+2).toNat=0
 unfold mD
 simp only[eF,if_neg this,ze,vR]
 simp
section
variable (ls:Nat) (kd:Nat→Int) (sure:Bool) (p:Int)
theorem uF (hp:-2≤p):∀ i,MI p (ky kd sure ls p (mD p) i)
 | 0=>Hy p hp
 | i+1=>(ly (uF hp i) (ls+2)).1
theorem uG (hp:-2≤p) (i:Nat):∀ k,∃ t,(ky kd sure ls p (mD p) (i+k)).2=(ky kd sure ls p (mD p) i).2++t
 | 0=>⟨[],by simp⟩
 | k+1=>by
   obtain ⟨t,ht⟩:=uG hp i k
   obtain ⟨_,⟨u,hu,_⟩,_⟩:=ly (hl:=fun j=>cG kd sure (bE (p::(ky kd sure ls p (mD p) (i+k)).2) (i+k)) ((j:Int)-2)) (uF ls kd sure p hp (i+k)) (ls+2)
   refine ⟨t++u,?_⟩
   exact hu.trans (by rw[ht,List.append_assoc])
theorem EG {L t:List Int} {i:Nat} (h:i<L.length):bE (L++t) i=bE L i:=by
 rw[fb,fb,List.getD_eq_getElem?_getD,List.getD_eq_getElem?_getD,List.getElem?_append_left h]
theorem Er (hp:-2≤p∧p<ls) (hls:ls≤10) (q:Int):q ∈ p::uH kd sure ls p↔Bw ls (cG kd sure) p q:=by
 obtain ⟨n1,n2,n3⟩:=Ci ls kd p sure (mD p) hp hls
 unfold uH
 generalize vC kd sure ls p (mD p)=N at *
 constructor
 · have key:∀ i,i≤N→∀ q ∈ p::(ky kd sure ls p (mD p) i).2,Bw ls (cG kd sure) p q:=by
    intro i
    induction i with
    | zero =>
      intro _ q hq
      simp[ky] at hq
      rw[hq];exact .refl
    | succ i ih =>
      intro hi q hq
      have hc:=zN (p::(ky kd sure ls p (mD p) i).2) i (by have:=n2 i (by omega);simp;omega)
      have hcr:=ih (by omega) _ hc
      obtain ⟨_,⟨t,ht,ht2⟩,_⟩:=ly (hl:=fun j=>cG kd sure (bE (p::(ky kd sure ls p (mD p) i).2) i) ((j:Int)-2)) (uF ls kd sure p hp.1 i) (ls+2)
      have e:(ky kd sure ls p (mD p) (i+1)).2=(ky kd sure ls p (mD p) i).2++t:=ht
      rw[e,← List.cons_append] at hq
      rcases List.mem_append.1 hq with x | x
      · exact ih (by omega) q x
      · obtain ⟨j,j1,j2,j3⟩:=ht2 q x
        by_cases eq:bE (p::(ky kd sure ls p (mD p) i).2) i=q
        · rw[← eq];exact hcr
        · exact .step hcr (by omega) eq (by rw[j3];exact j2)
   exact key N (Nat.le_refl _) q
 · intro h
   induction h with
   | refl=>simp
   | step h1 h2 h3 h4 ih =>
     rename_i q r
     obtain ⟨j,j1,j2⟩:=List.mem_iff_getElem.1 ih
     have hj:j<N:=by simp at j1;omega
     have hlt:=n2 j hj
     obtain ⟨t,ht⟩:=uG ls kd sure p hp.1 j (N-j)
     rw[show j+(N-j)=N by omega] at ht
     obtain ⟨u,hu⟩:=uG ls kd sure p hp.1 (j+1) (N-(j+1))
     rw[show j+1+(N-(j+1))=N by omega] at hu
     have ec:bE (p::(ky kd sure ls p (mD p) j).2) j=q:=by
      have e1:bE (p::(ky kd sure ls p (mD p) N).2) j=q:=by
       rw[fb,List.getD_eq_getElem?_getD,List.getElem?_eq_getElem j1,← j2];rfl
      rw[ht,← List.cons_append,EG (by simp;omega)] at e1
      exact e1
     obtain ⟨_,_,hx⟩:=ly (hl:=fun k=>cG kd sure (bE (p::(ky kd sure ls p (mD p) j).2) j) ((k:Int)-2)) (uF ls kd sure p hp.1 j) (ls+2)
     have:=hx (r+2).toNat (by omega) (by
      show cG kd sure _ _=true
      rw[ec,show (((r+2).toNat:Nat):Int)-2=r by omega];exact h4)
     rw[show (((r+2).toNat:Nat):Int)-2=r by omega] at this
     rcases this with x | x
     · rw[x];simp
     · refine List.mem_cons.2 (.inr ?_)
       rw[hu]
       exact List.mem_append.2 (.inl x)
end
section
variable {w:Int} {ls ld:Nat} {zs zd:Nat→Int} {sure:Bool}
theorem zK (h:bN w ls ld zs zd=0) {p q:Int} (hp:-2≤p∧p<ls) (hq:-2≤q∧q<ls):jZ w ld zs zd p q=jZ w ld zs zd q p:=by
 have ip:bx ls p=true:=by simp[bx];omega
 have iq:bx ls q=true:=by simp[bx];omega
 have k1:=(pc (p:=p) (q:=q) h ip iq).2
 have s:∀ b,aV w zs (lN b zd ld) p q=aV w zs (lN b zd ld) q p:=fun b=>by
  by_cases h1:p<0
  · by_cases h2:q<0
    · unfold aV;rw[if_pos ⟨h1,h2⟩,if_pos ⟨h2,h1⟩]
    · unfold aV
      simp only[h1,h2,and_false,false_and,if_false,if_true]
  · by_cases h2:q<0
    · unfold aV
      simp only[h1,h2,and_false,false_and,if_false,if_true]
    · exact Br (k1 b) (by omega) (by omega)
 unfold jZ
 rw[s false,s true]
theorem wy (h:bN w ls ld zs zd=0) {p q:Int} (hp:-2≤p∧p<ls) (hq:-2≤q∧q<ls) (hpq:p≠q):cG (dR w ls ld zs zd) sure p q=dx w ld zs zd sure p q:=by
 have:=Hs (p:=p) (q:=q) h (by simp[bx];omega) (by simp[bx];omega) hpq
 unfold cG dx dR
 unfold uN at this
 rw[this]
theorem JB (h:bN w ls ld zs zd=0) {p:Int} (hp:-2≤p∧p<ls):cG (dR w ls ld zs zd) sure p p=false:=by
 have hc:=eY h
 have:=uL (w:=w) (zs:=zs) (sz:=ft zd ld) hc.1 hp.1 hp (ls+2) (by omega)
 unfold uN at this
 unfold cG dR
 have hv:kv w zs (ft zd ld) p p 0=0:=by unfold kv;rw[if_pos rfl]
 rw[this,hv,ite_self]
 cases sure<;>rfl
theorem JA (h:bN w ls ld zs zd=0) {p:Int} (hp:-2≤p∧p<ls):Po (dR w ls ld zs zd) sure ls p=qj w ls ld zs zd sure p:=by
 have hc:=eY h
 have hg:=mT ls (dR w ls ld zs zd) p sure (mD p) hp (vC (dR w ls ld zs zd) sure ls p (mD p))
 have hn:(p::uH (dR w ls ld zs zd) sure ls p).Nodup:=List.nodup_cons.2 ⟨fun hm=>(hg.mem p hm).2.2.1 rfl,hg.nd⟩
 obtain ⟨s1,s2⟩:=FF p _ hn
 refine zF _ _ s1 (z5 _ _) (fun x=>?_)
 have hs:∀ a b:Int,-2≤a∧a<ls→-2≤b∧b<ls→a≠b→dx w ld zs zd sure a b=dx w ld zs zd sure b a:=fun a b ha hb _=>by
  unfold dx;rw[zK h ha hb]
 obtain ⟨r1,r2⟩:=H5 hp hs (vp (N:=ls+2) (hl:=dx w ld zs zd sure) (p:=p) hp.1 (ls+1))
 show x ∈ kT p (uH (dR w ls ld zs zd) sure ls p)↔_
 rw[s2,Er ls _ sure p hp hc.1]
 unfold qj
 rw[z6]
 constructor
 · intro hx
   have hx:=hx.mono hp (fun a b ha hb hab=>wy h ha hb hab)
   have hsd:=hx.side hp
   have:=r2 x hx
   exact ⟨(x+2).toNat,by omega,decide_eq_true this,by omega⟩
 · rintro ⟨i,i1,i2,rfl⟩
   have i2:0<ea w ls ld zs zd sure p i:=of_decide_eq_true i2
   have:=r1 (ea w ls ld zs zd sure p i).toNat i i1 (by show ea w ls ld zs zd sure p i=_;omega) (by omega)
   exact this.mono hp (fun a b ha hb hab=>(wy h ha hb hab).symm)
end
end Go.Eng
