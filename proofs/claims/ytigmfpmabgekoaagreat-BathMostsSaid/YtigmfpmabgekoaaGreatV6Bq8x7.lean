/- Bath: the most: the range ends in the best entry, in whatever order. -/
import Derived.Test.YtigmfpmabgekoaaGreatV6Bq4x4
import Derived.Test.YtigmfpmabgekoaaGreatV6Bq3x2
import Derived.Test.YtigmfpmabgekoaaGreatV6Be1x17
set_option linter.unusedVariables false
set_option linter.unusedSimpArgs false
set_option maxRecDepth 100000
section
namespace Go.Eng
open Go.Proofs
noncomputable def mL:a8:=Go.Proofs.YtigmfpmabgekoaaGreat.Known.mostL
noncomputable def qZ (m:Nat) (P:Nat→Int):au:=[(6,cQ m P false),(7,.map 4 0),(8,.map 0 1),(17,.ptr 0 2 0 0),(91,.ptr 0 3 0 0)]
noncomputable def BV (m:Nat) (P:Nat→Int):au:=[(6,cQ m P false),(7,.map 4 0),(8,.map 0 1),(17,.ptr 0 2 0 0),(90,.map 4 0),(91,.ptr 0 3 0 0)]
noncomputable def eL (h2:List Int→Bool) (g2:List Int→Int) (c2:Nat) (x:Int×Int):bo:=⟨false,[(0,.dead),(0,.fmap (.str 2) h2 g2 c2),eC x.1 x.2,(0,.dead)]⟩
noncomputable def o7 (b1 b2 b3:List (Nat×al)) (h:List Int→Bool) (g:List Int→Int) (c:Nat):aa:=[⟨true,b1⟩,⟨true,b2⟩,⟨true,b3⟩,gR (.fmap (.str 2) h g c)]
noncomputable def xE (g:List Int→Int) (e:Int×Int):AV×AV:=(.agg (.I .i64 [e.1,e.2]),.int .i64 (g [e.1,e.2]))
theorem vZ {L:a8} {cx:Cx} {callR:bz} {bl:gz} {rg:rz} {k n:Nat} {kv:AV×AV} {fr fr':au} {l l':bo} {R:aa} {T:Tr (aK×aa)} (e:L.nz cx callR bl rg k n kv (hints fr) (l::R)=T) (hC:callR.Ok cx.call) (hB:bl.Ok cx L.rest) (hR:rg.Ok cx L.rest)
 (h:T.all fun y=>strip y.1=fr'∧y.2=l'::R):cI L cx k n R kv (fr,l)=some (fr',l'):=by
 obtain ⟨y,h1,h2,h3⟩:=h
 have:=a8.Ck hC hB hR (by rw[e];exact h1)
 rw[aN,h2,h3] at this
 unfold cI
 rw[this]
theorem xF {L:a8} {cx:Cx} {callR:bz} {fr:au} {H:aa} {T:Tr (aK×aa)} (e:L.xG cx callR (hints fr) H=T) (hC:callR.Ok cx.call) {y:au×aa} (h:T.all fun z=>(strip z.1,z.2)=y):L.last cx fr H=some y:=by
 obtain ⟨z,h1,rfl⟩:=h
 have:=a8.DB hC (by rw[e];exact h1)
 rw[aN] at this;exact this
section
variable (n m:Nat) (P:Nat→Int) (h:List Int→Bool) (g:List Int→Int) (c:Nat) (h2:List Int→Bool) (g2:List Int→Int) (c2:Nat) (b1 b2 b3:List (Nat×al))
theorem Nh (x e:Int×Int):cI mL (bt n 79 156) 3 4 (o7 b1 b2 b3 h g c) (xE g e) (qZ m P,eL h2 g2 c2 x)=some (qZ m P,eL h2 g2 c2 (if tx g e x=true then e else x)):=by
 obtain ⟨x,y⟩:=x
 obtain ⟨a,b⟩:=e
 refine vZ (Nb n m P h g c h2 g2 c2 b1 b2 b3 a b (g [a,b]) x y) (aB n) (af _ _) (ag _ _) ?_
 have hb:=mc (g:=g) (x:=(a,b)) (y:=(x,y))
 dsimp only at hb
 rw[ew,ew,ew,bR,bR]
 by_cases k1:g [x,y]<g [a,b]
 · rw[decide_eq_true k1,if_pos (hb.2 (.inl k1))]
   exact Tr.aj (fun _=>Tr.ar ⟨rfl,rfl⟩) (fun hc=>by cases hc)
 · rw[decide_eq_false k1]
   refine Tr.aj (fun hc=>by cases hc) (fun _=>?_)
   by_cases k2:g [a,b]=g [x,y]
   · rw[show (g [a,b] == g [x,y])=true from beq_iff_eq.2 k2]
     refine Tr.aj (fun _=>?_) (fun hc=>by cases hc)
     by_cases k3:b<y
     · rw[decide_eq_true k3,if_pos (hb.2 (.inr ⟨k2,.inl k3⟩))]
       exact Tr.aj (fun _=>Tr.ar ⟨rfl,rfl⟩) (fun hc=>by cases hc)
     · rw[decide_eq_false k3]
       refine Tr.aj (fun hc=>by cases hc) (fun _=>?_)
       by_cases k4:b=y
       · rw[show (b == y)=true from beq_iff_eq.2 k4]
         refine Tr.aj (fun _=>?_) (fun hc=>by cases hc)
         by_cases k5:a<x
         · rw[decide_eq_true k5,if_pos (hb.2 (.inr ⟨k2,.inr ⟨k4,k5⟩⟩))]
           exact Tr.aj (fun _=>Tr.ar ⟨rfl,rfl⟩) (fun hc=>by cases hc)
         · rw[decide_eq_false k5,if_neg (fun q=>by have:=hb.1 q;omega)]
           exact Tr.aj (fun hc=>by cases hc) (fun _=>Tr.ar ⟨rfl,rfl⟩)
       · rw[show (b == y)=false from beq_eq_false_iff_ne.2 k4,if_neg (fun q=>by have:=hb.1 q;omega)]
         exact Tr.aj (fun hc=>by cases hc) (fun _=>Tr.ar ⟨rfl,rfl⟩)
   · rw[show (g [a,b] == g [x,y])=false from beq_eq_false_iff_ne.2 k2,if_neg (fun q=>by have:=hb.1 q;omega)]
     exact Tr.aj (fun hc=>by cases hc) (fun _=>Tr.ar ⟨rfl,rfl⟩)
theorem Ke (x e:Int×Int):cI mL (bt n 79 156) 3 4 (o7 b1 b2 b3 h g c) (xE g e) (BV m P,eL h2 g2 c2 x)=some (qZ m P,eL h2 g2 c2 (if tx g e x=true then e else x)):=by
 obtain ⟨x,y⟩:=x
 obtain ⟨a,b⟩:=e
 refine vZ (Nc n m P h g c h2 g2 c2 b1 b2 b3 a b (g [a,b]) x y) (aB n) (af _ _) (ag _ _) ?_
 have hb:=mc (g:=g) (x:=(a,b)) (y:=(x,y))
 dsimp only at hb
 rw[ew,ew,ew,bR,bR]
 by_cases k1:g [x,y]<g [a,b]
 · rw[decide_eq_true k1,if_pos (hb.2 (.inl k1))]
   exact Tr.aj (fun _=>Tr.ar ⟨rfl,rfl⟩) (fun hc=>by cases hc)
 · rw[decide_eq_false k1]
   refine Tr.aj (fun hc=>by cases hc) (fun _=>?_)
   by_cases k2:g [a,b]=g [x,y]
   · rw[show (g [a,b] == g [x,y])=true from beq_iff_eq.2 k2]
     refine Tr.aj (fun _=>?_) (fun hc=>by cases hc)
     by_cases k3:b<y
     · rw[decide_eq_true k3,if_pos (hb.2 (.inr ⟨k2,.inl k3⟩))]
       exact Tr.aj (fun _=>Tr.ar ⟨rfl,rfl⟩) (fun hc=>by cases hc)
     · rw[decide_eq_false k3]
       refine Tr.aj (fun hc=>by cases hc) (fun _=>?_)
       by_cases k4:b=y
       · rw[show (b == y)=true from beq_iff_eq.2 k4]
         refine Tr.aj (fun _=>?_) (fun hc=>by cases hc)
         by_cases k5:a<x
         · rw[decide_eq_true k5,if_pos (hb.2 (.inr ⟨k2,.inr ⟨k4,k5⟩⟩))]
           exact Tr.aj (fun _=>Tr.ar ⟨rfl,rfl⟩) (fun hc=>by cases hc)
         · rw[decide_eq_false k5,if_neg (fun q=>by have:=hb.1 q;omega)]
           exact Tr.aj (fun hc=>by cases hc) (fun _=>Tr.ar ⟨rfl,rfl⟩)
       · rw[show (b == y)=false from beq_eq_false_iff_ne.2 k4,if_neg (fun q=>by have:=hb.1 q;omega)]
         exact Tr.aj (fun hc=>by cases hc) (fun _=>Tr.ar ⟨rfl,rfl⟩)
   · rw[show (g [a,b] == g [x,y])=false from beq_eq_false_iff_ne.2 k2,if_neg (fun q=>by have:=hb.1 q;omega)]
     exact Tr.aj (fun hc=>by cases hc) (fun _=>Tr.ar ⟨rfl,rfl⟩)
theorem Di:∀ (ks:List (Int×Int)) (x:Int×Int),c7 mL (bt n 79 156) 3 4 (o7 b1 b2 b3 h g c) (ks.map (xE g)) (qZ m P,eL h2 g2 c2 x)=some (qZ m P,eL h2 g2 c2 (Ao g ks x))
 | [],x=>rfl
 | e::ks,x=>by
   show (match cI mL (bt n 79 156) 3 4 (o7 b1 b2 b3 h g c) (xE g e) (qZ m P,eL h2 g2 c2 x) with
    | some t=>c7 mL (bt n 79 156) 3 4 (o7 b1 b2 b3 h g c) (ks.map (xE g)) t
    | none=>none)=_
   rw[Nh]
   exact Di ks _
theorem MR (x:Int×Int):mL.last (bt n 79 156) (qZ m P) (eL h2 g2 c2 x::o7 b1 b2 b3 h g c)=some (qZ m P++[(92,.tup [.bool false]),(93,.bool false)],eL h2 g2 c2 x::o7 b1 b2 b3 h g c) :=
 xF (Na n 4 m P h2 g2 c2 (o7 b1 b2 b3 h g c) x.1 x.2) (aB _) (Tr.ar rfl)
end
theorem Au {es:List (AV×AV)} {h:List Int→Bool} {g:List Int→Int} {c:Nat} (hE:nJ (.str 2) es h g c):∀ vs:List Nat,(∀ j ∈ vs,j<es.length) →
 ∃ ks:List (Int×Int),(vs.map fun j=>es.getD j (.undef,.undef))=ks.map (xE g)∧(∀ e ∈ ks,h [e.1,e.2]=true)∧(∀ j ∈ vs,∀ n,(es.getD j (.undef,.undef)).1=dD (.str 2) n→∃ e ∈ ks,n=[e.1,e.2])∧ks.length=vs.length
 | [],_=>⟨[],rfl,fun e he=>(by cases he),fun j hj=>(by cases hj),rfl⟩
 | j :: vs,hv=>by
   obtain ⟨l,l1,l2,l3,l4⟩:=Au hE vs (fun i hi=>hv i (List.mem_cons_of_mem _ hi))
   have hj:=hv j (by simp)
   obtain ⟨n,e1,e2⟩:=hE.ent j hj
   have hf:=(hE.all _ e2).1
   have hlen:n.length=2:=Nat.eq_of_beq_eq_true hf
   obtain ⟨a,b,rfl⟩:∃ a b,n=[a,b]:=by
    match n,hlen with
    | [a,b],_=>exact ⟨a,b,rfl⟩
   refine ⟨(a,b)::l,?_,fun e he=>?_,fun i hi n' hn'=>?_,by simp[l4]⟩
   · rw[List.map_cons,List.map_cons,l1]
     congr 1
   · rcases List.mem_cons.1 he with rfl | he
     · exact e2
     · exact l2 e he
   · rcases List.mem_cons.1 hi with rfl | hi
     · rw[e1] at hn'
       have hn':dD (.str 2) [a,b]=dD (.str 2) n':=hn'
       have:[a,b]=n':=by unfold dD at hn';simpa using hn'
       exact ⟨(a,b),by simp,this.symm⟩
     · obtain ⟨e,he,h'⟩:=l3 i hi n' hn'
       exact ⟨e,by simp[he],h'⟩
theorem uH:∀ (n:Nat) (vs:List Nat),vs.Nodup→(∀ j ∈ vs,j<n)→vs.length≤n
 | 0,vs,_,h=>by
   cases vs with
   | nil=>exact Nat.le_refl _
   | cons a r=>have:=h a (by simp);omega
 | n+1,vs,hn,h=>by
   have h1:=uH n (vs.erase n) (hn.erase n) (fun j hj=>by
    rw[hn.mem_erase_iff] at hj
    have:=h j hj.2
    omega)
   rw[List.length_erase] at h1
   split at h1<;>omega
theorem w8 {vs:List Nat} {n:Nat} (hn:vs.Nodup) (hl:vs.length=n) (hb:∀ j ∈ vs,j<n) {j:Nat} (hj:j<n):j ∈ vs:=by
 apply Classical.byContradiction
 intro hc
 have:=uH n (j::vs) (List.nodup_cons.2 ⟨hc,hn⟩) (fun i hi=>by
  rcases List.mem_cons.1 hi with rfl | hi
  · exact hj
  · exact hb i hi)
 simp only[List.length_cons] at this
 omega
def rv (h:List Int→Bool) (g:List Int→Int) (r:Int×Int):Prop:=h [r.1,r.2]=true∧∀ e:Int×Int,h [e.1,e.2]=true→tx g e r=false
theorem HO (n m:Nat) (P:Nat→Int) (h:List Int→Bool) (g:List Int→Int) (c:Nat) (h2:List Int→Bool) (g2:List Int→Int) (c2:Nat) (b1 b2 b3:List (Nat×al)) (x r:Int×Int) (hx:h [x.1,x.2]=true) (hr:rv h g r) :
 rA (bt n 79 156) mL 3 (o7 b1 b2 b3 h g c) (BV m P,eL h2 g2 c2 x) (.str 2) h g c (qZ m P++[(92,.tup [.bool false]),(93,.bool false)],eL h2 g2 c2 r):=by
 refine ⟨rfl,fun es hE vs v1 v2 v3=>?_⟩
 obtain ⟨ks,l1,l2,l3,l4⟩:=Au hE vs v3
 have cov:∀ e:Int×Int,h [e.1,e.2]=true→e ∈ ks:=fun e he=>by
  obtain ⟨_,j,j1,j2⟩:=hE.all _ he
  obtain ⟨e',he',e2⟩:=l3 j (w8 v1 v2 v3 j1) _ j2
  simp only[List.cons.injEq,and_true] at e2
  have:e=e':=Prod.ext e2.1 e2.2
  rw[this];exact he'
 obtain ⟨s1,s2⟩:=lr (g:=g) ks x
 have hb:Ao g ks x=r:=by
  refine Ap (g:=g) ?_ (s2 r (.inr (cov r hr.1)))
  refine hr.2 _ ?_
  rcases s1 with e | e
  · rw[e];exact hx
  · exact l2 _ e
 rw[l1]
 have hf:c7 mL (bt n 79 156) 3 4 (o7 b1 b2 b3 h g c) (ks.map (xE g)) (BV m P,eL h2 g2 c2 x)=some (qZ m P,eL h2 g2 c2 (Ao g ks x)):=by
  cases ks with
  | nil=>exact (List.not_mem_nil (cov x hx)).elim
  | cons e ks =>
    show (match cI mL (bt n 79 156) 3 4 (o7 b1 b2 b3 h g c) (xE g e) (BV m P,eL h2 g2 c2 x) with
     | some t=>c7 mL (bt n 79 156) 3 4 (o7 b1 b2 b3 h g c) (ks.map (xE g)) t
     | none=>none)=_
    rw[Ke]
    exact Di n m P h g c h2 g2 c2 b1 b2 b3 ks _
 refine ⟨_,hf,?_⟩
 rw[hb]
 exact MR n m P h g c h2 g2 c2 b1 b2 b3 r
end Go.Eng
end
section
namespace Go.Eng
open Go.Proofs
theorem LD:∃ es,nJ (.str 2) es (fun _=>false) (fun _=>0) 0 :=
 ⟨[],rfl,(fun j hj=>absurd hj (Nat.not_lt_zero _)),(fun n h=>by cases h),(fun n _=>rfl),(fun i j hi=>absurd hi (Nat.not_lt_zero _))⟩
theorem C9 {h:List Int→Bool} {g:List Int→Int} {c:Nat} (hE:∃ es,nJ (.str 2) es h g c) (a b y:Int):∃ es,nJ (.str 2) es (dh h [a,b] true) (eZ g [a,b] y) (nU (h [a,b]) c):=by
 obtain ⟨es,hE⟩:=hE
 cases hh:h [a,b] with
 | false =>
   refine ⟨_,hh ▸ hE.NU (n:=[a,b]) (y:=y) rfl (r:=none) hh (fun j hj=>by cases hj)⟩
 | true =>
   obtain ⟨_,j,j1,j2⟩:=hE.all _ hh
   obtain ⟨n,e1,e2⟩:=hE.ent j j1
   have:dD (.str 2) n=dD (.str 2) [a,b]:=by rw[← j2,e1]
   have hn:n=[a,b]:=by unfold dD at this;simpa using this
   subst hn
   refine ⟨_,hh ▸ hE.NU (n:=[a,b]) (y:=y) rfl (r:=some j) hh (fun j' hj'=>by cases hj';exact ⟨j1,e1⟩)⟩
theorem LF {a:Int→Int→Int} {p f n:Int} {s:MS} (h:∃ es,nJ (.str 2) es s.h s.g s.c):∃ es,nJ (.str 2) es (l9 a p f n s).h (l9 a p f n s).g (l9 a p f n s).c:=by
 unfold l9
 split
 · split
   · exact C9 h _ _ _
   · exact h
 · exact h
theorem Ju {a:Int→Int→Int} {p f:Int} {s:MS} (h:∃ es,nJ (.str 2) es s.h s.g s.c):∀ n,∃ es,nJ (.str 2) es (gy a p f n s).h (gy a p f n s).g (gy a p f n s).c
 | 0=>h
 | n+1=>LF (Ju h n)
theorem Jt {a:Int→Int→Int} {K:Nat} {p:Int} {s:MS} (h:∃ es,nJ (.str 2) es s.h s.g s.c):∀ n,∃ es,nJ (.str 2) es (kZ a K p n s).h (kZ a K p n s).g (kZ a K p n s).c
 | 0=>h
 | n+1=>Ju (Jt h n) K
theorem HU {a:Int→Int→Int} {K:Nat}:∀ n,∃ es,nJ (.str 2) es (fy a K n cF).h (fy a K n cF).g (fy a K n cF).c
 | 0=>C9 LD (-1) 0 0
 | n+1=>Jt (HU n) (n+1)
noncomputable def mS:bx:=Go.Proofs.YtigmfpmabgekoaaGreat.Known.mostS
noncomputable def mJ (m:Nat) (P:Nat→Int):au:=[(6,cQ m P false),(7,.map 0 0),(8,.map 0 1),(17,.ptr 0 2 0 0)]
noncomputable def wZ (m:Nat) (P:Nat→Int):au:=mJ m P++[(91,.ptr 0 3 0 0),(92,.tup [.bool false]),(93,.bool false)]
theorem Gq (n m:Nat) (P:Nat→Int) (S:MS) (k1 k2 k3:Bool) (b1 b2 b3:List (Nat×al)) (x r:Int×Int) (hE:∃ es,nJ (.str 2) es S.h S.g S.c) (hx:S.h [x.1,x.2]=true) (hr:rv S.h S.g r) :
 gm (bt n 79 156) mS mL (mJ m P) (jz S [eC x.1 x.2]::[⟨k1,b1⟩,⟨k2,b2⟩,⟨k3,b3⟩])=some (wZ m P,jz S [eC r.1 r.2,(0,.dead)]::[⟨k1,b1⟩,⟨k2,b2⟩,⟨k3,b3⟩]):=by
 have hp:cA (bt n 79 156).P (bt n 79 156).nt (bt n 79 156).call mS.ops0 mS.pre (mJ m P) (jz S [eC x.1 x.2]::[⟨k1,b1⟩,⟨k2,b2⟩,⟨k3,b3⟩])=some (mJ m P++[(90,.map 0 0)],jz S [eC x.1 x.2]::[⟨k1,b1⟩,⟨k2,b2⟩,⟨k3,b3⟩]):=by
  have:=bx.rk (S:=mS) (cx:=bt n 79 156) (callR:=il aT n 0) (aB _) (fr:=hints (mJ m P)) (H:=jz S [eC x.1 x.2]::[⟨k1,b1⟩,⟨k2,b2⟩,⟨k3,b3⟩]) (by
   show (bx.zK _ _ _ _ _).run=_
   have:=J8 n m P S.h S.g S.c S.h2 S.g2 S.c2 x.1 x.2 [⟨k1,b1⟩,⟨k2,b2⟩,⟨k3,b3⟩]
   exact congrArg Tr.run this)
  rw[aN] at this
  exact this
 have hends:=HO n m P S.h S.g S.c S.h2 S.g2 S.c2 b1 b2 b3 x r hx hr
 unfold gm
 rw[hp]
 show (@dite _ (∃ y,rA (bt n 79 156) mL 3 (o7 b1 b2 b3 S.h S.g S.c) (BV m P,eL S.h2 S.g2 S.c2 x) (.str 2) S.h S.g S.c y) (Classical.propDecidable _)
  (fun hx=>if (Classical.choose hx).2.bs.all (fun x=>qh 4 0 x.2) && ((jn (rH 4 0) (Classical.choose hx).1).all (fun x=>kW 4 0 x.2) && eu (ak (Classical.choose hx).2.bs 0).2) then some (jn (rH 4 0) (Classical.choose hx).1,df ((Classical.choose hx).2::[⟨k1,b1⟩,⟨k2,b2⟩,⟨k3,b3⟩]) 0 0 (0,.fmap (.str 2) S.h S.g S.c)) else none)
  (fun _=>none))=_
 have hex:∃ y,rA (bt n 79 156) mL 3 (o7 b1 b2 b3 S.h S.g S.c) (BV m P,eL S.h2 S.g2 S.c2 x) (.str 2) S.h S.g S.c y:=⟨_,hends⟩
 have hy:Classical.choose hex=(qZ m P++[(92,.tup [.bool false]),(93,.bool false)],eL S.h2 S.g2 S.c2 r):=by
  have hc:=Classical.choose_spec hex
  obtain ⟨es,hE⟩:=hE
  obtain ⟨s1,e1,e2⟩:=hc.2 es hE (List.range es.length) List.nodup_range (by simp) (fun j hj=>by simpa using hj)
  obtain ⟨s2,f1,f2⟩:=hends.2 es hE (List.range es.length) List.nodup_range (by simp) (fun j hj=>by simpa using hj)
  rw[e1] at f1
  obtain rfl:=Option.some.inj f1
  rw[e2] at f2
  simp only[Option.some.injEq,Prod.mk.injEq,List.cons.injEq,and_true] at f2
  exact Prod.ext f2.1 f2.2
 rw[dif_pos hex,hy]
 refine (if_pos ?_).trans ?_
 · rfl
 · rfl
end Go.Eng
end
section
namespace Go.Eng
open Go.Proofs
noncomputable def jK (m:Nat) (P:Nat→Int) (L:AV) (w:Int):au:=[(6,cQ m P false),(8,.map 0 1),(17,.ptr 0 2 0 0),(21,.int .i64 w),(22,L),(23,.ptr 0 4 0 0)]
theorem KB (n m:Nat) (P:Nat→Int) (h:List Int→Bool) (g:List Int→Int) (c:Nat) (h2:List Int→Bool) (g2:List Int→Int) (c2:Nat) (x y w:Int) (H:aa):aP (bt n 79 156) (il aT n 0) a6 a7 (part Tryz.f79 [1,1,1,1,1,1,1,1,1,1,0,0,0]) (hints (jK m P .nils w)) (dp h g c h2 g2 c2 [eC x y,(0,.dead),eC (-1) 0]::H) =
 Tr.ite (dQ (fB (eU x (Int.negSucc 0)) (eU y (Int.ofNat 0)))) (Tr.req (dY x m) (Tr.req (bX (aD 0 x 1) m) (Tr.req (fO 0 1 8) (Tr.req (dJ 0 0) (Tr.req (gi 1 1) (Tr.req (fB (gi 0 0) (gi 0 1)) (Tr.ok (Ex.normal,[(6,AV.slcT none (Row.M [aW.arr .i64 P m]) 1 m false,none),(8,AV.map 0 1,none),(17,AV.ptr 0 2 0 0,none),(21,AV.int .i64 w,none),(22,AV.slc 0 6 0 0 1 1 none,none),(23,AV.ptr 0 4 0 0,none)],{ lock:=false,bs:=[(0,al.fmap (KK.str 2) h g c),(0,al.fmap (KK.str 2) h2 g2 c2),(0,al.row (Row.I .i64 [g2 [x,y],cD .i64 y (Int.ofNat 1)])),(0,al.dead),(0,al.row (Row.I .i64 [Int.negSucc 0,Int.ofNat 0])),(0,al.row (Row.I .i64 [P (aD 0 x 1)])),(0,al.row (Row.M [aW.arr .i64 (aL [P (aD 0 x 1)]) 1]))] } :: H)))))))) (Tr.ok (Ex.exit 8,[(6,AV.slcT none (Row.M [aW.arr .i64 P m]) 1 m false,none),(8,AV.map 0 1,none),(17,AV.ptr 0 2 0 0,none),(21,AV.int .i64 w,none),(22,AV.nils,none),(23,AV.ptr 0 4 0 0,none),(136,AV.bool false,some 1)],{ lock:=false,bs:=[(0,al.fmap (KK.str 2) h g c),(0,al.fmap (KK.str 2) h2 g2 c2),(0,al.row (Row.I .i64 [x,y])),(0,al.dead),(0,al.row (Row.I .i64 [Int.negSucc 0,Int.ofNat 0]))] } :: H)):=by kernel_rfl
theorem KC (n m v k:Nat) (P b:Nat→Int) (h:List Int→Bool) (g:List Int→Int) (c:Nat) (h2:List Int→Bool) (g2:List Int→Int) (c2:Nat) (x y w:Int) (H:aa):aP (bt n 79 156) (il aT n 0) a6 a7 (part Tryz.f79 [1,1,1,1,1,1,1,1,1,1,0,0,0]) (hints (jK m P (.slc 0 5 v 0 1 k none) w)) (dp h g c h2 g2 c2 [eC x y,(0,.dead),eC (-1) 0,(v,.row (.M [.arr .i64 b k]))]::H) =
 Tr.ite (dQ (fB (eU x (Int.negSucc 0)) (eU y (Int.ofNat 0)))) (Tr.req (dY x m) (Tr.req (bX (aD 0 x 1) m) (Tr.req (fO k 1 8) (Tr.req (dJ 0 0) (Tr.req (gi 1 1) (Tr.req (dJ v v) (Tr.req (dJ (aq 0 k) k) (Tr.req (fB (gi 0 0) (gi 0 1)) (Tr.ok (Ex.normal,[(6,AV.slcT none (Row.M [aW.arr .i64 P m]) 1 m false,none),(8,AV.map 0 1,none),(17,AV.ptr 0 2 0 0,none),(21,AV.int .i64 w,none),(22,AV.slc 0 5 (Nat.succ v) 0 1 (aq k 1) none,none),(23,AV.ptr 0 4 0 0,none)],{ lock:=false,bs:=[(0,al.fmap (KK.str 2) h g c),(0,al.fmap (KK.str 2) h2 g2 c2),(0,al.row (Row.I .i64 [g2 [x,y],cD .i64 y (Int.ofNat 1)])),(0,al.dead),(0,al.row (Row.I .i64 [Int.negSucc 0,Int.ofNat 0])),(Nat.succ v,al.row (Row.M [aW.arr .i64 (qN (qL b 0) k (aL [P (aD 0 x 1)])) (aq k 1)])),(0,al.row (Row.I .i64 [P (aD 0 x 1)]))] } :: H)))))))))) (Tr.ok (Ex.exit 8,[(6,AV.slcT none (Row.M [aW.arr .i64 P m]) 1 m false,none),(8,AV.map 0 1,none),(17,AV.ptr 0 2 0 0,none),(21,AV.int .i64 w,none),(22,AV.slc 0 5 v 0 1 k none,none),(23,AV.ptr 0 4 0 0,none),(136,AV.bool false,some 1)],{ lock:=false,bs:=[(0,al.fmap (KK.str 2) h g c),(0,al.fmap (KK.str 2) h2 g2 c2),(0,al.row (Row.I .i64 [x,y])),(0,al.dead),(0,al.row (Row.I .i64 [Int.negSucc 0,Int.ofNat 0])),(v,al.row (Row.M [aW.arr .i64 b k]))] } :: H)):=by kernel_rfl
theorem Je:∀ b,(8,b) ∈ aV (part Tryz.f79 [1,1,1,1,1,1,1])→b=.loop (part Tryz.f79 [1,1,1,1,1,1,1,1,1,1,0,0,0]):=gM (by kernel_rfl)
noncomputable def sT:List Int→AV
 | []=>.nils
 | _::r=>.slc 0 5 r.length 0 1 (r.length+1) none
noncomputable def bT (x y:Int):List Int→List (Nat×al)
 | []=>[eC x y,(0,.dead),eC (-1) 0]
 | a::r=>[eC x y,(0,.dead),eC (-1) 0,(r.length,.row (.M [.arr .i64 (aL (a::r)) (r.length+1)]))]
def Br (P:Nat→Int) (b:Int→Nat→Int) (k:Nat) (p:Int) (j:Nat):Int:=P (nH b k p j).toNat
theorem MP (n m:Nat) (P:Nat→Int) (S:MS) (k:Nat) (p w:Int) (H:aa) (hk:k≤1000) (hm:m≤1000) (htr:∀ j,j<k→0≤nH (fun q i=>S.g2 [q,(i:Int)]) k p j∧nH (fun q i=>S.g2 [q,(i:Int)]) k p j<m) (hend:nH (fun q i=>S.g2 [q,(i:Int)]) k p k=-1) :
 exec (bt n 79 156) (.block 8 (.loop (part Tryz.f79 [1,1,1,1,1,1,1,1,1,1,0,0,0]))) (jK m P .nils w) (dp S.h S.g S.c S.h2 S.g2 S.c2 [eC p (k:Nat),(0,.dead),eC (-1) 0]::H)=some (.normal,jK m P (sT (pZ (Br P (fun q i=>S.g2 [q,(i:Int)]) k p) k)) w++[(136,.bool false)],dp S.h S.g S.c S.h2 S.g2 S.c2 (bT (-1) 0 (pZ (Br P (fun q i=>S.g2 [q,(i:Int)]) k p) k))::H):=by
 refine iR 8 (fun j=>jK m P (sT (pZ (Br P (fun q i=>S.g2 [q,(i:Int)]) k p) j)) w) (fun j=>dp S.h S.g S.c S.h2 S.g2 S.c2 (bT (nH (fun q i=>S.g2 [q,(i:Int)]) k p j) ((k-j:Nat):Int) (pZ (Br P (fun q i=>S.g2 [q,(i:Int)]) k p) j))::H) k (jK m P (sT (pZ (Br P (fun q i=>S.g2 [q,(i:Int)]) k p) k)) w++[(136,.bool false)],dp S.h S.g S.c S.h2 S.g2 S.c2 (bT (-1) 0 (pZ (Br P (fun q i=>S.g2 [q,(i:Int)]) k p) k))::H) (by omega) (fun j hj=>?_) ?_
 · obtain ⟨t1,t2⟩:=htr j hj
   have ht:nH (fun q i=>S.g2 [q,(i:Int)]) k p (j+1)=S.g2 [nH (fun q i=>S.g2 [q,(i:Int)]) k p j,((k-j:Nat):Int)]:=rfl
   have hq:Br P (fun q i=>S.g2 [q,(i:Int)]) k p j=P (nH (fun q i=>S.g2 [q,(i:Int)]) k p j).toNat:=rfl
   have e1:cD .i64 ((k-j:Nat):Int) (Int.ofNat 1)=((k-(j+1):Nat):Int):=by rw[db,show Int.ofNat 1=1 from rfl,dv (by omega) (by omega)];omega
   rw[A6,hq,ht]
   have hl:=kL (Br P (fun q i=>S.g2 [q,(i:Int)]) k p) j
   generalize nH (fun q i=>S.g2 [q,(i:Int)]) k p j=x at *
   have ei:aD 0 x 1=x.toNat:=by rw[bS];omega
   have ex1:eU x (Int.negSucc 0)=false:=by rw[bR];exact beq_eq_false_iff_ne.2 (by show x≠-1;omega)
   cases e:pZ (Br P (fun q i=>S.g2 [q,(i:Int)]) k p) j with
   | nil =>
     refine az (KB n m P S.h S.g S.c S.h2 S.g2 S.c2 x ((k-j:Nat):Int) w H) (aB n) (af _ _) (ag _ _) ?_
     rw[ei,e1,ex1]
     exact wF
   | cons a r =>
     rw[e] at hl
     simp only[List.length_cons] at hl
     have e2:=mi (a::r) (P x.toNat)
     simp only[List.length_cons] at e2
     have e3:aq (r.length+1) 1=r.length+1+1:=by rw[ba]
     have e4:(r++[P x.toNat]).length=r.length+1:=by simp
     refine az (KC n m r.length (r.length+1) P (aL (a::r)) S.h S.g S.c S.h2 S.g2 S.c2 x ((k-j:Nat):Int) w H) (aB n) (af _ _) (ag _ _) ?_
     rw[ei,e1,ex1,e2,e3]
     repeat' first | (refine Tr.aj (fun hc=>?_) (fun hc=>?_)<;>(try simp (disch:=omega) only[nV,nW] at hc)<;>(try (exfalso;omega))) | (refine Tr.bm ?_ ?_;· ((try simp (disch:=omega) only[nV,nW]);try omega)) | (refine Tr.aF ?_ ?_;· first | exact trivial | rfl | exact ⟨rfl,rfl⟩ | exact ⟨trivial,rfl⟩ | exact ⟨rfl,by assumption⟩ | exact ⟨trivial,by assumption⟩ | exact ⟨rfl,rfl,rfl⟩ | (simp (disch:=omega) only[nV,nW];done) | ((try simp (disch:=omega) only[nV,nW]);omega)) | fail
     all_goals first
      | (refine Tr.ar ⟨rfl,?_⟩
         show _=(jK m P (.slc 0 5 (r++[P x.toNat]).length 0 1 ((r++[P x.toNat]).length+1) none) w,dp S.h S.g S.c S.h2 S.g2 S.c2 [_,_,_,((r++[P x.toNat]).length,.row (.M [.arr .i64 (aL (a::(r++[P x.toNat]))) ((r++[P x.toNat]).length+1)]))]::H)
         rw[e4];rfl)
      | fail
 · rw [hend,Nat.sub_self]
   cases e:pZ (Br P (fun q i=>S.g2 [q,(i:Int)]) k p) k with
   | nil =>
     obtain ⟨x,h1,rfl⟩:=az (Q:=fun x=>x=(.exit 8,jK m P .nils w++[(136,.bool false)],dp S.h S.g S.c S.h2 S.g2 S.c2 [eC (-1) 0,(0,.dead),eC (-1) 0]::H)) (KB n m P S.h S.g S.c S.h2 S.g2 S.c2 (-1) ((0:Nat):Int) w H) (aB n) (af _ _) (ag _ _) (by
      rw[bR,bR]
      exact Tr.aj (fun hc=>by
       have:dQ (fB true true)=true:=hc
       simp (disch:=omega) only[nV,nW] at this) (fun _=>Tr.ar rfl))
     exact h1
   | cons a r =>
     obtain ⟨x,h1,rfl⟩:=az (Q:=fun x=>x=(.exit 8,jK m P (.slc 0 5 r.length 0 1 (r.length+1) none) w++[(136,.bool false)],dp S.h S.g S.c S.h2 S.g2 S.c2 [eC (-1) 0,(0,.dead),eC (-1) 0,(r.length,.row (.M [.arr .i64 (aL (a::r)) (r.length+1)]))]::H)) (KC n m r.length (r.length+1) P (aL (a::r)) S.h S.g S.c S.h2 S.g2 S.c2 (-1) ((0:Nat):Int) w H) (aB n) (af _ _) (ag _ _) (by
      rw[bR,bR]
      exact Tr.aj (fun hc=>by
       have:dQ (fB true true)=true:=hc
       simp (disch:=omega) only[nV,nW] at this) (fun _=>Tr.ar rfl))
     exact h1
end Go.Eng
end
section
namespace Go.Eng
open Go.Proofs
noncomputable def w7 (v k:Nat) (i j:Int):au:=[(0,.slc 1 5 v 0 1 k none),(2,.int .i64 i),(3,.int .i64 j)]
noncomputable def pN (h:List Int→Bool) (g:List Int→Int) (c:Nat) (h2:List Int→Bool) (g2:List Int→Int) (c2:Nat) (x y:Int) (v k:Nat) (a:Nat→Int):bo:=dp h g c h2 g2 c2 [eC x y,(0,.dead),eC (-1) 0,(v,.row (.M [.arr .i64 a k]))]
theorem t94 (n v k:Nat) (a:Nat→Int) (h:List Int→Bool) (g:List Int→Int) (c:Nat) (h2:List Int→Bool) (g2:List Int→Int) (c2:Nat) (x y i j:Int) (H:aa):aP (bt n 94 28) (il aT n 0) a6 a7 (part Tryz.f94 [1,0,0]) (hints (w7 v k i j)) (aH::pN h g c h2 g2 c2 x y v k a::H) =
 Tr.ite (cP i j) (Tr.req (dY j k) (Tr.req (dJ v v) (Tr.req (bX (aD 0 j 1) k) (Tr.req (dY i k) (Tr.req (dJ v v) (Tr.req (bX (aD 0 i 1) k) (Tr.req (dY i k) (Tr.req (dJ v v) (Tr.req (bX (aD 0 i 1) k) (Tr.req (fB (gi v v) (gi v (Nat.succ v))) (Tr.req (dY j k) (Tr.req (dJ v v) (Tr.req (bX (aD 0 j 1) k) (Tr.req (fB (gi v v) (gi v (Nat.succ v))) (Tr.ok (Ex.normal,[(0,AV.slc 1 5 v 0 1 k none,none),(2,AV.int .i64 (bk .i64 i (Int.ofNat 1)),none),(3,AV.int .i64 (cD .i64 j (Int.ofNat 1)),none)],aH::{ lock:=false,bs:=[(0,al.fmap (KK.str 2) h g c),(0,al.fmap (KK.str 2) h2 g2 c2),(0,al.row (Row.I .i64 [x,y])),(0,al.dead),(0,al.row (Row.I .i64 [Int.negSucc 0,Int.ofNat 0])),(v,al.row (Row.M [aW.arr .i64 (fS (fS a (aD 0 i 1) (a (aD 0 j 1))) (aD 0 j 1) (a (aD 0 i 1))) k]))] } :: H)))))))))))))))) (Tr.ok (Ex.exit 0,[(0,AV.slc 1 5 v 0 1 k none,none),(2,AV.int .i64 i,none),(3,AV.int .i64 j,none),(9,AV.bool false,some 1)],aH::{ lock:=false,bs:=[(0,al.fmap (KK.str 2) h g c),(0,al.fmap (KK.str 2) h2 g2 c2),(0,al.row (Row.I .i64 [x,y])),(0,al.dead),(0,al.row (Row.I .i64 [Int.negSucc 0,Int.ofNat 0])),(v,al.row (Row.M [aW.arr .i64 a k]))] } :: H)):=by kernel_rfl
end Go.Eng
end
section
namespace Go.Eng
open Go.Proofs
noncomputable def Ob (v k:Nat) (a b:Nat→Int) (h:List Int→Bool) (g:List Int→Int) (c:Nat) (h2:List Int→Bool) (g2:List Int→Int) (c2:Nat) (x y:Int) (H:aa) (args:List AV) (G:aa):Tr (AV×aa) :=
 .reqP (args=[.slc 0 5 v 0 1 k none]∧G=pN h g c h2 g2 c2 x y v k a::H) (.ok (.tup [],pN h g c h2 g2 c2 x y v k b::H))
theorem QV (n v k:Nat) (a b:Nat→Int) (h:List Int→Bool) (g:List Int→Int) (c:Nat) (h2:List Int→Bool) (g2:List Int→Int) (c2:Nat) (x y i j:Int) (H:aa):bK Tryz.prog (cd n) 100000 94 Tryz.f94 (KtB.kt 94) (il aT n 0) (eT a6 0 (w7 v k (Int.ofNat 0) (cD .i64 (Int.ofNat k) (Int.ofNat 1))) (aH::pN h g c h2 g2 c2 x y v k a::H) (.ok (.normal,hints (w7 v k i j++[(9,.bool false)]),aH::pN h g c h2 g2 c2 x y v k b::H))) a7 [(.slc 0 5 v 0 1 k none,none)] (pN h g c h2 g2 c2 x y v k a::H) =
 (fun (Z0:bo)=>((fun (Z1:au)=>Tr.reqP (Z1=Z1∧aH::Z0::H=aH::Z0::H) (Tr.ok ((AV.tup [],none),{ lock:=false,bs:=[(0,al.fmap (KK.str 2) h g c),(0,al.fmap (KK.str 2) h2 g2 c2),(0,al.row (Row.I .i64 [x,y])),(0,al.dead),(0,al.row (Row.I .i64 [Int.negSucc 0,Int.ofNat 0])),(v,al.row (Row.M [aW.arr .i64 b k]))] } :: H))) [(0,AV.slc 1 5 v 0 1 k none),(2,AV.int .i64 (Int.ofNat 0)),(3,AV.int .i64 (cD .i64 (Int.ofNat k) (Int.ofNat 1)))])) { lock:=false,bs:=[(0,al.fmap (KK.str 2) h g c),(0,al.fmap (KK.str 2) h2 g2 c2),(0,al.row (Row.I .i64 [x,y])),(0,al.dead),(0,al.row (Row.I .i64 [Int.negSucc 0,Int.ofNat 0])),(v,al.row (Row.M [aW.arr .i64 a k]))] }:=by kernel_rfl
theorem Ou:∀ b,(0,b) ∈ aV (bQ Tryz.f94)→b=.loop (part Tryz.f94 [1,0,0]):=gM (by kernel_rfl)
theorem Ji (n:Nat) (H:aa):cd (n+2) (.fn 94) [.nils] H=some (.tup [],H):=by kernel_rfl
noncomputable def wc (k:Nat) (a:Nat→Int):Nat→Nat→Int
 | 0=>a
 | j+1=>fS (fS (wc k a j) j (wc k a j (k-1-j))) (k-1-j) (wc k a j j)
theorem yy (k:Nat) (a:Nat→Int):∀ j,2*j≤k→∀ x,wc k a j x=if x<k∧(x<j∨k≤x+j) then a (k-1-x) else a x
 | 0,_,x=>by
   rw[if_neg (by omega)];rfl
 | j + 1,h,x=>by
   have ih:=yy k a j (by omega)
   show fS (fS (wc k a j) j (wc k a j (k-1-j))) (k-1-j) (wc k a j j) x=_
   rw[rp,rp]
   dsimp only
   by_cases h1:x=k-1-j
   · rw[if_pos h1,ih,if_neg (by omega),if_pos (by omega),h1]
     congr 1;omega
   · rw[if_neg h1]
     by_cases h2:x=j
     · rw[if_pos h2,ih,if_neg (by omega),if_pos (by omega),h2]
     · rw[if_neg h2,ih]
       by_cases h3:x<k∧(x<j∨k≤x+j)
       · rw[if_pos h3,if_pos (by omega)]
       · rw[if_neg h3,if_neg (by omega)]
theorem Gw (L:List Int):wc L.length (aL L) (L.length / 2)=aL L.reverse:=by
 funext x
 rw[yy _ _ _ (by omega),gx,gx]
 dsimp only
 simp only[List.getD_eq_getElem?_getD]
 by_cases hx:x<L.length
 · rw[List.getElem?_reverse hx]
   by_cases h3:x<L.length∧(x<L.length / 2∨L.length≤x+L.length / 2)
   · rw[if_pos h3]
   · rw[if_neg h3,show L.length-1-x=x by omega]
 · rw[if_neg (by omega),List.getElem?_eq_none (by omega),List.getElem?_eq_none (by simp;omega)]
section
variable (n v k:Nat) (a:Nat→Int) (h:List Int→Bool) (g:List Int→Int) (c:Nat) (h2:List Int→Bool) (g2:List Int→Int) (c2:Nat) (x y:Int) (H:aa)
theorem Qp (h1:1≤k) (h3:k≤1000):exec (bt n 94 28) (.block 0 (.loop (part Tryz.f94 [1,0,0]))) (w7 v k (Int.ofNat 0) (cD .i64 (Int.ofNat k) (Int.ofNat 1))) (aH::pN h g c h2 g2 c2 x y v k a::H)=some (.normal,w7 v k ((k / 2:Nat):Int) ((k-1-k / 2:Nat):Int)++[(9,.bool false)],aH::pN h g c h2 g2 c2 x y v k (wc k a (k / 2))::H):=by
 have e0:cD .i64 (Int.ofNat k) (Int.ofNat 1)=((k-1-0:Nat):Int):=by
  rw[db,show Int.ofNat 1=1 from rfl,show Int.ofNat k=(k:Int) from rfl,dv (by omega) (by omega)];omega
 rw[e0]
 refine iR 0 (fun j=>w7 v k (j:Nat) ((k-1-j:Nat):Int)) (fun j=>aH::pN h g c h2 g2 c2 x y v k (wc k a j)::H) (k / 2) (w7 v k ((k / 2:Nat):Int) ((k-1-k / 2:Nat):Int)++[(9,.bool false)],aH::pN h g c h2 g2 c2 x y v k (wc k a (k / 2))::H) (by omega) (fun j hj=>?_) ?_
 · have hst:wc k a (j+1)=fS (fS (wc k a j) j (wc k a j (k-1-j))) (k-1-j) (wc k a j j):=rfl
   rw[hst]
   generalize wc k a j=b
   have e1:bk .i64 (j:Int) (Int.ofNat 1)=((j+1:Nat):Int):=lx (by omega)
   have e2:cD .i64 ((k-1-j:Nat):Int) (Int.ofNat 1)=((k-1-(j+1):Nat):Int):=by
    rw[db,show Int.ofNat 1=1 from rfl,dv (by omega) (by omega)];omega
   have e3:aD 0 (j:Int) 1=j:=by rw[bS];omega
   have e4:aD 0 ((k-1-j:Nat):Int) 1=k-1-j:=by rw[bS];omega
   refine az (t94 n v k b h g c h2 g2 c2 x y (j:Nat) ((k-1-j:Nat):Int) H) (aB n) (af _ _) (ag _ _) ?_
   rw[e1,e2,e3,e4]
   exact wF
 · generalize wc k a (k / 2)=b
   obtain ⟨q,q1,rfl⟩:=az (Q:=fun q=>q=(.exit 0,w7 v k ((k / 2:Nat):Int) ((k-1-k / 2:Nat):Int)++[(9,.bool false)],aH::pN h g c h2 g2 c2 x y v k b::H)) (t94 n v k b h g c h2 g2 c2 x y ((k / 2:Nat):Int) ((k-1-k / 2:Nat):Int) H) (aB n) (af _ _) (ag _ _) (by
    refine Tr.aj (fun hc=>?_) (fun hc=>Tr.ar rfl)
    simp (disch:=omega) only[nV,nW] at hc;omega)
   exact q1
theorem OI (h1:1≤k) (h3:k≤1000):cd (n+1) (.fn 94) [.slc 0 5 v 0 1 k none] (pN h g c h2 g2 c2 x y v k a::H)=some (.tup [],pN h g c h2 g2 c2 x y v k (wc k a (k / 2))::H):=by
 have hx:=Qp n v k a h g c h2 g2 c2 x y H h1 h3
 generalize wc k a (k / 2)=b at *
 refine bw (n:=n) Tryz.func94 rfl rfl rfl (QV n v k a b h g c h2 g2 c2 x y ((k / 2:Nat):Int) ((k-1-k / 2:Nat):Int) H) (aB n) (bu (af _ _) Ou (fun q h=>by rw[← Tr.ab h];simp only[fz.st,aN];exact hx)) (ag _ _) ?_
 exact wF
end
end Go.Eng
end
section
namespace Go.Eng
theorem Ar {a:Nat→Int} {n:Nat} (ha:∀ i j,i≤j→j<n→a i≤a j):∀ j,j≤n→(nG a j).Pairwise (· < ·)∧∀ x,x ∈ nG a j↔∃ i,i<j∧a i=x
 | 0,_=>⟨List.Pairwise.nil,fun x=>⟨(fun h=>by cases h),(fun ⟨i,h,_⟩=>by omega)⟩⟩
 | j + 1,h=>by
   obtain ⟨i1,i2⟩:=Ar ha j (by omega)
   have e:nG a (j+1)=if j=0∨a j≠a (j-1) then nG a j++[a j] else nG a j:=rfl
   rw[e]
   by_cases c:j=0∨a j≠a (j-1)
   · rw[if_pos c]
     refine ⟨List.pairwise_append.2 ⟨i1,List.pairwise_singleton _ _,fun x hx y hy=>?_⟩,fun x=>?_⟩
     · obtain ⟨i,h1,h2⟩:=(i2 x).1 hx
       rw[List.mem_singleton] at hy
       subst hy;subst h2
       rcases c with c | c
       · omega
       · have h3:=ha i (j-1) (by omega) (by omega)
         have h4:=ha (j-1) j (by omega) (by omega)
         omega
     · rw[List.mem_append,List.mem_singleton,i2]
       constructor
       · rintro (⟨i,h1,h2⟩ | h1)
         · exact ⟨i,by omega,h2⟩
         · exact ⟨j,by omega,h1.symm⟩
       · rintro ⟨i,h1,h2⟩
         by_cases hi:i=j
         · subst hi;exact .inr h2.symm
         · exact .inl ⟨i,by omega,h2⟩
   · rw[if_neg c]
     have c1:j≠0:=fun h=>c (.inl h)
     have c2:a j=a (j-1):=Classical.byContradiction fun h=>c (.inr h)
     refine ⟨i1,fun x=>?_⟩
     rw[i2]
     constructor
     · rintro ⟨i,h1,h2⟩;exact ⟨i,by omega,h2⟩
     · rintro ⟨i,h1,h2⟩
       by_cases hi:i=j
       · subst hi;exact ⟨i-1,by omega,by rw[← c2];exact h2⟩
       · exact ⟨i,by omega,h2⟩
theorem A1 (z g:Nat→Int):∀ j x,x ∈ yf z g j↔∃ i,i<j∧c5 z (g i).toNat=x
 | 0,x=>⟨(fun h=>by cases h),(fun ⟨i,h,_⟩=>by omega)⟩
 | j + 1,x=>by
   show x ∈ yf z g j++[_]↔_
   rw[List.mem_append,List.mem_singleton,A1 z g j]
   constructor
   · rintro (⟨i,h1,h2⟩ | h1)
     · exact ⟨i,by omega,h2⟩
     · exact ⟨j,by omega,h1.symm⟩
   · rintro ⟨i,h1,h2⟩
     by_cases hi:i=j
     · subst hi;exact .inr h2.symm
     · exact .inl ⟨i,by omega,h2⟩
theorem Ea (l:Nat) (z:Nat→Int):(cK l z).Pairwise (· < ·)∧∀ x,x ∈ cK l z↔∃ i,i<l∧c5 z i≤cB z i∧c5 z i=x:=by
 have hA:(zu l z).length=(dl (jy z) l).length:=rl _ _ _
 have hs:=IX (zu l z)
 have hsl:=GJ (zu l z)
 have hm:∀ i j,i≤j→j<(dl (jy z) l).length→aL (iL (zu l z)) i≤aL (iL (zu l z)) j:=fun i j h1 h2=>by
  rw[gx]
  dsimp only
  by_cases e:i=j
  · subst e;exact Int.le_refl _
  have:=List.pairwise_iff_getElem.1 hs i j (by omega) (by omega) (by omega)
  rw[List.getD_eq_getElem?_getD,List.getD_eq_getElem?_getD,List.getElem?_eq_getElem (by omega),List.getElem?_eq_getElem (by omega)]
  exact this
 obtain ⟨p1,p2⟩:=Ar hm _ (Nat.le_refl _)
 refine ⟨p1,fun x=>?_⟩
 unfold cK
 rw[p2]
 have e1:(∃ i,i<(dl (jy z) l).length∧aL (iL (zu l z)) i=x)↔x ∈ zu l z:=by
  rw[← (Ev (zu l z)).mem_iff,List.mem_iff_getElem]
  constructor
  · rintro ⟨i,h1,h2⟩
    refine ⟨i,by omega,?_⟩
    rw[← h2,gx]
    dsimp only
    rw[List.getD_eq_getElem?_getD,List.getElem?_eq_getElem (by omega)];rfl
  · rintro ⟨i,h1,h2⟩
    refine ⟨i,by omega,?_⟩
    rw[← h2,gx]
    dsimp only
    rw[List.getD_eq_getElem?_getD,List.getElem?_eq_getElem (by omega)];rfl
 rw[e1]
 unfold zu
 rw[A1]
 constructor
 · rintro ⟨i,h1,h2⟩
   have:=oG (dl (jy z) l) i h1
   obtain ⟨q,q1,q2,q3⟩:=(zf _ _ _).1 this
   rw[q1] at h2
   refine ⟨q,q2,?_,h2⟩
   unfold jy at q3
   split at q3
   · assumption
   · cases q3
 · rintro ⟨i,h1,h2,h3⟩
   have hin:(i:Int) ∈ dl (jy z) l:=(zf _ _ _).2 ⟨i,rfl,h1,by unfold jy;rw[if_pos h2]⟩
   obtain ⟨q,q1,q2⟩:=List.mem_iff_getElem.1 hin
   refine ⟨q,q1,?_⟩
   rw[gx]
   dsimp only
   rw[List.getD_eq_getElem?_getD,List.getElem?_eq_getElem q1,q2]
   exact h3
theorem Gm {l:Nat} {z:Nat→Int} (h:bY l z=0):(cK l z).length≤14:=by
 have:=ze (jy z) l
 have h2:=vo (aL (iL (zu l z))) (dl (jy z) l).length
 have h3:=(cM h).1
 unfold cK
 omega
theorem IH {l:Nat} {z:Nat→Int} {P:Nat→Int} (hP:∀ i,i<(cK l z).length→P i=(cK l z).getD i 0) :
 (∀ i j,i<j→j<(cK l z).length→P i<P j)∧(∀ i,i<l→c5 z i≤cB z i→∃ j,j<(cK l z).length∧P j=c5 z i)∧∀ j,j<(cK l z).length→∃ i,i<l∧c5 z i≤cB z i∧P j=c5 z i:=by
 obtain ⟨p1,p2⟩:=Ea l z
 have hg:∀ i (h:i<(cK l z).length),P i=(cK l z)[i]:=fun i h=>by
  rw[hP i h,List.getD_eq_getElem?_getD,List.getElem?_eq_getElem h];rfl
 refine ⟨fun i j hij hj=>?_,fun i hi hc=>?_,fun j hj=>?_⟩
 · rw[hg i (by omega),hg j hj]
   exact List.pairwise_iff_getElem.1 p1 i j (by omega) hj hij
 · obtain ⟨j,j1,j2⟩:=List.mem_iff_getElem.1 ((p2 _).2 ⟨i,hi,hc,rfl⟩)
   exact ⟨j,j1,by rw[hg j j1,j2]⟩
 · obtain ⟨i,i1,i2,i3⟩:=(p2 _).1 (List.getElem_mem hj)
   exact ⟨i,i1,i2,by rw[hg j hj,i3]⟩
end Go.Eng
end
section
namespace Go.Eng
open Go.Proofs
theorem Fc {h:List Int→Bool} {g:List Int→Int} {c:Nat} (hE:∃ es,nJ (.str 2) es h g c) (h0:h [-1,0]=true):∃ r,rv h g r:=by
 obtain ⟨es,hE⟩:=hE
 obtain ⟨ks,k1,k2,k3,k4⟩:=Au hE (List.range es.length) (fun j hj=>by simpa using hj)
 obtain ⟨s1,s2⟩:=lr (g:=g) ks (-1,0)
 refine ⟨Ao g ks (-1,0),?_,fun e he=>s2 e (.inr ?_)⟩
 · rcases s1 with s1 | s1
   · rw[s1];exact h0
   · exact k2 _ s1
 · obtain ⟨_,j,j1,j2⟩:=hE.all _ he
   obtain ⟨e',e1,e2⟩:=k3 j (by simpa using j1) _ j2
   simp only[List.cons.injEq,and_true] at e2
   rw[show e=e' from Prod.ext e2.1 e2.2]
   exact e1
structure Mo (l:Nat) (z:Nat→Int) (K:Nat) (M:Int) (B:List Int):Prop where
 most:ry l (c5 z) (cB z) (eB z) K M
 wo:tg l (c5 z) (cB z) (eB z) B=M
 len:B.length≤K
 srt:B.Pairwise (· < ·)
 rg:∀ x ∈ B,-10000≤x∧x≤10000
theorem GQ (P:Nat→Int) (b:Int→Nat→Int) (k:Nat) (p:Int):((List.range k).map fun j=>P (nH b k p j).toNat).reverse=yR P b k p:=by
 refine List.ext_getElem (by simp[kR]) (fun i h1 h2=>?_)
 rw[kR] at h2
 have:=EE P b k p i h2
 rw[List.getD_eq_getElem?_getD,List.getElem?_eq_getElem (by rw[kR];exact h2)] at this
 simp only[Option.getD_some] at this
 rw[this]
 simp
theorem EI {l:Nat} {z:Nat→Int} (h:bY l z=0):∀ i,i<l→0≤eB z i:=fun i hi=>by
 have:=(cM h).2 i hi
 unfold eB;omega
theorem JO {l:Nat} {z:Nat→Int} (h:bY l z=0) {i:Nat} (hi:i<l) (hc:c5 z i≤cB z i):-10000≤c5 z i∧c5 z i≤10000∧cB z i≤10000:=by
 have:=(cM h).2 i hi
 unfold c5 cB at *;omega
theorem JV {l K m:Nat} {z P:Nat→Int} (h:bY l z=0) (hm:m=(cK l z).length) (hP:∀ i,i<(cK l z).length→P i=(cK l z).getD i 0) :
 ∃ (p:Int) (k:Nat),rv (fy (dX l z P) K m cF).h (fy (dX l z P) K m cF).g (p,(k:Int))∧k≤K ∧
  (∀ j,j<k→0≤nH (fun q i=>(fy (dX l z P) K m cF).g2 [q,(i:Int)]) k p j∧nH (fun q i=>(fy (dX l z P) K m cF).g2 [q,(i:Int)]) k p j<m) ∧
  nH (fun q i=>(fy (dX l z P) K m cF).g2 [q,(i:Int)]) k p k=-1 ∧
  Mo l z K ((fy (dX l z P) K m cF).g [p,(k:Int)]) (yR P (fun q i=>(fy (dX l z P) K m cF).g2 [q,(i:Int)]) k p):=by
 obtain ⟨P1,P2,P3⟩:=IH hP
 rw[← hm] at P1 P2 P3
 have t:=IY l (c5 z) (cB z) (eB z) P m K
 have hB:=HF (a:=wB l (c5 z) (cB z) (eB z) P) (W:=qM (eB z) l) (fun f p=>CH (EI h) f p) (K:=K) m
 have hE:=HU (a:=wB l (c5 z) (cB z) (eB z) P) (K:=K) m
 show ∃ (p:Int) (k:Nat),rv (fy (wB l (c5 z) (cB z) (eB z) P) K m cF).h (fy (wB l (c5 z) (cB z) (eB z) P) K m cF).g (p,(k:Int))∧k≤K ∧
  (∀ j,j<k→0≤nH (fun q i=>(fy (wB l (c5 z) (cB z) (eB z) P) K m cF).g2 [q,(i:Int)]) k p j∧nH (fun q i=>(fy (wB l (c5 z) (cB z) (eB z) P) K m cF).g2 [q,(i:Int)]) k p j<m) ∧
  nH (fun q i=>(fy (wB l (c5 z) (cB z) (eB z) P) K m cF).g2 [q,(i:Int)]) k p k=-1 ∧
  Mo l z K ((fy (wB l (c5 z) (cB z) (eB z) P) K m cF).g [p,(k:Int)]) (yR P (fun q i=>(fy (wB l (c5 z) (cB z) (eB z) P) K m cF).g2 [q,(i:Int)]) k p)
 generalize fy (wB l (c5 z) (cB z) (eB z) P) K m cF=S at *
 obtain ⟨⟨p,q⟩,hr⟩:=Fc hE t.at0.1
 have hq:=hB p q hr.1
 obtain ⟨k,rfl⟩:∃ k:Nat,q=k:=⟨q.toNat,by omega⟩
 have hh:(fun (p:Int) (n:Nat)=>S.h [p,(n:Int)]) p k=true:=hr.1
 have hk:k≤K:=by
  rcases t.from_ p k hh with ⟨_,e⟩ | ⟨_,_,_,e,_⟩<;>omega
 have hg:∀ q k',S.h [q,((k':Nat):Int)]=true→S.g [q,(k':Int)]≤S.g [p,(k:Int)]:=fun q k' hq=>by
  have:=rL.1 (hr.2 (q,(k':Int)) hq)
  dsimp only at this
  omega
 obtain ⟨w1,w2,w3,_⟩:=Ez t P1 k p hh
 have a1:=fun j hj=>zZ t hh j hj
 refine ⟨p,k,hr,hk,fun j hj=>(a1 j (by omega)).2 hj,EA t hh,⟨GO t P1 (EI h) P2 hh hk hg,w1,by rw[kR];exact hk,w3,fun x hx=>?_⟩⟩
 obtain ⟨i,i1,_,rfl⟩:=w2 x hx
 obtain ⟨j,j1,j2,j3⟩:=P3 i i1
 have:=JO h j1 j2
 omega
end Go.Eng
end
