/- Bath: the most: the range ends in the best entry, in whatever order. -/
import Derived.Test.YtigmfpmabgekoaaGreatV9Bq4x7
import Derived.Test.YtigmfpmabgekoaaGreatV9Bp1x7
set_option linter.unusedVariables false
set_option linter.unusedSimpArgs false
set_option maxRecDepth 100000
section
namespace Go.Eng
open Go.Proofs
noncomputable def mL:bm:=Go.Proofs.YtigmfpmabgekoaaGreat.Known.mostL
noncomputable def si (m:Nat) (P:Nat→Int):av:=[(6,bc m P false),(7,.map 4 0),(8,.map 0 1),(17,.ptr 0 2 0 0),(91,.ptr 0 3 0 0)]
noncomputable def DB (m:Nat) (P:Nat→Int):av:=[(6,bc m P false),(7,.map 4 0),(8,.map 0 1),(17,.ptr 0 2 0 0),(90,.map 4 0),(91,.ptr 0 3 0 0)]
noncomputable def fm (h2:List Int→Bool) (g2:List Int→Int) (c2:Nat) (x:Int×Int):bx:=⟨false,[(0,.dead),(0,.fmap (.str 2) h2 g2 c2),fb x.1 x.2,(0,.dead)]⟩
noncomputable def qg (b1 b2 b3:List (Nat×aj)) (h:List Int→Bool) (g:List Int→Int) (c:Nat):aa:=[⟨true,b1⟩,⟨true,b2⟩,⟨true,b3⟩,iy (.fmap (.str 2) h g c)]
noncomputable def zf (g:List Int→Int) (e:Int×Int):AV×AV:=(.agg (.I .i64 [e.1,e.2]),.int .i64 (g [e.1,e.2]))
theorem xN {L:bm} {cx:Cx} {callR:bJ} {bl:gH} {rg:r7} {k n:Nat} {kv:AV×AV} {fr fr':av} {l l':bx} {R:aa} {T:Tr (aT×aa)} (e:L.oH cx callR bl rg k n kv (hints fr) (l::R)=T) (hC:callR.Ok cx.call) (hB:bl.Ok cx L.rest) (hR:rg.Ok cx L.rest)
 (h:T.all fun y=>strip y.1=fr'∧y.2=l'::R):cZ L cx k n R kv (fr,l)=some (fr',l'):=by
 obtain ⟨y,h1,h2,h3⟩:=h
 have:=bm.DZ hC hB hR (by rw[e];exact h1)
 rw[aF,h2,h3] at this
 unfold cZ
 rw[this]
theorem zi {L:bm} {cx:Cx} {callR:bJ} {fr:av} {H:aa} {T:Tr (aT×aa)} (e:L.zj cx callR (hints fr) H=T) (hC:callR.Ok cx.call) {y:av×aa} (h:T.all fun z=>(strip z.1,z.2)=y):L.last cx fr H=some y:=by
 obtain ⟨z,h1,rfl⟩:=h
 have:=bm.Fw hC (by rw[e];exact h1)
 rw[aF] at this;exact this
section
variable (n m:Nat) (P:Nat→Int) (h:List Int→Bool) (g:List Int→Int) (c:Nat) (h2:List Int→Bool) (g2:List Int→Int) (c2:Nat) (b1 b2 b3:List (Nat×aj))
theorem Qf (x e:Int×Int):cZ mL (bu n 79 156) 3 4 (qg b1 b2 b3 h g c) (zf g e) (si m P,fm h2 g2 c2 x)=some (si m P,fm h2 g2 c2 (if uT g e x=true then e else x)):=by
 obtain ⟨x,y⟩:=x
 obtain ⟨a,b⟩:=e
 refine xN (P4 n m P h g c h2 g2 c2 b1 b2 b3 a b (g [a,b]) x y) (aC n) (af _ _) (ag _ _) ?_
 have hb:=m7 (g:=g) (x:=(a,b)) (y:=(x,y))
 dsimp only at hb
 rw[eZ,eZ,eZ,b8,b8]
 by_cases k1:g [x,y]<g [a,b]
 · rw[decide_eq_true k1,if_pos (hb.2 (.inl k1))]
   exact Tr.al (fun _=>Tr.ao ⟨rfl,rfl⟩) (fun hc=>by cases hc)
 · rw[decide_eq_false k1]
   refine Tr.al (fun hc=>by cases hc) (fun _=>?_)
   by_cases k2:g [a,b]=g [x,y]
   · rw[show (g [a,b] == g [x,y])=true from beq_iff_eq.2 k2]
     refine Tr.al (fun _=>?_) (fun hc=>by cases hc)
     by_cases k3:b<y
     · rw[decide_eq_true k3,if_pos (hb.2 (.inr ⟨k2,.inl k3⟩))]
       exact Tr.al (fun _=>Tr.ao ⟨rfl,rfl⟩) (fun hc=>by cases hc)
     · rw[decide_eq_false k3]
       refine Tr.al (fun hc=>by cases hc) (fun _=>?_)
       by_cases k4:b=y
       · rw[show (b == y)=true from beq_iff_eq.2 k4]
         refine Tr.al (fun _=>?_) (fun hc=>by cases hc)
         by_cases k5:a<x
         · rw[decide_eq_true k5,if_pos (hb.2 (.inr ⟨k2,.inr ⟨k4,k5⟩⟩))]
           exact Tr.al (fun _=>Tr.ao ⟨rfl,rfl⟩) (fun hc=>by cases hc)
         · rw[decide_eq_false k5,if_neg (fun q=>by have:=hb.1 q;omega)]
           exact Tr.al (fun hc=>by cases hc) (fun _=>Tr.ao ⟨rfl,rfl⟩)
       · rw[show (b == y)=false from beq_eq_false_iff_ne.2 k4,if_neg (fun q=>by have:=hb.1 q;omega)]
         exact Tr.al (fun hc=>by cases hc) (fun _=>Tr.ao ⟨rfl,rfl⟩)
   · rw[show (g [a,b] == g [x,y])=false from beq_eq_false_iff_ne.2 k2,if_neg (fun q=>by have:=hb.1 q;omega)]
     exact Tr.al (fun hc=>by cases hc) (fun _=>Tr.ao ⟨rfl,rfl⟩)
theorem Mv (x e:Int×Int):cZ mL (bu n 79 156) 3 4 (qg b1 b2 b3 h g c) (zf g e) (DB m P,fm h2 g2 c2 x)=some (si m P,fm h2 g2 c2 (if uT g e x=true then e else x)):=by
 obtain ⟨x,y⟩:=x
 obtain ⟨a,b⟩:=e
 refine xN (P5 n m P h g c h2 g2 c2 b1 b2 b3 a b (g [a,b]) x y) (aC n) (af _ _) (ag _ _) ?_
 have hb:=m7 (g:=g) (x:=(a,b)) (y:=(x,y))
 dsimp only at hb
 rw[eZ,eZ,eZ,b8,b8]
 by_cases k1:g [x,y]<g [a,b]
 · rw[decide_eq_true k1,if_pos (hb.2 (.inl k1))]
   exact Tr.al (fun _=>Tr.ao ⟨rfl,rfl⟩) (fun hc=>by cases hc)
 · rw[decide_eq_false k1]
   refine Tr.al (fun hc=>by cases hc) (fun _=>?_)
   by_cases k2:g [a,b]=g [x,y]
   · rw[show (g [a,b] == g [x,y])=true from beq_iff_eq.2 k2]
     refine Tr.al (fun _=>?_) (fun hc=>by cases hc)
     by_cases k3:b<y
     · rw[decide_eq_true k3,if_pos (hb.2 (.inr ⟨k2,.inl k3⟩))]
       exact Tr.al (fun _=>Tr.ao ⟨rfl,rfl⟩) (fun hc=>by cases hc)
     · rw[decide_eq_false k3]
       refine Tr.al (fun hc=>by cases hc) (fun _=>?_)
       by_cases k4:b=y
       · rw[show (b == y)=true from beq_iff_eq.2 k4]
         refine Tr.al (fun _=>?_) (fun hc=>by cases hc)
         by_cases k5:a<x
         · rw[decide_eq_true k5,if_pos (hb.2 (.inr ⟨k2,.inr ⟨k4,k5⟩⟩))]
           exact Tr.al (fun _=>Tr.ao ⟨rfl,rfl⟩) (fun hc=>by cases hc)
         · rw[decide_eq_false k5,if_neg (fun q=>by have:=hb.1 q;omega)]
           exact Tr.al (fun hc=>by cases hc) (fun _=>Tr.ao ⟨rfl,rfl⟩)
       · rw[show (b == y)=false from beq_eq_false_iff_ne.2 k4,if_neg (fun q=>by have:=hb.1 q;omega)]
         exact Tr.al (fun hc=>by cases hc) (fun _=>Tr.ao ⟨rfl,rfl⟩)
   · rw[show (g [a,b] == g [x,y])=false from beq_eq_false_iff_ne.2 k2,if_neg (fun q=>by have:=hb.1 q;omega)]
     exact Tr.al (fun hc=>by cases hc) (fun _=>Tr.ao ⟨rfl,rfl⟩)
theorem E0:∀ (ks:List (Int×Int)) (x:Int×Int),dw mL (bu n 79 156) 3 4 (qg b1 b2 b3 h g c) (ks.map (zf g)) (si m P,fm h2 g2 c2 x)=some (si m P,fm h2 g2 c2 (BO g ks x))
 | [],x=>rfl
 | e::ks,x=>by
   show (match cZ mL (bu n 79 156) 3 4 (qg b1 b2 b3 h g c) (zf g e) (si m P,fm h2 g2 c2 x) with
    | some t=>dw mL (bu n 79 156) 3 4 (qg b1 b2 b3 h g c) (ks.map (zf g)) t
    | none=>none)=_
   rw[Qf]
   exact E0 ks _
theorem PO (x:Int×Int):mL.last (bu n 79 156) (si m P) (fm h2 g2 c2 x::qg b1 b2 b3 h g c)=some (si m P++[(92,.tup [.bool false]),(93,.bool false)],fm h2 g2 c2 x::qg b1 b2 b3 h g c) :=
 zi (PZ n 4 m P h2 g2 c2 (qg b1 b2 b3 h g c) x.1 x.2) (aC _) (Tr.ao rfl)
end
theorem BU {es:List (AV×AV)} {h:List Int→Bool} {g:List Int→Int} {c:Nat} (hE:oT (.str 2) es h g c):∀ vs:List Nat,(∀ j ∈ vs,j<es.length) →
 ∃ ks:List (Int×Int),(vs.map fun j=>es.getD j (.undef,.undef))=ks.map (zf g)∧(∀ e ∈ ks,h [e.1,e.2]=true)∧(∀ j ∈ vs,∀ n,(es.getD j (.undef,.undef)).1=dZ (.str 2) n→∃ e ∈ ks,n=[e.1,e.2])∧ks.length=vs.length
 | [],_=>⟨[],rfl,fun e he=>(by cases he),fun j hj=>(by cases hj),rfl⟩
 | j :: vs,hv=>by
   obtain ⟨l,l1,l2,l3,l4⟩:=BU hE vs (fun i hi=>hv i (List.mem_cons_of_mem _ hi))
   have hj:=hv j (by simp)
   obtain ⟨n,e1,e2⟩:=hE.ent j hj
   have hf:=(hE.all _ e2).1
   have hlen:n.length=2:=Nat.eq_of_beq_eq_true hf
   obtain ⟨a,b,rfl⟩:∃ a b,n=[a,b]:=by
    match n,hlen with
    | [a,b],_=>exact ⟨a,b,rfl⟩
   refine ⟨(a,b)::l,?_,fun e he=>?_,fun i hi n' hn'=>?_,by simp[l4]⟩
   · rw[List.map_cons,List.map_cons,l1]
     congr 1
   · rcases List.mem_cons.1 he with rfl | he
     · exact e2
     · exact l2 e he
   · rcases List.mem_cons.1 hi with rfl | hi
     · rw[e1] at hn'
       have hn':dZ (.str 2) [a,b]=dZ (.str 2) n':=hn'
       have:[a,b]=n':=by unfold dZ at hn';simpa using hn'
       exact ⟨(a,b),by simp,this.symm⟩
     · obtain ⟨e,he,h'⟩:=l3 i hi n' hn'
       exact ⟨e,by simp[he],h'⟩
theorem wh:∀ (n:Nat) (vs:List Nat),vs.Nodup→(∀ j ∈ vs,j<n)→vs.length≤n
 | 0,vs,_,h=>by
   cases vs with
   | nil=>exact Nat.le_refl _
   | cons a r=>have:=h a (by simp);omega
 | n+1,vs,hn,h=>by
   have h1:=wh n (vs.erase n) (hn.erase n) (fun j hj=>by
    rw[hn.mem_erase_iff] at hj
    have:=h j hj.2
    omega)
   rw[List.length_erase] at h1
   split at h1<;>omega
theorem yL {vs:List Nat} {n:Nat} (hn:vs.Nodup) (hl:vs.length=n) (hb:∀ j ∈ vs,j<n) {j:Nat} (hj:j<n):j ∈ vs:=by
 apply Classical.byContradiction
 intro hc
 have:=wh n (j::vs) (List.nodup_cons.2 ⟨hc,hn⟩) (fun i hi=>by
  rcases List.mem_cons.1 hi with rfl | hi
  · exact hj
  · exact hb i hi)
 simp only[List.length_cons] at this
 omega
def sE (h:List Int→Bool) (g:List Int→Int) (r:Int×Int):Prop:=h [r.1,r.2]=true∧∀ e:Int×Int,h [e.1,e.2]=true→uT g e r=false
theorem JK (n m:Nat) (P:Nat→Int) (h:List Int→Bool) (g:List Int→Int) (c:Nat) (h2:List Int→Bool) (g2:List Int→Int) (c2:Nat) (b1 b2 b3:List (Nat×aj)) (x r:Int×Int) (hx:h [x.1,x.2]=true) (hr:sE h g r) :
 sF (bu n 79 156) mL 3 (qg b1 b2 b3 h g c) (DB m P,fm h2 g2 c2 x) (.str 2) h g c (si m P++[(92,.tup [.bool false]),(93,.bool false)],fm h2 g2 c2 r):=by
 refine ⟨rfl,fun es hE vs v1 v2 v3=>?_⟩
 obtain ⟨ks,l1,l2,l3,l4⟩:=BU hE vs v3
 have cov:∀ e:Int×Int,h [e.1,e.2]=true→e ∈ ks:=fun e he=>by
  obtain ⟨_,j,j1,j2⟩:=hE.all _ he
  obtain ⟨e',he',e2⟩:=l3 j (yL v1 v2 v3 j1) _ j2
  simp only[List.cons.injEq,and_true] at e2
  have:e=e':=Prod.ext e2.1 e2.2
  rw[this];exact he'
 obtain ⟨s1,s2⟩:=mf (g:=g) ks x
 have hb:BO g ks x=r:=by
  refine BP (g:=g) ?_ (s2 r (.inr (cov r hr.1)))
  refine hr.2 _ ?_
  rcases s1 with e | e
  · rw[e];exact hx
  · exact l2 _ e
 rw[l1]
 have hf:dw mL (bu n 79 156) 3 4 (qg b1 b2 b3 h g c) (ks.map (zf g)) (DB m P,fm h2 g2 c2 x)=some (si m P,fm h2 g2 c2 (BO g ks x)):=by
  cases ks with
  | nil=>exact (List.not_mem_nil (cov x hx)).elim
  | cons e ks =>
    show (match cZ mL (bu n 79 156) 3 4 (qg b1 b2 b3 h g c) (zf g e) (DB m P,fm h2 g2 c2 x) with
     | some t=>dw mL (bu n 79 156) 3 4 (qg b1 b2 b3 h g c) (ks.map (zf g)) t
     | none=>none)=_
    rw[Mv]
    exact E0 n m P h g c h2 g2 c2 b1 b2 b3 ks _
 refine ⟨_,hf,?_⟩
 rw[hb]
 exact PO n m P h g c h2 g2 c2 b1 b2 b3 r
end Go.Eng
end
section
namespace Go.Eng
open Go.Proofs
theorem Oy:∃ es,oT (.str 2) es (fun _=>false) (fun _=>0) 0 :=
 ⟨[],rfl,(fun j hj=>absurd hj (Nat.not_lt_zero _)),(fun n h=>by cases h),(fun n _=>rfl),(fun i j hi=>absurd hi (Nat.not_lt_zero _))⟩
theorem ES {h:List Int→Bool} {g:List Int→Int} {c:Nat} (hE:∃ es,oT (.str 2) es h g c) (a b y:Int):∃ es,oT (.str 2) es (dE h [a,b] true) (fF g [a,b] y) (o9 (h [a,b]) c):=by
 obtain ⟨es,hE⟩:=hE
 cases hh:h [a,b] with
 | false =>
   refine ⟨_,hh ▸ hE.Q7 (n:=[a,b]) (y:=y) rfl (r:=none) hh (fun j hj=>by cases hj)⟩
 | true =>
   obtain ⟨_,j,j1,j2⟩:=hE.all _ hh
   obtain ⟨n,e1,e2⟩:=hE.ent j j1
   have:dZ (.str 2) n=dZ (.str 2) [a,b]:=by rw[← j2,e1]
   have hn:n=[a,b]:=by unfold dZ at this;simpa using this
   subst hn
   refine ⟨_,hh ▸ hE.Q7 (n:=[a,b]) (y:=y) rfl (r:=some j) hh (fun j' hj'=>by cases hj';exact ⟨j1,e1⟩)⟩
theorem Oz {a:Int→Int→Int} {p f n:Int} {s:MS} (h:∃ es,oT (.str 2) es s.h s.g s.c):∃ es,oT (.str 2) es (m4 a p f n s).h (m4 a p f n s).g (m4 a p f n s).c:=by
 unfold m4
 split
 · split
   · exact ES h _ _ _
   · exact h
 · exact h
theorem LA {a:Int→Int→Int} {p f:Int} {s:MS} (h:∃ es,oT (.str 2) es s.h s.g s.c):∀ n,∃ es,oT (.str 2) es (g6 a p f n s).h (g6 a p f n s).g (g6 a p f n s).c
 | 0=>h
 | n+1=>Oz (LA h n)
theorem Lz {a:Int→Int→Int} {K:Nat} {p:Int} {s:MS} (h:∃ es,oT (.str 2) es s.h s.g s.c):∀ n,∃ es,oT (.str 2) es (lX a K p n s).h (lX a K p n s).g (lX a K p n s).c
 | 0=>h
 | n+1=>LA (Lz h n) K
theorem JQ {a:Int→Int→Int} {K:Nat}:∀ n,∃ es,oT (.str 2) es (gf a K n cV).h (gf a K n cV).g (gf a K n cV).c
 | 0=>ES Oy (-1) 0 0
 | n+1=>Lz (JQ n) (n+1)
noncomputable def mS:bK:=Go.Proofs.YtigmfpmabgekoaaGreat.Known.mostS
noncomputable def nH (m:Nat) (P:Nat→Int):av:=[(6,bc m P false),(7,.map 0 0),(8,.map 0 1),(17,.ptr 0 2 0 0)]
noncomputable def yI (m:Nat) (P:Nat→Int):av:=nH m P++[(91,.ptr 0 3 0 0),(92,.tup [.bool false]),(93,.bool false)]
theorem H9 (n m:Nat) (P:Nat→Int) (S:MS) (k1 k2 k3:Bool) (b1 b2 b3:List (Nat×aj)) (x r:Int×Int) (hE:∃ es,oT (.str 2) es S.h S.g S.c) (hx:S.h [x.1,x.2]=true) (hr:sE S.h S.g r) :
 gS (bu n 79 156) mS mL (nH m P) (kf S [fb x.1 x.2]::[⟨k1,b1⟩,⟨k2,b2⟩,⟨k3,b3⟩])=some (yI m P,kf S [fb r.1 r.2,(0,.dead)]::[⟨k1,b1⟩,⟨k2,b2⟩,⟨k3,b3⟩]):=by
 have hp:cR (bu n 79 156).P (bu n 79 156).nt (bu n 79 156).call mS.ops0 mS.pre (nH m P) (kf S [fb x.1 x.2]::[⟨k1,b1⟩,⟨k2,b2⟩,⟨k3,b3⟩])=some (nH m P++[(90,.map 0 0)],kf S [fb x.1 x.2]::[⟨k1,b1⟩,⟨k2,b2⟩,⟨k3,b3⟩]):=by
  have:=bK.sv (S:=mS) (cx:=bu n 79 156) (callR:=il aI n 0) (aC _) (fr:=hints (nH m P)) (H:=kf S [fb x.1 x.2]::[⟨k1,b1⟩,⟨k2,b2⟩,⟨k3,b3⟩]) (by
   show (bK.Bc _ _ _ _ _).run=_
   have:=Mn n m P S.h S.g S.c S.h2 S.g2 S.c2 x.1 x.2 [⟨k1,b1⟩,⟨k2,b2⟩,⟨k3,b3⟩]
   exact congrArg Tr.run this)
  rw[aF] at this
  exact this
 have hends:=JK n m P S.h S.g S.c S.h2 S.g2 S.c2 b1 b2 b3 x r hx hr
 unfold gS
 rw[hp]
 show (@dite _ (∃ y,sF (bu n 79 156) mL 3 (qg b1 b2 b3 S.h S.g S.c) (DB m P,fm S.h2 S.g2 S.c2 x) (.str 2) S.h S.g S.c y) (Classical.propDecidable _)
  (fun hx=>if (Classical.choose hx).2.bs.all (fun x=>rp 4 0 x.2) && ((jY (sM 4 0) (Classical.choose hx).1).all (fun x=>lS 4 0 x.2) && eX (aq (Classical.choose hx).2.bs 0).2) then some (jY (sM 4 0) (Classical.choose hx).1,dq ((Classical.choose hx).2::[⟨k1,b1⟩,⟨k2,b2⟩,⟨k3,b3⟩]) 0 0 (0,.fmap (.str 2) S.h S.g S.c)) else none)
  (fun _=>none))=_
 have hex:∃ y,sF (bu n 79 156) mL 3 (qg b1 b2 b3 S.h S.g S.c) (DB m P,fm S.h2 S.g2 S.c2 x) (.str 2) S.h S.g S.c y:=⟨_,hends⟩
 have hy:Classical.choose hex=(si m P++[(92,.tup [.bool false]),(93,.bool false)],fm S.h2 S.g2 S.c2 r):=by
  have hc:=Classical.choose_spec hex
  obtain ⟨es,hE⟩:=hE
  obtain ⟨s1,e1,e2⟩:=hc.2 es hE (List.range es.length) List.nodup_range (by simp) (fun j hj=>by simpa using hj)
  obtain ⟨s2,f1,f2⟩:=hends.2 es hE (List.range es.length) List.nodup_range (by simp) (fun j hj=>by simpa using hj)
  rw[e1] at f1
  obtain rfl:=Option.some.inj f1
  rw[e2] at f2
  simp only[Option.some.injEq,Prod.mk.injEq,List.cons.injEq,and_true] at f2
  exact Prod.ext f2.1 f2.2
 rw[dif_pos hex,hy]
 refine (if_pos ?_).trans ?_
 · rfl
 · rfl
end Go.Eng
end
section
namespace Go.Eng
open Go.Proofs
noncomputable def kA (m:Nat) (P:Nat→Int) (L:AV) (w:Int):av:=[(6,bc m P false),(8,.map 0 1),(17,.ptr 0 2 0 0),(21,.int .i64 w),(22,L),(23,.ptr 0 4 0 0)]
theorem MX (n m:Nat) (P:Nat→Int) (h:List Int→Bool) (g:List Int→Int) (c:Nat) (h2:List Int→Bool) (g2:List Int→Int) (c2:Nat) (x y w:Int) (H:aa):aK (bu n 79 156) (il aI n 0) aP aQ (part Tryz.f79 [1,1,1,1,1,1,1,1,1,1,0,0,0]) (hints (kA m P .nils w)) (dN h g c h2 g2 c2 [fb x y,(0,.dead),fb (-1) 0]::H) =
 Tr.ite (bL (g7 (c5 x (Int.negSucc 0)) (c5 y (Int.ofNat 0)))) (Tr.req (cU x m) (Tr.req (bB (aw 0 x 1) m) (Tr.req (jk 0 1 8) (Tr.req (dS 0 0) (Tr.req (ju 1 1) (Tr.req (g7 (ju 0 0) (ju 0 1)) (Tr.ok (Ex.normal,[(6,AV.slcT none (Row.M [aM.arr .i64 P m]) 1 m false,none),(8,AV.map 0 1,none),(17,AV.ptr 0 2 0 0,none),(21,AV.int .i64 w,none),(22,AV.slc 0 6 0 0 1 1 none,none),(23,AV.ptr 0 4 0 0,none)],{ lock:=false,bs:=[(0,aj.fmap (KK.str 2) h g c),(0,aj.fmap (KK.str 2) h2 g2 c2),(0,aj.row (Row.I .i64 [g2 [x,y],bQ .i64 y (Int.ofNat 1)])),(0,aj.dead),(0,aj.row (Row.I .i64 [Int.negSucc 0,Int.ofNat 0])),(0,aj.row (Row.I .i64 [P (aw 0 x 1)])),(0,aj.row (Row.M [aM.arr .i64 (bn [P (aw 0 x 1)]) 1]))] } :: H)))))))) (Tr.ok (Ex.exit 8,[(6,AV.slcT none (Row.M [aM.arr .i64 P m]) 1 m false,none),(8,AV.map 0 1,none),(17,AV.ptr 0 2 0 0,none),(21,AV.int .i64 w,none),(22,AV.nils,none),(23,AV.ptr 0 4 0 0,none),(136,AV.bool false,some 1)],{ lock:=false,bs:=[(0,aj.fmap (KK.str 2) h g c),(0,aj.fmap (KK.str 2) h2 g2 c2),(0,aj.row (Row.I .i64 [x,y])),(0,aj.dead),(0,aj.row (Row.I .i64 [Int.negSucc 0,Int.ofNat 0]))] } :: H)):=by kernel_rfl
theorem MY (n m v k:Nat) (P b:Nat→Int) (h:List Int→Bool) (g:List Int→Int) (c:Nat) (h2:List Int→Bool) (g2:List Int→Int) (c2:Nat) (x y w:Int) (H:aa):aK (bu n 79 156) (il aI n 0) aP aQ (part Tryz.f79 [1,1,1,1,1,1,1,1,1,1,0,0,0]) (hints (kA m P (.slc 0 5 v 0 1 k none) w)) (dN h g c h2 g2 c2 [fb x y,(0,.dead),fb (-1) 0,(v,.row (.M [.arr .i64 b k]))]::H) =
 Tr.ite (bL (g7 (c5 x (Int.negSucc 0)) (c5 y (Int.ofNat 0)))) (Tr.req (cU x m) (Tr.req (bB (aw 0 x 1) m) (Tr.req (jk k 1 8) (Tr.req (dS 0 0) (Tr.req (ju 1 1) (Tr.req (dS v v) (Tr.req (dS (ak 0 k) k) (Tr.req (g7 (ju 0 0) (ju 0 1)) (Tr.ok (Ex.normal,[(6,AV.slcT none (Row.M [aM.arr .i64 P m]) 1 m false,none),(8,AV.map 0 1,none),(17,AV.ptr 0 2 0 0,none),(21,AV.int .i64 w,none),(22,AV.slc 0 5 (Nat.succ v) 0 1 (ak k 1) none,none),(23,AV.ptr 0 4 0 0,none)],{ lock:=false,bs:=[(0,aj.fmap (KK.str 2) h g c),(0,aj.fmap (KK.str 2) h2 g2 c2),(0,aj.row (Row.I .i64 [g2 [x,y],bQ .i64 y (Int.ofNat 1)])),(0,aj.dead),(0,aj.row (Row.I .i64 [Int.negSucc 0,Int.ofNat 0])),(Nat.succ v,aj.row (Row.M [aM.arr .i64 (uR (nQ b 0) k (bn [P (aw 0 x 1)])) (ak k 1)])),(0,aj.row (Row.I .i64 [P (aw 0 x 1)]))] } :: H)))))))))) (Tr.ok (Ex.exit 8,[(6,AV.slcT none (Row.M [aM.arr .i64 P m]) 1 m false,none),(8,AV.map 0 1,none),(17,AV.ptr 0 2 0 0,none),(21,AV.int .i64 w,none),(22,AV.slc 0 5 v 0 1 k none,none),(23,AV.ptr 0 4 0 0,none),(136,AV.bool false,some 1)],{ lock:=false,bs:=[(0,aj.fmap (KK.str 2) h g c),(0,aj.fmap (KK.str 2) h2 g2 c2),(0,aj.row (Row.I .i64 [x,y])),(0,aj.dead),(0,aj.row (Row.I .i64 [Int.negSucc 0,Int.ofNat 0])),(v,aj.row (Row.M [aM.arr .i64 b k]))] } :: H)):=by kernel_rfl
theorem Lf:∀ b,(8,b) ∈ aV (part Tryz.f79 [1,1,1,1,1,1,1])→b=.loop (part Tryz.f79 [1,1,1,1,1,1,1,1,1,1,0,0,0]):=fM (by kernel_rfl)
noncomputable def sT:List Int→AV
 | []=>.nils
 | _::r=>.slc 0 5 r.length 0 1 (r.length+1) none
noncomputable def bT (x y:Int):List Int→List (Nat×aj)
 | []=>[fb x y,(0,.dead),fb (-1) 0]
 | a::r=>[fb x y,(0,.dead),fb (-1) 0,(r.length,.row (.M [.arr .i64 (bn (a::r)) (r.length+1)]))]
def C4 (P:Nat→Int) (b:Int→Nat→Int) (k:Nat) (p:Int) (j:Nat):Int:=P (oR b k p j).toNat
theorem PJ (n m:Nat) (P:Nat→Int) (S:MS) (k:Nat) (p w:Int) (H:aa) (hk:k≤1000) (hm:m≤1000) (htr:∀ j,j<k→0≤oR (fun q i=>S.g2 [q,(i:Int)]) k p j∧oR (fun q i=>S.g2 [q,(i:Int)]) k p j<m) (hend:oR (fun q i=>S.g2 [q,(i:Int)]) k p k=-1) :
 exec (bu n 79 156) (.block 8 (.loop (part Tryz.f79 [1,1,1,1,1,1,1,1,1,1,0,0,0]))) (kA m P .nils w) (dN S.h S.g S.c S.h2 S.g2 S.c2 [fb p (k:Nat),(0,.dead),fb (-1) 0]::H)=some (.normal,kA m P (sT (q8 (C4 P (fun q i=>S.g2 [q,(i:Int)]) k p) k)) w++[(136,.bool false)],dN S.h S.g S.c S.h2 S.g2 S.c2 (bT (-1) 0 (q8 (C4 P (fun q i=>S.g2 [q,(i:Int)]) k p) k))::H):=by
 refine jz 8 (fun j=>kA m P (sT (q8 (C4 P (fun q i=>S.g2 [q,(i:Int)]) k p) j)) w) (fun j=>dN S.h S.g S.c S.h2 S.g2 S.c2 (bT (oR (fun q i=>S.g2 [q,(i:Int)]) k p j) ((k-j:Nat):Int) (q8 (C4 P (fun q i=>S.g2 [q,(i:Int)]) k p) j))::H) k (kA m P (sT (q8 (C4 P (fun q i=>S.g2 [q,(i:Int)]) k p) k)) w++[(136,.bool false)],dN S.h S.g S.c S.h2 S.g2 S.c2 (bT (-1) 0 (q8 (C4 P (fun q i=>S.g2 [q,(i:Int)]) k p) k))::H) (by omega) (fun j hj=>?_) ?_
 · obtain ⟨t1,t2⟩:=htr j hj
   have ht:oR (fun q i=>S.g2 [q,(i:Int)]) k p (j+1)=S.g2 [oR (fun q i=>S.g2 [q,(i:Int)]) k p j,((k-j:Nat):Int)]:=rfl
   have hq:C4 P (fun q i=>S.g2 [q,(i:Int)]) k p j=P (oR (fun q i=>S.g2 [q,(i:Int)]) k p j).toNat:=rfl
   have e1:bQ .i64 ((k-j:Nat):Int) (Int.ofNat 1)=((k-(j+1):Nat):Int):=by rw[cG,show Int.ofNat 1=1 from rfl,cq (by omega) (by omega)];omega
   rw[CJ,hq,ht]
   have hl:=lG (C4 P (fun q i=>S.g2 [q,(i:Int)]) k p) j
   generalize oR (fun q i=>S.g2 [q,(i:Int)]) k p j=x at *
   have ei:aw 0 x 1=x.toNat:=by rw[bA];omega
   have ex1:c5 x (Int.negSucc 0)=false:=by rw[b8];exact beq_eq_false_iff_ne.2 (by show x≠-1;omega)
   cases e:q8 (C4 P (fun q i=>S.g2 [q,(i:Int)]) k p) j with
   | nil =>
     refine aE (MX n m P S.h S.g S.c S.h2 S.g2 S.c2 x ((k-j:Nat):Int) w H) (aC n) (af _ _) (ag _ _) ?_
     rw[ei,e1,ex1]
     exact wF
   | cons a r =>
     rw[e] at hl
     simp only[List.length_cons] at hl
     have e2:=sn (a::r) (P x.toNat)
     simp only[List.length_cons] at e2
     have e3:ak (r.length+1) 1=r.length+1+1:=by rw[a7]
     have e4:(r++[P x.toNat]).length=r.length+1:=by simp
     refine aE (MY n m r.length (r.length+1) P (bn (a::r)) S.h S.g S.c S.h2 S.g2 S.c2 x ((k-j:Nat):Int) w H) (aC n) (af _ _) (ag _ _) ?_
     rw[ei,e1,ex1,e2,e3]
     repeat' first | (refine Tr.al (fun hc=>?_) (fun hc=>?_)<;>(try simp (disch:=omega) only[nV,nW] at hc)<;>(try (exfalso;omega))) | (refine Tr.bj ?_ ?_;· ((try simp (disch:=omega) only[nV,nW]);try omega)) | (refine Tr.aB ?_ ?_;· first | exact trivial | rfl | exact ⟨rfl,rfl⟩ | exact ⟨trivial,rfl⟩ | exact ⟨rfl,by assumption⟩ | exact ⟨trivial,by assumption⟩ | exact ⟨rfl,rfl,rfl⟩ | (simp (disch:=omega) only[nV,nW];done) | ((try simp (disch:=omega) only[nV,nW]);omega)) | fail
     all_goals first
      | (refine Tr.ao ⟨rfl,?_⟩
         show _=(kA m P (.slc 0 5 (r++[P x.toNat]).length 0 1 ((r++[P x.toNat]).length+1) none) w,dN S.h S.g S.c S.h2 S.g2 S.c2 [_,_,_,((r++[P x.toNat]).length,.row (.M [.arr .i64 (bn (a::(r++[P x.toNat]))) ((r++[P x.toNat]).length+1)]))]::H)
         rw[e4];rfl)
      | fail
 · rw [hend,Nat.sub_self]
   cases e:q8 (C4 P (fun q i=>S.g2 [q,(i:Int)]) k p) k with
   | nil =>
     obtain ⟨x,h1,rfl⟩:=aE (Q:=fun x=>x=(.exit 8,kA m P .nils w++[(136,.bool false)],dN S.h S.g S.c S.h2 S.g2 S.c2 [fb (-1) 0,(0,.dead),fb (-1) 0]::H)) (MX n m P S.h S.g S.c S.h2 S.g2 S.c2 (-1) ((0:Nat):Int) w H) (aC n) (af _ _) (ag _ _) (by
      rw[b8,b8]
      exact Tr.al (fun hc=>by
       have:bL (g7 true true)=true:=hc
       simp (disch:=omega) only[nV,nW] at this) (fun _=>Tr.ao rfl))
     exact h1
   | cons a r =>
     obtain ⟨x,h1,rfl⟩:=aE (Q:=fun x=>x=(.exit 8,kA m P (.slc 0 5 r.length 0 1 (r.length+1) none) w++[(136,.bool false)],dN S.h S.g S.c S.h2 S.g2 S.c2 [fb (-1) 0,(0,.dead),fb (-1) 0,(r.length,.row (.M [.arr .i64 (bn (a::r)) (r.length+1)]))]::H)) (MY n m r.length (r.length+1) P (bn (a::r)) S.h S.g S.c S.h2 S.g2 S.c2 (-1) ((0:Nat):Int) w H) (aC n) (af _ _) (ag _ _) (by
      rw[b8,b8]
      exact Tr.al (fun hc=>by
       have:bL (g7 true true)=true:=hc
       simp (disch:=omega) only[nV,nW] at this) (fun _=>Tr.ao rfl))
     exact h1
end Go.Eng
end
section
namespace Go.Eng
open Go.Proofs
noncomputable def yK (v k:Nat) (i j:Int):av:=[(0,.slc 1 5 v 0 1 k none),(2,.int .i64 i),(3,.int .i64 j)]
noncomputable def qN (h:List Int→Bool) (g:List Int→Int) (c:Nat) (h2:List Int→Bool) (g2:List Int→Int) (c2:Nat) (x y:Int) (v k:Nat) (a:Nat→Int):bx:=dN h g c h2 g2 c2 [fb x y,(0,.dead),fb (-1) 0,(v,.row (.M [.arr .i64 a k]))]
theorem t94 (n v k:Nat) (a:Nat→Int) (h:List Int→Bool) (g:List Int→Int) (c:Nat) (h2:List Int→Bool) (g2:List Int→Int) (c2:Nat) (x y i j:Int) (H:aa):aK (bu n 94 28) (il aI n 0) aP aQ (part Tryz.f94 [1,0,0]) (hints (yK v k i j)) (an::qN h g c h2 g2 c2 x y v k a::H) =
 Tr.ite (cn i j) (Tr.req (cU j k) (Tr.req (dS v v) (Tr.req (bB (aw 0 j 1) k) (Tr.req (cU i k) (Tr.req (dS v v) (Tr.req (bB (aw 0 i 1) k) (Tr.req (cU i k) (Tr.req (dS v v) (Tr.req (bB (aw 0 i 1) k) (Tr.req (g7 (ju v v) (ju v (Nat.succ v))) (Tr.req (cU j k) (Tr.req (dS v v) (Tr.req (bB (aw 0 j 1) k) (Tr.req (g7 (ju v v) (ju v (Nat.succ v))) (Tr.ok (Ex.normal,[(0,AV.slc 1 5 v 0 1 k none,none),(2,AV.int .i64 (aS .i64 i (Int.ofNat 1)),none),(3,AV.int .i64 (bQ .i64 j (Int.ofNat 1)),none)],an::{ lock:=false,bs:=[(0,aj.fmap (KK.str 2) h g c),(0,aj.fmap (KK.str 2) h2 g2 c2),(0,aj.row (Row.I .i64 [x,y])),(0,aj.dead),(0,aj.row (Row.I .i64 [Int.negSucc 0,Int.ofNat 0])),(v,aj.row (Row.M [aM.arr .i64 (fz (fz a (aw 0 i 1) (a (aw 0 j 1))) (aw 0 j 1) (a (aw 0 i 1))) k]))] } :: H)))))))))))))))) (Tr.ok (Ex.exit 0,[(0,AV.slc 1 5 v 0 1 k none,none),(2,AV.int .i64 i,none),(3,AV.int .i64 j,none),(9,AV.bool false,some 1)],an::{ lock:=false,bs:=[(0,aj.fmap (KK.str 2) h g c),(0,aj.fmap (KK.str 2) h2 g2 c2),(0,aj.row (Row.I .i64 [x,y])),(0,aj.dead),(0,aj.row (Row.I .i64 [Int.negSucc 0,Int.ofNat 0])),(v,aj.row (Row.M [aM.arr .i64 a k]))] } :: H)):=by kernel_rfl
end Go.Eng
end
section
namespace Go.Eng
open Go.Proofs
noncomputable def Rr (v k:Nat) (a b:Nat→Int) (h:List Int→Bool) (g:List Int→Int) (c:Nat) (h2:List Int→Bool) (g2:List Int→Int) (c2:Nat) (x y:Int) (H:aa) (args:List AV) (G:aa):Tr (AV×aa) :=
 .reqP (args=[.slc 0 5 v 0 1 k none]∧G=qN h g c h2 g2 c2 x y v k a::H) (.ok (.tup [],qN h g c h2 g2 c2 x y v k b::H))
theorem Uw (n v k:Nat) (a b:Nat→Int) (h:List Int→Bool) (g:List Int→Int) (c:Nat) (h2:List Int→Bool) (g2:List Int→Int) (c2:Nat) (x y i j:Int) (H:aa):bt Tryz.prog (cd n) 100000 94 Tryz.f94 (KtB.kt 94) (il aI n 0) (dJ aP 0 (yK v k (Int.ofNat 0) (bQ .i64 (Int.ofNat k) (Int.ofNat 1))) (an::qN h g c h2 g2 c2 x y v k a::H) (.ok (.normal,hints (yK v k i j++[(9,.bool false)]),an::qN h g c h2 g2 c2 x y v k b::H))) aQ [(.slc 0 5 v 0 1 k none,none)] (qN h g c h2 g2 c2 x y v k a::H) =
 (fun (Z0:bx)=>((fun (Z1:av)=>Tr.reqP (Z1=Z1∧an::Z0::H=an::Z0::H) (Tr.ok ((AV.tup [],none),{ lock:=false,bs:=[(0,aj.fmap (KK.str 2) h g c),(0,aj.fmap (KK.str 2) h2 g2 c2),(0,aj.row (Row.I .i64 [x,y])),(0,aj.dead),(0,aj.row (Row.I .i64 [Int.negSucc 0,Int.ofNat 0])),(v,aj.row (Row.M [aM.arr .i64 b k]))] } :: H))) [(0,AV.slc 1 5 v 0 1 k none),(2,AV.int .i64 (Int.ofNat 0)),(3,AV.int .i64 (bQ .i64 (Int.ofNat k) (Int.ofNat 1)))])) { lock:=false,bs:=[(0,aj.fmap (KK.str 2) h g c),(0,aj.fmap (KK.str 2) h2 g2 c2),(0,aj.row (Row.I .i64 [x,y])),(0,aj.dead),(0,aj.row (Row.I .i64 [Int.negSucc 0,Int.ofNat 0])),(v,aj.row (Row.M [aM.arr .i64 a k]))] }:=by kernel_rfl
theorem RM:∀ b,(0,b) ∈ aV (bM Tryz.f94)→b=.loop (part Tryz.f94 [1,0,0]):=fM (by kernel_rfl)
theorem Ll (n:Nat) (H:aa):cd (n+2) (.fn 94) [.nils] H=some (.tup [],H):=by kernel_rfl
noncomputable def xS (k:Nat) (a:Nat→Int):Nat→Nat→Int
 | 0=>a
 | j+1=>fz (fz (xS k a j) j (xS k a j (k-1-j))) (k-1-j) (xS k a j j)
theorem Ae (k:Nat) (a:Nat→Int):∀ j,2*j≤k→∀ x,xS k a j x=if x<k∧(x<j∨k≤x+j) then a (k-1-x) else a x
 | 0,_,x=>by
   rw[if_neg (by omega)];rfl
 | j + 1,h,x=>by
   have ih:=Ae k a j (by omega)
   show fz (fz (xS k a j) j (xS k a j (k-1-j))) (k-1-j) (xS k a j j) x=_
   rw[qf,qf]
   dsimp only
   by_cases h1:x=k-1-j
   · rw[if_pos h1,ih,if_neg (by omega),if_pos (by omega),h1]
     congr 1;omega
   · rw[if_neg h1]
     by_cases h2:x=j
     · rw[if_pos h2,ih,if_neg (by omega),if_pos (by omega),h2]
     · rw[if_neg h2,ih]
       by_cases h3:x<k∧(x<j∨k≤x+j)
       · rw[if_pos h3,if_pos (by omega)]
       · rw[if_neg h3,if_neg (by omega)]
theorem Ih (L:List Int):xS L.length (bn L) (L.length / 2)=bn L.reverse:=by
 funext x
 rw[Ae _ _ _ (by omega),g5,g5]
 dsimp only
 simp only[List.getD_eq_getElem?_getD]
 by_cases hx:x<L.length
 · rw[List.getElem?_reverse hx]
   by_cases h3:x<L.length∧(x<L.length / 2∨L.length≤x+L.length / 2)
   · rw[if_pos h3]
   · rw[if_neg h3,show L.length-1-x=x by omega]
 · rw[if_neg (by omega),List.getElem?_eq_none (by omega),List.getElem?_eq_none (by simp;omega)]
section
variable (n v k:Nat) (a:Nat→Int) (h:List Int→Bool) (g:List Int→Int) (c:Nat) (h2:List Int→Bool) (g2:List Int→Int) (c2:Nat) (x y:Int) (H:aa)
theorem TP (h1:1≤k) (h3:k≤1000):exec (bu n 94 28) (.block 0 (.loop (part Tryz.f94 [1,0,0]))) (yK v k (Int.ofNat 0) (bQ .i64 (Int.ofNat k) (Int.ofNat 1))) (an::qN h g c h2 g2 c2 x y v k a::H)=some (.normal,yK v k ((k / 2:Nat):Int) ((k-1-k / 2:Nat):Int)++[(9,.bool false)],an::qN h g c h2 g2 c2 x y v k (xS k a (k / 2))::H):=by
 have e0:bQ .i64 (Int.ofNat k) (Int.ofNat 1)=((k-1-0:Nat):Int):=by
  rw[cG,show Int.ofNat 1=1 from rfl,show Int.ofNat k=(k:Int) from rfl,cq (by omega) (by omega)];omega
 rw[e0]
 refine jz 0 (fun j=>yK v k (j:Nat) ((k-1-j:Nat):Int)) (fun j=>an::qN h g c h2 g2 c2 x y v k (xS k a j)::H) (k / 2) (yK v k ((k / 2:Nat):Int) ((k-1-k / 2:Nat):Int)++[(9,.bool false)],an::qN h g c h2 g2 c2 x y v k (xS k a (k / 2))::H) (by omega) (fun j hj=>?_) ?_
 · have hst:xS k a (j+1)=fz (fz (xS k a j) j (xS k a j (k-1-j))) (k-1-j) (xS k a j j):=rfl
   rw[hst]
   generalize xS k a j=b
   have e1:aS .i64 (j:Int) (Int.ofNat 1)=((j+1:Nat):Int):=iu (by omega)
   have e2:bQ .i64 ((k-1-j:Nat):Int) (Int.ofNat 1)=((k-1-(j+1):Nat):Int):=by
    rw[cG,show Int.ofNat 1=1 from rfl,cq (by omega) (by omega)];omega
   have e3:aw 0 (j:Int) 1=j:=by rw[bA];omega
   have e4:aw 0 ((k-1-j:Nat):Int) 1=k-1-j:=by rw[bA];omega
   refine aE (t94 n v k b h g c h2 g2 c2 x y (j:Nat) ((k-1-j:Nat):Int) H) (aC n) (af _ _) (ag _ _) ?_
   rw[e1,e2,e3,e4]
   exact wF
 · generalize xS k a (k / 2)=b
   obtain ⟨q,q1,rfl⟩:=aE (Q:=fun q=>q=(.exit 0,yK v k ((k / 2:Nat):Int) ((k-1-k / 2:Nat):Int)++[(9,.bool false)],an::qN h g c h2 g2 c2 x y v k b::H)) (t94 n v k b h g c h2 g2 c2 x y ((k / 2:Nat):Int) ((k-1-k / 2:Nat):Int) H) (aC n) (af _ _) (ag _ _) (by
    refine Tr.al (fun hc=>?_) (fun hc=>Tr.ao rfl)
    simp (disch:=omega) only[nV,nW] at hc;omega)
   exact q1
theorem R5 (h1:1≤k) (h3:k≤1000):cd (n+1) (.fn 94) [.slc 0 5 v 0 1 k none] (qN h g c h2 g2 c2 x y v k a::H)=some (.tup [],qN h g c h2 g2 c2 x y v k (xS k a (k / 2))::H):=by
 have hx:=TP n v k a h g c h2 g2 c2 x y H h1 h3
 generalize xS k a (k / 2)=b at *
 refine aX (n:=n) Tryz.func94 rfl rfl rfl (Uw n v k a b h g c h2 g2 c2 x y ((k / 2:Nat):Int) ((k-1-k / 2:Nat):Int) H) (aC n) (bg (af _ _) RM (fun q h=>by rw[← Tr.ab h];simp only[dG.st,aF];exact hx)) (ag _ _) ?_
 exact wF
end
end Go.Eng
end
section
namespace Go.Eng
theorem BS {a:Nat→Int} {n:Nat} (ha:∀ i j,i≤j→j<n→a i≤a j):∀ j,j≤n→(oQ a j).Pairwise (· < ·)∧∀ x,x ∈ oQ a j↔∃ i,i<j∧a i=x
 | 0,_=>⟨List.Pairwise.nil,fun x=>⟨(fun h=>by cases h),(fun ⟨i,h,_⟩=>by omega)⟩⟩
 | j + 1,h=>by
   obtain ⟨i1,i2⟩:=BS ha j (by omega)
   have e:oQ a (j+1)=if j=0∨a j≠a (j-1) then oQ a j++[a j] else oQ a j:=rfl
   rw[e]
   by_cases c:j=0∨a j≠a (j-1)
   · rw[if_pos c]
     refine ⟨List.pairwise_append.2 ⟨i1,List.pairwise_singleton _ _,fun x hx y hy=>?_⟩,fun x=>?_⟩
     · obtain ⟨i,h1,h2⟩:=(i2 x).1 hx
       rw[List.mem_singleton] at hy
       subst hy;subst h2
       rcases c with c | c
       · omega
       · have h3:=ha i (j-1) (by omega) (by omega)
         have h4:=ha (j-1) j (by omega) (by omega)
         omega
     · rw[List.mem_append,List.mem_singleton,i2]
       constructor
       · rintro (⟨i,h1,h2⟩ | h1)
         · exact ⟨i,by omega,h2⟩
         · exact ⟨j,by omega,h1.symm⟩
       · rintro ⟨i,h1,h2⟩
         by_cases hi:i=j
         · subst hi;exact .inr h2.symm
         · exact .inl ⟨i,by omega,h2⟩
   · rw[if_neg c]
     have c1:j≠0:=fun h=>c (.inl h)
     have c2:a j=a (j-1):=Classical.byContradiction fun h=>c (.inr h)
     refine ⟨i1,fun x=>?_⟩
     rw[i2]
     constructor
     · rintro ⟨i,h1,h2⟩;exact ⟨i,by omega,h2⟩
     · rintro ⟨i,h1,h2⟩
       by_cases hi:i=j
       · subst hi;exact ⟨i-1,by omega,by rw[← c2];exact h2⟩
       · exact ⟨i,by omega,h2⟩
theorem CD (z g:Nat→Int):∀ j x,x ∈ zQ z g j↔∃ i,i<j∧bE z (g i).toNat=x
 | 0,x=>⟨(fun h=>by cases h),(fun ⟨i,h,_⟩=>by omega)⟩
 | j + 1,x=>by
   show x ∈ zQ z g j++[_]↔_
   rw[List.mem_append,List.mem_singleton,CD z g j]
   constructor
   · rintro (⟨i,h1,h2⟩ | h1)
     · exact ⟨i,by omega,h2⟩
     · exact ⟨j,by omega,h1.symm⟩
   · rintro ⟨i,h1,h2⟩
     by_cases hi:i=j
     · subst hi;exact .inr h2.symm
     · exact .inl ⟨i,by omega,h2⟩
theorem FX (l:Nat) (z:Nat→Int):(bS l z).Pairwise (· < ·)∧∀ x,x ∈ bS l z↔∃ i,i<l∧bE z i≤bG z i∧bE z i=x:=by
 have hA:(A0 l z).length=(dl (fw z) l).length:=sw _ _ _
 have hs:=KO (A0 l z)
 have hsl:=Iu (A0 l z)
 have hm:∀ i j,i≤j→j<(dl (fw z) l).length→bn (jr (A0 l z)) i≤bn (jr (A0 l z)) j:=fun i j h1 h2=>by
  rw[g5]
  dsimp only
  by_cases e:i=j
  · subst e;exact Int.le_refl _
  have:=List.pairwise_iff_getElem.1 hs i j (by omega) (by omega) (by omega)
  rw[List.getD_eq_getElem?_getD,List.getD_eq_getElem?_getD,List.getElem?_eq_getElem (by omega),List.getElem?_eq_getElem (by omega)]
  exact this
 obtain ⟨p1,p2⟩:=BS hm _ (Nat.le_refl _)
 refine ⟨p1,fun x=>?_⟩
 unfold bS
 rw[p2]
 have e1:(∃ i,i<(dl (fw z) l).length∧bn (jr (A0 l z)) i=x)↔x ∈ A0 l z:=by
  rw[← (Ge (A0 l z)).mem_iff,List.mem_iff_getElem]
  constructor
  · rintro ⟨i,h1,h2⟩
    refine ⟨i,by omega,?_⟩
    rw[← h2,g5]
    dsimp only
    rw[List.getD_eq_getElem?_getD,List.getElem?_eq_getElem (by omega)];rfl
  · rintro ⟨i,h1,h2⟩
    refine ⟨i,by omega,?_⟩
    rw[← h2,g5]
    dsimp only
    rw[List.getD_eq_getElem?_getD,List.getElem?_eq_getElem (by omega)];rfl
 rw[e1]
 unfold A0
 rw[CD]
 constructor
 · rintro ⟨i,h1,h2⟩
   have:=pO (dl (fw z) l) i h1
   obtain ⟨q,q1,q2,q3⟩:=(qt _ _ _).1 this
   rw[q1] at h2
   refine ⟨q,q2,?_,h2⟩
   unfold fw at q3
   split at q3
   · assumption
   · cases q3
 · rintro ⟨i,h1,h2,h3⟩
   have hin:(i:Int) ∈ dl (fw z) l:=(qt _ _ _).2 ⟨i,rfl,h1,by unfold fw;rw[if_pos h2]⟩
   obtain ⟨q,q1,q2⟩:=List.mem_iff_getElem.1 hin
   refine ⟨q,q1,?_⟩
   rw[g5]
   dsimp only
   rw[List.getD_eq_getElem?_getD,List.getElem?_eq_getElem q1,q2]
   exact h3
theorem xK {l:Nat} {z:Nat→Int} (h:bD l z=0):(bS l z).length≤14:=by
 have:=w8 (fw z) l
 have h2:=wX (bn (jr (A0 l z))) (dl (fw z) l).length
 have h3:=(bI h).1
 unfold bS
 omega
theorem ue {l:Nat} {z:Nat→Int} {P:Nat→Int} (hP:∀ i,i<(bS l z).length→P i=(bS l z).getD i 0) :
 (∀ i j,i<j→j<(bS l z).length→P i<P j)∧(∀ i,i<l→bE z i≤bG z i→∃ j,j<(bS l z).length∧P j=bE z i)∧∀ j,j<(bS l z).length→∃ i,i<l∧bE z i≤bG z i∧P j=bE z i:=by
 obtain ⟨p1,p2⟩:=FX l z
 have hg:∀ i (h:i<(bS l z).length),P i=(bS l z)[i]:=fun i h=>by
  rw[hP i h,List.getD_eq_getElem?_getD,List.getElem?_eq_getElem h];rfl
 refine ⟨fun i j hij hj=>?_,fun i hi hc=>?_,fun j hj=>?_⟩
 · rw[hg i (by omega),hg j hj]
   exact List.pairwise_iff_getElem.1 p1 i j (by omega) hj hij
 · obtain ⟨j,j1,j2⟩:=List.mem_iff_getElem.1 ((p2 _).2 ⟨i,hi,hc,rfl⟩)
   exact ⟨j,j1,by rw[hg j j1,j2]⟩
 · obtain ⟨i,i1,i2,i3⟩:=(p2 _).1 (List.getElem_mem hj)
   exact ⟨i,i1,i2,by rw[hg j hj,i3]⟩
end Go.Eng
end
section
namespace Go.Eng
open Go.Proofs
theorem GP {h:List Int→Bool} {g:List Int→Int} {c:Nat} (hE:∃ es,oT (.str 2) es h g c) (h0:h [-1,0]=true):∃ r,sE h g r:=by
 obtain ⟨es,hE⟩:=hE
 obtain ⟨ks,k1,k2,k3,k4⟩:=BU hE (List.range es.length) (fun j hj=>by simpa using hj)
 obtain ⟨s1,s2⟩:=mf (g:=g) ks (-1,0)
 refine ⟨BO g ks (-1,0),?_,fun e he=>s2 e (.inr ?_)⟩
 · rcases s1 with s1 | s1
   · rw[s1];exact h0
   · exact k2 _ s1
 · obtain ⟨_,j,j1,j2⟩:=hE.all _ he
   obtain ⟨e',e1,e2⟩:=k3 j (by simpa using j1) _ j2
   simp only[List.cons.injEq,and_true] at e2
   rw[show e=e' from Prod.ext e2.1 e2.2]
   exact e1
structure Mo (l:Nat) (z:Nat→Int) (K:Nat) (M:Int) (B:List Int):Prop where
 most:fL l (bE z) (bG z) (cF z) K M
 wo:lZ l (bE z) (bG z) (cF z) B=M
 len:B.length≤K
 srt:B.Pairwise (· < ·)
 rg:∀ x ∈ B,-10000≤x∧x≤10000
theorem IC (P:Nat→Int) (b:Int→Nat→Int) (k:Nat) (p:Int):((List.range k).map fun j=>P (oR b k p j).toNat).reverse=Ay P b k p:=by
 refine List.ext_getElem (by simp[lL]) (fun i h1 h2=>?_)
 rw[lL] at h2
 have:=Gp P b k p i h2
 rw[List.getD_eq_getElem?_getD,List.getElem?_eq_getElem (by rw[lL];exact h2)] at this
 simp only[Option.getD_some] at this
 rw[this]
 simp
theorem uG {l:Nat} {z:Nat→Int} (h:bD l z=0):∀ i,i<l→0≤cF z i:=fun i hi=>by
 have:=(bI h).2 i hi
 unfold cF;omega
theorem L0 {l:Nat} {z:Nat→Int} (h:bD l z=0) {i:Nat} (hi:i<l) (hc:bE z i≤bG z i):-10000≤bE z i∧bE z i≤10000∧bG z i≤10000:=by
 have:=(bI h).2 i hi
 unfold bE bG at *;omega
theorem L8 {l K m:Nat} {z P:Nat→Int} (h:bD l z=0) (hm:m=(bS l z).length) (hP:∀ i,i<(bS l z).length→P i=(bS l z).getD i 0) :
 ∃ (p:Int) (k:Nat),sE (gf (eR l z P) K m cV).h (gf (eR l z P) K m cV).g (p,(k:Int))∧k≤K ∧
  (∀ j,j<k→0≤oR (fun q i=>(gf (eR l z P) K m cV).g2 [q,(i:Int)]) k p j∧oR (fun q i=>(gf (eR l z P) K m cV).g2 [q,(i:Int)]) k p j<m) ∧
  oR (fun q i=>(gf (eR l z P) K m cV).g2 [q,(i:Int)]) k p k=-1 ∧
  Mo l z K ((gf (eR l z P) K m cV).g [p,(k:Int)]) (Ay P (fun q i=>(gf (eR l z P) K m cV).g2 [q,(i:Int)]) k p):=by
 obtain ⟨P1,P2,P3⟩:=ue hP
 rw[← hm] at P1 P2 P3
 have t:=KP l (bE z) (bG z) (cF z) P m K
 have hB:=Jx (a:=yg l (bE z) (bG z) (cF z) P) (W:=gG (cF z) l) (fun f p=>Em (uG h) f p) (K:=K) m
 have hE:=JQ (a:=yg l (bE z) (bG z) (cF z) P) (K:=K) m
 show ∃ (p:Int) (k:Nat),sE (gf (yg l (bE z) (bG z) (cF z) P) K m cV).h (gf (yg l (bE z) (bG z) (cF z) P) K m cV).g (p,(k:Int))∧k≤K ∧
  (∀ j,j<k→0≤oR (fun q i=>(gf (yg l (bE z) (bG z) (cF z) P) K m cV).g2 [q,(i:Int)]) k p j∧oR (fun q i=>(gf (yg l (bE z) (bG z) (cF z) P) K m cV).g2 [q,(i:Int)]) k p j<m) ∧
  oR (fun q i=>(gf (yg l (bE z) (bG z) (cF z) P) K m cV).g2 [q,(i:Int)]) k p k=-1 ∧
  Mo l z K ((gf (yg l (bE z) (bG z) (cF z) P) K m cV).g [p,(k:Int)]) (Ay P (fun q i=>(gf (yg l (bE z) (bG z) (cF z) P) K m cV).g2 [q,(i:Int)]) k p)
 generalize gf (yg l (bE z) (bG z) (cF z) P) K m cV=S at *
 obtain ⟨⟨p,q⟩,hr⟩:=GP hE t.at0.1
 have hq:=hB p q hr.1
 obtain ⟨k,rfl⟩:∃ k:Nat,q=k:=⟨q.toNat,by omega⟩
 have hh:(fun (p:Int) (n:Nat)=>S.h [p,(n:Int)]) p k=true:=hr.1
 have hk:k≤K:=by
  rcases t.from_ p k hh with ⟨_,e⟩ | ⟨_,_,_,e,_⟩<;>omega
 have hg:∀ q k',S.h [q,((k':Nat):Int)]=true→S.g [q,(k':Int)]≤S.g [p,(k:Int)]:=fun q k' hq=>by
  have:=sQ.1 (hr.2 (q,(k':Int)) hq)
  dsimp only at this
  omega
 obtain ⟨w1,w2,w3,_⟩:=Gj t P1 k p hh
 have a1:=fun j hj=>Bt t hh j hj
 refine ⟨p,k,hr,hk,fun j hj=>(a1 j (by omega)).2 hj,Gk t hh,⟨IA t P1 (uG h) P2 hh hk hg,w1,by rw[lL];exact hk,w3,fun x hx=>?_⟩⟩
 obtain ⟨i,i1,_,rfl⟩:=w2 x hx
 obtain ⟨j,j1,j2,j3⟩:=P3 i i1
 have:=L0 h j1 j2
 omega
end Go.Eng
end
