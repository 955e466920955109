/- Gall: count: the range over the sets, in whatever order. -/
import Derived.Test.YtgphpjdchnfjlaaDoorV4GaQx6
import Derived.Test.YtgphpjdchnfjlaaDoorV4EngTkx3
import Derived.Test.YtgphpjdchnfjlaaDoorV4Gp2x6
import Derived.Shelf.SortM.Plain
import Derived.Shelf.Spec.TrailingZeros
import Derived.Test.YtgphpjdchnfjlaaDoorProg
set_option linter.unusedVariables false
set_option linter.unusedSimpArgs false
set_option maxRecDepth 100000
section
namespace Go.Eng.Q
open Go.Proofs Go.Eng.Gall
theorem qv (L:List Int) (v:Int):qe (xU (aX L) 0) L.length (aX [v])=aX (L++[v]):=by
 rw[lV,nB,kx];funext i
 by_cases h:i<L.length
 · simp[h,List.getElem?_append]
 · by_cases h2:i=L.length
   · subst h2;simp
   · have e1:[v][i-L.length]?=none:=List.getElem?_eq_none (by simp;omega)
     have e2:(L++[v])[i]?=none:=List.getElem?_eq_none (by simp;omega)
     simp only[h,if_false,List.getD_eq_getElem?_getD,e1,e2]
theorem Ev {L:bE} {cx:Cx} {callR:bj} {bl:eI} {rg:nu} {k n:Nat} {kv:AV×AV} {fr fr':au} {l l':bH} {R:aa} {T:Tr (aN×aa)} (e:L.si cx callR bl rg k n kv (hints fr) (l::R)=T) (hC:callR.Ok cx.call) (hB:bl.Ok cx L.rest) (hR:rg.Ok cx L.rest)
 (h:T.all fun y=>strip y.1=fr'∧y.2=l'::R):fQ L cx k n R kv (fr,l)=some (fr',l'):=by
 obtain ⟨y,h1,h2,h3⟩:=h
 have:=bE.Ct hC hB hR (by rw[e];exact h1)
 rw[bp,h2,h3] at this
 unfold fQ
 rw[this]
theorem wZ {L:bE} {cx:Cx} {callR:bj} {fr:au} {H:aa} {T:Tr (aN×aa)} (e:L.uc cx callR (hints fr) H=T) (hC:callR.Ok cx.call) {y:au×aa} (h:T.all fun z=>(strip z.1,z.2)=y):L.last cx fr H=some y:=by
 obtain ⟨z,h1,rfl⟩:=h
 have:=bE.DW hC (by rw[e];exact h1)
 rw[bp] at this;exact this
noncomputable def Ke (g:List Int→Int) (e:Int):AV×AV:=(.int .u64 e,.int .i64 (g [e]))
noncomputable def GC (k:Int):List Int→au×bH
 | []=>(iz k++[(6,.nils),(18,.map 2 1),(19,.ptr 0 0 0 0)],QB)
 | a::r=>(iz k++[(6,.slc 0 2 r.length 0 1 (r.length+1) none),(19,.ptr 0 0 0 0)],fU a r.length (r.length+1) (aX (a::r)))
theorem Tg (n:Nat) (k:Int) (g:List Int→Int) (R:aa) (xs:List Int) (e:Int) (hx:xs.length≤2000):fQ cL (nv n) 0 1 R (Ke g e) (GC k xs)=some (GC k (xs++[e])):=by
 cases xs with
 | nil =>
   refine Ev (Tk n k e (g [e]) R) (aJ n) (ak _ _) (al _ _) ?_
   exact wF
 | cons a r =>
   simp only[List.length_cons] at hx
   have e1:=qv (a::r) e
   simp only[List.length_cons] at e1
   have e3:aF (r.length+1) 1=r.length+1+1:=by rw[a6]
   have e4:(r++[e]).length=r.length+1:=by simp
   have T:=tB n k e (g [e]) a r.length (r.length+1) (aX (a::r)) R
   rw[e1,e3] at T
   refine Ev T (aJ n) (ak _ _) (al _ _) ?_
   show Tr.all _ (fun y:aN×aa=>strip y.1=iz k++[(6,.slc 0 2 (r++[e]).length 0 1 ((r++[e]).length+1) none),(19,.ptr 0 0 0 0)]∧y.2=fU a (r++[e]).length ((r++[e]).length+1) (aX (a::r++[e]))::R)
   rw[e4]
   generalize aX (a::r++[e])=Y at *
   exact wF
theorem Hk (n:Nat) (k:Int) (g:List Int→Int) (R:aa):∀ (ks xs:List Int),xs.length+ks.length≤2000→fH cL (nv n) 0 1 R (ks.map (Ke g)) (GC k xs)=some (GC k (xs++ks))
 | [],xs,_=>by rw[List.append_nil];rfl
 | e::ks,xs,h=>by
   show (match fQ cL (nv n) 0 1 R (Ke g e) (GC k xs) with
    | some t=>fH cL (nv n) 0 1 R (ks.map (Ke g)) t
    | none=>none)=_
   rw[List.length_cons] at h
   rw[Tg n k g R xs e (by omega)]
   have:=Hk n k g R ks (xs++[e]) (by rw[List.length_append,List.length_singleton];omega)
   rw[List.append_assoc] at this
   exact this
theorem KV {es:List (AV×AV)} {h:List Int→Bool} {g:List Int→Int} {c:Nat} (hE:qm (.num .u64) es h g c):∀ vs:List Nat,vs.Nodup→(∀ j ∈ vs,j<es.length) →
 ∃ ks:List Int,(vs.map fun j=>(es.map fun e=>(kO (1+1) e.1,kO (1+1) e.2)).getD j (.undef,.undef))=ks.map (Ke g)∧(∀ y ∈ ks,h [y]=true)∧(∀ j ∈ vs,∀ y,(es.getD j (.undef,.undef)).1=.int .u64 y→y ∈ ks)∧(∀ y ∈ ks,∃ j ∈ vs,(es.getD j (.undef,.undef)).1=.int .u64 y)∧ks.Nodup
 | [],_,_=>⟨[],rfl,fun e he=>(by cases he),fun j hj=>(by cases hj),fun e he=>(by cases he),List.nodup_nil⟩
 | j :: vs,hn,hv=>by
   rw[List.nodup_cons] at hn
   obtain ⟨l,l1,l2,l3,l4,l5⟩:=KV hE vs hn.2 (fun i hi=>hv i (List.mem_cons_of_mem _ hi))
   have hj:=hv j (by simp)
   obtain ⟨m,e1,e2⟩:=hE.ent j hj
   have hlen:m.length=1:=Nat.eq_of_beq_eq_true (hE.all _ e2).1
   obtain ⟨a,rfl⟩:∃ a,m=[a]:=by
    match m,hlen with
    | [a],_=>exact ⟨a,rfl⟩
   have e1':es[j]'hj=(.int .u64 a,.int .i64 (g [a])):=by
    rw[List.getD_eq_getElem?_getD,List.getElem?_eq_getElem hj] at e1
    exact e1
   refine ⟨a::l,?_,fun y hy=>?_,fun i hi y hy=>?_,fun y hy=>?_,List.nodup_cons.2 ⟨fun ha=>?_,l5⟩⟩
   · rw[List.map_cons,List.map_cons,l1]
     congr 1
     rw[List.getD_eq_getElem?_getD,List.getElem?_eq_getElem (by simpa using hj),List.getElem_map,e1']
     rfl
   · rcases List.mem_cons.1 hy with rfl | hy
     · exact e2
     · exact l2 y hy
   · rcases List.mem_cons.1 hi with rfl | hi
     · rw[e1] at hy
       have hy:AV.int IntKind.u64 a=AV.int IntKind.u64 y:=hy
       injection hy with _ hy
       subst hy;simp
     · exact List.mem_cons_of_mem _ (l3 i hi y hy)
   · rcases List.mem_cons.1 hy with rfl | hy
     · exact ⟨j,by simp,by rw[e1];rfl⟩
     · obtain ⟨i,i1,i2⟩:=l4 y hy
       exact ⟨i,List.mem_cons_of_mem _ i1,i2⟩
   · obtain ⟨i,i1,i2⟩:=l4 a ha
     have:i=j:=hE.nd i j (hv i (List.mem_cons_of_mem _ i1)) hj (by rw[i2,e1];rfl)
     subst this
     exact hn.1 i1
theorem FV {vs:List Nat} {n:Nat} (hn:vs.Nodup) (hl:vs.length=n) (hb:∀ j ∈ vs,j<n) {j:Nat} (hj:j<n):j ∈ vs:=by
 apply Classical.byContradiction
 intro hc
 have:=jQ (L:=j::vs) (M:=List.range n) (List.nodup_cons.2 ⟨hc,hn⟩) (fun i hi=>by
  rcases List.mem_cons.1 hi with rfl | hi
  · simpa using hj
  · simpa using hb i hi)
 simp only[List.length_cons,List.length_range] at this
 omega
theorem Fm {es:List (AV×AV)} {h:List Int→Bool} {g:List Int→Int} {c:Nat} (hE:qm (.num .u64) es h g c) (vs:List Nat) (hn:vs.Nodup) (hl:vs.length=es.length) (hv:∀ j ∈ vs,j<es.length) :
 ∃ ks:List Int,(vs.map fun j=>(es.map fun e=>(kO (1+1) e.1,kO (1+1) e.2)).getD j (.undef,.undef))=ks.map (Ke g)∧(∀ y,y ∈ ks↔h [y]=true)∧ks.Nodup:=by
 obtain ⟨ks,k1,k2,k3,_,k5⟩:=KV hE vs hn hv
 refine ⟨ks,k1,fun y=>⟨k2 y,fun hy=>?_⟩,k5⟩
 obtain ⟨_,j,j1,j2⟩:=hE.all _ hy
 exact k3 j (FV hn hl hv j1) y j2
theorem Lz {es es':List (AV×AV)} {h:List Int→Bool} {g:List Int→Int} {c c':Nat} (hE:qm (.num .u64) es h g c) (hE':qm (.num .u64) es' h g c'):c=c':=by
 obtain ⟨ks,a1,a2,a3⟩:=Fm hE (List.range es.length) List.nodup_range (by simp) (fun j hj=>by simpa using hj)
 obtain ⟨ks',b1,b2,b3⟩:=Fm hE' (List.range es'.length) List.nodup_range (by simp) (fun j hj=>by simpa using hj)
 have e1:=congrArg List.length a1
 have e2:=congrArg List.length b1
 simp only[List.length_map,List.length_range] at e1 e2
 have:=((List.perm_ext_iff_of_nodup a3 b3).2 (fun y=>(a2 y).trans (b2 y).symm)).length_eq
 have:=hE.len
 have:=hE'.len
 omega
noncomputable def fv (W B:Nat→Int) (lc k q:Nat):CS:=lD (fun Y=>decide (0<cF lc (okW W B) k Y)) (fun Y=>cF lc (okW W B) k Y) q
theorem N7 (W B:Nat→Int) (lc k q:Nat):lD (hD lc (okW W B) k []) (gD lc (okW W B) k []) q=fv W B lc k q:=by
 unfold fv
 congr 1
 funext Y;unfold hD;simp
theorem zx {W B:Nat→Int} {lc k q:Nat} {y:Int}:(fv W B lc k q).h [y]=true↔∃ Y:Nat,y=(Y:Int)∧0<cF lc (okW W B) k Y:=by
 show (decide (0≤y) && decide (0<cF lc (okW W B) k y.toNat))=true↔_
 rw[Bool.and_eq_true,decide_eq_true_iff,decide_eq_true_iff]
 constructor
 · rintro ⟨a,b⟩;exact ⟨y.toNat,by omega,b⟩
 · rintro ⟨Y,rfl,b⟩;exact ⟨by omega,by rw[Int.toNat_natCast];exact b⟩
theorem Le {W B:Nat→Int} {lc k q:Nat} {ks:List Int} (hn:ks.Nodup) (hk:∀ y,y ∈ ks↔(fv W B lc k q).h [y]=true):∃ Ks:List Nat,ks=Ks.map (fun X:Nat=>(X:Int))∧Ks.Nodup∧∀ X,X ∈ Ks↔0<cF lc (okW W B) k X:=by
 have e:ks=(ks.map Int.toNat).map (fun X:Nat=>(X:Int)):=by
  rw[List.map_map]
  conv=>lhs;rw[← List.map_id ks]
  apply List.map_congr_left
  intro y hy
  obtain ⟨Y,h1,_⟩:=zx.1 ((hk y).1 hy)
  show y=((y.toNat:Nat):Int)
  omega
 refine ⟨ks.map Int.toNat,e,?_,fun X=>?_⟩
 · rw[e] at hn
   exact List.Pairwise.of_map (S:=fun a b=>a≠b) _ (fun a b h e=>h (by rw[e])) hn
 · rw[List.mem_map]
   constructor
   · rintro ⟨y,hy,rfl⟩
     obtain ⟨Y,h1,h2⟩:=zx.1 ((hk y).1 hy)
     rw[h1,Int.toNat_natCast];exact h2
   · intro h
     exact ⟨(X:Int),(hk _).2 (zx.2 ⟨X,rfl,h⟩),Int.toNat_natCast X⟩
theorem K2 {W B:Nat→Int} {lc k q:Nat} (hl:lc≤10) (hk10:k≤10) (hG:Gd (fv W B lc k q)) {ks:List Int} (hn:ks.Nodup) (hk:∀ y,y ∈ ks↔(fv W B lc k q).h [y]=true) :
 ks.length≤1024∧∃ q',EO W B (k:Int) lc (aX ks) ks.length (fv W B lc k q)=fv W B lc (k+1) q'∧Gd (fv W B lc (k+1) q'):=by
 obtain ⟨Ks,rfl,h1,h2⟩:=Le hn hk
 rw[List.length_map]
 constructor
 · have:=jQ (L:=Ks) (M:=List.range (2 ^ lc)) h1 (fun X hX=>List.mem_range.2 (C8 ((h2 X).1 hX)))
   rw[List.length_range] at this
   exact Nat.le_trans this (Nat.pow_le_pow_right (by decide) hl:2 ^ lc≤2 ^ 10)
 · rw[← N7] at hG ⊢
   obtain ⟨q',e,hG'⟩:=JY W B k lc hl hk10 q Ks (aX (Ks.map (fun X:Nat=>(X:Int)))) (fun j hj=>by
    rw[gp]
    show (List.map (fun X:Nat=>(X:Int)) Ks).getD j 0=_
    rw[List.getD_eq_getElem?_getD,List.getElem?_eq_getElem (by simpa using hj),List.getElem_map];rfl) h1 (fun x hx=>(h2 x).1 hx) hG Ks.length (Nat.le_refl _)
   rw[e] at hG' ⊢
   rw[List.take_length] at hG' ⊢
   have e2:lD (hD lc (okW W B) k Ks) (gD lc (okW W B) k Ks) q'=fv W B lc (k+1) q':=by
    unfold fv
    congr 1
    · funext Y;exact I9 h2 Y
    · funext Y;exact I7 h1 h2 Y
   rw[e2] at hG' ⊢
   exact ⟨q',rfl,hG'⟩
section
variable (n k:Nat) (dr:Int) (lc:Nat) (zc:Nat→Int) (lb:Nat) (zb:Nat→Int) (W B:Nat→Int) (b:az) (G:aa)
theorem IU (hl:lc≤10) (hk:k≤10) (q:Nat) (hG:Gd (fv W B lc k q)):∃ q',Gd (fv W B lc (k+1) q') ∧
 Ae (nv (n+1)) cL qf 1 0 (aC::ie dr lc zc lb zb W B b (fv W B lc k q)::G) (bt (aC::ie dr lc zc lb zb W B b (fv W B lc k q)::G)) (GC (k:Int) []) (.num .u64) (fv W B lc k q).h (fv W B lc k q).g (fv W B lc k q).q 0 (.normal,aC::aC::ie dr lc zc lb zb W B b (fv W B lc (k+1) q')::G):=by
 obtain ⟨es0,hE0⟩:=hG
 obtain ⟨ks0,_,o2,o3⟩:=Fm hE0 (List.range es0.length) List.nodup_range (by simp) (fun j hj=>by simpa using hj)
 obtain ⟨_,q',_,hG'⟩:=K2 hl hk ⟨es0,hE0⟩ o3 o2
 refine ⟨q',hG',rfl,fun es hE vs hn hlen hv=>?_⟩
 obtain ⟨ks,k1,k2,k3⟩:=Fm hE vs hn hlen hv
 obtain ⟨c1,q2,c2,c3⟩:=K2 hl hk ⟨es,hE⟩ k3 k2
 have eq:q2=q':=by
  obtain ⟨e1,h1⟩:=c3
  obtain ⟨e2,h2⟩:=hG'
  exact Lz h1 h2
 subst eq
 rw[k1]
 have hf:=Hk (n+1) (k:Int) (fv W B lc k q).g (bt (aC::ie dr lc zc lb zb W B b (fv W B lc k q)::G)) ks [] (by simp;omega)
 rw[List.nil_append] at hf
 refine ⟨GC (k:Int) ks,?_⟩
 cases ks with
 | nil =>
   refine ⟨MZ k,QB,hf,wZ (Tl (n+1) k _) (aJ _) (Tr.ah rfl),?_⟩
   rw[dv]
   have h:=kf (y:=(.normal,_,_)) (tZ (n+1) k (ie dr lc zc lb zb W B b (fv W B lc k q)::G)) (aJ _) (ak _ _) (al _ _) (Tr.ah rfl)
   refine ⟨_,_,h,?_⟩
   have c2:fv W B lc k q=fv W B lc (k+1) q2:=c2
   rw[c2];rfl
 | cons a r =>
   refine ⟨M7 k r.length (r.length+1),fU a r.length (r.length+1) (aX (a::r)),hf,wZ (tX (n+1) k a r.length (r.length+1) (aX (a::r)) _) (aJ _) (Tr.ah rfl),?_⟩
   rw[dv]
   rw[List.length_cons] at c1 c2
   have h:=O5 n k a r.length (r.length+1) (aX (a::r)) dr lc zc lb zb W B b G (by omega) hl (fv W B lc k q)
   rw[c2] at h
   exact ⟨_,_,h,rfl⟩
theorem Gz (hl:lc≤10) (hk:k≤10) (q:Nat) (hG:Gd (fv W B lc k q)):∃ q',Gd (fv W B lc (k+1) q') ∧
 jS (nv (n+1)) cS cL qf (iz (k:Int)++[(6,.nils)]) (aC::aC::ie dr lc zc lb zb W B b (fv W B lc k q)::G)=some (.normal,[],aC::aC::ie dr lc zc lb zb W B b (fv W B lc (k+1) q')::G):=by
 obtain ⟨q',hG',hends⟩:=IU n k dr lc zc lb zb W B b G hl hk q hG
 refine ⟨q',hG',?_⟩
 obtain ⟨es,hE⟩:=hG
 generalize fv W B lc k q=s at *
 have hp:dS (nv (n+1)).P (nv (n+1)).nt (nv (n+1)).call cS.ops0 cS.pre (iz (k:Int)++[(6,.nils)]) (aC::aC::ie dr lc zc lb zb W B b s::G)=some (iz (k:Int)++[(6,.nils),(18,.map 2 1)],aC::aC::ie dr lc zc lb zb W B b s::G):=by
  have:=dV.Gx (S:=cS) (cx:=nv (n+1)) (callR:=il aV (n+1) 0) (aJ _) (fr:=hints (iz (k:Int)++[(6,.nils)])) (H:=aC::aC::ie dr lc zc lb zb W B b s::G) (by
   show (dV.JH _ _ _ _ _).run=_
   exact congrArg Tr.run (tS (n+1) k dr lc zc lb zb W B s.h s.g s.q b G))
  rw[bp] at this
  exact this
 unfold jS
 rw[hp]
 show (@dite _ (∃ y,Ae (nv (n+1)) cL qf 1 0 (aC::ie dr lc zc lb zb W B b s::G) (bt (aC::ie dr lc zc lb zb W B b s::G)) (GC (k:Int) []) (.num .u64) s.h s.g s.q 0 y) (Classical.propDecidable _)
  (fun hx=>some ((Classical.choose hx).1,[],(Classical.choose hx).2)) (fun _=>none))=_
 have hex:∃ y,Ae (nv (n+1)) cL qf 1 0 (aC::ie dr lc zc lb zb W B b s::G) (bt (aC::ie dr lc zc lb zb W B b s::G)) (GC (k:Int) []) (.num .u64) s.h s.g s.q 0 y:=⟨_,hends⟩
 rw[dif_pos hex]
 have hc:=Classical.choose_spec hex
 generalize Classical.choose hex=Y at *
 obtain ⟨s1,f1,l1,e1,e2,frY,HY,e3,e4⟩:=hc.2 es hE (List.range es.length) List.nodup_range (by simp) (fun j hj=>by simpa using hj)
 obtain ⟨s2,f2,l2,g1,g2,frZ,HZ,g3,g4⟩:=hends.2 es hE (List.range es.length) List.nodup_range (by simp) (fun j hj=>by simpa using hj)
 rw[e1] at g1
 obtain rfl:=Option.some.inj g1
 rw[e2] at g2
 simp only[Option.some.injEq,Prod.mk.injEq,List.cons.injEq,and_true] at g2
 obtain ⟨rfl,rfl⟩:=g2
 rw[e3] at g3
 simp only[nP] at g3
 obtain ⟨h1,_,rfl⟩:=g3
 rw[e4] at g4
 rw[h1,g4]
end
end Go.Eng.Q
end
section
namespace Go.Eng.Q
open Go.Proofs Go.Eng.Gall
def Fh (g:FuncId) (c:bj):bj:=fun tgt args H=>match tgt with
 | .fn f=>cond (Nat.beq f g) .bad (c (.fn f) args H)
 | .round _ _=>.bad
 | .mode=>c .mode args H
noncomputable def qg (C:aA):Cx:=⟨Tryd.prog,C,100000,90,18,KtG.kt 90,none⟩
noncomputable def KS (C:aA):Cx:=⟨Tryd.prog,C,100000,73,83,KtG.kt 73,none⟩
noncomputable def s5 (lc:Nat) (j:Int):au:=[(0,.yld 1 4),(9,.int .i64 (Int.ofNat lc)),(10,.int .i64 j)]
theorem t90 (n:Nat) (C:aA) (lc:Nat) (j:Int) (G G':aa):aT (qg C) (MC (Fh 1000000 (il aV n 0)) 1 4 [.int .i64 j] (aC::G) (.ok (.bool true,aC::G'))) bc ba (part Tryd.f90 [1,0,0]) (hints (s5 lc j)) (aC::G) =
 Tr.ite (cY j (Int.ofNat lc)) (Tr.reqP ([AV.int .i64 j]=[AV.int .i64 j]∧aC::G=aC::G) (Tr.ite (bz true) (Tr.ok (Ex.ret,[(0,AV.yld 1 4,none),(9,AV.int .i64 (Int.ofNat lc),none),(10,AV.int .i64 j,none),(16,AV.bool true,some 1)],aC::G')) (Tr.ok (Ex.normal,[(0,AV.yld 1 4,none),(9,AV.int .i64 (Int.ofNat lc),none),(10,AV.int .i64 (bf .i64 j (Int.ofNat 1)),none)],aC::G')))) (Tr.ok (Ex.exit 0,[(0,AV.yld 1 4,none),(9,AV.int .i64 (Int.ofNat lc),none),(10,AV.int .i64 j,none),(11,AV.bool false,some 1)],aC::G)):=by kernel_rfl
theorem Pe (n:Nat) (C:aA) (lc:Nat) (j:Int) (G:aa):aT (qg C) (Fh 1000000 (il aV n 0)) bc ba (part Tryd.f90 [1,0,0]) (hints (s5 lc j)) (aC::G) =
 Tr.ite (cY j (Int.ofNat lc)) Tr.bad (Tr.ok (Ex.exit 0,[(0,AV.yld 1 4,none),(9,AV.int .i64 (Int.ofNat lc),none),(10,AV.int .i64 j,none),(11,AV.bool false,some 1)],aC::G)):=by kernel_rfl
end Go.Eng.Q
end
section
namespace Go.Eng.Q
open Go.Proofs Go.Eng.Gall
noncomputable def QC (s:Nat) (A:AV):AV:=.fn (.func 90) [] [.ptrT (some s) (.G [A]) 0]
noncomputable def dJ (A:AV):au:=[(1,.ptr 0 0 0 0),(3,.ptr 0 2 0 0),(4,.ptr 0 3 0 0),(16,QC 0 A)]
noncomputable def Kg (dr:Int) (lc:Nat) (zc:Nat→Int) (lb:Nat) (zb:Nat→Int) (W B:Nat→Int):bH:=⟨false,[(0,.row (.G [shV dr lc zc lb zb W B])),(0,.fmap (.num .u64) (lS (fun _=>false) [Int.ofNat 0] true) (lT (fun _=>Int.ofNat 0) [Int.ofNat 0] (Int.ofNat 1)) (pI false 0)),(0,.row (.G [.map 0 1])),(0,.row (.G [.fn (.func 71) [shV dr lc zc lb zb W B] []]))]⟩
theorem Tm (n:Nat) (k:Int) (A:AV) (H:aa):aT (nv n) (il aV n 0) bc ba (part Tryd.f73 [1,1,1,0,1,0,0]) (hints [(1,.ptr 2 0 0 0),(3,.ptr 2 2 0 0),(4,.ptr 2 3 0 0),(16,QC 2 A),(17,.int .i64 k)]) (aC::H) =
 Tr.ok (Ex.normal,[(1,AV.ptr 2 0 0 0,none),(3,AV.ptr 2 2 0 0,none),(4,AV.ptr 2 3 0 0,none),(5,AV.int .i64 k,none)],aC::H):=by kernel_rfl
theorem TK (n:Nat) (C:aA) (dr:Int) (lc:Nat) (zc:Nat→Int) (lb:Nat) (zb:Nat→Int) (W B:Nat→Int) (G G':aa):bu Tryd.prog C 100000 90 Tryd.f90 (KtG.kt 90) (Fh 1000000 (il aV n 0)) (dy bc 0 (s5 lc (Int.ofNat 0)) (aC::G) (.ok (.normal,hints (s5 lc (Int.ofNat lc)++[(11,.bool false)]),aC::G'))) ba [(.yld 0 4,none),(.ptrT (some 0) (.G [shV dr lc zc lb zb W B]) 0,none)] G =
 (fun (Z0:au)=>Tr.reqP (Z0=Z0∧aC::G=aC::G) (Tr.ok ((AV.tup [],none),G'))) [(0,AV.yld 1 4),(9,AV.int .i64 (Int.ofNat lc)),(10,AV.int .i64 (Int.ofNat 0))]:=by kernel_rfl
theorem TA (n:Nat) (C:aA) (dr:Int) (lc:Nat) (zc:Nat→Int) (lb:Nat) (zb:Nat→Int) (W B:Nat→Int) (h:List Int→Bool) (g:List Int→Int) (q:Nat) (H:aa):bu Tryd.prog C 100000 73 Tryd.f73 (KtG.kt 73) (Fh 90 (il aV n 1)) bc (Hx ba (fun _=>true) (dJ (shV dr lc zc lb zb W B)) (Kg dr lc zc lb zb W B::H) (.ok (.normal,hints (dJ (shV dr lc zc lb zb W B)),lG dr lc zc lb zb W B h g q .dead::H))) [(shV dr lc zc lb zb W B,none)] H =
 (fun (Z0:au)=>Tr.reqP (Z0=Z0∧Kg dr lc zc lb zb W B::H=Kg dr lc zc lb zb W B::H) (Tr.req (eh (Int.ofNat 0) (Int.ofNat lc)) (Tr.ok ((AV.int .i64 (g [bw IntKind.u64 (eG IntKind.u64 (Int.ofNat 1) (Int.ofNat lc)) (Int.ofNat 1)]),none),H)))) [(1,AV.ptr 0 0 0 0),(3,AV.ptr 0 2 0 0),(4,AV.ptr 0 3 0 0),(16,AV.fn (Fn.func 90) [] [AV.ptrT (some 0) (Row.G [shV dr lc zc lb zb W B]) 0])]:=by kernel_rfl
theorem QR:∀ b,(0,b) ∈ aI (aY Tryd.f90)→b=.loop (part Tryd.f90 [1,0,0]):=eX (by kernel_rfl)
end Go.Eng.Q
end
section
namespace Go.Eng.Q
open Go.Proofs Go.Eng.Gall
theorem Lv {P:Program} {KT:FuncId→Nat→Nat} {fu:Nat} {g:FuncId} {r:oO} {c:bj} {call:aA} (h:c.Ok call):(Fh g c).Ok (oK P KT fu g r call):=by
 refine ⟨h.1,fun tgt args H x hx=>?_⟩
 cases tgt with
 | fn f =>
   have hx:(cond (Nat.beq f g) Tr.bad (c (.fn f) args H)).run=some x:=hx
   show (if Nat.beq f g then _ else call (.fn f) (jZ args) H)=_
   cases hb:Nat.beq f g with
   | true=>rw[hb] at hx;exact (Tr.af hx).elim
   | false=>rw[hb] at hx;exact h.2 _ _ _ _ hx
 | round d i=>exact (Tr.af hx).elim
 | mode=>exact h.2 _ _ _ _ hx
theorem Lw {P:Program} {KT:FuncId→Nat→Nat} {fu:Nat} {g:FuncId} {r:oO} {c:bj} {call:aA} (h:c.Ok call):(Fh g c).Ok (sG P KT fu r call):=by
 refine ⟨h.1,fun tgt args H x hx=>?_⟩
 cases tgt with
 | fn f =>
   have hx:(cond (Nat.beq f g) Tr.bad (c (.fn f) args H)).run=some x:=hx
   cases hb:Nat.beq f g with
   | true=>rw[hb] at hx;exact (Tr.af hx).elim
   | false=>rw[hb] at hx;exact h.2 _ _ _ _ hx
 | round d i=>exact (Tr.af hx).elim
 | mode=>exact h.2 _ _ _ _ hx
theorem Cp {P:Program} {KT:FuncId→Nat→Nat} {fu:Nat} {r:oO} {call:aA} {d i:Nat} {args:List AV} {H H1 H2:aa} {l l1 l2:iZ} {fr fr1 frx:au} {lvx:bH} {e:Ex}
 (hg:ar H d i=(0,.loop l)) (hf:l.fn=r.f) (hb:l.body=r.body) (hl:aD H d=false) (hs:l.state=.ready)
 (hp:iM l.nt (jk (d+1) l.fr) l.params (args.map (kO 1))=some fr)
 (he:exec ⟨P,call,fu,l.fn,l.nt,KT l.fn,some (d+1,i)⟩ l.assign fr (⟨false,[]⟩::H)=some (.normal,fr1,H1))
 (hg1:ar H1 (d+1) i=(0,.loop l1)) (hs1:l1.state=.ready)
 (hpc:kF ⟨P,call,fu,l.fn,l.nt,KT l.fn,some (d+1,i)⟩ r.S r.L r.suf r.pre fr1 (dm H1 (d+1) i (0,.loop { l1 with state:=.busy }))=some (e,frx,lvx::H2))
 (hg2:ar H2 d i=(0,.loop l2)) :
 nf P KT fu r call d i args H=some (.bool (bT (Ix r.id e)).isNone,dm H2 d i (0,.loop { l2 with state:=if (bT (Ix r.id e)).isNone then .ready else .done,pending:=bT (Ix r.id e) })):=by
 unfold nf
 rw[hg]
 show (@dite _ (l.fn=r.f∧l.body=r.body) (Classical.propDecidable _) _ _)=_
 rw[dif_pos ⟨hf,hb⟩,hl]
 simp only[Bool.false_eq_true,if_false,hs,hp,he,hg1,hs1,hpc,hg2]
theorem MW:cB=.block 1 (assemble [kz [0,0] cB] (cS.code cL) qf):=by kernel_rfl
theorem KJ:cS.ops0.toList=cS.pre++[cS.ro]:=by kernel_rfl
theorem KN:cS.ro.op=.range cS.ty (.tmp cS.m):=by kernel_rfl
theorem KD:cS.ro.dst=some cL.it:=by kernel_rfl
theorem KG:cS.ro.guard=none:=by kernel_rfl
theorem KL:cL.ops1.toList=cL.no::cL.t1:=by kernel_rfl
theorem KO:cL.no.op=.next (.tmp cL.it) false:=by kernel_rfl
theorem KE:cL.no.dst=some cL.nx:=by kernel_rfl
theorem KH:cL.no.guard=none:=by kernel_rfl
theorem KM:cL.ops2.toList=cL.eo::cL.t2:=by kernel_rfl
theorem KP:cL.eo.op=.entry (.tmp cL.it):=by kernel_rfl
theorem KF:cL.eo.dst=some cL.en:=by kernel_rfl
theorem KI:cL.eo.guard=none:=by kernel_rfl
theorem KQ:cR.Ok Tryd.prog:=⟨MW,⟨KJ,KN,KD,KG,_,_,Tryd.underlying128⟩,⟨KL,KO,KE,KH,KM,KP,KF,KI⟩⟩
noncomputable def jU (A:AV):iZ:={ state:=.ready,pending:=none,fn:=73,nt:=83,fr:=dJ A,params:=[17],assign:=part Tryd.f73 [1,1,1,0,1,0,0],body:=cB }
noncomputable def wb (A:AV):iZ:={ jU A with state:=.busy }
theorem Tf:dM (aY Tryd.f73)=[(.tmp 16,#[17],part Tryd.f73 [1,1,1,0,1,0,0],cB)]:=by kernel_rfl
section
variable (n:Nat) (dr:Int) (lc:Nat) (zc:Nat→Int) (lb:Nat) (zb:Nat→Int) (W B:Nat→Int) (G:aa)
theorem O0 (k:Nat) (hl:lc≤10) (hk:k≤10) (q:Nat) (hG:Gd (fv W B lc k q)):∃ q',Gd (fv W B lc (k+1) q') ∧
 nf Tryd.prog KtG.kt 100000 cR (cd (n+1)) 1 4 [.int .i64 (Int.ofNat k)] (aC::ie dr lc zc lb zb W B (.loop (jU (shV dr lc zc lb zb W B))) (fv W B lc k q)::G) =
  some (.bool true,aC::ie dr lc zc lb zb W B (.loop (jU (shV dr lc zc lb zb W B))) (fv W B lc (k+1) q')::G):=by
 obtain ⟨q',hG',hr⟩:=Gz n k dr lc zc lb zb W B (.loop (wb (shV dr lc zc lb zb W B))) G hl hk q hG
 refine ⟨q',hG',?_⟩
 have h1:=kf (y:=(.normal,iz (k:Int),aC::aC::ie dr lc zc lb zb W B (.loop (jU (shV dr lc zc lb zb W B))) (fv W B lc k q)::G)) (Tm (n+1) (k:Int) (shV dr lc zc lb zb W B) (aC::ie dr lc zc lb zb W B (.loop (jU (shV dr lc zc lb zb W B))) (fv W B lc k q)::G)) (aJ _) (ak _ _) (al _ _) (Tr.ah rfl)
 have h5:=kf (y:=(.normal,iz (k:Int)++[(6,.nils)],aC::aC::ie dr lc zc lb zb W B (.loop (wb (shV dr lc zc lb zb W B))) (fv W B lc k q)::G)) (t5 (n+1) (k:Int) (aC::ie dr lc zc lb zb W B (.loop (wb (shV dr lc zc lb zb W B))) (fv W B lc k q)::G)) (aJ _) (ak _ _) (al _ _) (Tr.ah rfl)
 have hpc:kF (nv (n+1)) cR.S cR.L cR.suf cR.pre (iz (k:Int)) (aC::aC::ie dr lc zc lb zb W B (.loop (wb (shV dr lc zc lb zb W B))) (fv W B lc k q)::G)=some (.normal,[],aC::aC::ie dr lc zc lb zb W B (.loop (wb (shV dr lc zc lb zb W B))) (fv W B lc (k+1) q')::G):=by
  show (match c6 (nv (n+1)) (kz [0,0] cB) (iz (k:Int)) (aC::aC::ie dr lc zc lb zb W B (.loop (wb (shV dr lc zc lb zb W B))) (fv W B lc k q)::G) with
   | some (.normal,fr,H)=>kF (nv (n+1)) cS cL qf [] fr H
   | x=>x)=_
  rw[dv]
  have h5:exec (nv (n+1)) (kz [0,0] cB) (iz (k:Int)) (aC::aC::ie dr lc zc lb zb W B (.loop (wb (shV dr lc zc lb zb W B))) (fv W B lc k q)::G)=_:=h5
  rw[h5]
  exact hr
 exact Cp (l:=jU (shV dr lc zc lb zb W B)) (l1:=jU (shV dr lc zc lb zb W B)) (l2:=wb (shV dr lc zc lb zb W B)) (e:=.normal) rfl rfl rfl rfl rfl rfl h1 rfl rfl hpc rfl
theorem JQ {P:Nat→Nat→Prop} {R:Nat→Nat→Nat→Prop} (hs:∀ k,∀ q,P k q→∃ q',P (k+1) q'∧R k q q') (q0:Nat) (h0:P 0 q0):∃ f:Nat→Nat,f 0=q0∧∀ k,P k (f k)∧R k (f k) (f (k+1)):=by
 let F:Nat→Nat:=fun k=>Nat.rec (motive:=fun _=>Nat) q0 (fun k q=>@dite _ (∃ q',P (k+1) q'∧R k q q') (Classical.propDecidable _) (fun h=>Classical.choose h) (fun _=>0)) k
 have hF:∀ k,P k (F k)∧(P k (F k)→P (k+1) (F (k+1))∧R k (F k) (F (k+1))):=by
  intro k
  have step:∀ k,P k (F k)→P (k+1) (F (k+1))∧R k (F k) (F (k+1)):=fun k hp=>by
   have he:=hs k (F k) hp
   have e:F (k+1)=Classical.choose he:=dif_pos he
   rw[e]
   exact Classical.choose_spec he
  refine ⟨?_,step k⟩
  induction k with
  | zero=>exact h0
  | succ k ih=>exact (step k ih).1
 exact ⟨F,rfl,fun k=>⟨(hF k).1,((hF k).2 (hF k).1).2⟩⟩
theorem Az {C:aA} {c:Code} {callR:bj} {bl:eI} {rg:nu} {fr:au} {H:aa} {T:Tr gK} {Q:Ex×au×aa→Prop} (e:aT (qg C) callR bl rg c (hints fr) H=T) (hC:callR.Ok C) (hB:bl.Ok (qg C) c) (hR:rg.Ok (qg C) c) (h:T.all fun x=>Q x.st):∃ y,exec (qg C) c fr H=some y∧Q y:=by
 obtain ⟨x,h1,h2⟩:=h
 have:=fD (cx:=qg C) hC c hB hR (hints fr) H x (by rw[e];exact h1)
 rw[bp] at this;exact ⟨_,this,h2⟩
theorem I5 {C:aA} {c:Code} (id:Nat) (F:Nat→au) (G:Nat→aa) (N:Nat) (Y:au×aa) (hN:N<99999)
 (hs:∀ j,j<N→∃ x,exec (qg C) c (F j) (G j)=some x∧(x.1=.normal∧tidy (aQ (G 0)) x.2.1 x.2.2=(F (j+1),G (j+1))))
 (he:∃ x,exec (qg C) c (F N) (G N)=some x∧x=(.exit id,Y)):exec (qg C) (.block id (.loop c)) (F 0) (G 0)=some (.normal,Y):=by
 have key:=jN (body:=exec (qg C) c) (n:=aQ (G 0)) F G N (fun _=>false) (fun j=>(.exit id,Y))
  (fun j hj hp=>by
    obtain ⟨x,h1,h2,h3⟩:=hs j hj
    obtain ⟨e,f1,g1⟩:=x
    simp only at h2
    subst h2
    exact ⟨_,_,h1,h3⟩)
  (fun j hj hp=>by cases hp)
  (by
    obtain ⟨x,h1,rfl⟩:=he
    exact ⟨h1,by simp⟩) N 0 100000 (by omega) (by omega)
 exact gM key
theorem Re (hl:lc≤10) (q0:Nat) (hG:Gd (fv W B lc 0 q0)):∃ q',Gd (fv W B lc lc q') ∧
 pA Tryd.prog KtG.kt 100000 90 (sG Tryd.prog KtG.kt 100000 cR (cd (n+1))) [.yld 0 4,.ptrT (some 0) (.G [shV dr lc zc lb zb W B]) 0] (ie dr lc zc lb zb W B (.loop (jU (shV dr lc zc lb zb W B))) (fv W B lc 0 q0)::G) =
  some (.tup [],ie dr lc zc lb zb W B (.loop (jU (shV dr lc zc lb zb W B))) (fv W B lc lc q')::G):=by
 obtain ⟨f,rfl,hf⟩:=JQ (P:=fun k q=>k≤10→Gd (fv W B lc k q)) (R:=fun k q q'=>k≤9→nf Tryd.prog KtG.kt 100000 cR (cd (n+1)) 1 4 [.int .i64 (Int.ofNat k)] (aC::ie dr lc zc lb zb W B (.loop (jU (shV dr lc zc lb zb W B))) (fv W B lc k q)::G) =
  some (.bool true,aC::ie dr lc zc lb zb W B (.loop (jU (shV dr lc zc lb zb W B))) (fv W B lc (k+1) q')::G)) (fun k q h=>by
  by_cases hk:k≤9
  · obtain ⟨q',h1,h2⟩:=O0 n dr lc zc lb zb W B G k hl (by omega) q (h (by omega))
    exact ⟨q',fun _=>h1,fun _=>h2⟩
  · exact ⟨0,fun h=>by omega,fun h=>by omega⟩) q0 (fun _=>hG)
 refine ⟨f lc,(hf lc).1 hl,?_⟩
 let St:Nat→aa:=fun j=>ie dr lc zc lb zb W B (.loop (jU (shV dr lc zc lb zb W B))) (fv W B lc j (f j))::G
 show pA Tryd.prog KtG.kt 100000 90 _ _ (St 0)=some (_,St lc)
 have hr:∀ j,j<lc→sG Tryd.prog KtG.kt 100000 cR (cd (n+1)) (.round 1 4) [.int .i64 (Int.ofNat j)] (aC::St j)=some (.bool true,aC::St (j+1)):=fun j hj=>(hf j).2 (by omega)
 have hC:(Fh 1000000 (il aV (n+1) 0)).Ok (sG Tryd.prog KtG.kt 100000 cR (cd (n+1))):=Lw (aJ _)
 generalize sG Tryd.prog KtG.kt 100000 cR (cd (n+1))=C at *
 have hx:exec (qg C) (.block 0 (.loop (part Tryd.f90 [1,0,0]))) (s5 lc (Int.ofNat 0)) (aC::St 0)=some (.normal,s5 lc (Int.ofNat lc)++[(11,.bool false)],aC::St lc):=by
  refine I5 0 (fun j=>s5 lc (Int.ofNat j)) (fun j=>aC::St j) lc (_,_) (by omega) (fun j hj=>?_) ?_
  · have ec:bf .i64 (Int.ofNat j) (Int.ofNat 1)=Int.ofNat (j+1):=by
     have:=Aa j (by omega)
     rw[gl];exact this
    refine Az (Q:=fun y=>y.1=.normal∧tidy 0 y.2.1 y.2.2=(s5 lc (Int.ofNat (j+1)),aC::St (j+1))) (t90 (n+1) C lc (Int.ofNat j) (St j) (St (j+1))) (Ew hC (fun x hy=>by rw[← Tr.ab hy];exact hr j hj)) (ak _ _) (al _ _) ?_
    rw[ec]
    generalize St (j+1)=G' at *
    generalize St j=G at *
    refine Tr.ae (fun h0=>Tr.aj ⟨rfl,rfl⟩ (Tr.ae (fun h1=>?_) (fun h1=>Tr.ah ⟨rfl,rfl⟩))) (fun h0=>?_)
    · rw[aG] at h1;cases h1
    · exfalso
      simp (disch:=omega) only[nV,nW] at h0
      omega
  · refine Az (Pe (n+1) C lc (Int.ofNat lc) (St lc)) hC (ak _ _) (al _ _) (Tr.ae (fun h0=>?_) (fun h0=>Tr.ah rfl))
    exfalso
    simp (disch:=omega) only[nV,nW] at h0
    omega
 obtain ⟨y,h1,h2,h3⟩:Tr.all (bu Tryd.prog C 100000 90 Tryd.f90 (KtG.kt 90) (Fh 1000000 (il aV (n+1) 0)) (dy bc 0 (s5 lc (Int.ofNat 0)) (aC::St 0) (.ok (.normal,hints (s5 lc (Int.ofNat lc)++[(11,.bool false)]),aC::St lc))) ba [(.yld 0 4,none),(.ptrT (some 0) (.G [shV dr lc zc lb zb W B]) 0,none)] (St 0)) (fun y=>y.1.1=AV.tup []∧y.2=St lc):=by
  rw[TK]
  exact Tr.aj ⟨rfl,rfl⟩ (Tr.ah ⟨rfl,rfl⟩)
 have:=zN (P:=Tryd.prog) (KT:=KtG.kt) (fu:=100000) (f:=90) (call:=C) (fn:=Tryd.f90) Tryd.func90 rfl (args:=[(.yld 0 4,none),(.ptrT (some 0) (.G [shV dr lc zc lb zb W B]) 0,none)]) (H:=St 0) rfl hC (br (ak _ _) QR (fun x h=>by rw[← Tr.ab h];simp only[gK.st,bp];exact hx)) (al _ _) h1
 rw[h2,h3] at this
 exact this
noncomputable def cntF (lc:Nat) (W B:Nat→Int):Int:=((ro lc (okW W B) lc).length:Int)
theorem Qz (W B:Nat→Int) (lc:Nat):fv W B lc 0 1=⟨lS (fun _=>false) [Int.ofNat 0] true,lT (fun _=>Int.ofNat 0) [Int.ofNat 0] (Int.ofNat 1),pI false 0⟩:=by
 have e1:=rL (fun _=>false) (fun _=>0) 0 0 true
 have e2:=rM (fun _=>false) (fun _=>0) 0 0 1
 have h0:(lD (fun _=>false) (fun _=>0) 0).h=fun _=>false:=by
  funext l
  match l with
  | []=>rfl
  | [y]=>show (decide (0≤y) && false)=false;simp
  | _::_::_=>rfl
 have g0:(lD (fun _=>false) (fun _=>0) 0).g=fun _=>Int.ofNat 0:=by
  funext l
  match l with
  | []=>rfl
  | [y]=>show (if 0≤y then (((0:Nat)):Int) else 0)=Int.ofNat 0;split<;>rfl
  | _::_::_=>rfl
 rw[h0] at e1
 rw[g0] at e2
 rw[gF,gG,ld]
 have e1:fc (fun _=>false) [Int.ofNat 0] true=_:=e1
 have e2:im (fun _=>Int.ofNat 0) [Int.ofNat 0] (Int.ofNat 1)=_:=e2
 rw[e1,e2]
 have a1:(fun Y=>decide (0<cF lc (okW W B) 0 Y))=fun y=>if y=0 then true else false:=by
  funext Y;rw[Ao]
  by_cases e:Y=0
  · rw[if_pos e,if_pos e];rfl
  · rw[if_neg e,if_neg e];rfl
 have a2:(fun Y=>cF lc (okW W B) 0 Y)=fun y=>if y=0 then 1 else 0:=by funext Y;rw[Ao]
 unfold fv
 rw[a1,a2];rfl
theorem Rl (W B:Nat→Int) (lc:Nat):Gd (fv W B lc 0 1):=by
 rw[Qz]
 show ∃ es,qm (.num .u64) es (lS (fun _=>false) [Int.ofNat 0] true) (lT (fun _=>Int.ofNat 0) [Int.ofNat 0] (Int.ofNat 1)) (pI false 0)
 rw[gF,gG,ld]
 exact DI (h:=fun _=>false) (g:=fun _=>Int.ofNat 0) ⟨[],rfl,(fun j hj=>absurd hj (Nat.not_lt_zero _)),(fun n h=>by cases h),(fun n _=>rfl),(fun i j hi=>absurd hi (Nat.not_lt_zero _))⟩ _ _
theorem Qs (hl:lc≤10) (H:aa):Eu Tryd.prog KtG.kt 100000 73 90 cR (cd (n+1)) [shV dr lc zc lb zb W B] H=some (.int .i64 (cntF lc W B),H):=by
 obtain ⟨q',hG',hr⟩:=Re n dr lc zc lb zb W B H hl 1 (Rl W B lc)
 have hC:(Fh 90 (il aV n 1)).Ok (oK Tryd.prog KtG.kt 100000 90 cR (cd (n+1))):=Lv (fi n 1)
 have hx:exec (KS (oK Tryd.prog KtG.kt 100000 90 cR (cd (n+1)))) (.rangeFunc (.tmp 16) #[17] (part Tryd.f73 [1,1,1,0,1,0,0]) cB) (dJ (shV dr lc zc lb zb W B)) (Kg dr lc zc lb zb W B::H)=some (.normal,dJ (shV dr lc zc lb zb W B),lG dr lc zc lb zb W B (fv W B lc lc q').h (fv W B lc lc q').g (fv W B lc lc q').q .dead::H) :=
  xE (cx:=KS (oK Tryd.prog KtG.kt 100000 90 cR (cd (n+1)))) (l:=jU (shV dr lc zc lb zb W B)) (f:=.tmp 16) (ps:=#[17]) (fr:=dJ (shV dr lc zc lb zb W B)) (H:=Kg dr lc zc lb zb W B::H) (g:=90) (a:=[]) (b:=[.ptrT (some 0) (.G [shV dr lc zc lb zb W B]) 0]) rfl rfl rfl (by
   rw[Qz] at hr
   exact hr) rfl rfl rfl
 have e:bw .u64 (eG .u64 (Int.ofNat 1) (Int.ofNat lc)) (Int.ofNat 1)=((2 ^ lc-1:Nat):Int):=by
  have h1:=Nat.two_pow_pos lc
  have h2:2 ^ lc≤2 ^ 10:=Nat.pow_le_pow_right (by decide) hl
  rw[zS (by omega),dG]
  show IntKind.u64.wrap (((2 ^ lc:Nat):Int)-1)=_
  rw[show ((2 ^ lc:Nat):Int)-1=((2 ^ lc-1:Nat):Int) by omega]
  exact kN (by omega)
 have hg:(fv W B lc lc q').g [((2 ^ lc-1:Nat):Int)]=cntF lc W B:=by
  unfold fv cntF
  rw[DX,IL]
 obtain ⟨y,h1,h2,h3⟩:Tr.all (bu Tryd.prog (oK Tryd.prog KtG.kt 100000 90 cR (cd (n+1))) 100000 73 Tryd.f73 (KtG.kt 73) (Fh 90 (il aV n 1)) bc (Hx ba (fun _=>true) (dJ (shV dr lc zc lb zb W B)) (Kg dr lc zc lb zb W B::H) (.ok (.normal,hints (dJ (shV dr lc zc lb zb W B)),lG dr lc zc lb zb W B (fv W B lc lc q').h (fv W B lc lc q').g (fv W B lc lc q').q .dead::H))) [(shV dr lc zc lb zb W B,none)] H) (fun y=>y.1.1=AV.int .i64 (cntF lc W B)∧y.2=H):=by
  rw[TA,e,hg]
  refine Tr.aj ⟨rfl,rfl⟩ (Tr.ag ?_ (Tr.ah ⟨rfl,rfl⟩))
  rw[bC];exact decide_eq_true (by show (0:Int)≤(lc:Int);omega)
 have:=zN (P:=Tryd.prog) (KT:=KtG.kt) (fu:=100000) (f:=73) (call:=oK Tryd.prog KtG.kt 100000 90 cR (cd (n+1))) (fn:=Tryd.f73) Tryd.func73 rfl (args:=[(shV dr lc zc lb zb W B,none)]) (H:=H) rfl hC (ak _ _) (EA (al _ _) (fun f ps a b _ hm x hx2=>by
  rw[Tf] at hm
  simp only[List.mem_cons,Prod.mk.injEq,List.not_mem_nil,or_false] at hm
  obtain ⟨rfl,rfl,rfl,rfl⟩:=hm
  rw[← Tr.ab hx2];simp only[gK.st,bp];exact hx)) h1
 rw[h2,h3] at this
 exact this
end
end Go.Eng.Q
end
section
namespace Go.Proofs
open Go.Shelf
def Tryd.CD:Go.Shelf.Ren:=⟨fun | 5=>95 | 8=>102 | 7=>101 | 19=>112 | 20=>113 | 10=>103 | 11=>104 | 12=>105 | 13=>106 | 14=>107 | 15=>108 | 16=>109 | 17=>110 | 18=>111 | 30=>114 | 31=>115 | 32=>116 | 33=>117 | 34=>118 | 35=>119 | 40=>120 | n=>n,fun | 23=>36 | 25=>3 | 3=>3 | 32=>88 | 22=>36 | 0=>0 | 44=>132 | 46=>134 | 4=>4 | 36=>142 | 35=>141 | 41=>146 | 5=>5 | 9=>9 | 53=>148 | 57=>152 | 63=>154 | 64=>155 | n=>n,fun | n=>n⟩
theorem Tryd.LD:Go.Proofs.SlLaysM.n5 Tryd.prog Tryd.CD:={
 mixed:=by kernel_rfl
 f5:=⟨Tryd.f95.name,by decide,Tryd.func95.trans (congrArg some (by kernel_rfl))⟩
 f7:=⟨Tryd.f101.name,by decide,Tryd.func101.trans (congrArg some (by kernel_rfl))⟩
 f8:=Tryd.func102.trans (congrArg some (by kernel_rfl))
 f10:=⟨Tryd.f103.name,by decide,Tryd.func103.trans (congrArg some (by kernel_rfl))⟩
 f11:=⟨Tryd.f104.name,by decide,Tryd.func104.trans (congrArg some (by kernel_rfl))⟩
 f12:=⟨Tryd.f105.name,by decide,Tryd.func105.trans (congrArg some (by kernel_rfl))⟩
 f13:=⟨Tryd.f106.name,by decide,Tryd.func106.trans (congrArg some (by kernel_rfl))⟩
 f14:=⟨Tryd.f107.name,by decide,Tryd.func107.trans (congrArg some (by kernel_rfl))⟩
 f15:=⟨Tryd.f108.name,by decide,Tryd.func108.trans (congrArg some (by kernel_rfl))⟩
 f16:=⟨Tryd.f109.name,by decide,Tryd.func109.trans (congrArg some (by kernel_rfl))⟩
 f17:=⟨Tryd.f110.name,by decide,Tryd.func110.trans (congrArg some (by kernel_rfl))⟩
 f18:=⟨Tryd.f111.name,by decide,Tryd.func111.trans (congrArg some (by kernel_rfl))⟩
 f19:=Tryd.func112.trans (congrArg some (by kernel_rfl))
 f20:=Tryd.func113.trans (congrArg some (by kernel_rfl))
 f30:=⟨Tryd.f114.name,by decide,Tryd.func114.trans (congrArg some (by kernel_rfl))⟩
 f31:=Tryd.func115.trans (congrArg some (by kernel_rfl))
 f32:=Tryd.func116.trans (congrArg some (by kernel_rfl))
 f33:=⟨Tryd.f117.name,by decide,Tryd.func117.trans (congrArg some (by kernel_rfl))⟩
 f34:=⟨Tryd.f118.name,by decide,Tryd.func118.trans (congrArg some (by kernel_rfl))⟩
 f35:=⟨Tryd.f119.name,by decide,Tryd.func119.trans (congrArg some (by kernel_rfl))⟩
 f40:=⟨Tryd.f120.name,by decide,Tryd.func120.trans (congrArg some (by kernel_rfl))⟩
 t0:=Tryd.underlying0
 a0:=Tryd.isAgg0
 z0:=Tryd.sizeOf0
 v0:=Tryd.zeroValue0
 t3:=Tryd.underlying3
 a3:=Tryd.isAgg3
 z3:=Tryd.sizeOf3
 v3:=Tryd.zeroValue3
 t4:=Tryd.underlying4
 a4:=Tryd.isAgg4
 z4:=Tryd.sizeOf4
 v4:=Tryd.zeroValue4
 t5:=Tryd.underlying5
 a5:=Tryd.isAgg5
 z5:=Tryd.sizeOf5
 v5:=Tryd.zeroValue5
 t9:=Tryd.underlying9
 a9:=Tryd.isAgg9
 z9:=Tryd.sizeOf9
 v9:=Tryd.zeroValue9
 t22:=Tryd.underlying36
 a22:=Tryd.isAgg36
 z22:=Tryd.sizeOf36
 v22:=Tryd.zeroValue36
 t23:=Tryd.underlying36
 a23:=Tryd.isAgg36
 z23:=Tryd.sizeOf36
 v23:=Tryd.zeroValue36
 t25:=Tryd.underlying3
 a25:=Tryd.isAgg3
 z25:=Tryd.sizeOf3
 v25:=Tryd.zeroValue3
 t32:=Tryd.underlying88
 a32:=Tryd.isAgg88
 z32:=Tryd.sizeOf88
 v32:=Tryd.zeroValue88
 t35:=Tryd.underlying141
 a35:=Tryd.isAgg141
 z35:=Tryd.sizeOf141
 v35:=Tryd.zeroValue141
 t36:=Tryd.underlying142
 a36:=Tryd.isAgg142
 z36:=Tryd.sizeOf142
 v36:=Tryd.zeroValue142
 t41:=Tryd.underlying146
 a41:=Tryd.isAgg146
 z41:=Tryd.sizeOf146
 v41:=Tryd.zeroValue146
 t44:=Tryd.underlying132
 a44:=Tryd.isAgg132
 z44:=Tryd.sizeOf132
 v44:=Tryd.zeroValue132
 t46:=Tryd.underlying134
 a46:=Tryd.isAgg134
 z46:=Tryd.sizeOf134
 v46:=Tryd.zeroValue134
 t53:=Tryd.underlying148
 a53:=Tryd.isAgg148
 z53:=Tryd.sizeOf148
 v53:=Tryd.zeroValue148
 t57:=Tryd.underlying152
 a57:=Tryd.isAgg152
 z57:=Tryd.sizeOf152
 v57:=Tryd.zeroValue152
 t63:=Tryd.underlying154
 a63:=Tryd.isAgg154
 z63:=Tryd.sizeOf154
 v63:=Tryd.zeroValue154
 t64:=Tryd.underlying155
 a64:=Tryd.isAgg155
 z64:=Tryd.sizeOf155
 v64:=Tryd.zeroValue155 }
def Tryd.Ar:Go.Shelf.Ren:=⟨fun | 27=>82 | 28=>97 | 29=>98 | n=>n,fun | 0=>0 | 3=>3 | 4=>4 | 5=>5 | 22=>134 | 25=>88 | 27=>132 | 53=>138 | 54=>139 | n=>n,fun | n=>n⟩
theorem Tryd.ctz:Lays7.n27 Tryd.prog Tryd.Ar:={
 mixed:=by kernel_rfl
 f27:=Tryd.func82.trans (congrArg some (by kernel_rfl))
 f28:=Tryd.func97.trans (congrArg some (by kernel_rfl))
 f29:=Tryd.func98.trans (congrArg some (by kernel_rfl))
 t0:=Tryd.underlying0
 a0:=Tryd.isAgg0
 z0:=Tryd.sizeOf0
 v0:=Tryd.zeroValue0
 i0:=by kernel_rfl
 t3:=Tryd.underlying3
 a3:=Tryd.isAgg3
 z3:=Tryd.sizeOf3
 v3:=Tryd.zeroValue3
 i3:=by kernel_rfl
 t4:=Tryd.underlying4
 a4:=Tryd.isAgg4
 z4:=Tryd.sizeOf4
 v4:=Tryd.zeroValue4
 i4:=by kernel_rfl
 t5:=Tryd.underlying5
 a5:=Tryd.isAgg5
 z5:=Tryd.sizeOf5
 v5:=Tryd.zeroValue5
 i5:=by kernel_rfl
 t22:=Tryd.underlying134
 a22:=Tryd.isAgg134
 z22:=Tryd.sizeOf134
 v22:=Tryd.zeroValue134
 i22:=by kernel_rfl
 t25:=Tryd.underlying88
 a25:=Tryd.isAgg88
 z25:=Tryd.sizeOf88
 v25:=Tryd.zeroValue88
 i25:=by kernel_rfl
 t27:=Tryd.underlying132
 a27:=Tryd.isAgg132
 z27:=Tryd.sizeOf132
 v27:=Tryd.zeroValue132
 i27:=by kernel_rfl
 t53:=Tryd.underlying138
 a53:=Tryd.isAgg138
 z53:=Tryd.sizeOf138
 v53:=Tryd.zeroValue138
 i53:=by kernel_rfl
 t54:=Tryd.underlying139
 a54:=Tryd.isAgg139
 z54:=Tryd.sizeOf139
 g0:=by kernel_rfl
 g1:=by kernel_rfl }
end Go.Proofs
namespace Go.Eng
open Go.Proofs Go.Sort
def fV (L:List Int):List Int:=L.mergeSort fun x y=>decide (x≤y)
theorem JW:G9 Tryd.prog 95 fV :=
 ⟨⟨_,Tryd.func95,by kernel_rfl⟩,fun L=>List.length_mergeSort L,fun blk off cap zs w h1 h2 h3=>AnyM.slices_Sort_int Tryd.LD blk off cap zs w h1 h2 h3⟩
noncomputable def IQ (args:List AV) (H:aa):Option (AV×aa) :=
 match args with
 | [.int .u64 x]=>if 0≤x∧x<18446744073709551616 then some (.int .i64 (Go.Lib.ctz 64 x.toNat),H) else none
 | _=>none
theorem FJ {args:List AV} {H:aa} {v:AV} {H':aa} (h:IQ args H=some (v,H')) {p:aB} {M:Mu} {w:World} {cargs:Array Value} (hH:a7 p M H w) (hA:ep p M args cargs):(∃ fn,Tryd.prog.funcs[82]?=some fn∧fn.body.isNone=false)∧CallsIn Fence.wide 0 Tryd.prog 82 cargs w (fy p M H w v H'):=by
 refine ⟨⟨_,Tryd.func82,by kernel_rfl⟩,callsIn_wide.2 ?_⟩
 unfold IQ at h
 split at h
 case h_2=>simp at h
 rename_i x
 split at h
 case isFalse=>simp at h
 rename_i hx
 simp only[nP] at h
 obtain ⟨rfl,rfl⟩:=h
 have hsize:cargs.size=1:=hA.1
 have hv:=hA.2 0 (by simp)
 have hd:cargs=#[cargs.getD 0 undef]:=by
  apply Array.ext
  · simpa using hsize
  · intro j h1 h2
    have:j=0:=by omega
    subst this
    simp[Array.getD,hsize]
 have hv:ai p M (.int .u64 x) (cargs.getD 0 undef):=hv
 rw[hd,hv.ofInt]
 have hT:TabAt (Tryd.Ar.g 1) Go.Lib.deBruijn64tab w:=fun j hj=>hH.pers 1 j _ (p.2 1 j _ (by
  have:j<64:=hj
  unfold nX
  rw[if_pos ⟨rfl,this⟩]))
 have:=Any7.bits_TrailingZeros Tryd.ctz x.toNat (by omega) w (fun _=>hT)
 rw[Int.toNat_of_nonneg hx.1] at this
 refine Calls.mono this ?_
 rintro e w' ⟨rfl,rfl⟩
 exact ⟨_,rfl,Still.refl _,p,M,bZ.refl hH,.int _ _⟩
end Go.Eng
end
