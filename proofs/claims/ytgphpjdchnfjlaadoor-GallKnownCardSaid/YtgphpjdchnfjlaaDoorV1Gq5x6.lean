/- Gall: count: the range over the sets, in whatever order. -/
import Derived.Test.YtgphpjdchnfjlaaDoorV1GaFr0x7
import Derived.Test.YtgphpjdchnfjlaaDoorV1EngTkx3
import Derived.Test.YtgphpjdchnfjlaaDoorV1Gp2x4
import Derived.Shelf.SortM.Plain
import Derived.Shelf.Spec.TrailingZeros
import Derived.Test.YtgphpjdchnfjlaaDoorProg
import Derived.Test.YtgphpjdchnfjlaaDoorV1EngThx10
import Derived.Test.YtgphpjdchnfjlaaDoorV1EngOrax3
set_option linter.unusedVariables false
set_option linter.unusedSimpArgs false
set_option maxRecDepth 100000
section
namespace Go.Eng.Q
open Go.Proofs Go.Eng.Gall
theorem BL (L:List Int) (v:Int):yW (AI (bx L) 0) L.length (bx [v])=bx (L++[v]):=by
 rw[AJ,rC,jK];funext i
 by_cases h:i<L.length
 · simp[h,List.getElem?_append]
 · by_cases h2:i=L.length
   · subst h2;simp
   · have e1:[v][i-L.length]?=none:=List.getElem?_eq_none (by simp;omega)
     have e2:(L++[v])[i]?=none:=List.getElem?_eq_none (by simp;omega)
     simp only[h,if_false,List.getD_eq_getElem?_getD,e1,e2]
theorem Au {L:aS} {cx:Cx} {callR:aQ} {bl:iT} {rg:ss} {k n:Nat} {kv:AV×AV} {fr fr':aq} {l l':bT} {R:aa} {T:Tr (aA×aa)} (e:L.pD cx callR bl rg k n kv (hints fr) (l::R)=T) (hC:callR.Ok cx.call) (hB:bl.Ok cx L.rest) (hR:rg.Ok cx L.rest)
 (h:T.all fun y=>strip y.1=fr'∧y.2=l'::R):dX L cx k n R kv (fr,l)=some (fr',l'):=by
 obtain ⟨y,h1,h2,h3⟩:=h
 have:=aS.yA hC hB hR (by rw[e];exact h1)
 rw[cr,h2,h3] at this
 unfold dX
 rw[this]
theorem tc {L:aS} {cx:Cx} {callR:aQ} {fr:aq} {H:aa} {T:Tr (aA×aa)} (e:L.te cx callR (hints fr) H=T) (hC:callR.Ok cx.call) {y:aq×aa} (h:T.all fun z=>(strip z.1,z.2)=y):L.last cx fr H=some y:=by
 obtain ⟨z,h1,rfl⟩:=h
 have:=aS.zT hC (by rw[e];exact h1)
 rw[cr] at this;exact this
noncomputable def Fh (g:List Int→Int) (e:Int):AV×AV:=(.int .u64 e,.int .i64 (g [e]))
noncomputable def Ci (k:Int):List Int→aq×bT
 | []=>(fQ k++[(6,.nils),(18,.map 2 1),(19,.ptr 0 0 0 0)],Jx)
 | a::r=>(fQ k++[(6,.slc 0 2 r.length 0 1 (r.length+1) none),(19,.ptr 0 0 0 0)],gL a r.length (r.length+1) (bx (a::r)))
theorem Lw (n:Nat) (k:Int) (g:List Int→Int) (R:aa) (xs:List Int) (e:Int) (hx:xs.length≤2000):dX cL (kO n) 0 1 R (Fh g e) (Ci k xs)=some (Ci k (xs++[e])):=by
 cases xs with
 | nil =>
   refine Au (Lz n k e (g [e]) R) (eS n) (b9 _ _) (cg _ _) ?_
   exact wF
 | cons a r =>
   simp only[List.length_cons] at hx
   have e1:=BL (a::r) e
   simp only[List.length_cons] at e1
   have e3:dM (r.length+1) 1=r.length+1+1:=by rw[bc]
   have e4:(r++[e]).length=r.length+1:=by simp
   have T:=tB n k e (g [e]) a r.length (r.length+1) (bx (a::r)) R
   rw[e1,e3] at T
   refine Au T (eS n) (b9 _ _) (cg _ _) ?_
   show Tr.all _ (fun y:aA×aa=>strip y.1=fQ k++[(6,.slc 0 2 (r++[e]).length 0 1 ((r++[e]).length+1) none),(19,.ptr 0 0 0 0)]∧y.2=gL a (r++[e]).length ((r++[e]).length+1) (bx (a::r++[e]))::R)
   rw[e4]
   generalize bx (a::r++[e])=Y at *
   exact wF
theorem CL (n:Nat) (k:Int) (g:List Int→Int) (R:aa):∀ (ks xs:List Int),xs.length+ks.length≤2000→dS cL (kO n) 0 1 R (ks.map (Fh g)) (Ci k xs)=some (Ci k (xs++ks))
 | [],xs,_=>by rw[List.append_nil];rfl
 | e::ks,xs,h=>by
   show (match dX cL (kO n) 0 1 R (Fh g e) (Ci k xs) with
    | some t=>dS cL (kO n) 0 1 R (ks.map (Fh g)) t
    | none=>none)=_
   rw[List.length_cons] at h
   rw[Lw n k g R xs e (by omega)]
   have:=CL n k g R ks (xs++[e]) (by rw[List.length_append,List.length_singleton];omega)
   rw[List.append_assoc] at this
   exact this
theorem FG {es:List (AV×AV)} {h:List Int→Bool} {g:List Int→Int} {c:Nat} (hE:nE (.num .u64) es h g c):∀ vs:List Nat,vs.Nodup→(∀ j ∈ vs,j<es.length) →
 ∃ ks:List Int,(vs.map fun j=>(es.map fun e=>(iS (1+1) e.1,iS (1+1) e.2)).getD j (.undef,.undef))=ks.map (Fh g)∧(∀ y ∈ ks,h [y]=true)∧(∀ j ∈ vs,∀ y,(es.getD j (.undef,.undef)).1=.int .u64 y→y ∈ ks)∧(∀ y ∈ ks,∃ j ∈ vs,(es.getD j (.undef,.undef)).1=.int .u64 y)∧ks.Nodup
 | [],_,_=>⟨[],rfl,fun e he=>(by cases he),fun j hj=>(by cases hj),fun e he=>(by cases he),List.nodup_nil⟩
 | j :: vs,hn,hv=>by
   rw[List.nodup_cons] at hn
   obtain ⟨l,l1,l2,l3,l4,l5⟩:=FG hE vs hn.2 (fun i hi=>hv i (List.mem_cons_of_mem _ hi))
   have hj:=hv j (by simp)
   obtain ⟨m,e1,e2⟩:=hE.ent j hj
   have hlen:m.length=1:=Nat.eq_of_beq_eq_true (hE.all _ e2).1
   obtain ⟨a,rfl⟩:∃ a,m=[a]:=by
    match m,hlen with
    | [a],_=>exact ⟨a,rfl⟩
   have e1':es[j]'hj=(.int .u64 a,.int .i64 (g [a])):=by
    rw[List.getD_eq_getElem?_getD,List.getElem?_eq_getElem hj] at e1
    exact e1
   refine ⟨a::l,?_,fun y hy=>?_,fun i hi y hy=>?_,fun y hy=>?_,List.nodup_cons.2 ⟨fun ha=>?_,l5⟩⟩
   · rw[List.map_cons,List.map_cons,l1]
     congr 1
     rw[List.getD_eq_getElem?_getD,List.getElem?_eq_getElem (by simpa using hj),List.getElem_map,e1']
     rfl
   · rcases List.mem_cons.1 hy with rfl | hy
     · exact e2
     · exact l2 y hy
   · rcases List.mem_cons.1 hi with rfl | hi
     · rw[e1] at hy
       have hy:AV.int IntKind.u64 a=AV.int IntKind.u64 y:=hy
       injection hy with _ hy
       subst hy;simp
     · exact List.mem_cons_of_mem _ (l3 i hi y hy)
   · rcases List.mem_cons.1 hy with rfl | hy
     · exact ⟨j,by simp,by rw[e1];rfl⟩
     · obtain ⟨i,i1,i2⟩:=l4 y hy
       exact ⟨i,List.mem_cons_of_mem _ i1,i2⟩
   · obtain ⟨i,i1,i2⟩:=l4 a ha
     have:i=j:=hE.nd i j (hv i (List.mem_cons_of_mem _ i1)) hj (by rw[i2,e1];rfl)
     subst this
     exact hn.1 i1
theorem Bw {vs:List Nat} {n:Nat} (hn:vs.Nodup) (hl:vs.length=n) (hb:∀ j ∈ vs,j<n) {j:Nat} (hj:j<n):j ∈ vs:=by
 apply Classical.byContradiction
 intro hc
 have:=jt (L:=j::vs) (M:=List.range n) (List.nodup_cons.2 ⟨hc,hn⟩) (fun i hi=>by
  rcases List.mem_cons.1 hi with rfl | hi
  · simpa using hj
  · simpa using hb i hi)
 simp only[List.length_cons,List.length_range] at this
 omega
theorem A5 {es:List (AV×AV)} {h:List Int→Bool} {g:List Int→Int} {c:Nat} (hE:nE (.num .u64) es h g c) (vs:List Nat) (hn:vs.Nodup) (hl:vs.length=es.length) (hv:∀ j ∈ vs,j<es.length) :
 ∃ ks:List Int,(vs.map fun j=>(es.map fun e=>(iS (1+1) e.1,iS (1+1) e.2)).getD j (.undef,.undef))=ks.map (Fh g)∧(∀ y,y ∈ ks↔h [y]=true)∧ks.Nodup:=by
 obtain ⟨ks,k1,k2,k3,_,k5⟩:=FG hE vs hn hv
 refine ⟨ks,k1,fun y=>⟨k2 y,fun hy=>?_⟩,k5⟩
 obtain ⟨_,j,j1,j2⟩:=hE.all _ hy
 exact k3 j (Bw hn hl hv j1) y j2
theorem Gb {es es':List (AV×AV)} {h:List Int→Bool} {g:List Int→Int} {c c':Nat} (hE:nE (.num .u64) es h g c) (hE':nE (.num .u64) es' h g c'):c=c':=by
 obtain ⟨ks,a1,a2,a3⟩:=A5 hE (List.range es.length) List.nodup_range (by simp) (fun j hj=>by simpa using hj)
 obtain ⟨ks',b1,b2,b3⟩:=A5 hE' (List.range es'.length) List.nodup_range (by simp) (fun j hj=>by simpa using hj)
 have e1:=congrArg List.length a1
 have e2:=congrArg List.length b1
 simp only[List.length_map,List.length_range] at e1 e2
 have:=((List.perm_ext_iff_of_nodup a3 b3).2 (fun y=>(a2 y).trans (b2 y).symm)).length_eq
 have:=hE.len
 have:=hE'.len
 omega
noncomputable def dJ (W B:Nat→Int) (lc k q:Nat):CS:=jl (fun Y=>decide (0<cF lc (okW W B) k Y)) (fun Y=>cF lc (okW W B) k Y) q
theorem Hw (W B:Nat→Int) (lc k q:Nat):jl (hD lc (okW W B) k []) (gD lc (okW W B) k []) q=dJ W B lc k q:=by
 unfold dJ
 congr 1
 funext Y;unfold hD;simp
theorem vO {W B:Nat→Int} {lc k q:Nat} {y:Int}:(dJ W B lc k q).h [y]=true↔∃ Y:Nat,y=(Y:Int)∧0<cF lc (okW W B) k Y:=by
 show (decide (0≤y) && decide (0<cF lc (okW W B) k y.toNat))=true↔_
 rw[Bool.and_eq_true,decide_eq_true_iff,decide_eq_true_iff]
 constructor
 · rintro ⟨a,b⟩;exact ⟨y.toNat,by omega,b⟩
 · rintro ⟨Y,rfl,b⟩;exact ⟨by omega,by rw[Int.toNat_natCast];exact b⟩
theorem FU {W B:Nat→Int} {lc k q:Nat} {ks:List Int} (hn:ks.Nodup) (hk:∀ y,y ∈ ks↔(dJ W B lc k q).h [y]=true):∃ Ks:List Nat,ks=Ks.map (fun X:Nat=>(X:Int))∧Ks.Nodup∧∀ X,X ∈ Ks↔0<cF lc (okW W B) k X:=by
 have e:ks=(ks.map Int.toNat).map (fun X:Nat=>(X:Int)):=by
  rw[List.map_map]
  conv=>lhs;rw[← List.map_id ks]
  apply List.map_congr_left
  intro y hy
  obtain ⟨Y,h1,_⟩:=vO.1 ((hk y).1 hy)
  show y=((y.toNat:Nat):Int)
  omega
 refine ⟨ks.map Int.toNat,e,?_,fun X=>?_⟩
 · rw[e] at hn
   exact List.Pairwise.of_map (S:=fun a b=>a≠b) _ (fun a b h e=>h (by rw[e])) hn
 · rw[List.mem_map]
   constructor
   · rintro ⟨y,hy,rfl⟩
     obtain ⟨Y,h1,h2⟩:=vO.1 ((hk y).1 hy)
     rw[h1,Int.toNat_natCast];exact h2
   · intro h
     exact ⟨(X:Int),(hk _).2 (vO.2 ⟨X,rfl,h⟩),Int.toNat_natCast X⟩
theorem FL {W B:Nat→Int} {lc k q:Nat} (hl:lc≤10) (hk10:k≤10) (hG:Gd (dJ W B lc k q)) {ks:List Int} (hn:ks.Nodup) (hk:∀ y,y ∈ ks↔(dJ W B lc k q).h [y]=true) :
 ks.length≤1024∧∃ q',AL W B (k:Int) lc (bx ks) ks.length (dJ W B lc k q)=dJ W B lc (k+1) q'∧Gd (dJ W B lc (k+1) q'):=by
 obtain ⟨Ks,rfl,h1,h2⟩:=FU hn hk
 rw[List.length_map]
 constructor
 · have:=jt (L:=Ks) (M:=List.range (2 ^ lc)) h1 (fun X hX=>List.mem_range.2 (zd ((h2 X).1 hX)))
   rw[List.length_range] at this
   exact Nat.le_trans this (Nat.pow_le_pow_right (by decide) hl:2 ^ lc≤2 ^ 10)
 · rw[← Hw] at hG ⊢
   obtain ⟨q',e,hG'⟩:=ET W B k lc hl hk10 q Ks (bx (Ks.map (fun X:Nat=>(X:Int)))) (fun j hj=>by
    rw[iu]
    show (List.map (fun X:Nat=>(X:Int)) Ks).getD j 0=_
    rw[List.getD_eq_getElem?_getD,List.getElem?_eq_getElem (by simpa using hj),List.getElem_map];rfl) h1 (fun x hx=>(h2 x).1 hx) hG Ks.length (Nat.le_refl _)
   rw[e] at hG' ⊢
   rw[List.take_length] at hG' ⊢
   have e2:jl (hD lc (okW W B) k Ks) (gD lc (okW W B) k Ks) q'=dJ W B lc (k+1) q':=by
    unfold dJ
    congr 1
    · funext Y;exact D8 h2 Y
    · funext Y;exact D6 h1 h2 Y
   rw[e2] at hG' ⊢
   exact ⟨q',rfl,hG'⟩
section
variable (n k:Nat) (dr:Int) (lc:Nat) (zc:Nat→Int) (lb:Nat) (zb:Nat→Int) (W B:Nat→Int) (b:aN) (G:aa)
theorem DY (hl:lc≤10) (hk:k≤10) (q:Nat) (hG:Gd (dJ W B lc k q)):∃ q',Gd (dJ W B lc (k+1) q') ∧
 wv (kO (n+1)) cL nw 1 0 (bu::fe dr lc zc lb zb W B b (dJ W B lc k q)::G) (aM (bu::fe dr lc zc lb zb W B b (dJ W B lc k q)::G)) (Ci (k:Int) []) (.num .u64) (dJ W B lc k q).h (dJ W B lc k q).g (dJ W B lc k q).q 0 (.normal,bu::bu::fe dr lc zc lb zb W B b (dJ W B lc (k+1) q')::G):=by
 obtain ⟨es0,hE0⟩:=hG
 obtain ⟨ks0,_,o2,o3⟩:=A5 hE0 (List.range es0.length) List.nodup_range (by simp) (fun j hj=>by simpa using hj)
 obtain ⟨_,q',_,hG'⟩:=FL hl hk ⟨es0,hE0⟩ o3 o2
 refine ⟨q',hG',rfl,fun es hE vs hn hlen hv=>?_⟩
 obtain ⟨ks,k1,k2,k3⟩:=A5 hE vs hn hlen hv
 obtain ⟨c1,q2,c2,c3⟩:=FL hl hk ⟨es,hE⟩ k3 k2
 have eq:q2=q':=by
  obtain ⟨e1,h1⟩:=c3
  obtain ⟨e2,h2⟩:=hG'
  exact Gb h1 h2
 subst eq
 rw[k1]
 have hf:=CL (n+1) (k:Int) (dJ W B lc k q).g (aM (bu::fe dr lc zc lb zb W B b (dJ W B lc k q)::G)) ks [] (by simp;omega)
 rw[List.nil_append] at hf
 refine ⟨Ci (k:Int) ks,?_⟩
 cases ks with
 | nil =>
   refine ⟨GJ k,Jx,hf,tc (LA (n+1) k _) (eS _) (Tr.bV rfl),?_⟩
   rw[cM]
   have h:=mb (y:=(.normal,_,_)) (tZ (n+1) k (fe dr lc zc lb zb W B b (dJ W B lc k q)::G)) (eS _) (b9 _ _) (cg _ _) (Tr.bV rfl)
   refine ⟨_,_,h,?_⟩
   have c2:dJ W B lc k q=dJ W B lc (k+1) q2:=c2
   rw[c2];rfl
 | cons a r =>
   refine ⟨GK k r.length (r.length+1),gL a r.length (r.length+1) (bx (a::r)),hf,tc (tX (n+1) k a r.length (r.length+1) (bx (a::r)) _) (eS _) (Tr.bV rfl),?_⟩
   rw[cM]
   rw[List.length_cons] at c1 c2
   have h:=IB n k a r.length (r.length+1) (bx (a::r)) dr lc zc lb zb W B b G (by omega) hl (dJ W B lc k q)
   rw[c2] at h
   exact ⟨_,_,h,rfl⟩
theorem Ce (hl:lc≤10) (hk:k≤10) (q:Nat) (hG:Gd (dJ W B lc k q)):∃ q',Gd (dJ W B lc (k+1) q') ∧
 gO (kO (n+1)) cS cL nw (fQ (k:Int)++[(6,.nils)]) (bu::bu::fe dr lc zc lb zb W B b (dJ W B lc k q)::G)=some (.normal,[],bu::bu::fe dr lc zc lb zb W B b (dJ W B lc (k+1) q')::G):=by
 obtain ⟨q',hG',hends⟩:=DY n k dr lc zc lb zb W B b G hl hk q hG
 refine ⟨q',hG',?_⟩
 obtain ⟨es,hE⟩:=hG
 generalize dJ W B lc k q=s at *
 have hp:cD (kO (n+1)).P (kO (n+1)).nt (kO (n+1)).call cS.ops0 cS.pre (fQ (k:Int)++[(6,.nils)]) (bu::bu::fe dr lc zc lb zb W B b s::G)=some (fQ (k:Int)++[(6,.nils),(18,.map 2 1)],bu::bu::fe dr lc zc lb zb W B b s::G):=by
  have:=cH.Cb (S:=cS) (cx:=kO (n+1)) (callR:=il fI (n+1) 0) (eS _) (fr:=hints (fQ (k:Int)++[(6,.nils)])) (H:=bu::bu::fe dr lc zc lb zb W B b s::G) (by
   show (cH.EE _ _ _ _ _).run=_
   exact congrArg Tr.run (tS (n+1) k dr lc zc lb zb W B s.h s.g s.q b G))
  rw[cr] at this
  exact this
 unfold gO
 rw[hp]
 show (@dite _ (∃ y,wv (kO (n+1)) cL nw 1 0 (bu::fe dr lc zc lb zb W B b s::G) (aM (bu::fe dr lc zc lb zb W B b s::G)) (Ci (k:Int) []) (.num .u64) s.h s.g s.q 0 y) (Classical.propDecidable _)
  (fun hx=>some ((Classical.choose hx).1,[],(Classical.choose hx).2)) (fun _=>none))=_
 have hex:∃ y,wv (kO (n+1)) cL nw 1 0 (bu::fe dr lc zc lb zb W B b s::G) (aM (bu::fe dr lc zc lb zb W B b s::G)) (Ci (k:Int) []) (.num .u64) s.h s.g s.q 0 y:=⟨_,hends⟩
 rw[dif_pos hex]
 have hc:=Classical.choose_spec hex
 generalize Classical.choose hex=Y at *
 obtain ⟨s1,f1,l1,e1,e2,frY,HY,e3,e4⟩:=hc.2 es hE (List.range es.length) List.nodup_range (by simp) (fun j hj=>by simpa using hj)
 obtain ⟨s2,f2,l2,g1,g2,frZ,HZ,g3,g4⟩:=hends.2 es hE (List.range es.length) List.nodup_range (by simp) (fun j hj=>by simpa using hj)
 rw[e1] at g1
 obtain rfl:=Option.some.inj g1
 rw[e2] at g2
 simp only[Option.some.injEq,Prod.mk.injEq,List.cons.injEq,and_true] at g2
 obtain ⟨rfl,rfl⟩:=g2
 rw[e3] at g3
 simp only[nP] at g3
 obtain ⟨h1,_,rfl⟩:=g3
 rw[e4] at g4
 rw[h1,g4]
end
end Go.Eng.Q
end
section
namespace Go.Eng.Q
open Go.Proofs Go.Eng.Gall
def A1 (g:FuncId) (c:aQ):aQ:=fun tgt args H=>match tgt with
 | .fn f=>cond (Nat.beq f g) .bad (c (.fn f) args H)
 | .round _ _=>.bad
 | .mode=>c .mode args H
noncomputable def ny (C:ak):Cx:=⟨Tryd.prog,C,100000,90,18,KtG.kt 90,none⟩
noncomputable def FE (C:ak):Cx:=⟨Tryd.prog,C,100000,73,83,KtG.kt 73,none⟩
noncomputable def qk (lc:Nat) (j:Int):aq:=[(0,.yld 1 4),(9,.int .i64 (Int.ofNat lc)),(10,.int .i64 j)]
theorem t90 (n:Nat) (C:ak) (lc:Nat) (j:Int) (G G':aa):bG (ny C) (Iy (A1 1000000 (il fI n 0)) 1 4 [.int .i64 j] (bu::G) (.ok (.bool true,bu::G'))) jY jZ (part Tryd.f90 [1,0,0]) (hints (qk lc j)) (bu::G) =
 Tr.ite (yP j (Int.ofNat lc)) (Tr.reqP ([AV.int .i64 j]=[AV.int .i64 j]∧bu::G=bu::G) (Tr.ite (nB true) (Tr.ok (Ex.ret,[(0,AV.yld 1 4,none),(9,AV.int .i64 (Int.ofNat lc),none),(10,AV.int .i64 j,none),(16,AV.bool true,some 1)],bu::G')) (Tr.ok (Ex.normal,[(0,AV.yld 1 4,none),(9,AV.int .i64 (Int.ofNat lc),none),(10,AV.int .i64 (nv .i64 j (Int.ofNat 1)),none)],bu::G')))) (Tr.ok (Ex.exit 0,[(0,AV.yld 1 4,none),(9,AV.int .i64 (Int.ofNat lc),none),(10,AV.int .i64 j,none),(11,AV.bool false,some 1)],bu::G)):=by kernel_rfl
theorem IC (n:Nat) (C:ak) (lc:Nat) (j:Int) (G:aa):bG (ny C) (A1 1000000 (il fI n 0)) jY jZ (part Tryd.f90 [1,0,0]) (hints (qk lc j)) (bu::G) =
 Tr.ite (yP j (Int.ofNat lc)) Tr.bad (Tr.ok (Ex.exit 0,[(0,AV.yld 1 4,none),(9,AV.int .i64 (Int.ofNat lc),none),(10,AV.int .i64 j,none),(11,AV.bool false,some 1)],bu::G)):=by kernel_rfl
end Go.Eng.Q
end
section
namespace Go.Eng.Q
open Go.Proofs Go.Eng.Gall
noncomputable def Jy (s:Nat) (A:AV):AV:=.fn (.func 90) [] [.ptrT (some s) (.G [A]) 0]
noncomputable def cq (A:AV):aq:=[(1,.ptr 0 0 0 0),(3,.ptr 0 2 0 0),(4,.ptr 0 3 0 0),(16,Jy 0 A)]
noncomputable def Fi (dr:Int) (lc:Nat) (zc:Nat→Int) (lb:Nat) (zb:Nat→Int) (W B:Nat→Int):bT:=⟨false,[(0,.row (.G [fp dr lc zc lb zb W B])),(0,.fmap (.num .u64) (jA (fun _=>false) [Int.ofNat 0] true) (jB (fun _=>Int.ofNat 0) [Int.ofNat 0] (Int.ofNat 1)) (mV false 0)),(0,.row (.G [.map 0 1])),(0,.row (.G [.fn (.func 71) [fp dr lc zc lb zb W B] []]))]⟩
theorem LB (n:Nat) (k:Int) (A:AV) (H:aa):bG (kO n) (il fI n 0) jY jZ (part Tryd.f73 [1,1,1,0,1,0,0]) (hints [(1,.ptr 2 0 0 0),(3,.ptr 2 2 0 0),(4,.ptr 2 3 0 0),(16,Jy 2 A),(17,.int .i64 k)]) (bu::H) =
 Tr.ok (Ex.normal,[(1,AV.ptr 2 0 0 0,none),(3,AV.ptr 2 2 0 0,none),(4,AV.ptr 2 3 0 0,none),(5,AV.int .i64 k,none)],bu::H):=by kernel_rfl
theorem LD (n:Nat) (C:ak) (dr:Int) (lc:Nat) (zc:Nat→Int) (lb:Nat) (zb:Nat→Int) (W B:Nat→Int) (G G':aa):kX Tryd.prog C 100000 90 Tryd.f90 (KtG.kt 90) (A1 1000000 (il fI n 0)) (xU jY 0 (qk lc (Int.ofNat 0)) (bu::G) (.ok (.normal,hints (qk lc (Int.ofNat lc)++[(11,.bool false)]),bu::G'))) jZ [(.yld 0 4,none),(.ptrT (some 0) (.G [fp dr lc zc lb zb W B]) 0,none)] G =
 (fun (Z0:aq)=>Tr.reqP (Z0=Z0∧bu::G=bu::G) (Tr.ok ((AV.tup [],none),G'))) [(0,AV.yld 1 4),(9,AV.int .i64 (Int.ofNat lc)),(10,AV.int .i64 (Int.ofNat 0))]:=by kernel_rfl
theorem LC (n:Nat) (C:ak) (dr:Int) (lc:Nat) (zc:Nat→Int) (lb:Nat) (zb:Nat→Int) (W B:Nat→Int) (h:List Int→Bool) (g:List Int→Int) (q:Nat) (H:aa):kX Tryd.prog C 100000 73 Tryd.f73 (KtG.kt 73) (A1 90 (il fI n 1)) jY (Gz jZ (fun _=>true) (cq (fp dr lc zc lb zb W B)) (Fi dr lc zc lb zb W B::H) (.ok (.normal,hints (cq (fp dr lc zc lb zb W B)),jn dr lc zc lb zb W B h g q .dead::H))) [(fp dr lc zc lb zb W B,none)] H =
 (fun (Z0:aq)=>Tr.reqP (Z0=Z0∧Fi dr lc zc lb zb W B::H=Fi dr lc zc lb zb W B::H) (Tr.req (qp (Int.ofNat 0) (Int.ofNat lc)) (Tr.ok ((AV.int .i64 (g [yK IntKind.u64 (iQ IntKind.u64 (Int.ofNat 1) (Int.ofNat lc)) (Int.ofNat 1)]),none),H)))) [(1,AV.ptr 0 0 0 0),(3,AV.ptr 0 2 0 0),(4,AV.ptr 0 3 0 0),(16,AV.fn (Fn.func 90) [] [AV.ptrT (some 0) (Row.G [fp dr lc zc lb zb W B]) 0])]:=by kernel_rfl
theorem JE:∀ b,(0,b) ∈ bf (eR Tryd.f90)→b=.loop (part Tryd.f90 [1,0,0]):=DO (by kernel_rfl)
end Go.Eng.Q
end
section
namespace Go.Eng.Q
open Go.Proofs Go.Eng.Gall
theorem F7 {P:Program} {KT:FuncId→Nat→Nat} {fu:Nat} {g:FuncId} {r:lX} {c:aQ} {call:ak} (h:c.Ok call):(A1 g c).Ok (lU P KT fu g r call):=by
 refine ⟨h.1,fun tgt args H x hx=>?_⟩
 cases tgt with
 | fn f =>
   have hx:(cond (Nat.beq f g) Tr.bad (c (.fn f) args H)).run=some x:=hx
   show (if Nat.beq f g then _ else call (.fn f) (oh args) H)=_
   cases hb:Nat.beq f g with
   | true=>rw[hb] at hx;exact (Tr.ad hx).elim
   | false=>rw[hb] at hx;exact h.2 _ _ _ _ hx
 | round d i=>exact (Tr.ad hx).elim
 | mode=>exact h.2 _ _ _ _ hx
theorem F8 {P:Program} {KT:FuncId→Nat→Nat} {fu:Nat} {g:FuncId} {r:lX} {c:aQ} {call:ak} (h:c.Ok call):(A1 g c).Ok (pV P KT fu r call):=by
 refine ⟨h.1,fun tgt args H x hx=>?_⟩
 cases tgt with
 | fn f =>
   have hx:(cond (Nat.beq f g) Tr.bad (c (.fn f) args H)).run=some x:=hx
   cases hb:Nat.beq f g with
   | true=>rw[hb] at hx;exact (Tr.ad hx).elim
   | false=>rw[hb] at hx;exact h.2 _ _ _ _ hx
 | round d i=>exact (Tr.ad hx).elim
 | mode=>exact h.2 _ _ _ _ hx
theorem yw {P:Program} {KT:FuncId→Nat→Nat} {fu:Nat} {r:lX} {call:ak} {d i:Nat} {args:List AV} {H H1 H2:aa} {l l1 l2:kP} {fr fr1 frx:aq} {lvx:bT} {e:Ex}
 (hg:ah H d i=(0,.loop l)) (hf:l.fn=r.f) (hb:l.body=r.body) (hl:an H d=false) (hs:l.state=.ready)
 (hp:gN l.nt (iN (d+1) l.fr) l.params (args.map (iS 1))=some fr)
 (he:exec ⟨P,call,fu,l.fn,l.nt,KT l.fn,some (d+1,i)⟩ l.assign fr (⟨false,[]⟩::H)=some (.normal,fr1,H1))
 (hg1:ah H1 (d+1) i=(0,.loop l1)) (hs1:l1.state=.ready)
 (hpc:iB ⟨P,call,fu,l.fn,l.nt,KT l.fn,some (d+1,i)⟩ r.S r.L r.suf r.pre fr1 (cE H1 (d+1) i (0,.loop { l1 with state:=.busy }))=some (e,frx,lvx::H2))
 (hg2:ah H2 d i=(0,.loop l2)) :
 kF P KT fu r call d i args H=some (.bool (bg (DD r.id e)).isNone,cE H2 d i (0,.loop { l2 with state:=if (bg (DD r.id e)).isNone then .ready else .done,pending:=bg (DD r.id e) })):=by
 unfold kF
 rw[hg]
 show (@dite _ (l.fn=r.f∧l.body=r.body) (Classical.propDecidable _) _ _)=_
 rw[dif_pos ⟨hf,hb⟩,hl]
 simp only[Bool.false_eq_true,if_false,hs,hp,he,hg1,hs1,hpc,hg2]
theorem GD:cB=.block 1 (assemble [iw [0,0] cB] (cS.code cL) nw):=by kernel_rfl
theorem Fv:cS.ops0.toList=cS.pre++[cS.ro]:=by kernel_rfl
theorem Fy:cS.ro.op=.range cS.ty (.tmp cS.m):=by kernel_rfl
theorem Fo:cS.ro.dst=some cL.it:=by kernel_rfl
theorem Fs:cS.ro.guard=none:=by kernel_rfl
theorem Fw:cL.ops1.toList=cL.no::cL.t1:=by kernel_rfl
theorem Fz:cL.no.op=.next (.tmp cL.it) false:=by kernel_rfl
theorem Fp:cL.no.dst=some cL.nx:=by kernel_rfl
theorem Ft:cL.no.guard=none:=by kernel_rfl
theorem Fx:cL.ops2.toList=cL.eo::cL.t2:=by kernel_rfl
theorem FA:cL.eo.op=.entry (.tmp cL.it):=by kernel_rfl
theorem Fq:cL.eo.dst=some cL.en:=by kernel_rfl
theorem Fu:cL.eo.guard=none:=by kernel_rfl
theorem FB:cR.Ok Tryd.prog:=⟨GD,⟨Fv,Fy,Fo,Fs,_,_,Tryd.underlying128⟩,⟨Fw,Fz,Fp,Ft,Fx,FA,Fq,Fu⟩⟩
noncomputable def gQ (A:AV):kP:={ state:=.ready,pending:=none,fn:=73,nt:=83,fr:=cq A,params:=[17],assign:=part Tryd.f73 [1,1,1,0,1,0,0],body:=cB }
noncomputable def sw (A:AV):kP:={ gQ A with state:=.busy }
theorem Lv:cQ (eR Tryd.f73)=[(.tmp 16,#[17],part Tryd.f73 [1,1,1,0,1,0,0],cB)]:=by kernel_rfl
section
variable (n:Nat) (dr:Int) (lc:Nat) (zc:Nat→Int) (lb:Nat) (zb:Nat→Int) (W B:Nat→Int) (G:aa)
theorem Ix (k:Nat) (hl:lc≤10) (hk:k≤10) (q:Nat) (hG:Gd (dJ W B lc k q)):∃ q',Gd (dJ W B lc (k+1) q') ∧
 kF Tryd.prog KtG.kt 100000 cR (cd (n+1)) 1 4 [.int .i64 (Int.ofNat k)] (bu::fe dr lc zc lb zb W B (.loop (gQ (fp dr lc zc lb zb W B))) (dJ W B lc k q)::G) =
  some (.bool true,bu::fe dr lc zc lb zb W B (.loop (gQ (fp dr lc zc lb zb W B))) (dJ W B lc (k+1) q')::G):=by
 obtain ⟨q',hG',hr⟩:=Ce n k dr lc zc lb zb W B (.loop (sw (fp dr lc zc lb zb W B))) G hl hk q hG
 refine ⟨q',hG',?_⟩
 have h1:=mb (y:=(.normal,fQ (k:Int),bu::bu::fe dr lc zc lb zb W B (.loop (gQ (fp dr lc zc lb zb W B))) (dJ W B lc k q)::G)) (LB (n+1) (k:Int) (fp dr lc zc lb zb W B) (bu::fe dr lc zc lb zb W B (.loop (gQ (fp dr lc zc lb zb W B))) (dJ W B lc k q)::G)) (eS _) (b9 _ _) (cg _ _) (Tr.bV rfl)
 have h5:=mb (y:=(.normal,fQ (k:Int)++[(6,.nils)],bu::bu::fe dr lc zc lb zb W B (.loop (sw (fp dr lc zc lb zb W B))) (dJ W B lc k q)::G)) (t5 (n+1) (k:Int) (bu::fe dr lc zc lb zb W B (.loop (sw (fp dr lc zc lb zb W B))) (dJ W B lc k q)::G)) (eS _) (b9 _ _) (cg _ _) (Tr.bV rfl)
 have hpc:iB (kO (n+1)) cR.S cR.L cR.suf cR.pre (fQ (k:Int)) (bu::bu::fe dr lc zc lb zb W B (.loop (sw (fp dr lc zc lb zb W B))) (dJ W B lc k q)::G)=some (.normal,[],bu::bu::fe dr lc zc lb zb W B (.loop (sw (fp dr lc zc lb zb W B))) (dJ W B lc (k+1) q')::G):=by
  show (match bH (kO (n+1)) (iw [0,0] cB) (fQ (k:Int)) (bu::bu::fe dr lc zc lb zb W B (.loop (sw (fp dr lc zc lb zb W B))) (dJ W B lc k q)::G) with
   | some (.normal,fr,H)=>iB (kO (n+1)) cS cL nw [] fr H
   | x=>x)=_
  rw[cM]
  have h5:exec (kO (n+1)) (iw [0,0] cB) (fQ (k:Int)) (bu::bu::fe dr lc zc lb zb W B (.loop (sw (fp dr lc zc lb zb W B))) (dJ W B lc k q)::G)=_:=h5
  rw[h5]
  exact hr
 exact yw (l:=gQ (fp dr lc zc lb zb W B)) (l1:=gQ (fp dr lc zc lb zb W B)) (l2:=sw (fp dr lc zc lb zb W B)) (e:=.normal) rfl rfl rfl rfl rfl rfl h1 rfl rfl hpc rfl
theorem EO {P:Nat→Nat→Prop} {R:Nat→Nat→Nat→Prop} (hs:∀ k,∀ q,P k q→∃ q',P (k+1) q'∧R k q q') (q0:Nat) (h0:P 0 q0):∃ f:Nat→Nat,f 0=q0∧∀ k,P k (f k)∧R k (f k) (f (k+1)):=by
 let F:Nat→Nat:=fun k=>Nat.rec (motive:=fun _=>Nat) q0 (fun k q=>@dite _ (∃ q',P (k+1) q'∧R k q q') (Classical.propDecidable _) (fun h=>Classical.choose h) (fun _=>0)) k
 have hF:∀ k,P k (F k)∧(P k (F k)→P (k+1) (F (k+1))∧R k (F k) (F (k+1))):=by
  intro k
  have step:∀ k,P k (F k)→P (k+1) (F (k+1))∧R k (F k) (F (k+1)):=fun k hp=>by
   have he:=hs k (F k) hp
   have e:F (k+1)=Classical.choose he:=dif_pos he
   rw[e]
   exact Classical.choose_spec he
  refine ⟨?_,step k⟩
  induction k with
  | zero=>exact h0
  | succ k ih=>exact (step k ih).1
 exact ⟨F,rfl,fun k=>⟨(hF k).1,((hF k).2 (hF k).1).2⟩⟩
theorem wN {C:ak} {c:Code} {callR:aQ} {bl:iT} {rg:ss} {fr:aq} {H:aa} {T:Tr lY} {Q:Ex×aq×aa→Prop} (e:bG (ny C) callR bl rg c (hints fr) H=T) (hC:callR.Ok C) (hB:bl.Ok (ny C) c) (hR:rg.Ok (ny C) c) (h:T.all fun x=>Q x.st):∃ y,exec (ny C) c fr H=some y∧Q y:=by
 obtain ⟨x,h1,h2⟩:=h
 have:=gE (cx:=ny C) hC c hB hR (hints fr) H x (by rw[e];exact h1)
 rw[cr] at this;exact ⟨_,this,h2⟩
theorem D5 {C:ak} {c:Code} (id:Nat) (F:Nat→aq) (G:Nat→aa) (N:Nat) (Y:aq×aa) (hN:N<99999)
 (hs:∀ j,j<N→∃ x,exec (ny C) c (F j) (G j)=some x∧(x.1=.normal∧tidy (aC (G 0)) x.2.1 x.2.2=(F (j+1),G (j+1))))
 (he:∃ x,exec (ny C) c (F N) (G N)=some x∧x=(.exit id,Y)):exec (ny C) (.block id (.loop c)) (F 0) (G 0)=some (.normal,Y):=by
 have key:=mA (body:=exec (ny C) c) (n:=aC (G 0)) F G N (fun _=>false) (fun j=>(.exit id,Y))
  (fun j hj hp=>by
    obtain ⟨x,h1,h2,h3⟩:=hs j hj
    obtain ⟨e,f1,g1⟩:=x
    simp only at h2
    subst h2
    exact ⟨_,_,h1,h3⟩)
  (fun j hj hp=>by cases hp)
  (by
    obtain ⟨x,h1,rfl⟩:=he
    exact ⟨h1,by simp⟩) N 0 100000 (by omega) (by omega)
 exact iK key
theorem JG (hl:lc≤10) (q0:Nat) (hG:Gd (dJ W B lc 0 q0)):∃ q',Gd (dJ W B lc lc q') ∧
 qy Tryd.prog KtG.kt 100000 90 (pV Tryd.prog KtG.kt 100000 cR (cd (n+1))) [.yld 0 4,.ptrT (some 0) (.G [fp dr lc zc lb zb W B]) 0] (fe dr lc zc lb zb W B (.loop (gQ (fp dr lc zc lb zb W B))) (dJ W B lc 0 q0)::G) =
  some (.tup [],fe dr lc zc lb zb W B (.loop (gQ (fp dr lc zc lb zb W B))) (dJ W B lc lc q')::G):=by
 obtain ⟨f,rfl,hf⟩:=EO (P:=fun k q=>k≤10→Gd (dJ W B lc k q)) (R:=fun k q q'=>k≤9→kF Tryd.prog KtG.kt 100000 cR (cd (n+1)) 1 4 [.int .i64 (Int.ofNat k)] (bu::fe dr lc zc lb zb W B (.loop (gQ (fp dr lc zc lb zb W B))) (dJ W B lc k q)::G) =
  some (.bool true,bu::fe dr lc zc lb zb W B (.loop (gQ (fp dr lc zc lb zb W B))) (dJ W B lc (k+1) q')::G)) (fun k q h=>by
  by_cases hk:k≤9
  · obtain ⟨q',h1,h2⟩:=Ix n dr lc zc lb zb W B G k hl (by omega) q (h (by omega))
    exact ⟨q',fun _=>h1,fun _=>h2⟩
  · exact ⟨0,fun h=>by omega,fun h=>by omega⟩) q0 (fun _=>hG)
 refine ⟨f lc,(hf lc).1 hl,?_⟩
 let St:Nat→aa:=fun j=>fe dr lc zc lb zb W B (.loop (gQ (fp dr lc zc lb zb W B))) (dJ W B lc j (f j))::G
 show qy Tryd.prog KtG.kt 100000 90 _ _ (St 0)=some (_,St lc)
 have hr:∀ j,j<lc→pV Tryd.prog KtG.kt 100000 cR (cd (n+1)) (.round 1 4) [.int .i64 (Int.ofNat j)] (bu::St j)=some (.bool true,bu::St (j+1)):=fun j hj=>(hf j).2 (by omega)
 have hC:(A1 1000000 (il fI (n+1) 0)).Ok (pV Tryd.prog KtG.kt 100000 cR (cd (n+1))):=F8 (eS _)
 generalize pV Tryd.prog KtG.kt 100000 cR (cd (n+1))=C at *
 have hx:exec (ny C) (.block 0 (.loop (part Tryd.f90 [1,0,0]))) (qk lc (Int.ofNat 0)) (bu::St 0)=some (.normal,qk lc (Int.ofNat lc)++[(11,.bool false)],bu::St lc):=by
  refine D5 0 (fun j=>qk lc (Int.ofNat j)) (fun j=>bu::St j) lc (_,_) (by omega) (fun j hj=>?_) ?_
  · have ec:nv .i64 (Int.ofNat j) (Int.ofNat 1)=Int.ofNat (j+1):=by
     have:=wo j (by omega)
     rw[fT];exact this
    refine wN (Q:=fun y=>y.1=.normal∧tidy 0 y.2.1 y.2.2=(qk lc (Int.ofNat (j+1)),bu::St (j+1))) (t90 (n+1) C lc (Int.ofNat j) (St j) (St (j+1))) (EG hC (fun x hy=>by rw[← Tr.ab hy];exact hr j hj)) (b9 _ _) (cg _ _) ?_
    rw[ec]
    generalize St (j+1)=G' at *
    generalize St j=G at *
    refine Tr.dk (fun h0=>Tr.gx ⟨rfl,rfl⟩ (Tr.dk (fun h1=>?_) (fun h1=>Tr.bV ⟨rfl,rfl⟩))) (fun h0=>?_)
    · rw[eC] at h1;cases h1
    · exfalso
      simp (disch:=omega) only[nV,nW] at h0
      omega
  · refine wN (IC (n+1) C lc (Int.ofNat lc) (St lc)) hC (b9 _ _) (cg _ _) (Tr.dk (fun h0=>?_) (fun h0=>Tr.bV rfl))
    exfalso
    simp (disch:=omega) only[nV,nW] at h0
    omega
 obtain ⟨y,h1,h2,h3⟩:Tr.all (kX Tryd.prog C 100000 90 Tryd.f90 (KtG.kt 90) (A1 1000000 (il fI (n+1) 0)) (xU jY 0 (qk lc (Int.ofNat 0)) (bu::St 0) (.ok (.normal,hints (qk lc (Int.ofNat lc)++[(11,.bool false)]),bu::St lc))) jZ [(.yld 0 4,none),(.ptrT (some 0) (.G [fp dr lc zc lb zb W B]) 0,none)] (St 0)) (fun y=>y.1.1=AV.tup []∧y.2=St lc):=by
  rw[LD]
  exact Tr.gx ⟨rfl,rfl⟩ (Tr.bV ⟨rfl,rfl⟩)
 have:=Az (P:=Tryd.prog) (KT:=KtG.kt) (fu:=100000) (f:=90) (call:=C) (fn:=Tryd.f90) Tryd.func90 rfl (args:=[(.yld 0 4,none),(.ptrT (some 0) (.G [fp dr lc zc lb zb W B]) 0,none)]) (H:=St 0) rfl hC (nG (b9 _ _) JE (fun x h=>by rw[← Tr.ab h];simp only[lY.st,cr];exact hx)) (cg _ _) h1
 rw[h2,h3] at this
 exact this
noncomputable def vC (lc:Nat) (W B:Nat→Int):Int:=((ro lc (okW W B) lc).length:Int)
theorem Jv (W B:Nat→Int) (lc:Nat):dJ W B lc 0 1=⟨jA (fun _=>false) [Int.ofNat 0] true,jB (fun _=>Int.ofNat 0) [Int.ofNat 0] (Int.ofNat 1),mV false 0⟩:=by
 have e1:=oX (fun _=>false) (fun _=>0) 0 0 true
 have e2:=oY (fun _=>false) (fun _=>0) 0 0 1
 have h0:(jl (fun _=>false) (fun _=>0) 0).h=fun _=>false:=by
  funext l
  match l with
  | []=>rfl
  | [y]=>show (decide (0≤y) && false)=false;simp
  | _::_::_=>rfl
 have g0:(jl (fun _=>false) (fun _=>0) 0).g=fun _=>Int.ofNat 0:=by
  funext l
  match l with
  | []=>rfl
  | [y]=>show (if 0≤y then (((0:Nat)):Int) else 0)=Int.ofNat 0;split<;>rfl
  | _::_::_=>rfl
 rw[h0] at e1
 rw[g0] at e2
 rw[eN,eO,iX]
 have e1:dA (fun _=>false) [Int.ofNat 0] true=_:=e1
 have e2:fi (fun _=>Int.ofNat 0) [Int.ofNat 0] (Int.ofNat 1)=_:=e2
 rw[e1,e2]
 have a1:(fun Y=>decide (0<cF lc (okW W B) 0 Y))=fun y=>if y=0 then true else false:=by
  funext Y;rw[wE]
  by_cases e:Y=0
  · rw[if_pos e,if_pos e];rfl
  · rw[if_neg e,if_neg e];rfl
 have a2:(fun Y=>cF lc (okW W B) 0 Y)=fun y=>if y=0 then 1 else 0:=by funext Y;rw[wE]
 unfold dJ
 rw[a1,a2];rfl
theorem JK (W B:Nat→Int) (lc:Nat):Gd (dJ W B lc 0 1):=by
 rw[Jv]
 show ∃ es,nE (.num .u64) es (jA (fun _=>false) [Int.ofNat 0] true) (jB (fun _=>Int.ofNat 0) [Int.ofNat 0] (Int.ofNat 1)) (mV false 0)
 rw[eN,eO,iX]
 exact zG (h:=fun _=>false) (g:=fun _=>Int.ofNat 0) ⟨[],rfl,(fun j hj=>absurd hj (Nat.not_lt_zero _)),(fun n h=>by cases h),(fun n _=>rfl),(fun i j hi=>absurd hi (Nat.not_lt_zero _))⟩ _ _
theorem JF (hl:lc≤10) (H:aa):Ar Tryd.prog KtG.kt 100000 73 90 cR (cd (n+1)) [fp dr lc zc lb zb W B] H=some (.int .i64 (vC lc W B),H):=by
 obtain ⟨q',hG',hr⟩:=JG n dr lc zc lb zb W B H hl 1 (JK W B lc)
 have hC:(A1 90 (il fI n 1)).Ok (lU Tryd.prog KtG.kt 100000 90 cR (cd (n+1))):=F7 (wX n 1)
 have hx:exec (FE (lU Tryd.prog KtG.kt 100000 90 cR (cd (n+1)))) (.rangeFunc (.tmp 16) #[17] (part Tryd.f73 [1,1,1,0,1,0,0]) cB) (cq (fp dr lc zc lb zb W B)) (Fi dr lc zc lb zb W B::H)=some (.normal,cq (fp dr lc zc lb zb W B),jn dr lc zc lb zb W B (dJ W B lc lc q').h (dJ W B lc lc q').g (dJ W B lc lc q').q .dead::H) :=
  As (cx:=FE (lU Tryd.prog KtG.kt 100000 90 cR (cd (n+1)))) (l:=gQ (fp dr lc zc lb zb W B)) (f:=.tmp 16) (ps:=#[17]) (fr:=cq (fp dr lc zc lb zb W B)) (H:=Fi dr lc zc lb zb W B::H) (g:=90) (a:=[]) (b:=[.ptrT (some 0) (.G [fp dr lc zc lb zb W B]) 0]) rfl rfl rfl (by
   rw[Jv] at hr
   exact hr) rfl rfl rfl
 have e:yK .u64 (iQ .u64 (Int.ofNat 1) (Int.ofNat lc)) (Int.ofNat 1)=((2 ^ lc-1:Nat):Int):=by
  have h1:=Nat.two_pow_pos lc
  have h2:2 ^ lc≤2 ^ 10:=Nat.pow_le_pow_right (by decide) hl
  rw[ER (by omega),lP]
  show IntKind.u64.wrap (((2 ^ lc:Nat):Int)-1)=_
  rw[show ((2 ^ lc:Nat):Int)-1=((2 ^ lc-1:Nat):Int) by omega]
  exact lS (by omega)
 have hg:(dJ W B lc lc q').g [((2 ^ lc-1:Nat):Int)]=vC lc W B:=by
  unfold dJ vC
  rw[zU,DQ]
 obtain ⟨y,h1,h2,h3⟩:Tr.all (kX Tryd.prog (lU Tryd.prog KtG.kt 100000 90 cR (cd (n+1))) 100000 73 Tryd.f73 (KtG.kt 73) (A1 90 (il fI n 1)) jY (Gz jZ (fun _=>true) (cq (fp dr lc zc lb zb W B)) (Fi dr lc zc lb zb W B::H) (.ok (.normal,hints (cq (fp dr lc zc lb zb W B)),jn dr lc zc lb zb W B (dJ W B lc lc q').h (dJ W B lc lc q').g (dJ W B lc lc q').q .dead::H))) [(fp dr lc zc lb zb W B,none)] H) (fun y=>y.1.1=AV.int .i64 (vC lc W B)∧y.2=H):=by
  rw[LC,e,hg]
  refine Tr.gx ⟨rfl,rfl⟩ (Tr.cW ?_ (Tr.bV ⟨rfl,rfl⟩))
  rw[gn];exact decide_eq_true (by show (0:Int)≤(lc:Int);omega)
 have:=Az (P:=Tryd.prog) (KT:=KtG.kt) (fu:=100000) (f:=73) (call:=lU Tryd.prog KtG.kt 100000 90 cR (cd (n+1))) (fn:=Tryd.f73) Tryd.func73 rfl (args:=[(fp dr lc zc lb zb W B,none)]) (H:=H) rfl hC (b9 _ _) (EI (cg _ _) (fun f ps a b _ hm x hx2=>by
  rw[Lv] at hm
  simp only[List.mem_cons,Prod.mk.injEq,List.not_mem_nil,or_false] at hm
  obtain ⟨rfl,rfl,rfl,rfl⟩:=hm
  rw[← Tr.ab hx2];simp only[lY.st,cr];exact hx)) h1
 rw[h2,h3] at this
 exact this
end
end Go.Eng.Q
end
section
namespace Go.Proofs
open Go.Shelf
def Tryd.wI:Go.Shelf.Ren:=⟨fun | 27=>82 | 28=>97 | 29=>98 | n=>n,fun | 0=>0 | 3=>3 | 4=>4 | 5=>5 | 22=>134 | 25=>88 | 27=>132 | 53=>138 | 54=>139 | n=>n,fun | n=>n⟩
theorem Tryd.ctz:Lays7.n27 Tryd.prog Tryd.wI:={
 mixed:=by kernel_rfl
 f27:=Tryd.func82.trans (congrArg some (by kernel_rfl))
 f28:=Tryd.func97.trans (congrArg some (by kernel_rfl))
 f29:=Tryd.func98.trans (congrArg some (by kernel_rfl))
 t0:=Tryd.underlying0
 a0:=Tryd.isAgg0
 z0:=Tryd.sizeOf0
 v0:=Tryd.zeroValue0
 i0:=by kernel_rfl
 t3:=Tryd.underlying3
 a3:=Tryd.isAgg3
 z3:=Tryd.sizeOf3
 v3:=Tryd.zeroValue3
 i3:=by kernel_rfl
 t4:=Tryd.underlying4
 a4:=Tryd.isAgg4
 z4:=Tryd.sizeOf4
 v4:=Tryd.zeroValue4
 i4:=by kernel_rfl
 t5:=Tryd.underlying5
 a5:=Tryd.isAgg5
 z5:=Tryd.sizeOf5
 v5:=Tryd.zeroValue5
 i5:=by kernel_rfl
 t22:=Tryd.underlying134
 a22:=Tryd.isAgg134
 z22:=Tryd.sizeOf134
 v22:=Tryd.zeroValue134
 i22:=by kernel_rfl
 t25:=Tryd.underlying88
 a25:=Tryd.isAgg88
 z25:=Tryd.sizeOf88
 v25:=Tryd.zeroValue88
 i25:=by kernel_rfl
 t27:=Tryd.underlying132
 a27:=Tryd.isAgg132
 z27:=Tryd.sizeOf132
 v27:=Tryd.zeroValue132
 i27:=by kernel_rfl
 t53:=Tryd.underlying138
 a53:=Tryd.isAgg138
 z53:=Tryd.sizeOf138
 v53:=Tryd.zeroValue138
 i53:=by kernel_rfl
 t54:=Tryd.underlying139
 a54:=Tryd.isAgg139
 z54:=Tryd.sizeOf139
 g0:=by kernel_rfl
 g1:=by kernel_rfl }
end Go.Proofs
namespace Go.Eng
open Go.Proofs Go.Sort
noncomputable def DV (args:List AV) (H:aa):Option (AV×aa) :=
 match args with
 | [.int .u64 x]=>if 0≤x∧x<18446744073709551616 then some (.int .i64 (Go.Lib.ctz 64 x.toNat),H) else none
 | _=>none
theorem Bk {args:List AV} {H:aa} {v:AV} {H':aa} (h:DV args H=some (v,H')) {p:al} {M:Mu} {w:World} {cargs:Array Value} (hH:aE p M H w) (hA:dI p M args cargs):(∃ fn,Tryd.prog.funcs[82]?=some fn∧fn.body.isNone=false)∧CallsIn Fence.wide 0 Tryd.prog 82 cargs w (eD p M H w v H'):=by
 refine ⟨⟨_,Tryd.func82,by kernel_rfl⟩,callsIn_wide.2 ?_⟩
 unfold DV at h
 split at h
 case h_2=>simp at h
 rename_i x
 split at h
 case isFalse=>simp at h
 rename_i hx
 simp only[nP] at h
 obtain ⟨rfl,rfl⟩:=h
 have hsize:cargs.size=1:=hA.1
 have hv:=hA.2 0 (by simp)
 have hd:cargs=#[cargs.getD 0 undef]:=by
  apply Array.ext
  · simpa using hsize
  · intro j h1 h2
    have:j=0:=by omega
    subst this
    simp[Array.getD,hsize]
 have hv:ae p M (.int .u64 x) (cargs.getD 0 undef):=hv
 rw[hd,hv.ofInt]
 have hT:TabAt (Tryd.wI.g 1) Go.Lib.deBruijn64tab w:=fun j hj=>hH.pers 1 j _ (p.2 1 j _ (by
  have:j<64:=hj
  unfold lj
  rw[if_pos ⟨rfl,this⟩]))
 have:=Any7.bits_TrailingZeros Tryd.ctz x.toNat (by omega) w (fun _=>hT)
 rw[Int.toNat_of_nonneg hx.1] at this
 refine Calls.mono this ?_
 rintro e w' ⟨rfl,rfl⟩
 exact ⟨_,rfl,Still.refl _,p,M,bh.refl hH,.int _ _⟩
end Go.Eng
end
section
namespace Go.Eng.Gall
open Go.Proofs Go.Eng.Q
theorem named:bX Tryd.prog:=by
 have h:(Tryd.prog.funcs.toList.all fun fn=>fn.body.isNone || !(fn.name == "runtime.NumGoroutine"))=true:=by kernel_rfl
 intro f fn hf hb
 have:=List.all_eq_true.1 h fn (by simpa using Array.mem_of_getElem? hf)
 rw[hb] at this
 simpa using this
theorem mixed:Tryd.prog.follows .mixedOrders=true:=by kernel_rfl
theorem BZ:∀ e ∈ ([]:List a8),aj Tryd.prog e:=fun e h=>by cases h
theorem aw {e:a8} {t:List a8} (h:aj Tryd.prog e) (k:∀ x ∈ t,aj Tryd.prog x):∀ x ∈ e::t,aj Tryd.prog x:=fun x hx=>by
 rcases List.mem_cons.1 hx with rfl | hx
 · exact h
 · exact k x hx
def Ju:List AV→Bool
 | .ptr _ _ _ _::_=>true
 | _=>false
noncomputable def EA (c:ak) (f:FuncId) (args:List AV) (H:aa):Option (AV×aa) :=
 cond (Nat.beq f 82) (DV args H) (cond (Nat.beq f 62) (JC (qy Tryd.prog KtG.kt 100000 62 c args H)) (cond ((Nat.beq f 63 || Nat.beq f 65) && Ju args) (IA c f args H) (cond (Nat.beq f 47) (qy Tryd.prog KtG.kt 100000 47 (wk Tryd.prog KtG.kt 100000 46 c) args H) (cond (Nat.beq f 94 || Nat.beq f 100) (Af Tryd.prog KtG.kt 100000 f c args H) none))))
theorem B6 (hN:bX Tryd.prog) (hD:eQ Tryd.prog):qC Tryd.prog EA:=fun call hC f args H v H' h hne p M w cargs hH hA=>by
 unfold EA at h
 cases h82:Nat.beq f 82 with
 | true =>
   rw[h82,cond_true] at h
   have:=Nat.eq_of_beq_eq_true h82
   subst this
   exact Bk h hH hA
 | false =>
 rw[h82,cond_false] at h
 cases h62:Nat.beq f 62 with
 | true =>
   rw[h62,cond_true] at h
   have:=Nat.eq_of_beq_eq_true h62
   subst this
   unfold JC at h
   split at h
   case h_2=>simp at h
   rename_i v1 H1 he
   simp only[nP] at h
   obtain ⟨rfl,rfl⟩:=h
   obtain ⟨h1,h2⟩:=nU hN hD KtG.kt 100000 hC he hH hA
   exact ⟨h1,h2.mono (fun _ _ h=>eD.Fk h)⟩
 | false =>
 rw[h62,cond_false] at h
 cases hr:((Nat.beq f 63 || Nat.beq f 65) && Ju args) with
 | true =>
   rw[hr,cond_true] at h
   exact EJ hC h hH hA
 | false =>
 rw[hr,cond_false] at h
 cases h47:Nat.beq f 47 with
 | true =>
   rw[h47,cond_true] at h
   have:=Nat.eq_of_beq_eq_true h47
   subst this
   exact nU hN hD KtG.kt 100000 (yM hN hD KtG.kt 100000 46 hC) h hH hA
 | false =>
 rw[h47,cond_false] at h
 cases h94:(Nat.beq f 94 || Nat.beq f 100) with
 | true =>
   rw[h94,cond_true] at h
   exact Ag hN hD KtG.kt 100000 hC h hH hA
 | false=>rw[h94,cond_false] at h;cases h
noncomputable def B7 (tab:List a8):ak→FuncId→List AV→aa→Option (AV×aa):=fun c f args H=>match yr tab c f args H with
 | some x=>some x
 | none=>EA c f args H
theorem xn (hN:bX Tryd.prog) (hD:eQ Tryd.prog) {tab:List a8} (hT:∀ e ∈ tab,aj Tryd.prog e):qC Tryd.prog (B7 tab):=fun call hC f args H v H' h hne p M w cargs hH hA=>by
 unfold B7 at h
 split at h
 · rename_i x hx
   simp only[Option.some.injEq] at h
   subst h
   exact r4 tab hT call hC f args H v H' hx hne p M w cargs hH hA
 · exact B6 hN hD call hC f args H v H' h hne p M w cargs hH hA
theorem az {tab:List a8} (hT:∀ e ∈ tab,aj Tryd.prog e) {e:a8} {H':aa}
 (h:gk Tryd.prog (B7 tab) KtG.kt 100000 40 (.fn e.f) e.args [⟨true,[]⟩]=some (e.v,H')) (hn:e.args.all (p7 9)=true):aj Tryd.prog e:=by
 rw[l6] at h
 exact tE (jF named (l9 named mixed) (xn named (l9 named mixed) hT) KtG.kt 100000 40) h hn
theorem y9 {tab:List a8} (hT:∀ e ∈ tab,aj Tryd.prog e) {f:FuncId} {x:Bool} {H':aa}
 (h:gk Tryd.prog (B7 tab) KtG.kt 100000 40 (.fn f) [] [⟨true,[]⟩]=some (.bool x,H')) (w:World) (hg:qB w) :
 Calls Tryd.prog f #[] w (fun e w'=>e=.returned (.bool x)∧Go.RowKit.Below w.heap.size w w'):=by
 rw[l6] at h
 exact vA (jF named (l9 named mixed) (xn named (l9 named mixed) hT) KtG.kt 100000 40) h w hg
theorem FC (n:Nat):aW Tryd.prog (cd n):=jF named (l9 named mixed) B5 KtG.kt 100000 n
theorem DT (dr:Int) (lc:Nat) (zc:Nat→Int) (lb:Nat) (zb:Nat→Int) (W B:Nat→Int) (hl:lc≤10) {p:al} {M:Mu} {H:aa} {w:World} {cargs:Array Value} (hH:aE p M H w) (hA:dI p M [fp dr lc zc lb zb W B] cargs) :
 (∃ fn,Tryd.prog.funcs[73]?=some fn∧fn.body.isNone=false)∧CallsIn Fence.wide 0 Tryd.prog 73 cargs w (eD p M H w (.int .i64 (vC lc W B)) H) :=
 yv named (l9 named mixed) FB KtG.kt 100000 (FC 3) (JF 2 dr lc zc lb zb W B hl H) hH hA
noncomputable def Jz (dr:Int) (lc:Nat) (zl:List Int) (lb:Nat) (bl:List Int) (f1 f2:Bool) (Wl Bl:List Int):AV:=.ptrT none (.G (.int .i64 dr::.slcT none (.I .i64 zl) 4 lc f1::.slcT none (.I .i64 bl) 2 lb f2::(Wl.map (.int .i64)++Bl.map (.int .u64)))) 0
theorem uh {p:al} {M:Mu} {zl:List Int} {sz lc:Nat} {f:Bool} {c:Value} (hl:zl.length=kB lc sz) (h:ae p M (.slcT none (.I .i64 zl) sz lc f) c):ae p M (.slcT none (.M [.arr .i64 (bx zl) (kB lc sz)]) sz lc false) c:=by
 cases h with
 | slcT vs hp h1 hv h2 h3 h4 =>
   have hlen:(Row.M [.arr .i64 (bx zl) (kB lc sz)]).len=(Row.I .i64 zl).len:=by
    show kB lc sz+0=zl.length
    omega
   refine .slcT vs (fun j hj=>hp j (by rw[← hlen];exact hj)) (fun j hj=>h1 j (by rw[← hlen];exact hj)) (fun j hj=>?_) h2 (fun e=>by cases e) h4
   have hj':j<zl.length:=by rw[hlen] at hj;exact hj
   have:=hv j (by rw[← hlen];exact hj)
   have e:getM [.arr .i64 (bx zl) (kB lc sz)] j=.int .i64 (zl.getD j 0):=by
    show (if j<kB lc sz then AV.int .i64 (bx zl j) else _)=_
    rw[if_pos (by omega),iu]
   show ae p _ (getM [.arr .i64 (bx zl) (kB lc sz)] j) (vs j)
   rw[e]
   exact this.aK _ _
 | slcN=>exact .slcN
theorem Cq {p:al} {M:Mu} {dr:Int} {lc:Nat} {zl:List Int} {lb:Nat} {bl:List Int} {f1 f2:Bool} {Wl Bl:List Int} {c:Value} (hz:zl.length=kB lc 4) (hb:bl.length=kB lb 2) (hW:Wl.length=20) (hB:Bl.length=10) (h:ae p M (Jz dr lc zl lb bl f1 f2 Wl Bl) c):ae p M (fp dr lc (bx zl) lb (bx bl) (bx Wl) (bx Bl)) c:=by
 cases h with
 | ptrT vs hp h1 hv =>
   have hlen:(JA dr lc (bx zl) lb (bx bl) (bx Wl) (bx Bl)).len=33:=rfl
   have hlen':(Row.G (.int .i64 dr::.slcT none (.I .i64 zl) 4 lc f1::.slcT none (.I .i64 bl) 2 lb f2::(Wl.map (.int .i64)++Bl.map (.int .u64)))).len=33:=by simp[Row.len,hW,hB]
   refine .ptrT vs (fun j hj=>hp j (by rw[hlen'] ; rw[hlen] at hj;exact hj)) (fun j hj=>h1 j (by rw[hlen'] ; rw[hlen] at hj;exact hj)) (fun j hj=>?_)
   rw[hlen] at hj
   have:=hv j (by rw[hlen'];exact hj)
   match j,hj,this with
   | 0,_,this=>exact this
   | 1,_,this=>exact uh hz this
   | 2,_,this=>exact uh hb this
   | j + 3,hj,this =>
     have this:ae p _ ((Wl.map (AV.int .i64)++Bl.map (AV.int .u64)).getD j .undef) (vs (j+3)):=this
     show ae p _ (getM [.arr .i64 (bx Wl) 20,.arr .u64 (bx Bl) 10] j) (vs (j+3))
     by_cases hj20:j<20
     · have e:getM [.arr .i64 (bx Wl) 20,.arr .u64 (bx Bl) 10] j=.int .i64 (Wl.getD j 0):=by
        show (if j<20 then AV.int .i64 (bx Wl j) else _)=_
        rw[if_pos hj20,iu]
       have e2:(Wl.map (AV.int .i64)++Bl.map (AV.int .u64)).getD j .undef=.int .i64 (Wl.getD j 0):=by
        rw[List.getD_eq_getElem?_getD,List.getElem?_append_left (by simp;omega),List.getElem?_map,List.getD_eq_getElem?_getD,List.getElem?_eq_getElem (by omega)];rfl
       rw[e];rw[e2] at this
       exact this.aK _ _
     · have e:getM [.arr .i64 (bx Wl) 20,.arr .u64 (bx Bl) 10] j=.int .u64 (Bl.getD (j-20) 0):=by
        show (if j<20 then AV.int .i64 (bx Wl j) else (if j-20<10 then AV.int .u64 (bx Bl (j-20)) else _))=_
        rw[if_neg hj20,if_pos (by omega),iu]
       have e2:(Wl.map (AV.int .i64)++Bl.map (AV.int .u64)).getD j .undef=.int .u64 (Bl.getD (j-20) 0):=by
        rw[List.getD_eq_getElem?_getD,List.getElem?_append_right (by simp;omega),List.getElem?_map,List.length_map,hW,List.getD_eq_getElem?_getD,List.getElem?_eq_getElem (by omega)];rfl
       rw[e];rw[e2] at this
       exact this.aK _ _
def Iw (Wl Bl:List Int) (k X c:Nat):Bool:=(BitVec.ofInt 64 (Bl.getD c 0) &&& ~~~(BitVec.ofNat 64 X)).toNat == 0 && (decide (Wl.getD (2*c) 0≤(k:Int)) && decide ((k:Int)≤Wl.getD (2*c+1) 0))
theorem Ai (Wl Bl:List Int):okW (bx Wl) (bx Bl)=Iw Wl Bl:=by
 funext k X c
 unfold okW Iw
 rw[iu,iu,rB,gn,gn,ef]
 congr 1
 show (IntKind.u64.wrap (((BitVec.ofInt 64 (Bl.getD c 0) &&& ~~~(BitVec.ofInt 64 (X:Int))).toNat:Nat):Int) == 0)=_
 rw[Fm,lS (BitVec.isLt _)]
 generalize (BitVec.ofInt 64 (Bl.getD c 0) &&& ~~~(BitVec.ofNat 64 X)).toNat=t
 rw[Bool.eq_iff_iff,beq_iff_eq,beq_iff_eq]
 omega
def GF (lc:Nat) (Wl Bl:List Int):Nat:=(ro lc (Iw Wl Bl) lc).length
theorem Aj {dr:Int} {lc:Nat} {zl:List Int} {lb:Nat} {bl:List Int} {f1 f2:Bool} {Wl Bl:List Int} {A:AV} {v:Nat} (hA:A=Jz dr lc zl lb bl f1 f2 Wl Bl) (hl:lc≤10) (hz:zl.length=lc*4) (hb:bl.length=lb*2) (hW:Wl.length=20) (hB:Bl.length=10) (hv:GF lc Wl Bl=v):aj Tryd.prog ⟨73,[A],.int .i64 (v:Int)⟩:=by
 intro H hne p M w cargs hH hC
 have e:vC lc (bx Wl) (bx Bl)=(v:Int):=by unfold vC;rw[Ai];exact congrArg Int.ofNat hv
 rw[← e]
 refine DT dr lc (bx zl) lb (bx bl) (bx Wl) (bx Bl) hl hH ⟨hC.1,fun j hj=>?_⟩
 have hC2:=hC.2 j hj
 subst hA
 have:j=0:=by simp at hj;omega
 subst this
 exact Cq (by rw[nN];exact hz) (by rw[nN];exact hb) hW hB hC2
end Go.Eng.Gall
end
