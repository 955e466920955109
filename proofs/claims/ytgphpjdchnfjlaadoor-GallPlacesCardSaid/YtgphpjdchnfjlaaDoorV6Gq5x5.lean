/- Gall: count: the range over the sets, in whatever order. -/
import Derived.Test.YtgphpjdchnfjlaaDoorV6GaQx6
import Derived.Test.YtgphpjdchnfjlaaDoorV6EngTkx3
import Derived.Test.YtgphpjdchnfjlaaDoorV6Gp2x6
import Derived.Shelf.SortM.Plain
import Derived.Shelf.Spec.TrailingZeros
import Derived.Test.YtgphpjdchnfjlaaDoorProg
set_option linter.unusedVariables false
set_option linter.unusedSimpArgs false
set_option maxRecDepth 100000
section
namespace Go.Eng.Q
open Go.Proofs Go.Eng.Gall
theorem mS (L:List Int) (v:Int):rV (rJ (aI L) 0) L.length (aI [v])=aI (L++[v]):=by
 rw[jm,q9,kX];funext i;by_cases h:i<L.length
 · simp[h,List.getElem?_append]
 · by_cases h2:i=L.length
   · subst h2;simp
   · have e1:[v][i-L.length]?=none:=List.getElem?_eq_none (by simp;omega);have e2:(L++[v])[i]?=none:=List.getElem?_eq_none (by simp;omega);simp only[h,if_false,List.getD_eq_getElem?_getD,e1,e2]
theorem GY {L:bP} {cx:Cx} {callR:bt} {bl:eV} {rg:om} {k n:Nat} {kv:AV×AV} {fr fr':aC} {l l':bG} {R:ab} {T:Tr (aH×ab)} (e:L.tJ cx callR bl rg k n kv (hints fr) (l::R)=T) (hC:callR.Ok cx.call) (hB:bl.Ok cx L.rest) (hR:rg.Ok cx L.rest)
 (h:T.all fun y=>strip y.1=fr'∧y.2=l'::R):gb L cx k n R kv (fr,l)=some (fr',l'):=by
 obtain ⟨y,h1,h2,h3⟩:=h
 have:=bP.Es hC hB hR (by rw[e];exact h1)
 rw[aL,h2,h3] at this
 unfold gb
 rw[this]
theorem yo {L:bP} {cx:Cx} {callR:bt} {fr:aC} {H:ab} {T:Tr (aH×ab)} (e:L.vv cx callR (hints fr) H=T) (hC:callR.Ok cx.call) {y:aC×ab} (h:T.all fun z=>(strip z.1,z.2)=y):L.last cx fr H=some y:=by
 obtain ⟨z,h1,rfl⟩:=h;have:=bP.Gg hC (by rw[e];exact h1);rw[aL] at this;exact this
noncomputable def Nl (g:List Int→Int) (e:Int):AV×AV:=(.int .u64 e,.int .i64 (g [e]))
noncomputable def Jl (k:Int):List Int→aC×bG
 | []=>(iT k++[(6,.nils),(18,.map 2 1),(19,.ptr 0 0 0 0)],Ut)
 | a::r=>(iT k++[(6,.slc 0 2 r.length 0 1 (r.length+1) none),(19,.ptr 0 0 0 0)],jW a r.length (r.length+1) (aI (a::r)))
theorem Xa (n:Nat) (k:Int) (g:List Int→Int) (R:ab) (xs:List Int) (e:Int) (hx:xs.length≤2000):gb cL (ot n) 0 1 R (Nl g e) (Jl k xs)=some (Jl k (xs++[e])):=by
 cases xs with
 | nil =>
   refine GY (Xe n k e (g [e]) R) (ay n) (aj _ _) (ak _ _) ?_;exact wF
 | cons a r =>
   simp only[List.length_cons] at hx;have e1:=mS (a::r) e;simp only[List.length_cons] at e1;have e3:au (r.length+1) 1=r.length+1+1:=by rw[aM]
   have e4:(r++[e]).length=r.length+1:=by simp
   have T:=tB n k e (g [e]) a r.length (r.length+1) (aI (a::r)) R;rw[e1,e3] at T;refine GY T (ay n) (aj _ _) (ak _ _) ?_;show Tr.all _ (fun y:aH×ab=>strip y.1=iT k++[(6,.slc 0 2 (r++[e]).length 0 1 ((r++[e]).length+1) none),(19,.ptr 0 0 0 0)]∧y.2=jW a (r++[e]).length ((r++[e]).length+1) (aI (a::r++[e]))::R);rw[e4];generalize aI (a::r++[e])=Y at *;exact wF
theorem J4 (n:Nat) (k:Int) (g:List Int→Int) (R:ab):∀ (ks xs:List Int),xs.length+ks.length≤2000→fU cL (ot n) 0 1 R (ks.map (Nl g)) (Jl k xs)=some (Jl k (xs++ks))
 | [],xs,_=>by rw[List.append_nil];rfl
 | e::ks,xs,h=>by
   show (match gb cL (ot n) 0 1 R (Nl g e) (Jl k xs) with
    | some t=>fU cL (ot n) 0 1 R (ks.map (Nl g)) t
    | none=>none)=_
   rw[List.length_cons] at h;rw[Xa n k g R xs e (by omega)];have:=J4 n k g R ks (xs++[e]) (by rw[List.length_append,List.length_singleton];omega);rw[List.append_assoc] at this;exact this
theorem NY {es:List (AV×AV)} {h:List Int→Bool} {g:List Int→Int} {c:Nat} (hE:qZ (.num .u64) es h g c):∀ vs:List Nat,vs.Nodup→(∀ j ∈ vs,j<es.length) →
 ∃ ks:List Int,(vs.map fun j=>(es.map fun e=>(mH (1+1) e.1,mH (1+1) e.2)).getD j (.undef,.undef))=ks.map (Nl g)∧(∀ y ∈ ks,h [y]=true)∧(∀ j ∈ vs,∀ y,(es.getD j (.undef,.undef)).1=.int .u64 y→y ∈ ks)∧(∀ y ∈ ks,∃ j ∈ vs,(es.getD j (.undef,.undef)).1=.int .u64 y)∧ks.Nodup
 | [],_,_=>⟨[],rfl,fun e he=>(by cases he),fun j hj=>(by cases hj),fun e he=>(by cases he),List.nodup_nil⟩
 | j :: vs,hn,hv=>by
   rw[List.nodup_cons] at hn;obtain ⟨l,l1,l2,l3,l4,l5⟩:=NY hE vs hn.2 (fun i hi=>hv i (List.mem_cons_of_mem _ hi));have hj:=hv j (by simp);obtain ⟨m,e1,e2⟩:=hE.ent j hj;have hlen:m.length=1:=Nat.eq_of_beq_eq_true (hE.all _ e2).1;obtain ⟨a,rfl⟩:∃ a,m=[a]:=by
    match m,hlen with
    | [a],_=>exact ⟨a,rfl⟩
   have e1':es[j]'hj=(.int .u64 a,.int .i64 (g [a])):=by
    rw[List.getD_eq_getElem?_getD,List.getElem?_eq_getElem hj] at e1;exact e1
   refine ⟨a::l,?_,fun y hy=>?_,fun i hi y hy=>?_,fun y hy=>?_,List.nodup_cons.2 ⟨fun ha=>?_,l5⟩⟩
   · rw[List.map_cons,List.map_cons,l1];congr 1;rw[List.getD_eq_getElem?_getD,List.getElem?_eq_getElem (by simpa using hj),List.getElem_map,e1'];rfl
   · rcases List.mem_cons.1 hy with rfl | hy
     · exact e2
     · exact l2 y hy
   · rcases List.mem_cons.1 hi with rfl | hi
     · rw[e1] at hy;have hy:AV.int IntKind.u64 a=AV.int IntKind.u64 y:=hy;injection hy with _ hy;subst hy;simp
     · exact List.mem_cons_of_mem _ (l3 i hi y hy)
   · rcases List.mem_cons.1 hy with rfl | hy
     · exact ⟨j,by simp,by rw[e1];rfl⟩
     · obtain ⟨i,i1,i2⟩:=l4 y hy;exact ⟨i,List.mem_cons_of_mem _ i1,i2⟩
   · obtain ⟨i,i1,i2⟩:=l4 a ha;have:i=j:=hE.nd i j (hv i (List.mem_cons_of_mem _ i1)) hj (by rw[i2,e1];rfl);subst this;exact hn.1 i1
theorem fk {vs:List Nat} {n:Nat} (hn:vs.Nodup) (hl:vs.length=n) (hb:∀ j ∈ vs,j<n) {j:Nat} (hj:j<n):j ∈ vs:=by
 apply Classical.byContradiction;intro hc;have:=fZ (L:=j::vs) (M:=List.range n) (List.nodup_cons.2 ⟨hc,hn⟩) (fun i hi=>by
  rcases List.mem_cons.1 hi with rfl | hi
  · simpa using hj
  · simpa using hb i hi)
 simp only[List.length_cons,List.length_range] at this;omega
theorem HJ {es:List (AV×AV)} {h:List Int→Bool} {g:List Int→Int} {c:Nat} (hE:qZ (.num .u64) es h g c) (vs:List Nat) (hn:vs.Nodup) (hl:vs.length=es.length) (hv:∀ j ∈ vs,j<es.length) :
 ∃ ks:List Int,(vs.map fun j=>(es.map fun e=>(mH (1+1) e.1,mH (1+1) e.2)).getD j (.undef,.undef))=ks.map (Nl g)∧(∀ y,y ∈ ks↔h [y]=true)∧ks.Nodup:=by
 obtain ⟨ks,k1,k2,k3,_,k5⟩:=NY hE vs hn hv
 refine ⟨ks,k1,fun y=>⟨k2 y,fun hy=>?_⟩,k5⟩
 obtain ⟨_,j,j1,j2⟩:=hE.all _ hy
 exact k3 j (fk hn hl hv j1) y j2
theorem OZ {es es':List (AV×AV)} {h:List Int→Bool} {g:List Int→Int} {c c':Nat} (hE:qZ (.num .u64) es h g c) (hE':qZ (.num .u64) es' h g c'):c=c':=by
 obtain ⟨ks,a1,a2,a3⟩:=HJ hE (List.range es.length) List.nodup_range (by simp) (fun j hj=>by simpa using hj);obtain ⟨ks',b1,b2,b3⟩:=HJ hE' (List.range es'.length) List.nodup_range (by simp) (fun j hj=>by simpa using hj);have e1:=congrArg List.length a1;have e2:=congrArg List.length b1;simp only[List.length_map,List.length_range] at e1 e2;have:=((List.perm_ext_iff_of_nodup a3 b3).2 (fun y=>(a2 y).trans (b2 y).symm)).length_eq;have:=hE.len;have:=hE'.len;omega
noncomputable def fJ (W B:Nat→Int) (U k q:Nat):CS:=me (fun Y=>decide (0<cF U (okW W B) k Y)) (fun Y=>cF U (okW W B) k Y) q
theorem Rz (W B:Nat→Int) (U k q:Nat):me (hD U (okW W B) k []) (gD U (okW W B) k []) q=fJ W B U k q:=by
 unfold fJ;congr 1;funext Y;unfold hD;simp
theorem Bc {W B:Nat→Int} {U k q:Nat} {y:Int}:(fJ W B U k q).h [y]=true↔∃ Y:Nat,y=(Y:Int)∧0<cF U (okW W B) k Y:=by
 show (decide (0≤y) && decide (0<cF U (okW W B) k y.toNat))=true↔_;rw[Bool.and_eq_true,decide_eq_true_iff,decide_eq_true_iff];constructor
 · rintro ⟨a,b⟩;exact ⟨y.toNat,by omega,b⟩
 · rintro ⟨Y,rfl,b⟩;exact ⟨by omega,by rw[Int.toNat_natCast];exact b⟩
theorem Oq {W B:Nat→Int} {U k q:Nat} {ks:List Int} (hn:ks.Nodup) (hk:∀ y,y ∈ ks↔(fJ W B U k q).h [y]=true):∃ Ks:List Nat,ks=Ks.map (fun X:Nat=>(X:Int))∧Ks.Nodup∧∀ X,X ∈ Ks↔0<cF U (okW W B) k X:=by
 have e:ks=(ks.map Int.toNat).map (fun X:Nat=>(X:Int)):=by
  rw[List.map_map];conv=>lhs;rw[← List.map_id ks]
  apply List.map_congr_left;intro y hy;obtain ⟨Y,h1,_⟩:=Bc.1 ((hk y).1 hy);show y=((y.toNat:Nat):Int);omega
 refine ⟨ks.map Int.toNat,e,?_,fun X=>?_⟩
 · rw[e] at hn;exact List.Pairwise.of_map (S:=fun a b=>a≠b) _ (fun a b h e=>h (by rw[e])) hn
 · rw[List.mem_map];constructor
   · rintro ⟨y,hy,rfl⟩;obtain ⟨Y,h1,h2⟩:=Bc.1 ((hk y).1 hy);rw[h1,Int.toNat_natCast];exact h2
   · intro h;exact ⟨(X:Int),(hk _).2 (Bc.2 ⟨X,rfl,h⟩),Int.toNat_natCast X⟩
theorem N6 {W B:Nat→Int} {U k q:Nat} (hl:U≤10) (hk10:k≤10) (hG:Gd (fJ W B U k q)) {ks:List Int} (hn:ks.Nodup) (hk:∀ y,y ∈ ks↔(fJ W B U k q).h [y]=true) :
 ks.length≤1024∧∃ q',Hh W B (k:Int) U (aI ks) ks.length (fJ W B U k q)=fJ W B U (k+1) q'∧Gd (fJ W B U (k+1) q'):=by
 obtain ⟨Ks,rfl,h1,h2⟩:=Oq hn hk
 rw[List.length_map]
 constructor
 · have:=fZ (L:=Ks) (M:=List.range (2 ^ U)) h1 (fun X hX=>List.mem_range.2 (Fq ((h2 X).1 hX)))
   rw[List.length_range] at this
   exact Nat.le_trans this (Nat.pow_le_pow_right (by decide) hl:2 ^ U≤2 ^ 10)
 · rw[← Rz] at hG ⊢
   obtain ⟨q',e,hG'⟩:=MQ W B k U hl hk10 q Ks (aI (Ks.map (fun X:Nat=>(X:Int)))) (fun j hj=>by
    rw[fq];show (List.map (fun X:Nat=>(X:Int)) Ks).getD j 0=_;rw[List.getD_eq_getElem?_getD,List.getElem?_eq_getElem (by simpa using hj),List.getElem_map];rfl) h1 (fun x hx=>(h2 x).1 hx) hG Ks.length (Nat.le_refl _)
   rw[e] at hG' ⊢
   rw[List.take_length] at hG' ⊢
   have e2:me (hD U (okW W B) k Ks) (gD U (okW W B) k Ks) q'=fJ W B U (k+1) q':=by
    unfold fJ;congr 1
    · funext Y;exact LX h2 Y
    · funext Y;exact LV h1 h2 Y
   rw[e2] at hG' ⊢
   exact ⟨q',rfl,hG'⟩
section
variable (n k:Nat) (O:Int) (U:Nat) (Z:Nat→Int) (V:Nat) (J:Nat→Int) (W B:Nat→Int) (b:an) (G:ab)
theorem LF (hl:U≤10) (hk:k≤10) (q:Nat) (hG:Gd (fJ W B U k q)):∃ q',Gd (fJ W B U (k+1) q') ∧
 BY (ot (n+1)) cL qS 1 0 (av::df O U Z V J W B b (fJ W B U k q)::G) (bE (av::df O U Z V J W B b (fJ W B U k q)::G)) (Jl (k:Int) []) (.num .u64) (fJ W B U k q).h (fJ W B U k q).g (fJ W B U k q).q 0 (.normal,av::av::df O U Z V J W B b (fJ W B U (k+1) q')::G):=by
 obtain ⟨es0,hE0⟩:=hG
 obtain ⟨ks0,_,o2,o3⟩:=HJ hE0 (List.range es0.length) List.nodup_range (by simp) (fun j hj=>by simpa using hj)
 obtain ⟨_,q',_,hG'⟩:=N6 hl hk ⟨es0,hE0⟩ o3 o2
 refine ⟨q',hG',rfl,fun es hE vs hn hlen hv=>?_⟩
 obtain ⟨ks,k1,k2,k3⟩:=HJ hE vs hn hlen hv
 obtain ⟨c1,q2,c2,c3⟩:=N6 hl hk ⟨es,hE⟩ k3 k2
 have eq:q2=q':=by
  obtain ⟨e1,h1⟩:=c3;obtain ⟨e2,h2⟩:=hG';exact OZ h1 h2
 subst eq
 rw[k1]
 have hf:=J4 (n+1) (k:Int) (fJ W B U k q).g (bE (av::df O U Z V J W B b (fJ W B U k q)::G)) ks [] (by simp;omega)
 rw[List.nil_append] at hf
 refine ⟨Jl (k:Int) ks,?_⟩
 cases ks with
 | nil =>
   refine ⟨QA k,Ut,hf,yo (Xf (n+1) k _) (ay _) (Tr.ag rfl),?_⟩
   rw[fR]
   have h:=jN (y:=(.normal,_,_)) (tZ (n+1) k (df O U Z V J W B b (fJ W B U k q)::G)) (ay _) (aj _ _) (ak _ _) (Tr.ag rfl)
   refine ⟨_,_,h,?_⟩
   have c2:fJ W B U k q=fJ W B U (k+1) q2:=c2
   rw[c2];rfl
 | cons a r =>
   refine ⟨QB k r.length (r.length+1),jW a r.length (r.length+1) (aI (a::r)),hf,yo (tX (n+1) k a r.length (r.length+1) (aI (a::r)) _) (ay _) (Tr.ag rfl),?_⟩
   rw[fR]
   rw[List.length_cons] at c1 c2
   have h:=SF n k a r.length (r.length+1) (aI (a::r)) O U Z V J W B b G (by omega) hl (fJ W B U k q)
   rw[c2] at h
   exact ⟨_,_,h,rfl⟩
theorem Jh (hl:U≤10) (hk:k≤10) (q:Nat) (hG:Gd (fJ W B U k q)):∃ q',Gd (fJ W B U (k+1) q') ∧
 kx (ot (n+1)) cS cL qS (iT (k:Int)++[(6,.nils)]) (av::av::df O U Z V J W B b (fJ W B U k q)::G)=some (.normal,[],av::av::df O U Z V J W B b (fJ W B U (k+1) q')::G):=by
 obtain ⟨q',hG',hends⟩:=LF n k O U Z V J W B b G hl hk q hG
 refine ⟨q',hG',?_⟩
 obtain ⟨es,hE⟩:=hG
 generalize fJ W B U k q=s at *
 have hp:lr (ot (n+1)).P (ot (n+1)).nt (ot (n+1)).call cS.ops0 cS.pre (iT (k:Int)++[(6,.nils)]) (av::av::df O U Z V J W B b s::G)=some (iT (k:Int)++[(6,.nils),(18,.map 2 1)],av::av::df O U Z V J W B b s::G):=by
  have:=eE.Jf (S:=cS) (cx:=ot (n+1)) (callR:=il aF (n+1) 0) (ay _) (fr:=hints (iT (k:Int)++[(6,.nils)])) (H:=av::av::df O U Z V J W B b s::G) (by
   show (eE.MA _ _ _ _ _).run=_;exact congrArg Tr.run (tS (n+1) k O U Z V J W B s.h s.g s.q b G))
  rw[aL] at this;exact this
 unfold kx
 rw[hp]
 show (@dite _ (∃ y,BY (ot (n+1)) cL qS 1 0 (av::df O U Z V J W B b s::G) (bE (av::df O U Z V J W B b s::G)) (Jl (k:Int) []) (.num .u64) s.h s.g s.q 0 y) (Classical.propDecidable _)
  (fun hx=>some ((Classical.choose hx).1,[],(Classical.choose hx).2)) (fun _=>none))=_
 have hex:∃ y,BY (ot (n+1)) cL qS 1 0 (av::df O U Z V J W B b s::G) (bE (av::df O U Z V J W B b s::G)) (Jl (k:Int) []) (.num .u64) s.h s.g s.q 0 y:=⟨_,hends⟩
 rw[dif_pos hex]
 have hc:=Classical.choose_spec hex
 generalize Classical.choose hex=Y at *
 obtain ⟨s1,f1,l1,e1,e2,frY,HY,e3,e4⟩:=hc.2 es hE (List.range es.length) List.nodup_range (by simp) (fun j hj=>by simpa using hj)
 obtain ⟨s2,f2,l2,g1,g2,frZ,HZ,g3,g4⟩:=hends.2 es hE (List.range es.length) List.nodup_range (by simp) (fun j hj=>by simpa using hj)
 rw[e1] at g1
 obtain rfl:=Option.some.inj g1
 rw[e2] at g2
 simp only[Option.some.injEq,Prod.mk.injEq,List.cons.injEq,and_true] at g2
 obtain ⟨rfl,rfl⟩:=g2
 rw[e3] at g3
 simp only[nP] at g3
 obtain ⟨h1,_,rfl⟩:=g3
 rw[e4] at g4
 rw[h1,g4]
end
end Go.Eng.Q
end
section
namespace Go.Eng.Q
open Go.Proofs Go.Eng.Gall
def Hy (g:FuncId) (c:bt):bt:=fun tgt args H=>match tgt with
 | .fn f=>cond (Nat.beq f g) .bad (c (.fn f) args H)
 | .round _ _=>.bad
 | .mode=>c .mode args H
noncomputable def qT (C:aJ):Cx:=⟨Tryd.prog,C,100000,90,18,KtG.kt 90,none⟩
noncomputable def NW (C:aJ):Cx:=⟨Tryd.prog,C,100000,73,83,KtG.kt 73,none⟩
noncomputable def sr (U:Nat) (j:Int):aC:=[(0,.yld 1 4),(9,.int .i64 (Int.ofNat U)),(10,.int .i64 j)]
theorem Uy (n:Nat) (O:Int) (U:Nat) (Z:Nat→Int) (V:Nat) (J:Nat→Int) (W B:Nat→Int) (H:ab):bg Tryd.prog (cd n) 100000 70 Tryd.f70 (KtG.kt 70) (il aF n 0) aR aQ [(shV O U Z V J W B,none)] H =
 Tr.ok ((AV.fn (Fn.func 90) [] [AV.ptrT (some 0) (Row.G [shV O U Z V J W B]) 0],none),H):=by kernel_rfl
theorem t90 (n:Nat) (C:aJ) (U:Nat) (j:Int) (G G':ab):aS (qT C) (PY (Hy 1000000 (il aF n 0)) 1 4 [.int .i64 j] (av::G) (.ok (.bool true,av::G'))) aR aQ (part Tryd.f90 [1,0,0]) (hints (sr U j)) (av::G) =
 Tr.ite (bM j (Int.ofNat U)) (Tr.reqP ([AV.int .i64 j]=[AV.int .i64 j]∧av::G=av::G) (Tr.ite (bF true) (Tr.ok (Ex.ret,[(0,AV.yld 1 4,none),(9,AV.int .i64 (Int.ofNat U),none),(10,AV.int .i64 j,none),(16,AV.bool true,some 1)],av::G')) (Tr.ok (Ex.normal,[(0,AV.yld 1 4,none),(9,AV.int .i64 (Int.ofNat U),none),(10,AV.int .i64 (bm .i64 j (Int.ofNat 1)),none)],av::G')))) (Tr.ok (Ex.exit 0,[(0,AV.yld 1 4,none),(9,AV.int .i64 (Int.ofNat U),none),(10,AV.int .i64 j,none),(11,AV.bool false,some 1)],av::G)):=by kernel_rfl
theorem SP (n:Nat) (C:aJ) (U:Nat) (j:Int) (G:ab):aS (qT C) (Hy 1000000 (il aF n 0)) aR aQ (part Tryd.f90 [1,0,0]) (hints (sr U j)) (av::G) =
 Tr.ite (bM j (Int.ofNat U)) Tr.bad (Tr.ok (Ex.exit 0,[(0,AV.yld 1 4,none),(9,AV.int .i64 (Int.ofNat U),none),(10,AV.int .i64 j,none),(11,AV.bool false,some 1)],av::G)):=by kernel_rfl
end Go.Eng.Q
end
section
namespace Go.Eng.Q
open Go.Proofs Go.Eng.Gall
noncomputable def Uu (s:Nat) (A:AV):AV:=.fn (.func 90) [] [.ptrT (some s) (.G [A]) 0]
noncomputable def fr0 (A:AV):aC:=[(1,.ptr 0 0 0 0),(3,.ptr 0 2 0 0),(4,.ptr 0 3 0 0),(16,Uu 0 A)]
noncomputable def Nm (O:Int) (U:Nat) (Z:Nat→Int) (V:Nat) (J:Nat→Int) (W B:Nat→Int):bG:=⟨false,[(0,.row (.G [shV O U Z V J W B])),(0,.fmap (.num .u64) (mE (fun _=>false) [Int.ofNat 0] true) (mF (fun _=>Int.ofNat 0) [Int.ofNat 0] (Int.ofNat 1)) (qn false 0)),(0,.row (.G [.map 0 1])),(0,.row (.G [.fn (.func 71) [shV O U Z V J W B] []]))]⟩
theorem Xg (n:Nat) (k:Int) (A:AV) (H:ab):aS (ot n) (il aF n 0) aR aQ (part Tryd.f73 [1,1,1,0,1,0,0]) (hints [(1,.ptr 2 0 0 0),(3,.ptr 2 2 0 0),(4,.ptr 2 3 0 0),(16,Uu 2 A),(17,.int .i64 k)]) (av::H) =
 Tr.ok (Ex.normal,[(1,AV.ptr 2 0 0 0,none),(3,AV.ptr 2 2 0 0,none),(4,AV.ptr 2 3 0 0,none),(5,AV.int .i64 k,none)],av::H):=by kernel_rfl
theorem XH (n:Nat) (C:aJ) (O:Int) (U:Nat) (Z:Nat→Int) (V:Nat) (J:Nat→Int) (W B:Nat→Int) (G G':ab):bg Tryd.prog C 100000 90 Tryd.f90 (KtG.kt 90) (Hy 1000000 (il aF n 0)) (cV aR 0 (sr U (Int.ofNat 0)) (av::G) (.ok (.normal,hints (sr U (Int.ofNat U)++[(11,.bool false)]),av::G'))) aQ [(.yld 0 4,none),(.ptrT (some 0) (.G [shV O U Z V J W B]) 0,none)] G =
 (fun (Z0:aC)=>Tr.reqP (Z0=Z0∧av::G=av::G) (Tr.ok ((AV.tup [],none),G'))) [(0,AV.yld 1 4),(9,AV.int .i64 (Int.ofNat U)),(10,AV.int .i64 (Int.ofNat 0))]:=by kernel_rfl
theorem XA (n:Nat) (C:aJ) (O:Int) (U:Nat) (Z:Nat→Int) (V:Nat) (J:Nat→Int) (W B:Nat→Int) (h:List Int→Bool) (g:List Int→Int) (q:Nat) (H:ab):bg Tryd.prog C 100000 73 Tryd.f73 (KtG.kt 73) (Hy 90 (il aF n 1)) aR (MD aQ (fun _=>true) (fr0 (shV O U Z V J W B)) (Nm O U Z V J W B::H) (.ok (.normal,hints (fr0 (shV O U Z V J W B)),mf O U Z V J W B h g q .dead::H))) [(shV O U Z V J W B,none)] H =
 (fun (Z0:aC)=>Tr.reqP (Z0=Z0∧Nm O U Z V J W B::H=Nm O U Z V J W B::H) (Tr.req (dp (Int.ofNat 0) (Int.ofNat U)) (Tr.ok ((AV.int .i64 (g [bX IntKind.u64 (cI IntKind.u64 (Int.ofNat 1) (Int.ofNat U)) (Int.ofNat 1)]),none),H)))) [(1,AV.ptr 0 0 0 0),(3,AV.ptr 0 2 0 0),(4,AV.ptr 0 3 0 0),(16,AV.fn (Fn.func 90) [] [AV.ptrT (some 0) (Row.G [shV O U Z V J W B]) 0])]:=by kernel_rfl
theorem UK:∀ b,(0,b) ∈ aP (bA Tryd.f90)→b=.loop (part Tryd.f90 [1,0,0]):=eN (by kernel_rfl)
end Go.Eng.Q
end
section
namespace Go.Eng.Q
open Go.Proofs Go.Eng.Gall
theorem OL {P:Program} {KT:FuncId→Nat→Nat} {fu:Nat} {g:FuncId} {r:pD} {c:bt} {call:aJ} (h:c.Ok call):(Hy g c).Ok (py P KT fu g r call):=by
 refine ⟨h.1,fun tgt args H x hx=>?_⟩;cases tgt with
 | fn f =>
   have hx:(cond (Nat.beq f g) Tr.bad (c (.fn f) args H)).run=some x:=hx;show (if Nat.beq f g then _ else call (.fn f) (lJ args) H)=_;cases hb:Nat.beq f g with
   | true=>rw[hb] at hx;exact (Tr.ah hx).elim
   | false=>rw[hb] at hx;exact h.2 _ _ _ _ hx
 | round d i=>exact (Tr.ah hx).elim
 | mode=>exact h.2 _ _ _ _ hx
theorem OM {P:Program} {KT:FuncId→Nat→Nat} {fu:Nat} {g:FuncId} {r:pD} {c:bt} {call:aJ} (h:c.Ok call):(Hy g c).Ok (ui P KT fu r call):=by
 refine ⟨h.1,fun tgt args H x hx=>?_⟩;cases tgt with
 | fn f =>
   have hx:(cond (Nat.beq f g) Tr.bad (c (.fn f) args H)).run=some x:=hx;cases hb:Nat.beq f g with
   | true=>rw[hb] at hx;exact (Tr.ah hx).elim
   | false=>rw[hb] at hx;exact h.2 _ _ _ _ hx
 | round d i=>exact (Tr.ah hx).elim
 | mode=>exact h.2 _ _ _ _ hx
theorem Eo {P:Program} {KT:FuncId→Nat→Nat} {fu:Nat} {r:pD} {call:aJ} {d i:Nat} {args:List AV} {H H1 H2:ab} {l l1 l2:jY} {fr fr1 frx:aC} {lvx:bG} {e:Ex}
 (hg:az H d i=(0,.loop l)) (hf:l.fn=r.f) (hb:l.body=r.body) (hl:aK H d=false) (hs:l.state=.ready)
 (hp:jD l.nt (kD (d+1) l.fr) l.params (args.map (mH 1))=some fr)
 (he:exec ⟨P,call,fu,l.fn,l.nt,KT l.fn,some (d+1,i)⟩ l.assign fr (⟨false,[]⟩::H)=some (.normal,fr1,H1))
 (hg1:az H1 (d+1) i=(0,.loop l1)) (hs1:l1.state=.ready)
 (hpc:lk ⟨P,call,fu,l.fn,l.nt,KT l.fn,some (d+1,i)⟩ r.S r.L r.suf r.pre fr1 (dG H1 (d+1) i (0,.loop { l1 with state:=.busy }))=some (e,frx,lvx::H2))
 (hg2:az H2 d i=(0,.loop l2)) :
 nZ P KT fu r call d i args H=some (.bool (cD (Ld r.id e)).isNone,dG H2 d i (0,.loop { l2 with state:=if (cD (Ld r.id e)).isNone then .ready else .done,pending:=cD (Ld r.id e) })):=by
 unfold nZ
 rw[hg]
 show (@dite _ (l.fn=r.f∧l.body=r.body) (Classical.propDecidable _) _ _)=_
 rw[dif_pos ⟨hf,hb⟩,hl]
 simp only[Bool.false_eq_true,if_false,hs,hp,he,hg1,hs1,hpc,hg2]
theorem Qw:cB=.block 1 (assemble [ld [0,0] cB] (cS.code cL) qS):=by kernel_rfl
theorem NO:cS.ops0.toList=cS.pre++[cS.ro]:=by kernel_rfl
theorem NR:cS.ro.op=.range cS.ty (.tmp cS.m):=by kernel_rfl
theorem NI:cS.ro.dst=some cL.it:=by kernel_rfl
theorem NL:cS.ro.guard=none:=by kernel_rfl
theorem NP:cL.ops1.toList=cL.no::cL.t1:=by kernel_rfl
theorem NS:cL.no.op=.next (.tmp cL.it) false:=by kernel_rfl
theorem NJ:cL.no.dst=some cL.nx:=by kernel_rfl
theorem NM:cL.no.guard=none:=by kernel_rfl
theorem NQ:cL.ops2.toList=cL.eo::cL.t2:=by kernel_rfl
theorem NT:cL.eo.op=.entry (.tmp cL.it):=by kernel_rfl
theorem NK:cL.eo.dst=some cL.en:=by kernel_rfl
theorem NN:cL.eo.guard=none:=by kernel_rfl
theorem NU:cR.Ok Tryd.prog:=⟨Qw,⟨NO,NR,NI,NL,_,_,Tryd.underlying128⟩,⟨NP,NS,NJ,NM,NQ,NT,NK,NN⟩⟩
noncomputable def ky (A:AV):jY:={ state:=.ready,pending:=none,fn:=73,nt:=83,fr:=fr0 A,params:=[17],assign:=part Tryd.f73 [1,1,1,0,1,0,0],body:=cB }
noncomputable def xG (A:AV):jY:={ ky A with state:=.busy }
theorem W9:dX (bA Tryd.f73)=[(.tmp 16,#[17],part Tryd.f73 [1,1,1,0,1,0,0],cB)]:=by kernel_rfl
section
variable (n:Nat) (O:Int) (U:Nat) (Z:Nat→Int) (V:Nat) (J:Nat→Int) (W B:Nat→Int) (G:ab)
theorem Sy (k:Nat) (hl:U≤10) (hk:k≤10) (q:Nat) (hG:Gd (fJ W B U k q)):∃ q',Gd (fJ W B U (k+1) q') ∧
 nZ Tryd.prog KtG.kt 100000 cR (cd (n+1)) 1 4 [.int .i64 (Int.ofNat k)] (av::df O U Z V J W B (.loop (ky (shV O U Z V J W B))) (fJ W B U k q)::G) =
  some (.bool true,av::df O U Z V J W B (.loop (ky (shV O U Z V J W B))) (fJ W B U (k+1) q')::G):=by
 obtain ⟨q',hG',hr⟩:=Jh n k O U Z V J W B (.loop (xG (shV O U Z V J W B))) G hl hk q hG
 refine ⟨q',hG',?_⟩
 have h1:=jN (y:=(.normal,iT (k:Int),av::av::df O U Z V J W B (.loop (ky (shV O U Z V J W B))) (fJ W B U k q)::G)) (Xg (n+1) (k:Int) (shV O U Z V J W B) (av::df O U Z V J W B (.loop (ky (shV O U Z V J W B))) (fJ W B U k q)::G)) (ay _) (aj _ _) (ak _ _) (Tr.ag rfl)
 have h5:=jN (y:=(.normal,iT (k:Int)++[(6,.nils)],av::av::df O U Z V J W B (.loop (xG (shV O U Z V J W B))) (fJ W B U k q)::G)) (t5 (n+1) (k:Int) (av::df O U Z V J W B (.loop (xG (shV O U Z V J W B))) (fJ W B U k q)::G)) (ay _) (aj _ _) (ak _ _) (Tr.ag rfl)
 have hpc:lk (ot (n+1)) cR.S cR.L cR.suf cR.pre (iT (k:Int)) (av::av::df O U Z V J W B (.loop (xG (shV O U Z V J W B))) (fJ W B U k q)::G)=some (.normal,[],av::av::df O U Z V J W B (.loop (xG (shV O U Z V J W B))) (fJ W B U (k+1) q')::G):=by
  show (match oL (ot (n+1)) (ld [0,0] cB) (iT (k:Int)) (av::av::df O U Z V J W B (.loop (xG (shV O U Z V J W B))) (fJ W B U k q)::G) with
   | some (.normal,fr,H)=>lk (ot (n+1)) cS cL qS [] fr H
   | x=>x)=_
  rw[fR];have h5:exec (ot (n+1)) (ld [0,0] cB) (iT (k:Int)) (av::av::df O U Z V J W B (.loop (xG (shV O U Z V J W B))) (fJ W B U k q)::G)=_:=h5;rw[h5];exact hr
 exact Eo (l:=ky (shV O U Z V J W B)) (l1:=ky (shV O U Z V J W B)) (l2:=xG (shV O U Z V J W B)) (e:=.normal) rfl rfl rfl rfl rfl rfl h1 rfl rfl hpc rfl
theorem ML {P:Nat→Nat→Prop} {R:Nat→Nat→Nat→Prop} (hs:∀ k,∀ q,P k q→∃ q',P (k+1) q'∧R k q q') (q0:Nat) (h0:P 0 q0):∃ f:Nat→Nat,f 0=q0∧∀ k,P k (f k)∧R k (f k) (f (k+1)):=by
 let F:Nat→Nat:=fun k=>Nat.rec (motive:=fun _=>Nat) q0 (fun k q=>@dite _ (∃ q',P (k+1) q'∧R k q q') (Classical.propDecidable _) (fun h=>Classical.choose h) (fun _=>0)) k
 have hF:∀ k,P k (F k)∧(P k (F k)→P (k+1) (F (k+1))∧R k (F k) (F (k+1))):=by
  intro k;have step:∀ k,P k (F k)→P (k+1) (F (k+1))∧R k (F k) (F (k+1)):=fun k hp=>by
   have he:=hs k (F k) hp;have e:F (k+1)=Classical.choose he:=dif_pos he;rw[e];exact Classical.choose_spec he
  refine ⟨?_,step k⟩;induction k with
  | zero=>exact h0
  | succ k ih=>exact (step k ih).1
 exact ⟨F,rfl,fun k=>⟨(hF k).1,((hF k).2 (hF k).1).2⟩⟩
theorem Co {C:aJ} {c:Code} {callR:bt} {bl:eV} {rg:om} {fr:aC} {H:ab} {T:Tr eB} {Q:Ex×aC×ab→Prop} (e:aS (qT C) callR bl rg c (hints fr) H=T) (hC:callR.Ok C) (hB:bl.Ok (qT C) c) (hR:rg.Ok (qT C) c) (h:T.all fun x=>Q x.st):∃ y,exec (qT C) c fr H=some y∧Q y:=by
 obtain ⟨x,h1,h2⟩:=h;have:=fQ (cx:=qT C) hC c hB hR (hints fr) H x (by rw[e];exact h1);rw[aL] at this;exact ⟨_,this,h2⟩
theorem LU {C:aJ} {c:Code} (id:Nat) (F:Nat→aC) (G:Nat→ab) (N:Nat) (Y:aC×ab) (hN:N<99999)
 (hs:∀ j,j<N→∃ x,exec (qT C) c (F j) (G j)=some x∧(x.1=.normal∧tidy (aW (G 0)) x.2.1 x.2.2=(F (j+1),G (j+1))))
 (he:∃ x,exec (qT C) c (F N) (G N)=some x∧x=(.exit id,Y)):exec (qT C) (.block id (.loop c)) (F 0) (G 0)=some (.normal,Y):=by
 have key:=iN (body:=exec (qT C) c) (n:=aW (G 0)) F G N (fun _=>false) (fun j=>(.exit id,Y))
  (fun j hj hp=>by
    obtain ⟨x,h1,h2,h3⟩:=hs j hj;obtain ⟨e,f1,g1⟩:=x;simp only at h2;subst h2;exact ⟨_,_,h1,h3⟩)
  (fun j hj hp=>by cases hp)
  (by
    obtain ⟨x,h1,rfl⟩:=he;exact ⟨h1,by simp⟩) N 0 100000 (by omega) (by omega)
 exact ib key
theorem U8 (hl:U≤10) (q0:Nat) (hG:Gd (fJ W B U 0 q0)):∃ q',Gd (fJ W B U U q') ∧
 od Tryd.prog KtG.kt 100000 90 (ui Tryd.prog KtG.kt 100000 cR (cd (n+1))) [.yld 0 4,.ptrT (some 0) (.G [shV O U Z V J W B]) 0] (df O U Z V J W B (.loop (ky (shV O U Z V J W B))) (fJ W B U 0 q0)::G) =
  some (.tup [],df O U Z V J W B (.loop (ky (shV O U Z V J W B))) (fJ W B U U q')::G):=by
 obtain ⟨f,rfl,hf⟩:=ML (P:=fun k q=>k≤10→Gd (fJ W B U k q)) (R:=fun k q q'=>k≤9→nZ Tryd.prog KtG.kt 100000 cR (cd (n+1)) 1 4 [.int .i64 (Int.ofNat k)] (av::df O U Z V J W B (.loop (ky (shV O U Z V J W B))) (fJ W B U k q)::G) =
  some (.bool true,av::df O U Z V J W B (.loop (ky (shV O U Z V J W B))) (fJ W B U (k+1) q')::G)) (fun k q h=>by
  by_cases hk:k≤9
  · obtain ⟨q',h1,h2⟩:=Sy n O U Z V J W B G k hl (by omega) q (h (by omega))
    exact ⟨q',fun _=>h1,fun _=>h2⟩
  · exact ⟨0,fun h=>by omega,fun h=>by omega⟩) q0 (fun _=>hG)
 refine ⟨f U,(hf U).1 hl,?_⟩
 let St:Nat→ab:=fun j=>df O U Z V J W B (.loop (ky (shV O U Z V J W B))) (fJ W B U j (f j))::G
 show od Tryd.prog KtG.kt 100000 90 _ _ (St 0)=some (_,St U)
 have hr:∀ j,j<U→ui Tryd.prog KtG.kt 100000 cR (cd (n+1)) (.round 1 4) [.int .i64 (Int.ofNat j)] (av::St j)=some (.bool true,av::St (j+1)):=fun j hj=>(hf j).2 (by omega)
 have hC:(Hy 1000000 (il aF (n+1) 0)).Ok (ui Tryd.prog KtG.kt 100000 cR (cd (n+1))):=OM (ay _)
 generalize ui Tryd.prog KtG.kt 100000 cR (cd (n+1))=C at *
 have hx:exec (qT C) (.block 0 (.loop (part Tryd.f90 [1,0,0]))) (sr U (Int.ofNat 0)) (av::St 0)=some (.normal,sr U (Int.ofNat U)++[(11,.bool false)],av::St U):=by
  refine LU 0 (fun j=>sr U (Int.ofNat j)) (fun j=>av::St j) U (_,_) (by omega) (fun j hj=>?_) ?_
  · have ec:bm .i64 (Int.ofNat j) (Int.ofNat 1)=Int.ofNat (j+1):=by
     have:=BV j (by omega);rw[fM];exact this
    refine Co (Q:=fun y=>y.1=.normal∧tidy 0 y.2.1 y.2.2=(sr U (Int.ofNat (j+1)),av::St (j+1))) (t90 (n+1) C U (Int.ofNat j) (St j) (St (j+1))) (w8 hC (fun x hy=>by rw[← Tr.ae hy];exact hr j hj)) (aj _ _) (ak _ _) ?_;rw[ec];generalize St (j+1)=G' at *;generalize St j=G at *;refine Tr.af (fun h0=>Tr.ai ⟨rfl,rfl⟩ (Tr.af (fun h1=>?_) (fun h1=>Tr.ag ⟨rfl,rfl⟩))) (fun h0=>?_)
    · rw[ar] at h1;cases h1
    · exfalso;simp (disch:=omega) only[nV,nW] at h0;omega
  · refine Co (SP (n+1) C U (Int.ofNat U) (St U)) hC (aj _ _) (ak _ _) (Tr.af (fun h0=>?_) (fun h0=>Tr.ag rfl));exfalso;simp (disch:=omega) only[nV,nW] at h0;omega
 obtain ⟨y,h1,h2,h3⟩:Tr.all (bg Tryd.prog C 100000 90 Tryd.f90 (KtG.kt 90) (Hy 1000000 (il aF (n+1) 0)) (cV aR 0 (sr U (Int.ofNat 0)) (av::St 0) (.ok (.normal,hints (sr U (Int.ofNat U)++[(11,.bool false)]),av::St U))) aQ [(.yld 0 4,none),(.ptrT (some 0) (.G [shV O U Z V J W B]) 0,none)] (St 0)) (fun y=>y.1.1=AV.tup []∧y.2=St U):=by
  rw[XH];exact Tr.ai ⟨rfl,rfl⟩ (Tr.ag ⟨rfl,rfl⟩)
 have:=xf (P:=Tryd.prog) (KT:=KtG.kt) (fu:=100000) (f:=90) (call:=C) (fn:=Tryd.f90) Tryd.func90 rfl (args:=[(.yld 0 4,none),(.ptrT (some 0) (.G [shV O U Z V J W B]) 0,none)]) (H:=St 0) rfl hC (aZ (aj _ _) UK (fun x h=>by rw[← Tr.ae h];simp only[eB.st,aL];exact hx)) (ak _ _) h1
 rw[h2,h3] at this
 exact this
noncomputable def cntF (U:Nat) (W B:Nat→Int):Int:=((ro U (okW W B) U).length:Int)
theorem Ur (W B:Nat→Int) (U:Nat):fJ W B U 0 1=⟨mE (fun _=>false) [Int.ofNat 0] true,mF (fun _=>Int.ofNat 0) [Int.ofNat 0] (Int.ofNat 1),qn false 0⟩:=by
 have e1:=sN (fun _=>false) (fun _=>0) 0 0 true;have e2:=sO (fun _=>false) (fun _=>0) 0 0 1;have h0:(me (fun _=>false) (fun _=>0) 0).h=fun _=>false:=by
  funext l;match l with
  | []=>rfl
  | [y]=>show (decide (0≤y) && false)=false;simp
  | _::_::_=>rfl
 have g0:(me (fun _=>false) (fun _=>0) 0).g=fun _=>Int.ofNat 0:=by
  funext l;match l with
  | []=>rfl
  | [y]=>show (if 0≤y then (((0:Nat)):Int) else 0)=Int.ofNat 0;split<;>rfl
  | _::_::_=>rfl
 rw[h0] at e1;rw[g0] at e2;rw[gY,gZ,lU];have e1:fB (fun _=>false) [Int.ofNat 0] true=_:=e1;have e2:iJ (fun _=>Int.ofNat 0) [Int.ofNat 0] (Int.ofNat 1)=_:=e2;rw[e1,e2];have a1:(fun Y=>decide (0<cF U (okW W B) 0 Y))=fun y=>if y=0 then true else false:=by
  funext Y;rw[Ce];by_cases e:Y=0
  · rw[if_pos e,if_pos e];rfl
  · rw[if_neg e,if_neg e];rfl
 have a2:(fun Y=>cF U (okW W B) 0 Y)=fun y=>if y=0 then 1 else 0:=by funext Y;rw[Ce]
 unfold fJ;rw[a1,a2];rfl
theorem Vd (W B:Nat→Int) (U:Nat):Gd (fJ W B U 0 1):=by
 rw[Ur];show ∃ es,qZ (.num .u64) es (mE (fun _=>false) [Int.ofNat 0] true) (mF (fun _=>Int.ofNat 0) [Int.ofNat 0] (Int.ofNat 1)) (qn false 0);rw[gY,gZ,lU];exact F1 (h:=fun _=>false) (g:=fun _=>Int.ofNat 0) ⟨[],rfl,(fun j hj=>absurd hj (Nat.not_lt_zero _)),(fun n h=>by cases h),(fun n _=>rfl),(fun i j hi=>absurd hi (Nat.not_lt_zero _))⟩ _ _
theorem Qs (hl:U≤10) (H:ab):GX Tryd.prog KtG.kt 100000 73 90 cR (cd (n+1)) [shV O U Z V J W B] H=some (.int .i64 (cntF U W B),H):=by
 obtain ⟨q',hG',hr⟩:=U8 n O U Z V J W B H hl 1 (Vd W B U);have hC:(Hy 90 (il aF n 1)).Ok (py Tryd.prog KtG.kt 100000 90 cR (cd (n+1))):=OL (ff n 1);have hx:exec (NW (py Tryd.prog KtG.kt 100000 90 cR (cd (n+1)))) (.rangeFunc (.tmp 16) #[17] (part Tryd.f73 [1,1,1,0,1,0,0]) cB) (fr0 (shV O U Z V J W B)) (Nm O U Z V J W B::H)=some (.normal,fr0 (shV O U Z V J W B),mf O U Z V J W B (fJ W B U U q').h (fJ W B U U q').g (fJ W B U U q').q .dead::H) :=
  tE (cx:=NW (py Tryd.prog KtG.kt 100000 90 cR (cd (n+1)))) (l:=ky (shV O U Z V J W B)) (f:=.tmp 16) (ps:=#[17]) (fr:=fr0 (shV O U Z V J W B)) (H:=Nm O U Z V J W B::H) (g:=90) (a:=[]) (b:=[.ptrT (some 0) (.G [shV O U Z V J W B]) 0]) rfl rfl rfl (by
   rw[Ur] at hr;exact hr) rfl rfl rfl
 have e:bX .u64 (cI .u64 (Int.ofNat 1) (Int.ofNat U)) (Int.ofNat 1)=((2 ^ U-1:Nat):Int):=by
  have h1:=Nat.two_pow_pos U;have h2:2 ^ U≤2 ^ 10:=Nat.pow_le_pow_right (by decide) hl;rw[BF (by omega),ep];show IntKind.u64.wrap (((2 ^ U:Nat):Int)-1)=_;rw[show ((2 ^ U:Nat):Int)-1=((2 ^ U-1:Nat):Int) by omega];exact jI (by omega)
 have hg:(fJ W B U U q').g [((2 ^ U-1:Nat):Int)]=cntF U W B:=by
  unfold fJ cntF;rw[Gj,Lz]
 obtain ⟨y,h1,h2,h3⟩:Tr.all (bg Tryd.prog (py Tryd.prog KtG.kt 100000 90 cR (cd (n+1))) 100000 73 Tryd.f73 (KtG.kt 73) (Hy 90 (il aF n 1)) aR (MD aQ (fun _=>true) (fr0 (shV O U Z V J W B)) (Nm O U Z V J W B::H) (.ok (.normal,hints (fr0 (shV O U Z V J W B)),mf O U Z V J W B (fJ W B U U q').h (fJ W B U U q').g (fJ W B U U q').q .dead::H))) [(shV O U Z V J W B,none)] H) (fun y=>y.1.1=AV.int .i64 (cntF U W B)∧y.2=H):=by
  rw[XA,e,hg];refine Tr.ai ⟨rfl,rfl⟩ (Tr.aa ?_ (Tr.ag ⟨rfl,rfl⟩));rw[bh];exact decide_eq_true (by show (0:Int)≤(U:Int);omega)
 have:=xf (P:=Tryd.prog) (KT:=KtG.kt) (fu:=100000) (f:=73) (call:=py Tryd.prog KtG.kt 100000 90 cR (cd (n+1))) (fn:=Tryd.f73) Tryd.func73 rfl (args:=[(shV O U Z V J W B,none)]) (H:=H) rfl hC (aj _ _) (G1 (ak _ _) (fun f ps a b _ hm x hx2=>by
  rw[W9] at hm;simp only[List.mem_cons,Prod.mk.injEq,List.not_mem_nil,or_false] at hm;obtain ⟨rfl,rfl,rfl,rfl⟩:=hm;rw[← Tr.ae hx2];simp only[eB.st,aL];exact hx)) h1
 rw[h2,h3] at this;exact this
end
end Go.Eng.Q
end
section
namespace Go.Proofs
open Go.Shelf
def Tryd.EA:Go.Shelf.Ren:=⟨fun | 5=>95 | 8=>102 | 7=>101 | 19=>112 | 20=>113 | 10=>103 | 11=>104 | 12=>105 | 13=>106 | 14=>107 | 15=>108 | 16=>109 | 17=>110 | 18=>111 | 30=>114 | 31=>115 | 32=>116 | 33=>117 | 34=>118 | 35=>119 | 40=>120 | n=>n,fun | 23=>36 | 25=>3 | 3=>3 | 32=>88 | 22=>36 | 0=>0 | 44=>132 | 46=>134 | 4=>4 | 36=>142 | 35=>141 | 41=>146 | 5=>5 | 9=>9 | 53=>148 | 57=>152 | 63=>154 | 64=>155 | n=>n,fun | n=>n⟩
theorem Tryd.O5:Go.Proofs.SlLaysM.n5 Tryd.prog Tryd.EA:={
 mixed:=by kernel_rfl
 f5:=⟨Tryd.f95.name,by decide,Tryd.func95.trans (congrArg some (by kernel_rfl))⟩
 f7:=⟨Tryd.f101.name,by decide,Tryd.func101.trans (congrArg some (by kernel_rfl))⟩
 f8:=Tryd.func102.trans (congrArg some (by kernel_rfl))
 f10:=⟨Tryd.f103.name,by decide,Tryd.func103.trans (congrArg some (by kernel_rfl))⟩
 f11:=⟨Tryd.f104.name,by decide,Tryd.func104.trans (congrArg some (by kernel_rfl))⟩
 f12:=⟨Tryd.f105.name,by decide,Tryd.func105.trans (congrArg some (by kernel_rfl))⟩
 f13:=⟨Tryd.f106.name,by decide,Tryd.func106.trans (congrArg some (by kernel_rfl))⟩
 f14:=⟨Tryd.f107.name,by decide,Tryd.func107.trans (congrArg some (by kernel_rfl))⟩
 f15:=⟨Tryd.f108.name,by decide,Tryd.func108.trans (congrArg some (by kernel_rfl))⟩
 f16:=⟨Tryd.f109.name,by decide,Tryd.func109.trans (congrArg some (by kernel_rfl))⟩
 f17:=⟨Tryd.f110.name,by decide,Tryd.func110.trans (congrArg some (by kernel_rfl))⟩
 f18:=⟨Tryd.f111.name,by decide,Tryd.func111.trans (congrArg some (by kernel_rfl))⟩
 f19:=Tryd.func112.trans (congrArg some (by kernel_rfl))
 f20:=Tryd.func113.trans (congrArg some (by kernel_rfl))
 f30:=⟨Tryd.f114.name,by decide,Tryd.func114.trans (congrArg some (by kernel_rfl))⟩
 f31:=Tryd.func115.trans (congrArg some (by kernel_rfl))
 f32:=Tryd.func116.trans (congrArg some (by kernel_rfl))
 f33:=⟨Tryd.f117.name,by decide,Tryd.func117.trans (congrArg some (by kernel_rfl))⟩
 f34:=⟨Tryd.f118.name,by decide,Tryd.func118.trans (congrArg some (by kernel_rfl))⟩
 f35:=⟨Tryd.f119.name,by decide,Tryd.func119.trans (congrArg some (by kernel_rfl))⟩
 f40:=⟨Tryd.f120.name,by decide,Tryd.func120.trans (congrArg some (by kernel_rfl))⟩
 t0:=Tryd.underlying0
 a0:=Tryd.isAgg0
 z0:=Tryd.sizeOf0
 v0:=Tryd.zeroValue0
 t3:=Tryd.underlying3
 a3:=Tryd.isAgg3
 z3:=Tryd.sizeOf3
 v3:=Tryd.zeroValue3
 t4:=Tryd.underlying4
 a4:=Tryd.isAgg4
 z4:=Tryd.sizeOf4
 v4:=Tryd.zeroValue4
 t5:=Tryd.underlying5
 a5:=Tryd.isAgg5
 z5:=Tryd.sizeOf5
 v5:=Tryd.zeroValue5
 t9:=Tryd.underlying9
 a9:=Tryd.isAgg9
 z9:=Tryd.sizeOf9
 v9:=Tryd.zeroValue9
 t22:=Tryd.underlying36
 a22:=Tryd.isAgg36
 z22:=Tryd.sizeOf36
 v22:=Tryd.zeroValue36
 t23:=Tryd.underlying36
 a23:=Tryd.isAgg36
 z23:=Tryd.sizeOf36
 v23:=Tryd.zeroValue36
 t25:=Tryd.underlying3
 a25:=Tryd.isAgg3
 z25:=Tryd.sizeOf3
 v25:=Tryd.zeroValue3
 t32:=Tryd.underlying88
 a32:=Tryd.isAgg88
 z32:=Tryd.sizeOf88
 v32:=Tryd.zeroValue88
 t35:=Tryd.underlying141
 a35:=Tryd.isAgg141
 z35:=Tryd.sizeOf141
 v35:=Tryd.zeroValue141
 t36:=Tryd.underlying142
 a36:=Tryd.isAgg142
 z36:=Tryd.sizeOf142
 v36:=Tryd.zeroValue142
 t41:=Tryd.underlying146
 a41:=Tryd.isAgg146
 z41:=Tryd.sizeOf146
 v41:=Tryd.zeroValue146
 t44:=Tryd.underlying132
 a44:=Tryd.isAgg132
 z44:=Tryd.sizeOf132
 v44:=Tryd.zeroValue132
 t46:=Tryd.underlying134
 a46:=Tryd.isAgg134
 z46:=Tryd.sizeOf134
 v46:=Tryd.zeroValue134
 t53:=Tryd.underlying148
 a53:=Tryd.isAgg148
 z53:=Tryd.sizeOf148
 v53:=Tryd.zeroValue148
 t57:=Tryd.underlying152
 a57:=Tryd.isAgg152
 z57:=Tryd.sizeOf152
 v57:=Tryd.zeroValue152
 t63:=Tryd.underlying154
 a63:=Tryd.isAgg154
 z63:=Tryd.sizeOf154
 v63:=Tryd.zeroValue154
 t64:=Tryd.underlying155
 a64:=Tryd.isAgg155
 z64:=Tryd.sizeOf155
 v64:=Tryd.zeroValue155 }
def Tryd.Ch:Go.Shelf.Ren:=⟨fun | 27=>82 | 28=>97 | 29=>98 | n=>n,fun | 0=>0 | 3=>3 | 4=>4 | 5=>5 | 22=>134 | 25=>88 | 27=>132 | 53=>138 | 54=>139 | n=>n,fun | n=>n⟩
theorem Tryd.ctz:Lays7.n27 Tryd.prog Tryd.Ch:={
 mixed:=by kernel_rfl
 f27:=Tryd.func82.trans (congrArg some (by kernel_rfl))
 f28:=Tryd.func97.trans (congrArg some (by kernel_rfl))
 f29:=Tryd.func98.trans (congrArg some (by kernel_rfl))
 t0:=Tryd.underlying0
 a0:=Tryd.isAgg0
 z0:=Tryd.sizeOf0
 v0:=Tryd.zeroValue0
 i0:=by kernel_rfl
 t3:=Tryd.underlying3
 a3:=Tryd.isAgg3
 z3:=Tryd.sizeOf3
 v3:=Tryd.zeroValue3
 i3:=by kernel_rfl
 t4:=Tryd.underlying4
 a4:=Tryd.isAgg4
 z4:=Tryd.sizeOf4
 v4:=Tryd.zeroValue4
 i4:=by kernel_rfl
 t5:=Tryd.underlying5
 a5:=Tryd.isAgg5
 z5:=Tryd.sizeOf5
 v5:=Tryd.zeroValue5
 i5:=by kernel_rfl
 t22:=Tryd.underlying134
 a22:=Tryd.isAgg134
 z22:=Tryd.sizeOf134
 v22:=Tryd.zeroValue134
 i22:=by kernel_rfl
 t25:=Tryd.underlying88
 a25:=Tryd.isAgg88
 z25:=Tryd.sizeOf88
 v25:=Tryd.zeroValue88
 i25:=by kernel_rfl
 t27:=Tryd.underlying132
 a27:=Tryd.isAgg132
 z27:=Tryd.sizeOf132
 v27:=Tryd.zeroValue132
 i27:=by kernel_rfl
 t53:=Tryd.underlying138
 a53:=Tryd.isAgg138
 z53:=Tryd.sizeOf138
 v53:=Tryd.zeroValue138
 i53:=by kernel_rfl
 t54:=Tryd.underlying139
 a54:=Tryd.isAgg139
 z54:=Tryd.sizeOf139
 g0:=by kernel_rfl
 g1:=by kernel_rfl }
end Go.Proofs
namespace Go.Eng
open Go.Proofs Go.Sort
def O6 (L:List Int):List Int:=L.mergeSort fun x y=>decide (x≤y)
theorem MO:JS Tryd.prog 95 O6 :=
 ⟨⟨_,Tryd.func95,by kernel_rfl⟩,fun L=>List.length_mergeSort L,fun blk off cap zs w h1 h2 h3=>AnyM.slices_Sort_int Tryd.O5 blk off cap zs w h1 h2 h3⟩
noncomputable def FG (args:List AV) (H:ab):Option (AV×ab) :=
 match args with
 | [.int .u64 x]=>if 0≤x∧x<18446744073709551616 then some (.int .i64 (Go.Lib.ctz 64 x.toNat),H) else none
 | _=>none
theorem Ih {args:List AV} {H:ab} {v:AV} {H':ab} (h:FG args H=some (v,H')) {p:aG} {M:Mu} {w:World} {cargs:Array Value} (hH:bn p M H w) (hA:eK p M args cargs):(∃ fn,Tryd.prog.funcs[82]?=some fn∧fn.body.isNone=false)∧CallsIn Fence.wide 0 Tryd.prog 82 cargs w (eW p M H w v H'):=by
 refine ⟨⟨_,Tryd.func82,by kernel_rfl⟩,callsIn_wide.2 ?_⟩;unfold FG at h;split at h;case h_2=>simp at h
 rename_i x;split at h;case isFalse=>simp at h
 rename_i hx;simp only[nP] at h;obtain ⟨rfl,rfl⟩:=h;have hsize:cargs.size=1:=hA.1;have hv:=hA.2 0 (by simp);have hd:cargs=#[cargs.getD 0 undef]:=by
  apply Array.ext
  · simpa using hsize
  · intro j h1 h2;have:j=0:=by omega
    subst this;simp[Array.getD,hsize]
 have hv:al p M (.int .u64 x) (cargs.getD 0 undef):=hv;rw[hd,hv.ofInt];have hT:TabAt (Tryd.Ch.g 1) Go.Lib.deBruijn64tab w:=fun j hj=>hH.pers 1 j _ (p.2 1 j _ (by
  have:j<64:=hj;unfold oT;rw[if_pos ⟨rfl,this⟩]))
 have:=Any7.bits_TrailingZeros Tryd.ctz x.toNat wO w (fun _=>hT);rw[Int.toNat_of_nonneg hx.1] at this;refine Calls.mono this ?_;rintro e w' ⟨rfl,rfl⟩;exact ⟨_,rfl,Still.refl _,p,M,ct.refl hH,.int _ _⟩
end Go.Eng
end
