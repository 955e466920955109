/- Gall: count: the range over the sets, in whatever order. -/
import Derived.Test.YtgphpjdchnfjlaaDoorV6GaQx6
import Derived.Test.YtgphpjdchnfjlaaDoorV6EngTkx3
import Derived.Test.YtgphpjdchnfjlaaDoorV6Gp2x6
import Derived.Shelf.SortM.Plain
import Derived.Shelf.Spec.TrailingZeros
import Derived.Test.YtgphpjdchnfjlaaDoorProg
set_option linter.unusedVariables false
set_option linter.unusedSimpArgs false
set_option maxRecDepth 100000
section
namespace Go.Eng.Q
open Go.Proofs Go.Eng.Gall
theorem ng (L:List Int) (v:Int):bJ (iO (ar L) 0) L.length (ar [v])=ar (L++[v]):=by
 rw[fj,oU,lu];funext i;by_cases h:i<L.length
 · simp[h,List.getElem?_append]
 · by_cases h2:i=L.length
   · subst h2;simp
   · have e1:[v][i-L.length]?=none:=List.getElem?_eq_none (by simp;omega);have e2:(L++[v])[i]?=none:=List.getElem?_eq_none (by simp;omega);simp only[h,if_false,List.getD_eq_getElem?_getD,e1,e2]
theorem GZ {L:bW} {cx:Cx} {callR:bp} {bl:eE} {rg:nJ} {k n:Nat} {kv:AV×AV} {fr fr':aE} {l l':bK} {R:aa} {T:Tr (aG×aa)} (e:L.ug cx callR bl rg k n kv (hints fr) (l::R)=T) (hC:callR.Ok cx.call) (hB:bl.Ok cx L.rest) (hR:rg.Ok cx L.rest)
 (h:T.all fun y=>strip y.1=fr'∧y.2=l'::R):fZ L cx k n R kv (fr,l)=some (fr',l'):=by
 obtain ⟨y,h1,h2,h3⟩:=h
 have:=bW.EB hC hB hR (by rw[e];exact h1)
 rw[aP,h2,h3] at this
 unfold fZ
 rw[this]
theorem yx {L:bW} {cx:Cx} {callR:bp} {fr:aE} {H:aa} {T:Tr (aG×aa)} (e:L.vN cx callR (hints fr) H=T) (hC:callR.Ok cx.call) {y:aE×aa} (h:T.all fun z=>(strip z.1,z.2)=y):L.last cx fr H=some y:=by
 obtain ⟨z,h1,rfl⟩:=h;have:=bW.Gk hC (by rw[e];exact h1);rw[aP] at this;exact this
noncomputable def Nn (g:List Int→Int) (e:Int):AV×AV:=(.int .u64 e,.int .i64 (g [e]))
noncomputable def Jn (k:Int):List Int→aE×bK
 | []=>(jc k++[(6,.nils),(18,.map 2 1),(19,.ptr 0 0 0 0)],T7)
 | a::r=>(jc k++[(6,.slc 0 2 r.length 0 1 (r.length+1) none),(19,.ptr 0 0 0 0)],gi a r.length (r.length+1) (ar (a::r)))
theorem WQ (n:Nat) (k:Int) (g:List Int→Int) (R:aa) (xs:List Int) (e:Int) (hx:xs.length≤2000):fZ cL (oS n) 0 1 R (Nn g e) (Jn k xs)=some (Jn k (xs++[e])):=by
 cases xs with
 | nil =>
   refine GZ (WU n k e (g [e]) R) (aA n) (aj _ _) (ak _ _) ?_;exact wF
 | cons a r =>
   simp only[List.length_cons] at hx;have e1:=ng (a::r) e;simp only[List.length_cons] at e1;have e3:ah (r.length+1) 1=r.length+1+1:=by rw[aF]
   have e4:(r++[e]).length=r.length+1:=by simp
   have T:=tB n k e (g [e]) a r.length (r.length+1) (ar (a::r)) R;rw[e1,e3] at T;refine GZ T (aA n) (aj _ _) (ak _ _) ?_;show Tr.all _ (fun y:aG×aa=>strip y.1=jc k++[(6,.slc 0 2 (r++[e]).length 0 1 ((r++[e]).length+1) none),(19,.ptr 0 0 0 0)]∧y.2=gi a (r++[e]).length ((r++[e]).length+1) (ar (a::r++[e]))::R);rw[e4];generalize ar (a::r++[e])=Y at *;exact wF
theorem J6 (n:Nat) (k:Int) (g:List Int→Int) (R:aa):∀ (ks xs:List Int),xs.length+ks.length≤2000→fS cL (oS n) 0 1 R (ks.map (Nn g)) (Jn k xs)=some (Jn k (xs++ks))
 | [],xs,_=>by rw[List.append_nil];rfl
 | e::ks,xs,h=>by
   show (match fZ cL (oS n) 0 1 R (Nn g e) (Jn k xs) with
    | some t=>fS cL (oS n) 0 1 R (ks.map (Nn g)) t
    | none=>none)=_
   rw[List.length_cons] at h;rw[WQ n k g R xs e (by omega)];have:=J6 n k g R ks (xs++[e]) (by rw[List.length_append,List.length_singleton];omega);rw[List.append_assoc] at this;exact this
theorem N4 {es:List (AV×AV)} {h:List Int→Bool} {g:List Int→Int} {c:Nat} (hE:rB (.num .u64) es h g c):∀ vs:List Nat,vs.Nodup→(∀ j ∈ vs,j<es.length) →
 ∃ ks:List Int,(vs.map fun j=>(es.map fun e=>(mX (1+1) e.1,mX (1+1) e.2)).getD j (.undef,.undef))=ks.map (Nn g)∧(∀ y ∈ ks,h [y]=true)∧(∀ j ∈ vs,∀ y,(es.getD j (.undef,.undef)).1=.int .u64 y→y ∈ ks)∧(∀ y ∈ ks,∃ j ∈ vs,(es.getD j (.undef,.undef)).1=.int .u64 y)∧ks.Nodup
 | [],_,_=>⟨[],rfl,fun e he=>(by cases he),fun j hj=>(by cases hj),fun e he=>(by cases he),List.nodup_nil⟩
 | j :: vs,hn,hv=>by
   rw[List.nodup_cons] at hn;obtain ⟨l,l1,l2,l3,l4,l5⟩:=N4 hE vs hn.2 (fun i hi=>hv i (List.mem_cons_of_mem _ hi));have hj:=hv j (by simp);obtain ⟨m,e1,e2⟩:=hE.ent j hj;have hlen:m.length=1:=Nat.eq_of_beq_eq_true (hE.all _ e2).1;obtain ⟨a,rfl⟩:∃ a,m=[a]:=by
    match m,hlen with
    | [a],_=>exact ⟨a,rfl⟩
   have e1':es[j]'hj=(.int .u64 a,.int .i64 (g [a])):=by
    rw[List.getD_eq_getElem?_getD,List.getElem?_eq_getElem hj] at e1;exact e1
   refine ⟨a::l,?_,fun y hy=>?_,fun i hi y hy=>?_,fun y hy=>?_,List.nodup_cons.2 ⟨fun ha=>?_,l5⟩⟩
   · rw[List.map_cons,List.map_cons,l1];congr 1;rw[List.getD_eq_getElem?_getD,List.getElem?_eq_getElem (by simpa using hj),List.getElem_map,e1'];rfl
   · rcases List.mem_cons.1 hy with rfl | hy
     · exact e2
     · exact l2 y hy
   · rcases List.mem_cons.1 hi with rfl | hi
     · rw[e1] at hy;have hy:AV.int IntKind.u64 a=AV.int IntKind.u64 y:=hy;injection hy with _ hy;subst hy;simp
     · exact List.mem_cons_of_mem _ (l3 i hi y hy)
   · rcases List.mem_cons.1 hy with rfl | hy
     · exact ⟨j,by simp,by rw[e1];rfl⟩
     · obtain ⟨i,i1,i2⟩:=l4 y hy;exact ⟨i,List.mem_cons_of_mem _ i1,i2⟩
   · obtain ⟨i,i1,i2⟩:=l4 a ha;have:i=j:=hE.nd i j (hv i (List.mem_cons_of_mem _ i1)) hj (by rw[i2,e1];rfl);subst this;exact hn.1 i1
theorem lh {vs:List Nat} {n:Nat} (hn:vs.Nodup) (hl:vs.length=n) (hb:∀ j ∈ vs,j<n) {j:Nat} (hj:j<n):j ∈ vs:=by
 apply Classical.byContradiction;intro hc;have:=eM (L:=j::vs) (M:=List.range n) (List.nodup_cons.2 ⟨hc,hn⟩) (fun i hi=>by
  rcases List.mem_cons.1 hi with rfl | hi
  · simpa using hj
  · simpa using hb i hi)
 simp only[List.length_cons,List.length_range] at this;omega
theorem HR {es:List (AV×AV)} {h:List Int→Bool} {g:List Int→Int} {c:Nat} (hE:rB (.num .u64) es h g c) (vs:List Nat) (hn:vs.Nodup) (hl:vs.length=es.length) (hv:∀ j ∈ vs,j<es.length) :
 ∃ ks:List Int,(vs.map fun j=>(es.map fun e=>(mX (1+1) e.1,mX (1+1) e.2)).getD j (.undef,.undef))=ks.map (Nn g)∧(∀ y,y ∈ ks↔h [y]=true)∧ks.Nodup:=by
 obtain ⟨ks,k1,k2,k3,_,k5⟩:=N4 hE vs hn hv
 refine ⟨ks,k1,fun y=>⟨k2 y,fun hy=>?_⟩,k5⟩
 obtain ⟨_,j,j1,j2⟩:=hE.all _ hy
 exact k3 j (lh hn hl hv j1) y j2
theorem O3 {es es':List (AV×AV)} {h:List Int→Bool} {g:List Int→Int} {c c':Nat} (hE:rB (.num .u64) es h g c) (hE':rB (.num .u64) es' h g c'):c=c':=by
 obtain ⟨ks,a1,a2,a3⟩:=HR hE (List.range es.length) List.nodup_range (by simp) (fun j hj=>by simpa using hj);obtain ⟨ks',b1,b2,b3⟩:=HR hE' (List.range es'.length) List.nodup_range (by simp) (fun j hj=>by simpa using hj);have e1:=congrArg List.length a1;have e2:=congrArg List.length b1;simp only[List.length_map,List.length_range] at e1 e2;have:=((List.perm_ext_iff_of_nodup a3 b3).2 (fun y=>(a2 y).trans (b2 y).symm)).length_eq;have:=hE.len;have:=hE'.len;omega
noncomputable def fJ (W B:Nat→Int) (U k q:Nat):CS:=mE (fun Y=>decide (0<cF U (okW W B) k Y)) (fun Y=>cF U (okW W B) k Y) q
theorem Rs (W B:Nat→Int) (U k q:Nat):mE (hD U (okW W B) k []) (gD U (okW W B) k []) q=fJ W B U k q:=by
 unfold fJ;congr 1;funext Y;unfold hD;simp
theorem Bk {W B:Nat→Int} {U k q:Nat} {y:Int}:(fJ W B U k q).h [y]=true↔∃ Y:Nat,y=(Y:Int)∧0<cF U (okW W B) k Y:=by
 show (decide (0≤y) && decide (0<cF U (okW W B) k y.toNat))=true↔_;rw[Bool.and_eq_true,decide_eq_true_iff,decide_eq_true_iff];constructor
 · rintro ⟨a,b⟩;exact ⟨y.toNat,by omega,b⟩
 · rintro ⟨Y,rfl,b⟩;exact ⟨by omega,by rw[Int.toNat_natCast];exact b⟩
theorem Oz {W B:Nat→Int} {U k q:Nat} {ks:List Int} (hn:ks.Nodup) (hk:∀ y,y ∈ ks↔(fJ W B U k q).h [y]=true):∃ Ks:List Nat,ks=Ks.map (fun X:Nat=>(X:Int))∧Ks.Nodup∧∀ X,X ∈ Ks↔0<cF U (okW W B) k X:=by
 have e:ks=(ks.map Int.toNat).map (fun X:Nat=>(X:Int)):=by
  rw[List.map_map];conv=>lhs;rw[← List.map_id ks]
  apply List.map_congr_left;intro y hy;obtain ⟨Y,h1,_⟩:=Bk.1 ((hk y).1 hy);show y=((y.toNat:Nat):Int);omega
 refine ⟨ks.map Int.toNat,e,?_,fun X=>?_⟩
 · rw[e] at hn;exact List.Pairwise.of_map (S:=fun a b=>a≠b) _ (fun a b h e=>h (by rw[e])) hn
 · rw[List.mem_map];constructor
   · rintro ⟨y,hy,rfl⟩;obtain ⟨Y,h1,h2⟩:=Bk.1 ((hk y).1 hy);rw[h1,Int.toNat_natCast];exact h2
   · intro h;exact ⟨(X:Int),(hk _).2 (Bk.2 ⟨X,rfl,h⟩),Int.toNat_natCast X⟩
theorem Oc {W B:Nat→Int} {U k q:Nat} (hl:U≤10) (hk10:k≤10) (hG:Gd (fJ W B U k q)) {ks:List Int} (hn:ks.Nodup) (hk:∀ y,y ∈ ks↔(fJ W B U k q).h [y]=true) :
 ks.length≤1024∧∃ q',Hh W B (k:Int) U (ar ks) ks.length (fJ W B U k q)=fJ W B U (k+1) q'∧Gd (fJ W B U (k+1) q'):=by
 obtain ⟨Ks,rfl,h1,h2⟩:=Oz hn hk
 rw[List.length_map]
 constructor
 · have:=eM (L:=Ks) (M:=List.range (2 ^ U)) h1 (fun X hX=>List.mem_range.2 (Fp ((h2 X).1 hX)))
   rw[List.length_range] at this
   exact Nat.le_trans this (Nat.pow_le_pow_right (by decide) hl:2 ^ U≤2 ^ 10)
 · rw[← Rs] at hG ⊢
   obtain ⟨q',e,hG'⟩:=MY W B k U hl hk10 q Ks (ar (Ks.map (fun X:Nat=>(X:Int)))) (fun j hj=>by
    rw[gL];show (List.map (fun X:Nat=>(X:Int)) Ks).getD j 0=_;rw[List.getD_eq_getElem?_getD,List.getElem?_eq_getElem (by simpa using hj),List.getElem_map];rfl) h1 (fun x hx=>(h2 x).1 hx) hG Ks.length (Nat.le_refl _)
   rw[e] at hG' ⊢
   rw[List.take_length] at hG' ⊢
   have e2:mE (hD U (okW W B) k Ks) (gD U (okW W B) k Ks) q'=fJ W B U (k+1) q':=by
    unfold fJ;congr 1
    · funext Y;exact L2 h2 Y
    · funext Y;exact LZ h1 h2 Y
   rw[e2] at hG' ⊢
   exact ⟨q',rfl,hG'⟩
section
variable (n k:Nat) (O:Int) (U:Nat) (Z:Nat→Int) (V:Nat) (J:Nat→Int) (W B:Nat→Int) (b:ao) (G:aa)
theorem LK (hl:U≤10) (hk:k≤10) (q:Nat) (hG:Gd (fJ W B U k q)):∃ q',Gd (fJ W B U (k+1) q') ∧
 B4 (oS (n+1)) cL rq 1 0 (aw::iB O U Z V J W B b (fJ W B U k q)::G) (bG (aw::iB O U Z V J W B b (fJ W B U k q)::G)) (Jn (k:Int) []) (.num .u64) (fJ W B U k q).h (fJ W B U k q).g (fJ W B U k q).q 0 (.normal,aw::aw::iB O U Z V J W B b (fJ W B U (k+1) q')::G):=by
 obtain ⟨es0,hE0⟩:=hG
 obtain ⟨ks0,_,o2,o3⟩:=HR hE0 (List.range es0.length) List.nodup_range (by simp) (fun j hj=>by simpa using hj)
 obtain ⟨_,q',_,hG'⟩:=Oc hl hk ⟨es0,hE0⟩ o3 o2
 refine ⟨q',hG',rfl,fun es hE vs hn hlen hv=>?_⟩
 obtain ⟨ks,k1,k2,k3⟩:=HR hE vs hn hlen hv
 obtain ⟨c1,q2,c2,c3⟩:=Oc hl hk ⟨es,hE⟩ k3 k2
 have eq:q2=q':=by
  obtain ⟨e1,h1⟩:=c3;obtain ⟨e2,h2⟩:=hG';exact O3 h1 h2
 subst eq
 rw[k1]
 have hf:=J6 (n+1) (k:Int) (fJ W B U k q).g (bG (aw::iB O U Z V J W B b (fJ W B U k q)::G)) ks [] (by simp;omega)
 rw[List.nil_append] at hf
 refine ⟨Jn (k:Int) ks,?_⟩
 cases ks with
 | nil =>
   refine ⟨Qs k,T7,hf,yx (WV (n+1) k _) (aA _) (Tr.ai rfl),?_⟩
   rw[eJ]
   have h:=ja (y:=(.normal,_,_)) (tZ (n+1) k (iB O U Z V J W B b (fJ W B U k q)::G)) (aA _) (aj _ _) (ak _ _) (Tr.ai rfl)
   refine ⟨_,_,h,?_⟩
   have c2:fJ W B U k q=fJ W B U (k+1) q2:=c2
   rw[c2];rfl
 | cons a r =>
   refine ⟨Qt k r.length (r.length+1),gi a r.length (r.length+1) (ar (a::r)),hf,yx (tX (n+1) k a r.length (r.length+1) (ar (a::r)) _) (aA _) (Tr.ai rfl),?_⟩
   rw[eJ]
   rw[List.length_cons] at c1 c2
   have h:=Sw n k a r.length (r.length+1) (ar (a::r)) O U Z V J W B b G (by omega) hl (fJ W B U k q)
   rw[c2] at h
   exact ⟨_,_,h,rfl⟩
theorem Jj (hl:U≤10) (hk:k≤10) (q:Nat) (hG:Gd (fJ W B U k q)):∃ q',Gd (fJ W B U (k+1) q') ∧
 kI (oS (n+1)) cS cL rq (jc (k:Int)++[(6,.nils)]) (aw::aw::iB O U Z V J W B b (fJ W B U k q)::G)=some (.normal,[],aw::aw::iB O U Z V J W B b (fJ W B U (k+1) q')::G):=by
 obtain ⟨q',hG',hends⟩:=LK n k O U Z V J W B b G hl hk q hG
 refine ⟨q',hG',?_⟩
 obtain ⟨es,hE⟩:=hG
 generalize fJ W B U k q=s at *
 have hp:lL (oS (n+1)).P (oS (n+1)).nt (oS (n+1)).call cS.ops0 cS.pre (jc (k:Int)++[(6,.nils)]) (aw::aw::iB O U Z V J W B b s::G)=some (jc (k:Int)++[(6,.nils),(18,.map 2 1)],aw::aw::iB O U Z V J W B b s::G):=by
  have:=eF.Jh (S:=cS) (cx:=oS (n+1)) (callR:=il aM (n+1) 0) (aA _) (fr:=hints (jc (k:Int)++[(6,.nils)])) (H:=aw::aw::iB O U Z V J W B b s::G) (by
   show (eF.MF _ _ _ _ _).run=_;exact congrArg Tr.run (tS (n+1) k O U Z V J W B s.h s.g s.q b G))
  rw[aP] at this;exact this
 unfold kI
 rw[hp]
 show (@dite _ (∃ y,B4 (oS (n+1)) cL rq 1 0 (aw::iB O U Z V J W B b s::G) (bG (aw::iB O U Z V J W B b s::G)) (Jn (k:Int) []) (.num .u64) s.h s.g s.q 0 y) (Classical.propDecidable _)
  (fun hx=>some ((Classical.choose hx).1,[],(Classical.choose hx).2)) (fun _=>none))=_
 have hex:∃ y,B4 (oS (n+1)) cL rq 1 0 (aw::iB O U Z V J W B b s::G) (bG (aw::iB O U Z V J W B b s::G)) (Jn (k:Int) []) (.num .u64) s.h s.g s.q 0 y:=⟨_,hends⟩
 rw[dif_pos hex]
 have hc:=Classical.choose_spec hex
 generalize Classical.choose hex=Y at *
 obtain ⟨s1,f1,l1,e1,e2,frY,HY,e3,e4⟩:=hc.2 es hE (List.range es.length) List.nodup_range (by simp) (fun j hj=>by simpa using hj)
 obtain ⟨s2,f2,l2,g1,g2,frZ,HZ,g3,g4⟩:=hends.2 es hE (List.range es.length) List.nodup_range (by simp) (fun j hj=>by simpa using hj)
 rw[e1] at g1
 obtain rfl:=Option.some.inj g1
 rw[e2] at g2
 simp only[Option.some.injEq,Prod.mk.injEq,List.cons.injEq,and_true] at g2
 obtain ⟨rfl,rfl⟩:=g2
 rw[e3] at g3
 simp only[nP] at g3
 obtain ⟨h1,_,rfl⟩:=g3
 rw[e4] at g4
 rw[h1,g4]
end
end Go.Eng.Q
end
section
namespace Go.Eng.Q
open Go.Proofs Go.Eng.Gall
def HL (g:FuncId) (c:bp):bp:=fun tgt args H=>match tgt with
 | .fn f=>cond (Nat.beq f g) .bad (c (.fn f) args H)
 | .round _ _=>.bad
 | .mode=>c .mode args H
noncomputable def rr (C:aL):Cx:=⟨Tryd.prog,C,100000,90,18,KtG.kt 90,none⟩
noncomputable def N2 (C:aL):Cx:=⟨Tryd.prog,C,100000,73,83,KtG.kt 73,none⟩
noncomputable def lY (U:Nat) (j:Int):aE:=[(0,.yld 1 4),(9,.int .i64 (Int.ofNat U)),(10,.int .i64 j)]
theorem Ud (n:Nat) (O:Int) (U:Nat) (Z:Nat→Int) (V:Nat) (J:Nat→Int) (W B:Nat→Int) (H:aa):bz Tryd.prog (cd n) 100000 70 Tryd.f70 (KtG.kt 70) (il aM n 0) aV aR [(shV O U Z V J W B,none)] H =
 Tr.ok ((AV.fn (Fn.func 90) [] [AV.ptrT (some 0) (Row.G [shV O U Z V J W B]) 0],none),H):=by kernel_rfl
theorem t90 (n:Nat) (C:aL) (U:Nat) (j:Int) (G G':aa):aJ (rr C) (O7 (HL 1000000 (il aM n 0)) 1 4 [.int .i64 j] (aw::G) (.ok (.bool true,aw::G'))) aV aR (part Tryd.f90 [1,0,0]) (hints (lY U j)) (aw::G) =
 Tr.ite (bQ j (Int.ofNat U)) (Tr.reqP ([AV.int .i64 j]=[AV.int .i64 j]∧aw::G=aw::G) (Tr.ite (bD true) (Tr.ok (Ex.ret,[(0,AV.yld 1 4,none),(9,AV.int .i64 (Int.ofNat U),none),(10,AV.int .i64 j,none),(16,AV.bool true,some 1)],aw::G')) (Tr.ok (Ex.normal,[(0,AV.yld 1 4,none),(9,AV.int .i64 (Int.ofNat U),none),(10,AV.int .i64 (bh .i64 j (Int.ofNat 1)),none)],aw::G')))) (Tr.ok (Ex.exit 0,[(0,AV.yld 1 4,none),(9,AV.int .i64 (Int.ofNat U),none),(10,AV.int .i64 j,none),(11,AV.bool false,some 1)],aw::G)):=by kernel_rfl
theorem SL (n:Nat) (C:aL) (U:Nat) (j:Int) (G:aa):aJ (rr C) (HL 1000000 (il aM n 0)) aV aR (part Tryd.f90 [1,0,0]) (hints (lY U j)) (aw::G) =
 Tr.ite (bQ j (Int.ofNat U)) Tr.bad (Tr.ok (Ex.exit 0,[(0,AV.yld 1 4,none),(9,AV.int .i64 (Int.ofNat U),none),(10,AV.int .i64 j,none),(11,AV.bool false,some 1)],aw::G)):=by kernel_rfl
end Go.Eng.Q
end
section
namespace Go.Eng.Q
open Go.Proofs Go.Eng.Gall
noncomputable def T9 (s:Nat) (A:AV):AV:=.fn (.func 90) [] [.ptrT (some s) (.G [A]) 0]
noncomputable def dZ (A:AV):aE:=[(1,.ptr 0 0 0 0),(3,.ptr 0 2 0 0),(4,.ptr 0 3 0 0),(16,T9 0 A)]
noncomputable def No (O:Int) (U:Nat) (Z:Nat→Int) (V:Nat) (J:Nat→Int) (W B:Nat→Int):bK:=⟨false,[(0,.row (.G [shV O U Z V J W B])),(0,.fmap (.num .u64) (mU (fun _=>false) [Int.ofNat 0] true) (mV (fun _=>Int.ofNat 0) [Int.ofNat 0] (Int.ofNat 1)) (qN false 0)),(0,.row (.G [.map 0 1])),(0,.row (.G [.fn (.func 71) [shV O U Z V J W B] []]))]⟩
theorem WW (n:Nat) (k:Int) (A:AV) (H:aa):aJ (oS n) (il aM n 0) aV aR (part Tryd.f73 [1,1,1,0,1,0,0]) (hints [(1,.ptr 2 0 0 0),(3,.ptr 2 2 0 0),(4,.ptr 2 3 0 0),(16,T9 2 A),(17,.int .i64 k)]) (aw::H) =
 Tr.ok (Ex.normal,[(1,AV.ptr 2 0 0 0,none),(3,AV.ptr 2 2 0 0,none),(4,AV.ptr 2 3 0 0,none),(5,AV.int .i64 k,none)],aw::H):=by kernel_rfl
theorem Xj (n:Nat) (C:aL) (O:Int) (U:Nat) (Z:Nat→Int) (V:Nat) (J:Nat→Int) (W B:Nat→Int) (G G':aa):bz Tryd.prog C 100000 90 Tryd.f90 (KtG.kt 90) (HL 1000000 (il aM n 0)) (c9 aV 0 (lY U (Int.ofNat 0)) (aw::G) (.ok (.normal,hints (lY U (Int.ofNat U)++[(11,.bool false)]),aw::G'))) aR [(.yld 0 4,none),(.ptrT (some 0) (.G [shV O U Z V J W B]) 0,none)] G =
 (fun (Z0:aE)=>Tr.reqP (Z0=Z0∧aw::G=aw::G) (Tr.ok ((AV.tup [],none),G'))) [(0,AV.yld 1 4),(9,AV.int .i64 (Int.ofNat U)),(10,AV.int .i64 (Int.ofNat 0))]:=by kernel_rfl
theorem W9 (n:Nat) (C:aL) (O:Int) (U:Nat) (Z:Nat→Int) (V:Nat) (J:Nat→Int) (W B:Nat→Int) (h:List Int→Bool) (g:List Int→Int) (q:Nat) (H:aa):bz Tryd.prog C 100000 73 Tryd.f73 (KtG.kt 73) (HL 90 (il aM n 1)) aV (HN aR (fun _=>true) (dZ (shV O U Z V J W B)) (No O U Z V J W B::H) (.ok (.normal,hints (dZ (shV O U Z V J W B)),mF O U Z V J W B h g q .dead::H))) [(shV O U Z V J W B,none)] H =
 (fun (Z0:aE)=>Tr.reqP (Z0=Z0∧No O U Z V J W B::H=No O U Z V J W B::H) (Tr.req (dS (Int.ofNat 0) (Int.ofNat U)) (Tr.ok ((AV.int .i64 (g [cq IntKind.u64 (ep IntKind.u64 (Int.ofNat 1) (Int.ofNat U)) (Int.ofNat 1)]),none),H)))) [(1,AV.ptr 0 0 0 0),(3,AV.ptr 0 2 0 0),(4,AV.ptr 0 3 0 0),(16,AV.fn (Fn.func 90) [] [AV.ptrT (some 0) (Row.G [shV O U Z V J W B]) 0])]:=by kernel_rfl
theorem Um:∀ b,(0,b) ∈ aO (a7 Tryd.f90)→b=.loop (part Tryd.f90 [1,0,0]):=eP (by kernel_rfl)
end Go.Eng.Q
end
section
namespace Go.Eng.Q
open Go.Proofs Go.Eng.Gall
theorem OS {P:Program} {KT:FuncId→Nat→Nat} {fu:Nat} {g:FuncId} {r:p6} {c:bp} {call:aL} (h:c.Ok call):(HL g c).Ok (pW P KT fu g r call):=by
 refine ⟨h.1,fun tgt args H x hx=>?_⟩;cases tgt with
 | fn f =>
   have hx:(cond (Nat.beq f g) Tr.bad (c (.fn f) args H)).run=some x:=hx;show (if Nat.beq f g then _ else call (.fn f) (jW args) H)=_;cases hb:Nat.beq f g with
   | true=>rw[hb] at hx;exact (Tr.ag hx).elim
   | false=>rw[hb] at hx;exact h.2 _ _ _ _ hx
 | round d i=>exact (Tr.ag hx).elim
 | mode=>exact h.2 _ _ _ _ hx
theorem OT {P:Program} {KT:FuncId→Nat→Nat} {fu:Nat} {g:FuncId} {r:p6} {c:bp} {call:aL} (h:c.Ok call):(HL g c).Ok (uE P KT fu r call):=by
 refine ⟨h.1,fun tgt args H x hx=>?_⟩;cases tgt with
 | fn f =>
   have hx:(cond (Nat.beq f g) Tr.bad (c (.fn f) args H)).run=some x:=hx;cases hb:Nat.beq f g with
   | true=>rw[hb] at hx;exact (Tr.ag hx).elim
   | false=>rw[hb] at hx;exact h.2 _ _ _ _ hx
 | round d i=>exact (Tr.ag hx).elim
 | mode=>exact h.2 _ _ _ _ hx
theorem Ey {P:Program} {KT:FuncId→Nat→Nat} {fu:Nat} {r:p6} {call:aL} {d i:Nat} {args:List AV} {H H1 H2:aa} {l l1 l2:iy} {fr fr1 frx:aE} {lvx:bK} {e:Ex}
 (hg:az H d i=(0,.loop l)) (hf:l.fn=r.f) (hb:l.body=r.body) (hl:aK H d=false) (hs:l.state=.ready)
 (hp:jL l.nt (kN (d+1) l.fr) l.params (args.map (mX 1))=some fr)
 (he:exec ⟨P,call,fu,l.fn,l.nt,KT l.fn,some (d+1,i)⟩ l.assign fr (⟨false,[]⟩::H)=some (.normal,fr1,H1))
 (hg1:az H1 (d+1) i=(0,.loop l1)) (hs1:l1.state=.ready)
 (hpc:lG ⟨P,call,fu,l.fn,l.nt,KT l.fn,some (d+1,i)⟩ r.S r.L r.suf r.pre fr1 (dB H1 (d+1) i (0,.loop { l1 with state:=.busy }))=some (e,frx,lvx::H2))
 (hg2:az H2 d i=(0,.loop l2)) :
 oH P KT fu r call d i args H=some (.bool (c5 (Lg r.id e)).isNone,dB H2 d i (0,.loop { l2 with state:=if (c5 (Lg r.id e)).isNone then .ready else .done,pending:=c5 (Lg r.id e) })):=by
 unfold oH
 rw[hg]
 show (@dite _ (l.fn=r.f∧l.body=r.body) (Classical.propDecidable _) _ _)=_
 rw[dif_pos ⟨hf,hb⟩,hl]
 simp only[Bool.false_eq_true,if_false,hs,hp,he,hg1,hs1,hpc,hg2]
theorem Qo:cB=.block 1 (assemble [lz [0,0] cB] (cS.code cL) rq):=by kernel_rfl
theorem NR:cS.ops0.toList=cS.pre++[cS.ro]:=by kernel_rfl
theorem NU:cS.ro.op=.range cS.ty (.tmp cS.m):=by kernel_rfl
theorem NL:cS.ro.dst=some cL.it:=by kernel_rfl
theorem NO:cS.ro.guard=none:=by kernel_rfl
theorem NS:cL.ops1.toList=cL.no::cL.t1:=by kernel_rfl
theorem NV:cL.no.op=.next (.tmp cL.it) false:=by kernel_rfl
theorem NM:cL.no.dst=some cL.nx:=by kernel_rfl
theorem NP:cL.no.guard=none:=by kernel_rfl
theorem NT:cL.ops2.toList=cL.eo::cL.t2:=by kernel_rfl
theorem NW:cL.eo.op=.entry (.tmp cL.it):=by kernel_rfl
theorem NN:cL.eo.dst=some cL.en:=by kernel_rfl
theorem NQ:cL.eo.guard=none:=by kernel_rfl
theorem NX:cR.Ok Tryd.prog:=⟨Qo,⟨NR,NU,NL,NO,_,_,Tryd.underlying128⟩,⟨NS,NV,NM,NP,NT,NW,NN,NQ⟩⟩
noncomputable def kJ (A:AV):iy:={ state:=.ready,pending:=none,fn:=73,nt:=83,fr:=dZ A,params:=[17],assign:=part Tryd.f73 [1,1,1,0,1,0,0],body:=cB }
noncomputable def xT (A:AV):iy:={ kJ A with state:=.busy }
theorem WK:dK (a7 Tryd.f73)=[(.tmp 16,#[17],part Tryd.f73 [1,1,1,0,1,0,0],cB)]:=by kernel_rfl
section
variable (n:Nat) (O:Int) (U:Nat) (Z:Nat→Int) (V:Nat) (J:Nat→Int) (W B:Nat→Int) (G:aa)
theorem Sn (k:Nat) (hl:U≤10) (hk:k≤10) (q:Nat) (hG:Gd (fJ W B U k q)):∃ q',Gd (fJ W B U (k+1) q') ∧
 oH Tryd.prog KtG.kt 100000 cR (cd (n+1)) 1 4 [.int .i64 (Int.ofNat k)] (aw::iB O U Z V J W B (.loop (kJ (shV O U Z V J W B))) (fJ W B U k q)::G) =
  some (.bool true,aw::iB O U Z V J W B (.loop (kJ (shV O U Z V J W B))) (fJ W B U (k+1) q')::G):=by
 obtain ⟨q',hG',hr⟩:=Jj n k O U Z V J W B (.loop (xT (shV O U Z V J W B))) G hl hk q hG
 refine ⟨q',hG',?_⟩
 have h1:=ja (y:=(.normal,jc (k:Int),aw::aw::iB O U Z V J W B (.loop (kJ (shV O U Z V J W B))) (fJ W B U k q)::G)) (WW (n+1) (k:Int) (shV O U Z V J W B) (aw::iB O U Z V J W B (.loop (kJ (shV O U Z V J W B))) (fJ W B U k q)::G)) (aA _) (aj _ _) (ak _ _) (Tr.ai rfl)
 have h5:=ja (y:=(.normal,jc (k:Int)++[(6,.nils)],aw::aw::iB O U Z V J W B (.loop (xT (shV O U Z V J W B))) (fJ W B U k q)::G)) (t5 (n+1) (k:Int) (aw::iB O U Z V J W B (.loop (xT (shV O U Z V J W B))) (fJ W B U k q)::G)) (aA _) (aj _ _) (ak _ _) (Tr.ai rfl)
 have hpc:lG (oS (n+1)) cR.S cR.L cR.suf cR.pre (jc (k:Int)) (aw::aw::iB O U Z V J W B (.loop (xT (shV O U Z V J W B))) (fJ W B U k q)::G)=some (.normal,[],aw::aw::iB O U Z V J W B (.loop (xT (shV O U Z V J W B))) (fJ W B U (k+1) q')::G):=by
  show (match pe (oS (n+1)) (lz [0,0] cB) (jc (k:Int)) (aw::aw::iB O U Z V J W B (.loop (xT (shV O U Z V J W B))) (fJ W B U k q)::G) with
   | some (.normal,fr,H)=>lG (oS (n+1)) cS cL rq [] fr H
   | x=>x)=_
  rw[eJ];have h5:exec (oS (n+1)) (lz [0,0] cB) (jc (k:Int)) (aw::aw::iB O U Z V J W B (.loop (xT (shV O U Z V J W B))) (fJ W B U k q)::G)=_:=h5;rw[h5];exact hr
 exact Ey (l:=kJ (shV O U Z V J W B)) (l1:=kJ (shV O U Z V J W B)) (l2:=xT (shV O U Z V J W B)) (e:=.normal) rfl rfl rfl rfl rfl rfl h1 rfl rfl hpc rfl
theorem MQ {P:Nat→Nat→Prop} {R:Nat→Nat→Nat→Prop} (hs:∀ k,∀ q,P k q→∃ q',P (k+1) q'∧R k q q') (q0:Nat) (h0:P 0 q0):∃ f:Nat→Nat,f 0=q0∧∀ k,P k (f k)∧R k (f k) (f (k+1)):=by
 let F:Nat→Nat:=fun k=>Nat.rec (motive:=fun _=>Nat) q0 (fun k q=>@dite _ (∃ q',P (k+1) q'∧R k q q') (Classical.propDecidable _) (fun h=>Classical.choose h) (fun _=>0)) k
 have hF:∀ k,P k (F k)∧(P k (F k)→P (k+1) (F (k+1))∧R k (F k) (F (k+1))):=by
  intro k;have step:∀ k,P k (F k)→P (k+1) (F (k+1))∧R k (F k) (F (k+1)):=fun k hp=>by
   have he:=hs k (F k) hp;have e:F (k+1)=Classical.choose he:=dif_pos he;rw[e];exact Classical.choose_spec he
  refine ⟨?_,step k⟩;induction k with
  | zero=>exact h0
  | succ k ih=>exact (step k ih).1
 exact ⟨F,rfl,fun k=>⟨(hF k).1,((hF k).2 (hF k).1).2⟩⟩
theorem Cq {C:aL} {c:Code} {callR:bp} {bl:eE} {rg:nJ} {fr:aE} {H:aa} {T:Tr eD} {Q:Ex×aE×aa→Prop} (e:aJ (rr C) callR bl rg c (hints fr) H=T) (hC:callR.Ok C) (hB:bl.Ok (rr C) c) (hR:rg.Ok (rr C) c) (h:T.all fun x=>Q x.st):∃ y,exec (rr C) c fr H=some y∧Q y:=by
 obtain ⟨x,h1,h2⟩:=h;have:=fe (cx:=rr C) hC c hB hR (hints fr) H x (by rw[e];exact h1);rw[aP] at this;exact ⟨_,this,h2⟩
theorem LY {C:aL} {c:Code} (id:Nat) (F:Nat→aE) (G:Nat→aa) (N:Nat) (Y:aE×aa) (hN:N<99999)
 (hs:∀ j,j<N→∃ x,exec (rr C) c (F j) (G j)=some x∧(x.1=.normal∧tidy (aX (G 0)) x.2.1 x.2.2=(F (j+1),G (j+1))))
 (he:∃ x,exec (rr C) c (F N) (G N)=some x∧x=(.exit id,Y)):exec (rr C) (.block id (.loop c)) (F 0) (G 0)=some (.normal,Y):=by
 have key:=iU (body:=exec (rr C) c) (n:=aX (G 0)) F G N (fun _=>false) (fun j=>(.exit id,Y))
  (fun j hj hp=>by
    obtain ⟨x,h1,h2,h3⟩:=hs j hj;obtain ⟨e,f1,g1⟩:=x;simp only at h2;subst h2;exact ⟨_,_,h1,h3⟩)
  (fun j hj hp=>by cases hp)
  (by
    obtain ⟨x,h1,rfl⟩:=he;exact ⟨h1,by simp⟩) N 0 100000 (by omega) (by omega)
 exact ik key
theorem UI (hl:U≤10) (q0:Nat) (hG:Gd (fJ W B U 0 q0)):∃ q',Gd (fJ W B U U q') ∧
 oL Tryd.prog KtG.kt 100000 90 (uE Tryd.prog KtG.kt 100000 cR (cd (n+1))) [.yld 0 4,.ptrT (some 0) (.G [shV O U Z V J W B]) 0] (iB O U Z V J W B (.loop (kJ (shV O U Z V J W B))) (fJ W B U 0 q0)::G) =
  some (.tup [],iB O U Z V J W B (.loop (kJ (shV O U Z V J W B))) (fJ W B U U q')::G):=by
 obtain ⟨f,rfl,hf⟩:=MQ (P:=fun k q=>k≤10→Gd (fJ W B U k q)) (R:=fun k q q'=>k≤9→oH Tryd.prog KtG.kt 100000 cR (cd (n+1)) 1 4 [.int .i64 (Int.ofNat k)] (aw::iB O U Z V J W B (.loop (kJ (shV O U Z V J W B))) (fJ W B U k q)::G) =
  some (.bool true,aw::iB O U Z V J W B (.loop (kJ (shV O U Z V J W B))) (fJ W B U (k+1) q')::G)) (fun k q h=>by
  by_cases hk:k≤9
  · obtain ⟨q',h1,h2⟩:=Sn n O U Z V J W B G k hl (by omega) q (h (by omega))
    exact ⟨q',fun _=>h1,fun _=>h2⟩
  · exact ⟨0,fun h=>by omega,fun h=>by omega⟩) q0 (fun _=>hG)
 refine ⟨f U,(hf U).1 hl,?_⟩
 let St:Nat→aa:=fun j=>iB O U Z V J W B (.loop (kJ (shV O U Z V J W B))) (fJ W B U j (f j))::G
 show oL Tryd.prog KtG.kt 100000 90 _ _ (St 0)=some (_,St U)
 have hr:∀ j,j<U→uE Tryd.prog KtG.kt 100000 cR (cd (n+1)) (.round 1 4) [.int .i64 (Int.ofNat j)] (aw::St j)=some (.bool true,aw::St (j+1)):=fun j hj=>(hf j).2 (by omega)
 have hC:(HL 1000000 (il aM (n+1) 0)).Ok (uE Tryd.prog KtG.kt 100000 cR (cd (n+1))):=OT (aA _)
 generalize uE Tryd.prog KtG.kt 100000 cR (cd (n+1))=C at *
 have hx:exec (rr C) (.block 0 (.loop (part Tryd.f90 [1,0,0]))) (lY U (Int.ofNat 0)) (aw::St 0)=some (.normal,lY U (Int.ofNat U)++[(11,.bool false)],aw::St U):=by
  refine LY 0 (fun j=>lY U (Int.ofNat j)) (fun j=>aw::St j) U (_,_) (by omega) (fun j hj=>?_) ?_
  · have ec:bh .i64 (Int.ofNat j) (Int.ofNat 1)=Int.ofNat (j+1):=by
     have:=BY j (by omega);rw[fM];exact this
    refine Cq (Q:=fun y=>y.1=.normal∧tidy 0 y.2.1 y.2.2=(lY U (Int.ofNat (j+1)),aw::St (j+1))) (t90 (n+1) C U (Int.ofNat j) (St j) (St (j+1))) (BA hC (fun x hy=>by rw[← Tr.ab hy];exact hr j hj)) (aj _ _) (ak _ _) ?_;rw[ec];generalize St (j+1)=G' at *;generalize St j=G at *;refine Tr.af (fun h0=>Tr.an ⟨rfl,rfl⟩ (Tr.af (fun h1=>?_) (fun h1=>Tr.ai ⟨rfl,rfl⟩))) (fun h0=>?_)
    · rw[aW] at h1;cases h1
    · exfalso;simp (disch:=omega) only[nV,nW] at h0;omega
  · refine Cq (SL (n+1) C U (Int.ofNat U) (St U)) hC (aj _ _) (ak _ _) (Tr.af (fun h0=>?_) (fun h0=>Tr.ai rfl));exfalso;simp (disch:=omega) only[nV,nW] at h0;omega
 obtain ⟨y,h1,h2,h3⟩:Tr.all (bz Tryd.prog C 100000 90 Tryd.f90 (KtG.kt 90) (HL 1000000 (il aM (n+1) 0)) (c9 aV 0 (lY U (Int.ofNat 0)) (aw::St 0) (.ok (.normal,hints (lY U (Int.ofNat U)++[(11,.bool false)]),aw::St U))) aR [(.yld 0 4,none),(.ptrT (some 0) (.G [shV O U Z V J W B]) 0,none)] (St 0)) (fun y=>y.1.1=AV.tup []∧y.2=St U):=by
  rw[Xj];exact Tr.an ⟨rfl,rfl⟩ (Tr.ai ⟨rfl,rfl⟩)
 have:=xt (P:=Tryd.prog) (KT:=KtG.kt) (fu:=100000) (f:=90) (call:=C) (fn:=Tryd.f90) Tryd.func90 rfl (args:=[(.yld 0 4,none),(.ptrT (some 0) (.G [shV O U Z V J W B]) 0,none)]) (H:=St 0) rfl hC (bf (aj _ _) Um (fun x h=>by rw[← Tr.ab h];simp only[eD.st,aP];exact hx)) (ak _ _) h1
 rw[h2,h3] at this
 exact this
noncomputable def cntF (U:Nat) (W B:Nat→Int):Int:=((ro U (okW W B) U).length:Int)
theorem T5 (W B:Nat→Int) (U:Nat):fJ W B U 0 1=⟨mU (fun _=>false) [Int.ofNat 0] true,mV (fun _=>Int.ofNat 0) [Int.ofNat 0] (Int.ofNat 1),qN false 0⟩:=by
 have e1:=ta (fun _=>false) (fun _=>0) 0 0 true;have e2:=tc (fun _=>false) (fun _=>0) 0 0 1;have h0:(mE (fun _=>false) (fun _=>0) 0).h=fun _=>false:=by
  funext l;match l with
  | []=>rfl
  | [y]=>show (decide (0≤y) && false)=false;simp
  | _::_::_=>rfl
 have g0:(mE (fun _=>false) (fun _=>0) 0).g=fun _=>Int.ofNat 0:=by
  funext l;match l with
  | []=>rfl
  | [y]=>show (if 0≤y then (((0:Nat)):Int) else 0)=Int.ofNat 0;split<;>rfl
  | _::_::_=>rfl
 rw[h0] at e1;rw[g0] at e2;rw[ie,ig,mi];have e1:fz (fun _=>false) [Int.ofNat 0] true=_:=e1;have e2:iN (fun _=>Int.ofNat 0) [Int.ofNat 0] (Int.ofNat 1)=_:=e2;rw[e1,e2];have a1:(fun Y=>decide (0<cF U (okW W B) 0 Y))=fun y=>if y=0 then true else false:=by
  funext Y;rw[Cg];by_cases e:Y=0
  · rw[if_pos e,if_pos e];rfl
  · rw[if_neg e,if_neg e];rfl
 have a2:(fun Y=>cF U (okW W B) 0 Y)=fun y=>if y=0 then 1 else 0:=by funext Y;rw[Cg]
 unfold fJ;rw[a1,a2];rfl
theorem US (W B:Nat→Int) (U:Nat):Gd (fJ W B U 0 1):=by
 rw[T5];show ∃ es,rB (.num .u64) es (mU (fun _=>false) [Int.ofNat 0] true) (mV (fun _=>Int.ofNat 0) [Int.ofNat 0] (Int.ofNat 1)) (qN false 0);rw[ie,ig,mi];exact F5 (h:=fun _=>false) (g:=fun _=>Int.ofNat 0) ⟨[],rfl,(fun j hj=>absurd hj (Nat.not_lt_zero _)),(fun n h=>by cases h),(fun n _=>rfl),(fun i j hi=>absurd hi (Nat.not_lt_zero _))⟩ _ _
theorem Qj (hl:U≤10) (H:aa):GY Tryd.prog KtG.kt 100000 73 90 cR (cd (n+1)) [shV O U Z V J W B] H=some (.int .i64 (cntF U W B),H):=by
 obtain ⟨q',hG',hr⟩:=UI n O U Z V J W B H hl 1 (US W B U);have hC:(HL 90 (il aM n 1)).Ok (pW Tryd.prog KtG.kt 100000 90 cR (cd (n+1))):=OS (iA n 1);have hx:exec (N2 (pW Tryd.prog KtG.kt 100000 90 cR (cd (n+1)))) (.rangeFunc (.tmp 16) #[17] (part Tryd.f73 [1,1,1,0,1,0,0]) cB) (dZ (shV O U Z V J W B)) (No O U Z V J W B::H)=some (.normal,dZ (shV O U Z V J W B),mF O U Z V J W B (fJ W B U U q').h (fJ W B U U q').g (fJ W B U U q').q .dead::H) :=
  ub (cx:=N2 (pW Tryd.prog KtG.kt 100000 90 cR (cd (n+1)))) (l:=kJ (shV O U Z V J W B)) (f:=.tmp 16) (ps:=#[17]) (fr:=dZ (shV O U Z V J W B)) (H:=No O U Z V J W B::H) (g:=90) (a:=[]) (b:=[.ptrT (some 0) (.G [shV O U Z V J W B]) 0]) rfl rfl rfl (by
   rw[T5] at hr;exact hr) rfl rfl rfl
 have e:cq .u64 (ep .u64 (Int.ofNat 1) (Int.ofNat U)) (Int.ofNat 1)=((2 ^ U-1:Nat):Int):=by
  have h1:=Nat.two_pow_pos U;have h2:2 ^ U≤2 ^ 10:=Nat.pow_le_pow_right (by decide) hl;rw[BH (by omega),eB];show IntKind.u64.wrap (((2 ^ U:Nat):Int)-1)=_;rw[show ((2 ^ U:Nat):Int)-1=((2 ^ U-1:Nat):Int) by omega];exact jR (by omega)
 have hg:(fJ W B U U q').g [((2 ^ U-1:Nat):Int)]=cntF U W B:=by
  unfold fJ cntF;rw[Gm,LD]
 obtain ⟨y,h1,h2,h3⟩:Tr.all (bz Tryd.prog (pW Tryd.prog KtG.kt 100000 90 cR (cd (n+1))) 100000 73 Tryd.f73 (KtG.kt 73) (HL 90 (il aM n 1)) aV (HN aR (fun _=>true) (dZ (shV O U Z V J W B)) (No O U Z V J W B::H) (.ok (.normal,hints (dZ (shV O U Z V J W B)),mF O U Z V J W B (fJ W B U U q').h (fJ W B U U q').g (fJ W B U U q').q .dead::H))) [(shV O U Z V J W B,none)] H) (fun y=>y.1.1=AV.int .i64 (cntF U W B)∧y.2=H):=by
  rw[W9,e,hg];refine Tr.an ⟨rfl,rfl⟩ (Tr.ae ?_ (Tr.ai ⟨rfl,rfl⟩));rw[br];exact decide_eq_true (by show (0:Int)≤(U:Int);omega)
 have:=xt (P:=Tryd.prog) (KT:=KtG.kt) (fu:=100000) (f:=73) (call:=pW Tryd.prog KtG.kt 100000 90 cR (cd (n+1))) (fn:=Tryd.f73) Tryd.func73 rfl (args:=[(shV O U Z V J W B,none)]) (H:=H) rfl hC (aj _ _) (BC (ak _ _) (fun f ps a b _ hm x hx2=>by
  rw[WK] at hm;simp only[List.mem_cons,Prod.mk.injEq,List.not_mem_nil,or_false] at hm;obtain ⟨rfl,rfl,rfl,rfl⟩:=hm;rw[← Tr.ab hx2];simp only[eD.st,aP];exact hx)) h1
 rw[h2,h3] at this;exact this
end
end Go.Eng.Q
end
section
namespace Go.Proofs
open Go.Shelf
def Tryd.EI:Go.Shelf.Ren:=⟨fun | 5=>95 | 8=>102 | 7=>101 | 19=>112 | 20=>113 | 10=>103 | 11=>104 | 12=>105 | 13=>106 | 14=>107 | 15=>108 | 16=>109 | 17=>110 | 18=>111 | 30=>114 | 31=>115 | 32=>116 | 33=>117 | 34=>118 | 35=>119 | 40=>120 | n=>n,fun | 23=>36 | 25=>3 | 3=>3 | 32=>88 | 22=>36 | 0=>0 | 44=>132 | 46=>134 | 4=>4 | 36=>142 | 35=>141 | 41=>146 | 5=>5 | 9=>9 | 53=>148 | 57=>152 | 63=>154 | 64=>155 | n=>n,fun | n=>n⟩
theorem Tryd.Pc:Go.Proofs.SlLaysM.n5 Tryd.prog Tryd.EI:={
 mixed:=by kernel_rfl
 f5:=⟨Tryd.f95.name,by decide,Tryd.func95.trans (congrArg some (by kernel_rfl))⟩
 f7:=⟨Tryd.f101.name,by decide,Tryd.func101.trans (congrArg some (by kernel_rfl))⟩
 f8:=Tryd.func102.trans (congrArg some (by kernel_rfl))
 f10:=⟨Tryd.f103.name,by decide,Tryd.func103.trans (congrArg some (by kernel_rfl))⟩
 f11:=⟨Tryd.f104.name,by decide,Tryd.func104.trans (congrArg some (by kernel_rfl))⟩
 f12:=⟨Tryd.f105.name,by decide,Tryd.func105.trans (congrArg some (by kernel_rfl))⟩
 f13:=⟨Tryd.f106.name,by decide,Tryd.func106.trans (congrArg some (by kernel_rfl))⟩
 f14:=⟨Tryd.f107.name,by decide,Tryd.func107.trans (congrArg some (by kernel_rfl))⟩
 f15:=⟨Tryd.f108.name,by decide,Tryd.func108.trans (congrArg some (by kernel_rfl))⟩
 f16:=⟨Tryd.f109.name,by decide,Tryd.func109.trans (congrArg some (by kernel_rfl))⟩
 f17:=⟨Tryd.f110.name,by decide,Tryd.func110.trans (congrArg some (by kernel_rfl))⟩
 f18:=⟨Tryd.f111.name,by decide,Tryd.func111.trans (congrArg some (by kernel_rfl))⟩
 f19:=Tryd.func112.trans (congrArg some (by kernel_rfl))
 f20:=Tryd.func113.trans (congrArg some (by kernel_rfl))
 f30:=⟨Tryd.f114.name,by decide,Tryd.func114.trans (congrArg some (by kernel_rfl))⟩
 f31:=Tryd.func115.trans (congrArg some (by kernel_rfl))
 f32:=Tryd.func116.trans (congrArg some (by kernel_rfl))
 f33:=⟨Tryd.f117.name,by decide,Tryd.func117.trans (congrArg some (by kernel_rfl))⟩
 f34:=⟨Tryd.f118.name,by decide,Tryd.func118.trans (congrArg some (by kernel_rfl))⟩
 f35:=⟨Tryd.f119.name,by decide,Tryd.func119.trans (congrArg some (by kernel_rfl))⟩
 f40:=⟨Tryd.f120.name,by decide,Tryd.func120.trans (congrArg some (by kernel_rfl))⟩
 t0:=Tryd.underlying0
 a0:=Tryd.isAgg0
 z0:=Tryd.sizeOf0
 v0:=Tryd.zeroValue0
 t3:=Tryd.underlying3
 a3:=Tryd.isAgg3
 z3:=Tryd.sizeOf3
 v3:=Tryd.zeroValue3
 t4:=Tryd.underlying4
 a4:=Tryd.isAgg4
 z4:=Tryd.sizeOf4
 v4:=Tryd.zeroValue4
 t5:=Tryd.underlying5
 a5:=Tryd.isAgg5
 z5:=Tryd.sizeOf5
 v5:=Tryd.zeroValue5
 t9:=Tryd.underlying9
 a9:=Tryd.isAgg9
 z9:=Tryd.sizeOf9
 v9:=Tryd.zeroValue9
 t22:=Tryd.underlying36
 a22:=Tryd.isAgg36
 z22:=Tryd.sizeOf36
 v22:=Tryd.zeroValue36
 t23:=Tryd.underlying36
 a23:=Tryd.isAgg36
 z23:=Tryd.sizeOf36
 v23:=Tryd.zeroValue36
 t25:=Tryd.underlying3
 a25:=Tryd.isAgg3
 z25:=Tryd.sizeOf3
 v25:=Tryd.zeroValue3
 t32:=Tryd.underlying88
 a32:=Tryd.isAgg88
 z32:=Tryd.sizeOf88
 v32:=Tryd.zeroValue88
 t35:=Tryd.underlying141
 a35:=Tryd.isAgg141
 z35:=Tryd.sizeOf141
 v35:=Tryd.zeroValue141
 t36:=Tryd.underlying142
 a36:=Tryd.isAgg142
 z36:=Tryd.sizeOf142
 v36:=Tryd.zeroValue142
 t41:=Tryd.underlying146
 a41:=Tryd.isAgg146
 z41:=Tryd.sizeOf146
 v41:=Tryd.zeroValue146
 t44:=Tryd.underlying132
 a44:=Tryd.isAgg132
 z44:=Tryd.sizeOf132
 v44:=Tryd.zeroValue132
 t46:=Tryd.underlying134
 a46:=Tryd.isAgg134
 z46:=Tryd.sizeOf134
 v46:=Tryd.zeroValue134
 t53:=Tryd.underlying148
 a53:=Tryd.isAgg148
 z53:=Tryd.sizeOf148
 v53:=Tryd.zeroValue148
 t57:=Tryd.underlying152
 a57:=Tryd.isAgg152
 z57:=Tryd.sizeOf152
 v57:=Tryd.zeroValue152
 t63:=Tryd.underlying154
 a63:=Tryd.isAgg154
 z63:=Tryd.sizeOf154
 v63:=Tryd.zeroValue154
 t64:=Tryd.underlying155
 a64:=Tryd.isAgg155
 z64:=Tryd.sizeOf155
 v64:=Tryd.zeroValue155 }
def Tryd.Cj:Go.Shelf.Ren:=⟨fun | 27=>82 | 28=>97 | 29=>98 | n=>n,fun | 0=>0 | 3=>3 | 4=>4 | 5=>5 | 22=>134 | 25=>88 | 27=>132 | 53=>138 | 54=>139 | n=>n,fun | n=>n⟩
theorem Tryd.ctz:Lays7.n27 Tryd.prog Tryd.Cj:={
 mixed:=by kernel_rfl
 f27:=Tryd.func82.trans (congrArg some (by kernel_rfl))
 f28:=Tryd.func97.trans (congrArg some (by kernel_rfl))
 f29:=Tryd.func98.trans (congrArg some (by kernel_rfl))
 t0:=Tryd.underlying0
 a0:=Tryd.isAgg0
 z0:=Tryd.sizeOf0
 v0:=Tryd.zeroValue0
 i0:=by kernel_rfl
 t3:=Tryd.underlying3
 a3:=Tryd.isAgg3
 z3:=Tryd.sizeOf3
 v3:=Tryd.zeroValue3
 i3:=by kernel_rfl
 t4:=Tryd.underlying4
 a4:=Tryd.isAgg4
 z4:=Tryd.sizeOf4
 v4:=Tryd.zeroValue4
 i4:=by kernel_rfl
 t5:=Tryd.underlying5
 a5:=Tryd.isAgg5
 z5:=Tryd.sizeOf5
 v5:=Tryd.zeroValue5
 i5:=by kernel_rfl
 t22:=Tryd.underlying134
 a22:=Tryd.isAgg134
 z22:=Tryd.sizeOf134
 v22:=Tryd.zeroValue134
 i22:=by kernel_rfl
 t25:=Tryd.underlying88
 a25:=Tryd.isAgg88
 z25:=Tryd.sizeOf88
 v25:=Tryd.zeroValue88
 i25:=by kernel_rfl
 t27:=Tryd.underlying132
 a27:=Tryd.isAgg132
 z27:=Tryd.sizeOf132
 v27:=Tryd.zeroValue132
 i27:=by kernel_rfl
 t53:=Tryd.underlying138
 a53:=Tryd.isAgg138
 z53:=Tryd.sizeOf138
 v53:=Tryd.zeroValue138
 i53:=by kernel_rfl
 t54:=Tryd.underlying139
 a54:=Tryd.isAgg139
 z54:=Tryd.sizeOf139
 g0:=by kernel_rfl
 g1:=by kernel_rfl }
end Go.Proofs
namespace Go.Eng
open Go.Proofs Go.Sort
def gk (L:List Int):List Int:=L.mergeSort fun x y=>decide (x≤y)
theorem MV:JU Tryd.prog 95 gk :=
 ⟨⟨_,Tryd.func95,by kernel_rfl⟩,fun L=>List.length_mergeSort L,fun blk off cap zs w h1 h2 h3=>AnyM.slices_Sort_int Tryd.Pc blk off cap zs w h1 h2 h3⟩
noncomputable def FG (args:List AV) (H:aa):Option (AV×aa) :=
 match args with
 | [.int .u64 x]=>if 0≤x∧x<18446744073709551616 then some (.int .i64 (Go.Lib.ctz 64 x.toNat),H) else none
 | _=>none
theorem Im {args:List AV} {H:aa} {v:AV} {H':aa} (h:FG args H=some (v,H')) {p:aH} {M:Mu} {w:World} {cargs:Array Value} (hH:bj p M H w) (hA:eN p M args cargs):(∃ fn,Tryd.prog.funcs[82]?=some fn∧fn.body.isNone=false)∧CallsIn Fence.wide 0 Tryd.prog 82 cargs w (eX p M H w v H'):=by
 refine ⟨⟨_,Tryd.func82,by kernel_rfl⟩,callsIn_wide.2 ?_⟩;unfold FG at h;split at h;case h_2=>simp at h
 rename_i x;split at h;case isFalse=>simp at h
 rename_i hx;simp only[nP] at h;obtain ⟨rfl,rfl⟩:=h;have hsize:cargs.size=1:=hA.1;have hv:=hA.2 0 (by simp);have hd:cargs=#[cargs.getD 0 undef]:=by
  apply Array.ext
  · simpa using hsize
  · intro j h1 h2;have:j=0:=by omega
    subst this;simp[Array.getD,hsize]
 have hv:al p M (.int .u64 x) (cargs.getD 0 undef):=hv;rw[hd,hv.ofInt];have hT:TabAt (Tryd.Cj.g 1) Go.Lib.deBruijn64tab w:=fun j hj=>hH.pers 1 j _ (p.2 1 j _ (by
  have:j<64:=hj;unfold pq;rw[if_pos ⟨rfl,this⟩]))
 have:=Any7.bits_TrailingZeros Tryd.ctz x.toNat wO w (fun _=>hT);rw[Int.toNat_of_nonneg hx.1] at this;refine Calls.mono this ?_;rintro e w' ⟨rfl,rfl⟩;exact ⟨_,rfl,Still.refl _,p,M,cE.refl hH,.int _ _⟩
end Go.Eng
end
