/- Gall: count: the range over the sets, in whatever order. -/
import Derived.Test.YtgphpjdchnfjlaaDoorV4GaQx6
import Derived.Test.YtgphpjdchnfjlaaDoorV4EngTkx3
import Derived.Test.YtgphpjdchnfjlaaDoorV4Gp2x6
import Derived.Shelf.SortM.Plain
import Derived.Shelf.Spec.TrailingZeros
import Derived.Test.YtgphpjdchnfjlaaDoorProg
set_option linter.unusedVariables false
set_option linter.unusedSimpArgs false
set_option maxRecDepth 100000
section
namespace Go.Eng.Q
open Go.Proofs Go.Eng.Gall
theorem mQ (L:List Int) (v:Int):oD (dZ (az L) 0) L.length (az [v])=az (L++[v]):=by
 rw[dH,mG,kW];funext i;by_cases h:i<L.length
 · simp[h,List.getElem?_append]
 · by_cases h2:i=L.length
   · subst h2;simp
   · have e1:[v][i-L.length]?=none:=List.getElem?_eq_none (by simp;omega);have e2:(L++[v])[i]?=none:=List.getElem?_eq_none (by simp;omega);simp only[h,if_false,List.getD_eq_getElem?_getD,e1,e2]
theorem GD {L:bQ} {cx:Cx} {callR:bp} {bl:eJ} {rg:nA} {k n:Nat} {kv:AV×AV} {fr fr':aD} {l l':bF} {R:aa} {T:Tr (aO×aa)} (e:L.tD cx callR bl rg k n kv (hints fr) (l::R)=T) (hC:callR.Ok cx.call) (hB:bl.Ok cx L.rest) (hR:rg.Ok cx L.rest)
 (h:T.all fun y=>strip y.1=fr'∧y.2=l'::R):fV L cx k n R kv (fr,l)=some (fr',l'):=by
 obtain ⟨y,h1,h2,h3⟩:=h
 have:=bQ.Ec hC hB hR (by rw[e];exact h1)
 rw[aP,h2,h3] at this
 unfold fV
 rw[this]
theorem yh {L:bQ} {cx:Cx} {callR:bp} {fr:aD} {H:aa} {T:Tr (aO×aa)} (e:L.vn cx callR (hints fr) H=T) (hC:callR.Ok cx.call) {y:aD×aa} (h:T.all fun z=>(strip z.1,z.2)=y):L.last cx fr H=some y:=by
 obtain ⟨z,h1,rfl⟩:=h;have:=bQ.FW hC (by rw[e];exact h1);rw[aP] at this;exact this
noncomputable def MY (g:List Int→Int) (e:Int):AV×AV:=(.int .u64 e,.int .i64 (g [e]))
noncomputable def I0 (k:Int):List Int→aD×bF
 | []=>(iV k++[(6,.nils),(18,.map 2 1),(19,.ptr 0 0 0 0)],TR)
 | a::r=>(iV k++[(6,.slc 0 2 r.length 0 1 (r.length+1) none),(19,.ptr 0 0 0 0)],fZ a r.length (r.length+1) (az (a::r)))
theorem WE (n:Nat) (k:Int) (g:List Int→Int) (R:aa) (xs:List Int) (e:Int) (hx:xs.length≤2000):fV cL (oB n) 0 1 R (MY g e) (I0 k xs)=some (I0 k (xs++[e])):=by
 cases xs with
 | nil =>
   refine GD (WJ n k e (g [e]) R) (aw n) (ai _ _) (aj _ _) ?_;exact wF
 | cons a r =>
   simp only[List.length_cons] at hx;have e1:=mQ (a::r) e;simp only[List.length_cons] at e1;have e3:aq (r.length+1) 1=r.length+1+1:=by rw[aK]
   have e4:(r++[e]).length=r.length+1:=by simp
   have T:=tB n k e (g [e]) a r.length (r.length+1) (az (a::r)) R;rw[e1,e3] at T;refine GD T (aw n) (ai _ _) (aj _ _) ?_;show Tr.all _ (fun y:aO×aa=>strip y.1=iV k++[(6,.slc 0 2 (r++[e]).length 0 1 ((r++[e]).length+1) none),(19,.ptr 0 0 0 0)]∧y.2=fZ a (r++[e]).length ((r++[e]).length+1) (az (a::r++[e]))::R);rw[e4];generalize az (a::r++[e])=Y at *;exact wF
theorem JI (n:Nat) (k:Int) (g:List Int→Int) (R:aa):∀ (ks xs:List Int),xs.length+ks.length≤2000→fO cL (oB n) 0 1 R (ks.map (MY g)) (I0 k xs)=some (I0 k (xs++ks))
 | [],xs,_=>by rw[List.append_nil];rfl
 | e::ks,xs,h=>by
   show (match fV cL (oB n) 0 1 R (MY g e) (I0 k xs) with
    | some t=>fO cL (oB n) 0 1 R (ks.map (MY g)) t
    | none=>none)=_
   rw[List.length_cons] at h;rw[WE n k g R xs e (by omega)];have:=JI n k g R ks (xs++[e]) (by rw[List.length_append,List.length_singleton];omega);rw[List.append_assoc] at this;exact this
theorem NI {es:List (AV×AV)} {h:List Int→Bool} {g:List Int→Int} {c:Nat} (hE:ra (.num .u64) es h g c):∀ vs:List Nat,vs.Nodup→(∀ j ∈ vs,j<es.length) →
 ∃ ks:List Int,(vs.map fun j=>(es.map fun e=>(mE (1+1) e.1,mE (1+1) e.2)).getD j (.undef,.undef))=ks.map (MY g)∧(∀ y ∈ ks,h [y]=true)∧(∀ j ∈ vs,∀ y,(es.getD j (.undef,.undef)).1=.int .u64 y→y ∈ ks)∧(∀ y ∈ ks,∃ j ∈ vs,(es.getD j (.undef,.undef)).1=.int .u64 y)∧ks.Nodup
 | [],_,_=>⟨[],rfl,fun e he=>(by cases he),fun j hj=>(by cases hj),fun e he=>(by cases he),List.nodup_nil⟩
 | j :: vs,hn,hv=>by
   rw[List.nodup_cons] at hn;obtain ⟨l,l1,l2,l3,l4,l5⟩:=NI hE vs hn.2 (fun i hi=>hv i (List.mem_cons_of_mem _ hi));have hj:=hv j (by simp);obtain ⟨m,e1,e2⟩:=hE.ent j hj;have hlen:m.length=1:=Nat.eq_of_beq_eq_true (hE.all _ e2).1;obtain ⟨a,rfl⟩:∃ a,m=[a]:=by
    match m,hlen with
    | [a],_=>exact ⟨a,rfl⟩
   have e1':es[j]'hj=(.int .u64 a,.int .i64 (g [a])):=by
    rw[List.getD_eq_getElem?_getD,List.getElem?_eq_getElem hj] at e1;exact e1
   refine ⟨a::l,?_,fun y hy=>?_,fun i hi y hy=>?_,fun y hy=>?_,List.nodup_cons.2 ⟨fun ha=>?_,l5⟩⟩
   · rw[List.map_cons,List.map_cons,l1];congr 1;rw[List.getD_eq_getElem?_getD,List.getElem?_eq_getElem (by simpa using hj),List.getElem_map,e1'];rfl
   · rcases List.mem_cons.1 hy with rfl | hy
     · exact e2
     · exact l2 y hy
   · rcases List.mem_cons.1 hi with rfl | hi
     · rw[e1] at hy;have hy:AV.int IntKind.u64 a=AV.int IntKind.u64 y:=hy;injection hy with _ hy;subst hy;simp
     · exact List.mem_cons_of_mem _ (l3 i hi y hy)
   · rcases List.mem_cons.1 hy with rfl | hy
     · exact ⟨j,by simp,by rw[e1];rfl⟩
     · obtain ⟨i,i1,i2⟩:=l4 y hy;exact ⟨i,List.mem_cons_of_mem _ i1,i2⟩
   · obtain ⟨i,i1,i2⟩:=l4 a ha;have:i=j:=hE.nd i j (hv i (List.mem_cons_of_mem _ i1)) hj (by rw[i2,e1];rfl);subst this;exact hn.1 i1
theorem kQ {vs:List Nat} {n:Nat} (hn:vs.Nodup) (hl:vs.length=n) (hb:∀ j ∈ vs,j<n) {j:Nat} (hj:j<n):j ∈ vs:=by
 apply Classical.byContradiction;intro hc;have:=eI (L:=j::vs) (M:=List.range n) (List.nodup_cons.2 ⟨hc,hn⟩) (fun i hi=>by
  rcases List.mem_cons.1 hi with rfl | hi
  · simpa using hj
  · simpa using hb i hi)
 simp only[List.length_cons,List.length_range] at this;omega
theorem Hs {es:List (AV×AV)} {h:List Int→Bool} {g:List Int→Int} {c:Nat} (hE:ra (.num .u64) es h g c) (vs:List Nat) (hn:vs.Nodup) (hl:vs.length=es.length) (hv:∀ j ∈ vs,j<es.length) :
 ∃ ks:List Int,(vs.map fun j=>(es.map fun e=>(mE (1+1) e.1,mE (1+1) e.2)).getD j (.undef,.undef))=ks.map (MY g)∧(∀ y,y ∈ ks↔h [y]=true)∧ks.Nodup:=by
 obtain ⟨ks,k1,k2,k3,_,k5⟩:=NI hE vs hn hv
 refine ⟨ks,k1,fun y=>⟨k2 y,fun hy=>?_⟩,k5⟩
 obtain ⟨_,j,j1,j2⟩:=hE.all _ hy
 exact k3 j (kQ hn hl hv j1) y j2
theorem OG {es es':List (AV×AV)} {h:List Int→Bool} {g:List Int→Int} {c c':Nat} (hE:ra (.num .u64) es h g c) (hE':ra (.num .u64) es' h g c'):c=c':=by
 obtain ⟨ks,a1,a2,a3⟩:=Hs hE (List.range es.length) List.nodup_range (by simp) (fun j hj=>by simpa using hj);obtain ⟨ks',b1,b2,b3⟩:=Hs hE' (List.range es'.length) List.nodup_range (by simp) (fun j hj=>by simpa using hj);have e1:=congrArg List.length a1;have e2:=congrArg List.length b1;simp only[List.length_map,List.length_range] at e1 e2;have:=((List.perm_ext_iff_of_nodup a3 b3).2 (fun y=>(a2 y).trans (b2 y).symm)).length_eq;have:=hE.len;have:=hE'.len;omega
noncomputable def fE (W B:Nat→Int) (lc k q:Nat):CS:=mc (fun Y=>decide (0<cF lc (okW W B) k Y)) (fun Y=>cF lc (okW W B) k Y) q
theorem Q8 (W B:Nat→Int) (lc k q:Nat):mc (hD lc (okW W B) k []) (gD lc (okW W B) k []) q=fE W B lc k q:=by
 unfold fE;congr 1;funext Y;unfold hD;simp
theorem A3 {W B:Nat→Int} {lc k q:Nat} {y:Int}:(fE W B lc k q).h [y]=true↔∃ Y:Nat,y=(Y:Int)∧0<cF lc (okW W B) k Y:=by
 show (decide (0≤y) && decide (0<cF lc (okW W B) k y.toNat))=true↔_;rw[Bool.and_eq_true,decide_eq_true_iff,decide_eq_true_iff];constructor
 · rintro ⟨a,b⟩;exact ⟨y.toNat,by omega,b⟩
 · rintro ⟨Y,rfl,b⟩;exact ⟨by omega,by rw[Int.toNat_natCast];exact b⟩
theorem N8 {W B:Nat→Int} {lc k q:Nat} {ks:List Int} (hn:ks.Nodup) (hk:∀ y,y ∈ ks↔(fE W B lc k q).h [y]=true):∃ Ks:List Nat,ks=Ks.map (fun X:Nat=>(X:Int))∧Ks.Nodup∧∀ X,X ∈ Ks↔0<cF lc (okW W B) k X:=by
 have e:ks=(ks.map Int.toNat).map (fun X:Nat=>(X:Int)):=by
  rw[List.map_map];conv=>lhs;rw[← List.map_id ks]
  apply List.map_congr_left;intro y hy;obtain ⟨Y,h1,_⟩:=A3.1 ((hk y).1 hy);show y=((y.toNat:Nat):Int);omega
 refine ⟨ks.map Int.toNat,e,?_,fun X=>?_⟩
 · rw[e] at hn;exact List.Pairwise.of_map (S:=fun a b=>a≠b) _ (fun a b h e=>h (by rw[e])) hn
 · rw[List.mem_map];constructor
   · rintro ⟨y,hy,rfl⟩;obtain ⟨Y,h1,h2⟩:=A3.1 ((hk y).1 hy);rw[h1,Int.toNat_natCast];exact h2
   · intro h;exact ⟨(X:Int),(hk _).2 (A3.2 ⟨X,rfl,h⟩),Int.toNat_natCast X⟩
theorem NP {W B:Nat→Int} {lc k q:Nat} (hl:lc≤10) (hk10:k≤10) (hG:Gd (fE W B lc k q)) {ks:List Int} (hn:ks.Nodup) (hk:∀ y,y ∈ ks↔(fE W B lc k q).h [y]=true) :
 ks.length≤1024∧∃ q',GW W B (k:Int) lc (az ks) ks.length (fE W B lc k q)=fE W B lc (k+1) q'∧Gd (fE W B lc (k+1) q'):=by
 obtain ⟨Ks,rfl,h1,h2⟩:=N8 hn hk
 rw[List.length_map]
 constructor
 · have:=eI (L:=Ks) (M:=List.range (2 ^ lc)) h1 (fun X hX=>List.mem_range.2 (ET ((h2 X).1 hX)))
   rw[List.length_range] at this
   exact Nat.le_trans this (Nat.pow_le_pow_right (by decide) hl:2 ^ lc≤2 ^ 10)
 · rw[← Q8] at hG ⊢
   obtain ⟨q',e,hG'⟩:=MF W B k lc hl hk10 q Ks (az (Ks.map (fun X:Nat=>(X:Int)))) (fun j hj=>by
    rw[fT];show (List.map (fun X:Nat=>(X:Int)) Ks).getD j 0=_;rw[List.getD_eq_getElem?_getD,List.getElem?_eq_getElem (by simpa using hj),List.getElem_map];rfl) h1 (fun x hx=>(h2 x).1 hx) hG Ks.length (Nat.le_refl _)
   rw[e] at hG' ⊢
   rw[List.take_length] at hG' ⊢
   have e2:mc (hD lc (okW W B) k Ks) (gD lc (okW W B) k Ks) q'=fE W B lc (k+1) q':=by
    unfold fE;congr 1
    · funext Y;exact LH h2 Y
    · funext Y;exact LF h1 h2 Y
   rw[e2] at hG' ⊢
   exact ⟨q',rfl,hG'⟩
section
variable (n k:Nat) (dr:Int) (lc:Nat) (zc:Nat→Int) (lb:Nat) (zb:Nat→Int) (W B:Nat→Int) (b:an) (G:aa)
theorem Lq (hl:lc≤10) (hk:k≤10) (q:Nat) (hG:Gd (fE W B lc k q)):∃ q',Gd (fE W B lc (k+1) q') ∧
 BK (oB (n+1)) cL qV 1 0 (ar::iv dr lc zc lb zb W B b (fE W B lc k q)::G) (bD (ar::iv dr lc zc lb zb W B b (fE W B lc k q)::G)) (I0 (k:Int) []) (.num .u64) (fE W B lc k q).h (fE W B lc k q).g (fE W B lc k q).q 0 (.normal,ar::ar::iv dr lc zc lb zb W B b (fE W B lc (k+1) q')::G):=by
 obtain ⟨es0,hE0⟩:=hG
 obtain ⟨ks0,_,o2,o3⟩:=Hs hE0 (List.range es0.length) List.nodup_range (by simp) (fun j hj=>by simpa using hj)
 obtain ⟨_,q',_,hG'⟩:=NP hl hk ⟨es0,hE0⟩ o3 o2
 refine ⟨q',hG',rfl,fun es hE vs hn hlen hv=>?_⟩
 obtain ⟨ks,k1,k2,k3⟩:=Hs hE vs hn hlen hv
 obtain ⟨c1,q2,c2,c3⟩:=NP hl hk ⟨es,hE⟩ k3 k2
 have eq:q2=q':=by
  obtain ⟨e1,h1⟩:=c3;obtain ⟨e2,h2⟩:=hG';exact OG h1 h2
 subst eq
 rw[k1]
 have hf:=JI (n+1) (k:Int) (fE W B lc k q).g (bD (ar::iv dr lc zc lb zb W B b (fE W B lc k q)::G)) ks [] (by simp;omega)
 rw[List.nil_append] at hf
 refine ⟨I0 (k:Int) ks,?_⟩
 cases ks with
 | nil =>
   refine ⟨P9 k,TR,hf,yh (WK (n+1) k _) (aw _) (Tr.ah rfl),?_⟩
   rw[eF]
   have h:=iS (y:=(.normal,_,_)) (tZ (n+1) k (iv dr lc zc lb zb W B b (fE W B lc k q)::G)) (aw _) (ai _ _) (aj _ _) (Tr.ah rfl)
   refine ⟨_,_,h,?_⟩
   have c2:fE W B lc k q=fE W B lc (k+1) q2:=c2
   rw[c2];rfl
 | cons a r =>
   refine ⟨Qa k r.length (r.length+1),fZ a r.length (r.length+1) (az (a::r)),hf,yh (tX (n+1) k a r.length (r.length+1) (az (a::r)) _) (aw _) (Tr.ah rfl),?_⟩
   rw[eF]
   rw[List.length_cons] at c1 c2
   have h:=Sd n k a r.length (r.length+1) (az (a::r)) dr lc zc lb zb W B b G (by omega) hl (fE W B lc k q)
   rw[c2] at h
   exact ⟨_,_,h,rfl⟩
theorem IW (hl:lc≤10) (hk:k≤10) (q:Nat) (hG:Gd (fE W B lc k q)):∃ q',Gd (fE W B lc (k+1) q') ∧
 kx (oB (n+1)) cS cL qV (iV (k:Int)++[(6,.nils)]) (ar::ar::iv dr lc zc lb zb W B b (fE W B lc k q)::G)=some (.normal,[],ar::ar::iv dr lc zc lb zb W B b (fE W B lc (k+1) q')::G):=by
 obtain ⟨q',hG',hends⟩:=Lq n k dr lc zc lb zb W B b G hl hk q hG
 refine ⟨q',hG',?_⟩
 obtain ⟨es,hE⟩:=hG
 generalize fE W B lc k q=s at *
 have hp:lq (oB (n+1)).P (oB (n+1)).nt (oB (n+1)).call cS.ops0 cS.pre (iV (k:Int)++[(6,.nils)]) (ar::ar::iv dr lc zc lb zb W B b s::G)=some (iV (k:Int)++[(6,.nils),(18,.map 2 1)],ar::ar::iv dr lc zc lb zb W B b s::G):=by
  have:=eB.IU (S:=cS) (cx:=oB (n+1)) (callR:=il aH (n+1) 0) (aw _) (fr:=hints (iV (k:Int)++[(6,.nils)])) (H:=ar::ar::iv dr lc zc lb zb W B b s::G) (by
   show (eB.Mm _ _ _ _ _).run=_;exact congrArg Tr.run (tS (n+1) k dr lc zc lb zb W B s.h s.g s.q b G))
  rw[aP] at this;exact this
 unfold kx
 rw[hp]
 show (@dite _ (∃ y,BK (oB (n+1)) cL qV 1 0 (ar::iv dr lc zc lb zb W B b s::G) (bD (ar::iv dr lc zc lb zb W B b s::G)) (I0 (k:Int) []) (.num .u64) s.h s.g s.q 0 y) (Classical.propDecidable _)
  (fun hx=>some ((Classical.choose hx).1,[],(Classical.choose hx).2)) (fun _=>none))=_
 have hex:∃ y,BK (oB (n+1)) cL qV 1 0 (ar::iv dr lc zc lb zb W B b s::G) (bD (ar::iv dr lc zc lb zb W B b s::G)) (I0 (k:Int) []) (.num .u64) s.h s.g s.q 0 y:=⟨_,hends⟩
 rw[dif_pos hex]
 have hc:=Classical.choose_spec hex
 generalize Classical.choose hex=Y at *
 obtain ⟨s1,f1,l1,e1,e2,frY,HY,e3,e4⟩:=hc.2 es hE (List.range es.length) List.nodup_range (by simp) (fun j hj=>by simpa using hj)
 obtain ⟨s2,f2,l2,g1,g2,frZ,HZ,g3,g4⟩:=hends.2 es hE (List.range es.length) List.nodup_range (by simp) (fun j hj=>by simpa using hj)
 rw[e1] at g1
 obtain rfl:=Option.some.inj g1
 rw[e2] at g2
 simp only[Option.some.injEq,Prod.mk.injEq,List.cons.injEq,and_true] at g2
 obtain ⟨rfl,rfl⟩:=g2
 rw[e3] at g3
 simp only[nP] at g3
 obtain ⟨h1,_,rfl⟩:=g3
 rw[e4] at g4
 rw[h1,g4]
end
end Go.Eng.Q
end
section
namespace Go.Eng.Q
open Go.Proofs Go.Eng.Gall
def Hl (g:FuncId) (c:bp):bp:=fun tgt args H=>match tgt with
 | .fn f=>cond (Nat.beq f g) .bad (c (.fn f) args H)
 | .round _ _=>.bad
 | .mode=>c .mode args H
noncomputable def qW (C:aI):Cx:=⟨Tryd.prog,C,100000,90,18,KtG.kt 90,none⟩
noncomputable def NG (C:aI):Cx:=⟨Tryd.prog,C,100000,73,83,KtG.kt 73,none⟩
noncomputable def lH (lc:Nat) (j:Int):aD:=[(0,.yld 1 4),(9,.int .i64 (Int.ofNat lc)),(10,.int .i64 j)]
theorem TX (n:Nat) (dr:Int) (lc:Nat) (zc:Nat→Int) (lb:Nat) (zb:Nat→Int) (W B:Nat→Int) (H:aa):bk Tryd.prog (cd n) 100000 70 Tryd.f70 (KtG.kt 70) (il aH n 0) aS aR [(shV dr lc zc lb zb W B,none)] H =
 Tr.ok ((AV.fn (Fn.func 90) [] [AV.ptrT (some 0) (Row.G [shV dr lc zc lb zb W B]) 0],none),H):=by kernel_rfl
theorem t90 (n:Nat) (C:aI) (lc:Nat) (j:Int) (G G':aa):aJ (qW C) (OK (Hl 1000000 (il aH n 0)) 1 4 [.int .i64 j] (ar::G) (.ok (.bool true,ar::G'))) aS aR (part Tryd.f90 [1,0,0]) (hints (lH lc j)) (ar::G) =
 Tr.ite (bH j (Int.ofNat lc)) (Tr.reqP ([AV.int .i64 j]=[AV.int .i64 j]∧ar::G=ar::G) (Tr.ite (aE true) (Tr.ok (Ex.ret,[(0,AV.yld 1 4,none),(9,AV.int .i64 (Int.ofNat lc),none),(10,AV.int .i64 j,none),(16,AV.bool true,some 1)],ar::G')) (Tr.ok (Ex.normal,[(0,AV.yld 1 4,none),(9,AV.int .i64 (Int.ofNat lc),none),(10,AV.int .i64 (a6 .i64 j (Int.ofNat 1)),none)],ar::G')))) (Tr.ok (Ex.exit 0,[(0,AV.yld 1 4,none),(9,AV.int .i64 (Int.ofNat lc),none),(10,AV.int .i64 j,none),(11,AV.bool false,some 1)],ar::G)):=by kernel_rfl
theorem Sn (n:Nat) (C:aI) (lc:Nat) (j:Int) (G:aa):aJ (qW C) (Hl 1000000 (il aH n 0)) aS aR (part Tryd.f90 [1,0,0]) (hints (lH lc j)) (ar::G) =
 Tr.ite (bH j (Int.ofNat lc)) Tr.bad (Tr.ok (Ex.exit 0,[(0,AV.yld 1 4,none),(9,AV.int .i64 (Int.ofNat lc),none),(10,AV.int .i64 j,none),(11,AV.bool false,some 1)],ar::G)):=by kernel_rfl
end Go.Eng.Q
end
section
namespace Go.Eng.Q
open Go.Proofs Go.Eng.Gall
noncomputable def TS (s:Nat) (A:AV):AV:=.fn (.func 90) [] [.ptrT (some s) (.G [A]) 0]
noncomputable def dV (A:AV):aD:=[(1,.ptr 0 0 0 0),(3,.ptr 0 2 0 0),(4,.ptr 0 3 0 0),(16,TS 0 A)]
noncomputable def MZ (dr:Int) (lc:Nat) (zc:Nat→Int) (lb:Nat) (zb:Nat→Int) (W B:Nat→Int):bF:=⟨false,[(0,.row (.G [shV dr lc zc lb zb W B])),(0,.fmap (.num .u64) (mB (fun _=>false) [Int.ofNat 0] true) (mC (fun _=>Int.ofNat 0) [Int.ofNat 0] (Int.ofNat 1)) (qv false 0)),(0,.row (.G [.map 0 1])),(0,.row (.G [.fn (.func 71) [shV dr lc zc lb zb W B] []]))]⟩
theorem WL (n:Nat) (k:Int) (A:AV) (H:aa):aJ (oB n) (il aH n 0) aS aR (part Tryd.f73 [1,1,1,0,1,0,0]) (hints [(1,.ptr 2 0 0 0),(3,.ptr 2 2 0 0),(4,.ptr 2 3 0 0),(16,TS 2 A),(17,.int .i64 k)]) (ar::H) =
 Tr.ok (Ex.normal,[(1,AV.ptr 2 0 0 0,none),(3,AV.ptr 2 2 0 0,none),(4,AV.ptr 2 3 0 0,none),(5,AV.int .i64 k,none)],ar::H):=by kernel_rfl
theorem Xc (n:Nat) (C:aI) (dr:Int) (lc:Nat) (zc:Nat→Int) (lb:Nat) (zb:Nat→Int) (W B:Nat→Int) (G G':aa):bk Tryd.prog C 100000 90 Tryd.f90 (KtG.kt 90) (Hl 1000000 (il aH n 0)) (cM aS 0 (lH lc (Int.ofNat 0)) (ar::G) (.ok (.normal,hints (lH lc (Int.ofNat lc)++[(11,.bool false)]),ar::G'))) aR [(.yld 0 4,none),(.ptrT (some 0) (.G [shV dr lc zc lb zb W B]) 0,none)] G =
 (fun (Z0:aD)=>Tr.reqP (Z0=Z0∧ar::G=ar::G) (Tr.ok ((AV.tup [],none),G'))) [(0,AV.yld 1 4),(9,AV.int .i64 (Int.ofNat lc)),(10,AV.int .i64 (Int.ofNat 0))]:=by kernel_rfl
theorem W2 (n:Nat) (C:aI) (dr:Int) (lc:Nat) (zc:Nat→Int) (lb:Nat) (zb:Nat→Int) (W B:Nat→Int) (h:List Int→Bool) (g:List Int→Int) (q:Nat) (H:aa):bk Tryd.prog C 100000 73 Tryd.f73 (KtG.kt 73) (Hl 90 (il aH n 1)) aS (Hn aR (fun _=>true) (dV (shV dr lc zc lb zb W B)) (MZ dr lc zc lb zb W B::H) (.ok (.normal,hints (dV (shV dr lc zc lb zb W B)),me dr lc zc lb zb W B h g q .dead::H))) [(shV dr lc zc lb zb W B,none)] H =
 (fun (Z0:aD)=>Tr.reqP (Z0=Z0∧MZ dr lc zc lb zb W B::H=MZ dr lc zc lb zb W B::H) (Tr.req (dJ (Int.ofNat 0) (Int.ofNat lc)) (Tr.ok ((AV.int .i64 (g [ct IntKind.u64 (ef IntKind.u64 (Int.ofNat 1) (Int.ofNat lc)) (Int.ofNat 1)]),none),H)))) [(1,AV.ptr 0 0 0 0),(3,AV.ptr 0 2 0 0),(4,AV.ptr 0 3 0 0),(16,AV.fn (Fn.func 90) [] [AV.ptrT (some 0) (Row.G [shV dr lc zc lb zb W B]) 0])]:=by kernel_rfl
theorem Ub:∀ b,(0,b) ∈ aL (aV Tryd.f90)→b=.loop (part Tryd.f90 [1,0,0]):=ey (by kernel_rfl)
end Go.Eng.Q
end
section
namespace Go.Eng.Q
open Go.Proofs Go.Eng.Gall
theorem Ov {P:Program} {KT:FuncId→Nat→Nat} {fu:Nat} {g:FuncId} {r:pI} {c:bp} {call:aI} (h:c.Ok call):(Hl g c).Ok (pE P KT fu g r call):=by
 refine ⟨h.1,fun tgt args H x hx=>?_⟩;cases tgt with
 | fn f =>
   have hx:(cond (Nat.beq f g) Tr.bad (c (.fn f) args H)).run=some x:=hx;show (if Nat.beq f g then _ else call (.fn f) (jL args) H)=_;cases hb:Nat.beq f g with
   | true=>rw[hb] at hx;exact (Tr.ag hx).elim
   | false=>rw[hb] at hx;exact h.2 _ _ _ _ hx
 | round d i=>exact (Tr.ag hx).elim
 | mode=>exact h.2 _ _ _ _ hx
theorem Ow {P:Program} {KT:FuncId→Nat→Nat} {fu:Nat} {g:FuncId} {r:pI} {c:bp} {call:aI} (h:c.Ok call):(Hl g c).Ok (ue P KT fu r call):=by
 refine ⟨h.1,fun tgt args H x hx=>?_⟩;cases tgt with
 | fn f =>
   have hx:(cond (Nat.beq f g) Tr.bad (c (.fn f) args H)).run=some x:=hx;cases hb:Nat.beq f g with
   | true=>rw[hb] at hx;exact (Tr.ag hx).elim
   | false=>rw[hb] at hx;exact h.2 _ _ _ _ hx
 | round d i=>exact (Tr.ag hx).elim
 | mode=>exact h.2 _ _ _ _ hx
theorem D9 {P:Program} {KT:FuncId→Nat→Nat} {fu:Nat} {r:pI} {call:aI} {d i:Nat} {args:List AV} {H H1 H2:aa} {l l1 l2:im} {fr fr1 frx:aD} {lvx:bF} {e:Ex}
 (hg:ay H d i=(0,.loop l)) (hf:l.fn=r.f) (hb:l.body=r.body) (hl:aG H d=false) (hs:l.state=.ready)
 (hp:jB l.nt (kC (d+1) l.fr) l.params (args.map (mE 1))=some fr)
 (he:exec ⟨P,call,fu,l.fn,l.nt,KT l.fn,some (d+1,i)⟩ l.assign fr (⟨false,[]⟩::H)=some (.normal,fr1,H1))
 (hg1:ay H1 (d+1) i=(0,.loop l1)) (hs1:l1.state=.ready)
 (hpc:lk ⟨P,call,fu,l.fn,l.nt,KT l.fn,some (d+1,i)⟩ r.S r.L r.suf r.pre fr1 (dv H1 (d+1) i (0,.loop { l1 with state:=.busy }))=some (e,frx,lvx::H2))
 (hg2:ay H2 d i=(0,.loop l2)) :
 oe P KT fu r call d i args H=some (.bool (cV (KV r.id e)).isNone,dv H2 d i (0,.loop { l2 with state:=if (cV (KV r.id e)).isNone then .ready else .done,pending:=cV (KV r.id e) })):=by
 unfold oe
 rw[hg]
 show (@dite _ (l.fn=r.f∧l.body=r.body) (Classical.propDecidable _) _ _)=_
 rw[dif_pos ⟨hf,hb⟩,hl]
 simp only[Bool.false_eq_true,if_false,hs,hp,he,hg1,hs1,hpc,hg2]
theorem P3:cB=.block 1 (assemble [kZ [0,0] cB] (cS.code cL) qV):=by kernel_rfl
theorem Nx:cS.ops0.toList=cS.pre++[cS.ro]:=by kernel_rfl
theorem NA:cS.ro.op=.range cS.ty (.tmp cS.m):=by kernel_rfl
theorem Nr:cS.ro.dst=some cL.it:=by kernel_rfl
theorem Nu:cS.ro.guard=none:=by kernel_rfl
theorem Ny:cL.ops1.toList=cL.no::cL.t1:=by kernel_rfl
theorem NB:cL.no.op=.next (.tmp cL.it) false:=by kernel_rfl
theorem Ns:cL.no.dst=some cL.nx:=by kernel_rfl
theorem Nv:cL.no.guard=none:=by kernel_rfl
theorem Nz:cL.ops2.toList=cL.eo::cL.t2:=by kernel_rfl
theorem NC:cL.eo.op=.entry (.tmp cL.it):=by kernel_rfl
theorem Nt:cL.eo.dst=some cL.en:=by kernel_rfl
theorem Nw:cL.eo.guard=none:=by kernel_rfl
theorem ND:cR.Ok Tryd.prog:=⟨P3,⟨Nx,NA,Nr,Nu,_,_,Tryd.underlying128⟩,⟨Ny,NB,Ns,Nv,Nz,NC,Nt,Nw⟩⟩
noncomputable def ky (A:AV):im:={ state:=.ready,pending:=none,fn:=73,nt:=83,fr:=dV A,params:=[17],assign:=part Tryd.f73 [1,1,1,0,1,0,0],body:=cB }
noncomputable def xE (A:AV):im:={ ky A with state:=.busy }
theorem WC:dG (aV Tryd.f73)=[(.tmp 16,#[17],part Tryd.f73 [1,1,1,0,1,0,0],cB)]:=by kernel_rfl
section
variable (n:Nat) (dr:Int) (lc:Nat) (zc:Nat→Int) (lb:Nat) (zb:Nat→Int) (W B:Nat→Int) (G:aa)
theorem R5 (k:Nat) (hl:lc≤10) (hk:k≤10) (q:Nat) (hG:Gd (fE W B lc k q)):∃ q',Gd (fE W B lc (k+1) q') ∧
 oe Tryd.prog KtG.kt 100000 cR (cd (n+1)) 1 4 [.int .i64 (Int.ofNat k)] (ar::iv dr lc zc lb zb W B (.loop (ky (shV dr lc zc lb zb W B))) (fE W B lc k q)::G) =
  some (.bool true,ar::iv dr lc zc lb zb W B (.loop (ky (shV dr lc zc lb zb W B))) (fE W B lc (k+1) q')::G):=by
 obtain ⟨q',hG',hr⟩:=IW n k dr lc zc lb zb W B (.loop (xE (shV dr lc zc lb zb W B))) G hl hk q hG
 refine ⟨q',hG',?_⟩
 have h1:=iS (y:=(.normal,iV (k:Int),ar::ar::iv dr lc zc lb zb W B (.loop (ky (shV dr lc zc lb zb W B))) (fE W B lc k q)::G)) (WL (n+1) (k:Int) (shV dr lc zc lb zb W B) (ar::iv dr lc zc lb zb W B (.loop (ky (shV dr lc zc lb zb W B))) (fE W B lc k q)::G)) (aw _) (ai _ _) (aj _ _) (Tr.ah rfl)
 have h5:=iS (y:=(.normal,iV (k:Int)++[(6,.nils)],ar::ar::iv dr lc zc lb zb W B (.loop (xE (shV dr lc zc lb zb W B))) (fE W B lc k q)::G)) (t5 (n+1) (k:Int) (ar::iv dr lc zc lb zb W B (.loop (xE (shV dr lc zc lb zb W B))) (fE W B lc k q)::G)) (aw _) (ai _ _) (aj _ _) (Tr.ah rfl)
 have hpc:lk (oB (n+1)) cR.S cR.L cR.suf cR.pre (iV (k:Int)) (ar::ar::iv dr lc zc lb zb W B (.loop (xE (shV dr lc zc lb zb W B))) (fE W B lc k q)::G)=some (.normal,[],ar::ar::iv dr lc zc lb zb W B (.loop (xE (shV dr lc zc lb zb W B))) (fE W B lc (k+1) q')::G):=by
  show (match oR (oB (n+1)) (kZ [0,0] cB) (iV (k:Int)) (ar::ar::iv dr lc zc lb zb W B (.loop (xE (shV dr lc zc lb zb W B))) (fE W B lc k q)::G) with
   | some (.normal,fr,H)=>lk (oB (n+1)) cS cL qV [] fr H
   | x=>x)=_
  rw[eF];have h5:exec (oB (n+1)) (kZ [0,0] cB) (iV (k:Int)) (ar::ar::iv dr lc zc lb zb W B (.loop (xE (shV dr lc zc lb zb W B))) (fE W B lc k q)::G)=_:=h5;rw[h5];exact hr
 exact D9 (l:=ky (shV dr lc zc lb zb W B)) (l1:=ky (shV dr lc zc lb zb W B)) (l2:=xE (shV dr lc zc lb zb W B)) (e:=.normal) rfl rfl rfl rfl rfl rfl h1 rfl rfl hpc rfl
theorem Mw {P:Nat→Nat→Prop} {R:Nat→Nat→Nat→Prop} (hs:∀ k,∀ q,P k q→∃ q',P (k+1) q'∧R k q q') (q0:Nat) (h0:P 0 q0):∃ f:Nat→Nat,f 0=q0∧∀ k,P k (f k)∧R k (f k) (f (k+1)):=by
 let F:Nat→Nat:=fun k=>Nat.rec (motive:=fun _=>Nat) q0 (fun k q=>@dite _ (∃ q',P (k+1) q'∧R k q q') (Classical.propDecidable _) (fun h=>Classical.choose h) (fun _=>0)) k
 have hF:∀ k,P k (F k)∧(P k (F k)→P (k+1) (F (k+1))∧R k (F k) (F (k+1))):=by
  intro k;have step:∀ k,P k (F k)→P (k+1) (F (k+1))∧R k (F k) (F (k+1)):=fun k hp=>by
   have he:=hs k (F k) hp;have e:F (k+1)=Classical.choose he:=dif_pos he;rw[e];exact Classical.choose_spec he
  refine ⟨?_,step k⟩;induction k with
  | zero=>exact h0
  | succ k ih=>exact (step k ih).1
 exact ⟨F,rfl,fun k=>⟨(hF k).1,((hF k).2 (hF k).1).2⟩⟩
theorem B8 {C:aI} {c:Code} {callR:bp} {bl:eJ} {rg:nA} {fr:aD} {H:aa} {T:Tr eC} {Q:Ex×aD×aa→Prop} (e:aJ (qW C) callR bl rg c (hints fr) H=T) (hC:callR.Ok C) (hB:bl.Ok (qW C) c) (hR:rg.Ok (qW C) c) (h:T.all fun x=>Q x.st):∃ y,exec (qW C) c fr H=some y∧Q y:=by
 obtain ⟨x,h1,h2⟩:=h;have:=fK (cx:=qW C) hC c hB hR (hints fr) H x (by rw[e];exact h1);rw[aP] at this;exact ⟨_,this,h2⟩
theorem LD {C:aI} {c:Code} (id:Nat) (F:Nat→aD) (G:Nat→aa) (N:Nat) (Y:aD×aa) (hN:N<99999)
 (hs:∀ j,j<N→∃ x,exec (qW C) c (F j) (G j)=some x∧(x.1=.normal∧tidy (a7 (G 0)) x.2.1 x.2.2=(F (j+1),G (j+1))))
 (he:∃ x,exec (qW C) c (F N) (G N)=some x∧x=(.exit id,Y)):exec (qW C) (.block id (.loop c)) (F 0) (G 0)=some (.normal,Y):=by
 have key:=iM (body:=exec (qW C) c) (n:=a7 (G 0)) F G N (fun _=>false) (fun j=>(.exit id,Y))
  (fun j hj hp=>by
    obtain ⟨x,h1,h2,h3⟩:=hs j hj;obtain ⟨e,f1,g1⟩:=x;simp only at h2;subst h2;exact ⟨_,_,h1,h3⟩)
  (fun j hj hp=>by cases hp)
  (by
    obtain ⟨x,h1,rfl⟩:=he;exact ⟨h1,by simp⟩) N 0 100000 (by omega) (by omega)
 exact hJ key
theorem UC (hl:lc≤10) (q0:Nat) (hG:Gd (fE W B lc 0 q0)):∃ q',Gd (fE W B lc lc q') ∧
 om Tryd.prog KtG.kt 100000 90 (ue Tryd.prog KtG.kt 100000 cR (cd (n+1))) [.yld 0 4,.ptrT (some 0) (.G [shV dr lc zc lb zb W B]) 0] (iv dr lc zc lb zb W B (.loop (ky (shV dr lc zc lb zb W B))) (fE W B lc 0 q0)::G) =
  some (.tup [],iv dr lc zc lb zb W B (.loop (ky (shV dr lc zc lb zb W B))) (fE W B lc lc q')::G):=by
 obtain ⟨f,rfl,hf⟩:=Mw (P:=fun k q=>k≤10→Gd (fE W B lc k q)) (R:=fun k q q'=>k≤9→oe Tryd.prog KtG.kt 100000 cR (cd (n+1)) 1 4 [.int .i64 (Int.ofNat k)] (ar::iv dr lc zc lb zb W B (.loop (ky (shV dr lc zc lb zb W B))) (fE W B lc k q)::G) =
  some (.bool true,ar::iv dr lc zc lb zb W B (.loop (ky (shV dr lc zc lb zb W B))) (fE W B lc (k+1) q')::G)) (fun k q h=>by
  by_cases hk:k≤9
  · obtain ⟨q',h1,h2⟩:=R5 n dr lc zc lb zb W B G k hl (by omega) q (h (by omega))
    exact ⟨q',fun _=>h1,fun _=>h2⟩
  · exact ⟨0,fun h=>by omega,fun h=>by omega⟩) q0 (fun _=>hG)
 refine ⟨f lc,(hf lc).1 hl,?_⟩
 let St:Nat→aa:=fun j=>iv dr lc zc lb zb W B (.loop (ky (shV dr lc zc lb zb W B))) (fE W B lc j (f j))::G
 show om Tryd.prog KtG.kt 100000 90 _ _ (St 0)=some (_,St lc)
 have hr:∀ j,j<lc→ue Tryd.prog KtG.kt 100000 cR (cd (n+1)) (.round 1 4) [.int .i64 (Int.ofNat j)] (ar::St j)=some (.bool true,ar::St (j+1)):=fun j hj=>(hf j).2 (by omega)
 have hC:(Hl 1000000 (il aH (n+1) 0)).Ok (ue Tryd.prog KtG.kt 100000 cR (cd (n+1))):=Ow (aw _)
 generalize ue Tryd.prog KtG.kt 100000 cR (cd (n+1))=C at *
 have hx:exec (qW C) (.block 0 (.loop (part Tryd.f90 [1,0,0]))) (lH lc (Int.ofNat 0)) (ar::St 0)=some (.normal,lH lc (Int.ofNat lc)++[(11,.bool false)],ar::St lc):=by
  refine LD 0 (fun j=>lH lc (Int.ofNat j)) (fun j=>ar::St j) lc (_,_) (by omega) (fun j hj=>?_) ?_
  · have ec:a6 .i64 (Int.ofNat j) (Int.ofNat 1)=Int.ofNat (j+1):=by
     have:=BG j (by omega);rw[fH];exact this
    refine B8 (Q:=fun y=>y.1=.normal∧tidy 0 y.2.1 y.2.2=(lH lc (Int.ofNat (j+1)),ar::St (j+1))) (t90 (n+1) C lc (Int.ofNat j) (St j) (St (j+1))) (Bj hC (fun x hy=>by rw[← Tr.ab hy];exact hr j hj)) (ai _ _) (aj _ _) ?_;rw[ec];generalize St (j+1)=G' at *;generalize St j=G at *;refine Tr.af (fun h0=>Tr.al ⟨rfl,rfl⟩ (Tr.af (fun h1=>?_) (fun h1=>Tr.ah ⟨rfl,rfl⟩))) (fun h0=>?_)
    · rw[aM] at h1;cases h1
    · exfalso;simp (disch:=omega) only[nV,nW] at h0;omega
  · refine B8 (Sn (n+1) C lc (Int.ofNat lc) (St lc)) hC (ai _ _) (aj _ _) (Tr.af (fun h0=>?_) (fun h0=>Tr.ah rfl));exfalso;simp (disch:=omega) only[nV,nW] at h0;omega
 obtain ⟨y,h1,h2,h3⟩:Tr.all (bk Tryd.prog C 100000 90 Tryd.f90 (KtG.kt 90) (Hl 1000000 (il aH (n+1) 0)) (cM aS 0 (lH lc (Int.ofNat 0)) (ar::St 0) (.ok (.normal,hints (lH lc (Int.ofNat lc)++[(11,.bool false)]),ar::St lc))) aR [(.yld 0 4,none),(.ptrT (some 0) (.G [shV dr lc zc lb zb W B]) 0,none)] (St 0)) (fun y=>y.1.1=AV.tup []∧y.2=St lc):=by
  rw[Xc];exact Tr.al ⟨rfl,rfl⟩ (Tr.ah ⟨rfl,rfl⟩)
 have:=xe (P:=Tryd.prog) (KT:=KtG.kt) (fu:=100000) (f:=90) (call:=C) (fn:=Tryd.f90) Tryd.func90 rfl (args:=[(.yld 0 4,none),(.ptrT (some 0) (.G [shV dr lc zc lb zb W B]) 0,none)]) (H:=St 0) rfl hC (a8 (ai _ _) Ub (fun x h=>by rw[← Tr.ab h];simp only[eC.st,aP];exact hx)) (aj _ _) h1
 rw[h2,h3] at this
 exact this
noncomputable def cntF (lc:Nat) (W B:Nat→Int):Int:=((ro lc (okW W B) lc).length:Int)
theorem TP (W B:Nat→Int) (lc:Nat):fE W B lc 0 1=⟨mB (fun _=>false) [Int.ofNat 0] true,mC (fun _=>Int.ofNat 0) [Int.ofNat 0] (Int.ofNat 1),qv false 0⟩:=by
 have e1:=sH (fun _=>false) (fun _=>0) 0 0 true;have e2:=sI (fun _=>false) (fun _=>0) 0 0 1;have h0:(mc (fun _=>false) (fun _=>0) 0).h=fun _=>false:=by
  funext l;match l with
  | []=>rfl
  | [y]=>show (decide (0≤y) && false)=false;simp
  | _::_::_=>rfl
 have g0:(mc (fun _=>false) (fun _=>0) 0).g=fun _=>Int.ofNat 0:=by
  funext l;match l with
  | []=>rfl
  | [y]=>show (if 0≤y then (((0:Nat)):Int) else 0)=Int.ofNat 0;split<;>rfl
  | _::_::_=>rfl
 rw[h0] at e1;rw[g0] at e2;rw[gQ,gS,lT];have e1:fv (fun _=>false) [Int.ofNat 0] true=_:=e1;have e2:iH (fun _=>Int.ofNat 0) [Int.ofNat 0] (Int.ofNat 1)=_:=e2;rw[e1,e2];have a1:(fun Y=>decide (0<cF lc (okW W B) 0 Y))=fun y=>if y=0 then true else false:=by
  funext Y;rw[BV];by_cases e:Y=0
  · rw[if_pos e,if_pos e];rfl
  · rw[if_neg e,if_neg e];rfl
 have a2:(fun Y=>cF lc (okW W B) 0 Y)=fun y=>if y=0 then 1 else 0:=by funext Y;rw[BV]
 unfold fE;rw[a1,a2];rfl
theorem UL (W B:Nat→Int) (lc:Nat):Gd (fE W B lc 0 1):=by
 rw[TP];show ∃ es,ra (.num .u64) es (mB (fun _=>false) [Int.ofNat 0] true) (mC (fun _=>Int.ofNat 0) [Int.ofNat 0] (Int.ofNat 1)) (qv false 0);rw[gQ,gS,lT];exact FH (h:=fun _=>false) (g:=fun _=>Int.ofNat 0) ⟨[],rfl,(fun j hj=>absurd hj (Nat.not_lt_zero _)),(fun n h=>by cases h),(fun n _=>rfl),(fun i j hi=>absurd hi (Nat.not_lt_zero _))⟩ _ _
theorem P0 (hl:lc≤10) (H:aa):GC Tryd.prog KtG.kt 100000 73 90 cR (cd (n+1)) [shV dr lc zc lb zb W B] H=some (.int .i64 (cntF lc W B),H):=by
 obtain ⟨q',hG',hr⟩:=UC n dr lc zc lb zb W B H hl 1 (UL W B lc);have hC:(Hl 90 (il aH n 1)).Ok (pE Tryd.prog KtG.kt 100000 90 cR (cd (n+1))):=Ov (fc n 1);have hx:exec (NG (pE Tryd.prog KtG.kt 100000 90 cR (cd (n+1)))) (.rangeFunc (.tmp 16) #[17] (part Tryd.f73 [1,1,1,0,1,0,0]) cB) (dV (shV dr lc zc lb zb W B)) (MZ dr lc zc lb zb W B::H)=some (.normal,dV (shV dr lc zc lb zb W B),me dr lc zc lb zb W B (fE W B lc lc q').h (fE W B lc lc q').g (fE W B lc lc q').q .dead::H) :=
  tw (cx:=NG (pE Tryd.prog KtG.kt 100000 90 cR (cd (n+1)))) (l:=ky (shV dr lc zc lb zb W B)) (f:=.tmp 16) (ps:=#[17]) (fr:=dV (shV dr lc zc lb zb W B)) (H:=MZ dr lc zc lb zb W B::H) (g:=90) (a:=[]) (b:=[.ptrT (some 0) (.G [shV dr lc zc lb zb W B]) 0]) rfl rfl rfl (by
   rw[TP] at hr;exact hr) rfl rfl rfl
 have e:ct .u64 (ef .u64 (Int.ofNat 1) (Int.ofNat lc)) (Int.ofNat 1)=((2 ^ lc-1:Nat):Int):=by
  have h1:=Nat.two_pow_pos lc;have h2:2 ^ lc≤2 ^ 10:=Nat.pow_le_pow_right (by decide) hl;rw[Br (by omega),ew];show IntKind.u64.wrap (((2 ^ lc:Nat):Int)-1)=_;rw[show ((2 ^ lc:Nat):Int)-1=((2 ^ lc-1:Nat):Int) by omega];exact jG (by omega)
 have hg:(fE W B lc lc q').g [((2 ^ lc-1:Nat):Int)]=cntF lc W B:=by
  unfold fE cntF;rw[FY,Lk]
 obtain ⟨y,h1,h2,h3⟩:Tr.all (bk Tryd.prog (pE Tryd.prog KtG.kt 100000 90 cR (cd (n+1))) 100000 73 Tryd.f73 (KtG.kt 73) (Hl 90 (il aH n 1)) aS (Hn aR (fun _=>true) (dV (shV dr lc zc lb zb W B)) (MZ dr lc zc lb zb W B::H) (.ok (.normal,hints (dV (shV dr lc zc lb zb W B)),me dr lc zc lb zb W B (fE W B lc lc q').h (fE W B lc lc q').g (fE W B lc lc q').q .dead::H))) [(shV dr lc zc lb zb W B,none)] H) (fun y=>y.1.1=AV.int .i64 (cntF lc W B)∧y.2=H):=by
  rw[W2,e,hg];refine Tr.al ⟨rfl,rfl⟩ (Tr.ae ?_ (Tr.ah ⟨rfl,rfl⟩));rw[bn];exact decide_eq_true (by show (0:Int)≤(lc:Int);omega)
 have:=xe (P:=Tryd.prog) (KT:=KtG.kt) (fu:=100000) (f:=73) (call:=pE Tryd.prog KtG.kt 100000 90 cR (cd (n+1))) (fn:=Tryd.f73) Tryd.func73 rfl (args:=[(shV dr lc zc lb zb W B,none)]) (H:=H) rfl hC (ai _ _) (Bm (aj _ _) (fun f ps a b _ hm x hx2=>by
  rw[WC] at hm;simp only[List.mem_cons,Prod.mk.injEq,List.not_mem_nil,or_false] at hm;obtain ⟨rfl,rfl,rfl,rfl⟩:=hm;rw[← Tr.ab hx2];simp only[eC.st,aP];exact hx)) h1
 rw[h2,h3] at this;exact this
end
end Go.Eng.Q
end
section
namespace Go.Proofs
open Go.Shelf
def Tryd.Ej:Go.Shelf.Ren:=⟨fun | 5=>95 | 8=>102 | 7=>101 | 19=>112 | 20=>113 | 10=>103 | 11=>104 | 12=>105 | 13=>106 | 14=>107 | 15=>108 | 16=>109 | 17=>110 | 18=>111 | 30=>114 | 31=>115 | 32=>116 | 33=>117 | 34=>118 | 35=>119 | 40=>120 | n=>n,fun | 23=>36 | 25=>3 | 3=>3 | 32=>88 | 22=>36 | 0=>0 | 44=>132 | 46=>134 | 4=>4 | 36=>142 | 35=>141 | 41=>146 | 5=>5 | 9=>9 | 53=>148 | 57=>152 | 63=>154 | 64=>155 | n=>n,fun | n=>n⟩
theorem Tryd.OO:Go.Proofs.SlLaysM.n5 Tryd.prog Tryd.Ej:={
 mixed:=by kernel_rfl
 f5:=⟨Tryd.f95.name,by decide,Tryd.func95.trans (congrArg some (by kernel_rfl))⟩
 f7:=⟨Tryd.f101.name,by decide,Tryd.func101.trans (congrArg some (by kernel_rfl))⟩
 f8:=Tryd.func102.trans (congrArg some (by kernel_rfl))
 f10:=⟨Tryd.f103.name,by decide,Tryd.func103.trans (congrArg some (by kernel_rfl))⟩
 f11:=⟨Tryd.f104.name,by decide,Tryd.func104.trans (congrArg some (by kernel_rfl))⟩
 f12:=⟨Tryd.f105.name,by decide,Tryd.func105.trans (congrArg some (by kernel_rfl))⟩
 f13:=⟨Tryd.f106.name,by decide,Tryd.func106.trans (congrArg some (by kernel_rfl))⟩
 f14:=⟨Tryd.f107.name,by decide,Tryd.func107.trans (congrArg some (by kernel_rfl))⟩
 f15:=⟨Tryd.f108.name,by decide,Tryd.func108.trans (congrArg some (by kernel_rfl))⟩
 f16:=⟨Tryd.f109.name,by decide,Tryd.func109.trans (congrArg some (by kernel_rfl))⟩
 f17:=⟨Tryd.f110.name,by decide,Tryd.func110.trans (congrArg some (by kernel_rfl))⟩
 f18:=⟨Tryd.f111.name,by decide,Tryd.func111.trans (congrArg some (by kernel_rfl))⟩
 f19:=Tryd.func112.trans (congrArg some (by kernel_rfl))
 f20:=Tryd.func113.trans (congrArg some (by kernel_rfl))
 f30:=⟨Tryd.f114.name,by decide,Tryd.func114.trans (congrArg some (by kernel_rfl))⟩
 f31:=Tryd.func115.trans (congrArg some (by kernel_rfl))
 f32:=Tryd.func116.trans (congrArg some (by kernel_rfl))
 f33:=⟨Tryd.f117.name,by decide,Tryd.func117.trans (congrArg some (by kernel_rfl))⟩
 f34:=⟨Tryd.f118.name,by decide,Tryd.func118.trans (congrArg some (by kernel_rfl))⟩
 f35:=⟨Tryd.f119.name,by decide,Tryd.func119.trans (congrArg some (by kernel_rfl))⟩
 f40:=⟨Tryd.f120.name,by decide,Tryd.func120.trans (congrArg some (by kernel_rfl))⟩
 t0:=Tryd.underlying0
 a0:=Tryd.isAgg0
 z0:=Tryd.sizeOf0
 v0:=Tryd.zeroValue0
 t3:=Tryd.underlying3
 a3:=Tryd.isAgg3
 z3:=Tryd.sizeOf3
 v3:=Tryd.zeroValue3
 t4:=Tryd.underlying4
 a4:=Tryd.isAgg4
 z4:=Tryd.sizeOf4
 v4:=Tryd.zeroValue4
 t5:=Tryd.underlying5
 a5:=Tryd.isAgg5
 z5:=Tryd.sizeOf5
 v5:=Tryd.zeroValue5
 t9:=Tryd.underlying9
 a9:=Tryd.isAgg9
 z9:=Tryd.sizeOf9
 v9:=Tryd.zeroValue9
 t22:=Tryd.underlying36
 a22:=Tryd.isAgg36
 z22:=Tryd.sizeOf36
 v22:=Tryd.zeroValue36
 t23:=Tryd.underlying36
 a23:=Tryd.isAgg36
 z23:=Tryd.sizeOf36
 v23:=Tryd.zeroValue36
 t25:=Tryd.underlying3
 a25:=Tryd.isAgg3
 z25:=Tryd.sizeOf3
 v25:=Tryd.zeroValue3
 t32:=Tryd.underlying88
 a32:=Tryd.isAgg88
 z32:=Tryd.sizeOf88
 v32:=Tryd.zeroValue88
 t35:=Tryd.underlying141
 a35:=Tryd.isAgg141
 z35:=Tryd.sizeOf141
 v35:=Tryd.zeroValue141
 t36:=Tryd.underlying142
 a36:=Tryd.isAgg142
 z36:=Tryd.sizeOf142
 v36:=Tryd.zeroValue142
 t41:=Tryd.underlying146
 a41:=Tryd.isAgg146
 z41:=Tryd.sizeOf146
 v41:=Tryd.zeroValue146
 t44:=Tryd.underlying132
 a44:=Tryd.isAgg132
 z44:=Tryd.sizeOf132
 v44:=Tryd.zeroValue132
 t46:=Tryd.underlying134
 a46:=Tryd.isAgg134
 z46:=Tryd.sizeOf134
 v46:=Tryd.zeroValue134
 t53:=Tryd.underlying148
 a53:=Tryd.isAgg148
 z53:=Tryd.sizeOf148
 v53:=Tryd.zeroValue148
 t57:=Tryd.underlying152
 a57:=Tryd.isAgg152
 z57:=Tryd.sizeOf152
 v57:=Tryd.zeroValue152
 t63:=Tryd.underlying154
 a63:=Tryd.isAgg154
 z63:=Tryd.sizeOf154
 v63:=Tryd.zeroValue154
 t64:=Tryd.underlying155
 a64:=Tryd.isAgg155
 z64:=Tryd.sizeOf155
 v64:=Tryd.zeroValue155 }
def Tryd.BY:Go.Shelf.Ren:=⟨fun | 27=>82 | 28=>97 | 29=>98 | n=>n,fun | 0=>0 | 3=>3 | 4=>4 | 5=>5 | 22=>134 | 25=>88 | 27=>132 | 53=>138 | 54=>139 | n=>n,fun | n=>n⟩
theorem Tryd.ctz:Lays7.n27 Tryd.prog Tryd.BY:={
 mixed:=by kernel_rfl
 f27:=Tryd.func82.trans (congrArg some (by kernel_rfl))
 f28:=Tryd.func97.trans (congrArg some (by kernel_rfl))
 f29:=Tryd.func98.trans (congrArg some (by kernel_rfl))
 t0:=Tryd.underlying0
 a0:=Tryd.isAgg0
 z0:=Tryd.sizeOf0
 v0:=Tryd.zeroValue0
 i0:=by kernel_rfl
 t3:=Tryd.underlying3
 a3:=Tryd.isAgg3
 z3:=Tryd.sizeOf3
 v3:=Tryd.zeroValue3
 i3:=by kernel_rfl
 t4:=Tryd.underlying4
 a4:=Tryd.isAgg4
 z4:=Tryd.sizeOf4
 v4:=Tryd.zeroValue4
 i4:=by kernel_rfl
 t5:=Tryd.underlying5
 a5:=Tryd.isAgg5
 z5:=Tryd.sizeOf5
 v5:=Tryd.zeroValue5
 i5:=by kernel_rfl
 t22:=Tryd.underlying134
 a22:=Tryd.isAgg134
 z22:=Tryd.sizeOf134
 v22:=Tryd.zeroValue134
 i22:=by kernel_rfl
 t25:=Tryd.underlying88
 a25:=Tryd.isAgg88
 z25:=Tryd.sizeOf88
 v25:=Tryd.zeroValue88
 i25:=by kernel_rfl
 t27:=Tryd.underlying132
 a27:=Tryd.isAgg132
 z27:=Tryd.sizeOf132
 v27:=Tryd.zeroValue132
 i27:=by kernel_rfl
 t53:=Tryd.underlying138
 a53:=Tryd.isAgg138
 z53:=Tryd.sizeOf138
 v53:=Tryd.zeroValue138
 i53:=by kernel_rfl
 t54:=Tryd.underlying139
 a54:=Tryd.isAgg139
 z54:=Tryd.sizeOf139
 g0:=by kernel_rfl
 g1:=by kernel_rfl }
end Go.Proofs
namespace Go.Eng
open Go.Proofs Go.Sort
def ga (L:List Int):List Int:=L.mergeSort fun x y=>decide (x≤y)
theorem MC:Jv Tryd.prog 95 ga :=
 ⟨⟨_,Tryd.func95,by kernel_rfl⟩,fun L=>List.length_mergeSort L,fun blk off cap zs w h1 h2 h3=>AnyM.slices_Sort_int Tryd.OO blk off cap zs w h1 h2 h3⟩
noncomputable def Fj (args:List AV) (H:aa):Option (AV×aa) :=
 match args with
 | [.int .u64 x]=>if 0≤x∧x<18446744073709551616 then some (.int .i64 (Go.Lib.ctz 64 x.toNat),H) else none
 | _=>none
theorem HT {args:List AV} {H:aa} {v:AV} {H':aa} (h:Fj args H=some (v,H')) {p:aF} {M:Mu} {w:World} {cargs:Array Value} (hH:bh p M H w) (hA:eK p M args cargs):(∃ fn,Tryd.prog.funcs[82]?=some fn∧fn.body.isNone=false)∧CallsIn Fence.wide 0 Tryd.prog 82 cargs w (eU p M H w v H'):=by
 refine ⟨⟨_,Tryd.func82,by kernel_rfl⟩,callsIn_wide.2 ?_⟩;unfold Fj at h;split at h;case h_2=>simp at h
 rename_i x;split at h;case isFalse=>simp at h
 rename_i hx;simp only[nP] at h;obtain ⟨rfl,rfl⟩:=h;have hsize:cargs.size=1:=hA.1;have hv:=hA.2 0 (by simp);have hd:cargs=#[cargs.getD 0 undef]:=by
  apply Array.ext
  · simpa using hsize
  · intro j h1 h2;have:j=0:=by omega
    subst this;simp[Array.getD,hsize]
 have hv:ak p M (.int .u64 x) (cargs.getD 0 undef):=hv;rw[hd,hv.ofInt];have hT:TabAt (Tryd.BY.g 1) Go.Lib.deBruijn64tab w:=fun j hj=>hH.pers 1 j _ (p.2 1 j _ (by
  have:j<64:=hj;unfold oX;rw[if_pos ⟨rfl,this⟩]))
 have:=Any7.bits_TrailingZeros Tryd.ctz x.toNat (by omega) w (fun _=>hT);rw[Int.toNat_of_nonneg hx.1] at this;refine Calls.mono this ?_;rintro e w' ⟨rfl,rfl⟩;exact ⟨_,rfl,Still.refl _,p,M,cu.refl hH,.int _ _⟩
end Go.Eng
end
