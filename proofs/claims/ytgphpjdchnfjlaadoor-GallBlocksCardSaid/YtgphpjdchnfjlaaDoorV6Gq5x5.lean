/- Gall: count: the range over the sets, in whatever order. -/
import Derived.Test.YtgphpjdchnfjlaaDoorV6GaQx6
import Derived.Test.YtgphpjdchnfjlaaDoorV6EngRnFx8
import Derived.Test.YtgphpjdchnfjlaaDoorV6Gp2x6
import Derived.Shelf.SortM.Plain
import Derived.Shelf.Spec.TrailingZeros
import Derived.Test.YtgphpjdchnfjlaaDoorProg
set_option linter.unusedVariables false
set_option linter.unusedSimpArgs false
set_option maxRecDepth 100000
section
namespace Go.Eng.Q
open Go.Proofs Go.Eng.Gall
theorem o5 (L:List Int) (v:Int):oz (qj (aI L) 0) L.length (aI [v])=aI (L++[v]):=by
 rw[fc,mr,jq];funext i;by_cases h:i<L.length
 · simp[h,List.getElem?_append]
 · by_cases h2:i=L.length
   · subst h2;simp
   · have e1:[v][i-L.length]?=none:=List.getElem?_eq_none (by simp;omega);have e2:(L++[v])[i]?=none:=List.getElem?_eq_none (by simp;omega);simp only[h,if_false,List.getD_eq_getElem?_getD,e1,e2]
theorem GJ {L:bV} {cx:Cx} {callR:bt} {bl:eW} {rg:ou} {k n:Nat} {kv:AV×AV} {fr fr':aA} {l l':bJ} {R:ab} {T:Tr (aD×ab)} (e:L.tD cx callR bl rg k n kv (hints fr) (l::R)=T) (hC:callR.Ok cx.call) (hB:bl.Ok cx L.rest) (hR:rg.Ok cx L.rest)
 (h:T.all fun y=>strip y.1=fr'∧y.2=l'::R):fU L cx k n R kv (fr,l)=some (fr',l'):=by
 obtain ⟨y,h1,h2,h3⟩:=h
 have:=bV.Er hC hB hR (by rw[e];exact h1)
 rw[aG,h2,h3] at this
 unfold fU
 rw[this]
theorem yu {L:bV} {cx:Cx} {callR:bt} {fr:aA} {H:ab} {T:Tr (aD×ab)} (e:L.vz cx callR (hints fr) H=T) (hC:callR.Ok cx.call) {y:aA×ab} (h:T.all fun z=>(strip z.1,z.2)=y):L.last cx fr H=some y:=by
 obtain ⟨z,h1,rfl⟩:=h;have:=bV.F6 hC (by rw[e];exact h1);rw[aG] at this;exact this
noncomputable def Nb (g:List Int→Int) (e:Int):AV×AV:=(.int .u64 e,.int .i64 (g [e]))
noncomputable def I3 (k:Int):List Int→aA×bJ
 | []=>(iJ k++[(6,.nils),(18,.map 2 1),(19,.ptr 0 0 0 0)],Ui)
 | a::r=>(iJ k++[(6,.slc 0 2 r.length 0 1 (r.length+1) none),(19,.ptr 0 0 0 0)],jL a r.length (r.length+1) (aI (a::r)))
theorem W0 (n:Nat) (k:Int) (g:List Int→Int) (R:ab) (xs:List Int) (e:Int) (hx:xs.length≤2000):fU cL (oo n) 0 1 R (Nb g e) (I3 k xs)=some (I3 k (xs++[e])):=by
 cases xs with
 | nil =>
   refine GJ (W4 n k e (g [e]) R) (aw n) (aj _ _) (ai _ _) ?_;exact wF
 | cons a r =>
   simp only[List.length_cons] at hx;have e1:=o5 (a::r) e;simp only[List.length_cons] at e1;have e3:ar (r.length+1) 1=r.length+1+1:=by rw[aC]
   have e4:(r++[e]).length=r.length+1:=by simp
   have T:=tB n k e (g [e]) a r.length (r.length+1) (aI (a::r)) R;rw[e1,e3] at T;refine GJ T (aw n) (aj _ _) (ai _ _) ?_;show Tr.all _ (fun y:aD×ab=>strip y.1=iJ k++[(6,.slc 0 2 (r++[e]).length 0 1 ((r++[e]).length+1) none),(19,.ptr 0 0 0 0)]∧y.2=jL a (r++[e]).length ((r++[e]).length+1) (aI (a::r++[e]))::R);rw[e4];generalize aI (a::r++[e])=Y at *;exact wF
theorem JL (n:Nat) (k:Int) (g:List Int→Int) (R:ab):∀ (ks xs:List Int),xs.length+ks.length≤2000→fO cL (oo n) 0 1 R (ks.map (Nb g)) (I3 k xs)=some (I3 k (xs++ks))
 | [],xs,_=>by rw[List.append_nil];rfl
 | e::ks,xs,h=>by
   show (match fU cL (oo n) 0 1 R (Nb g e) (I3 k xs) with
    | some t=>fO cL (oo n) 0 1 R (ks.map (Nb g)) t
    | none=>none)=_
   rw[List.length_cons] at h;rw[W0 n k g R xs e (by omega)];have:=JL n k g R ks (xs++[e]) (by rw[List.length_append,List.length_singleton];omega);rw[List.append_assoc] at this;exact this
theorem NU {es:List (AV×AV)} {h:List Int→Bool} {g:List Int→Int} {c:Nat} (hE:re (.num .u64) es h g c):∀ vs:List Nat,vs.Nodup→(∀ j ∈ vs,j<es.length) →
 ∃ ks:List Int,(vs.map fun j=>(es.map fun e=>(nr (1+1) e.1,nr (1+1) e.2)).getD j (.undef,.undef))=ks.map (Nb g)∧(∀ y ∈ ks,h [y]=true)∧(∀ j ∈ vs,∀ y,(es.getD j (.undef,.undef)).1=.int .u64 y→y ∈ ks)∧(∀ y ∈ ks,∃ j ∈ vs,(es.getD j (.undef,.undef)).1=.int .u64 y)∧ks.Nodup
 | [],_,_=>⟨[],rfl,fun e he=>(by cases he),fun j hj=>(by cases hj),fun e he=>(by cases he),List.nodup_nil⟩
 | j :: vs,hn,hv=>by
   rw[List.nodup_cons] at hn;obtain ⟨l,l1,l2,l3,l4,l5⟩:=NU hE vs hn.2 (fun i hi=>hv i (List.mem_cons_of_mem _ hi));have hj:=hv j (by simp);obtain ⟨m,e1,e2⟩:=hE.ent j hj;have hlen:m.length=1:=Nat.eq_of_beq_eq_true (hE.all _ e2).1;obtain ⟨a,rfl⟩:∃ a,m=[a]:=by
    match m,hlen with
    | [a],_=>exact ⟨a,rfl⟩
   have e1':es[j]'hj=(.int .u64 a,.int .i64 (g [a])):=by
    rw[List.getD_eq_getElem?_getD,List.getElem?_eq_getElem hj] at e1;exact e1
   refine ⟨a::l,?_,fun y hy=>?_,fun i hi y hy=>?_,fun y hy=>?_,List.nodup_cons.2 ⟨fun ha=>?_,l5⟩⟩
   · rw[List.map_cons,List.map_cons,l1];congr 1;rw[List.getD_eq_getElem?_getD,List.getElem?_eq_getElem (by simpa using hj),List.getElem_map,e1'];rfl
   · rcases List.mem_cons.1 hy with rfl | hy
     · exact e2
     · exact l2 y hy
   · rcases List.mem_cons.1 hi with rfl | hi
     · rw[e1] at hy;have hy:AV.int IntKind.u64 a=AV.int IntKind.u64 y:=hy;injection hy with _ hy;subst hy;simp
     · exact List.mem_cons_of_mem _ (l3 i hi y hy)
   · rcases List.mem_cons.1 hy with rfl | hy
     · exact ⟨j,by simp,by rw[e1];rfl⟩
     · obtain ⟨i,i1,i2⟩:=l4 y hy;exact ⟨i,List.mem_cons_of_mem _ i1,i2⟩
   · obtain ⟨i,i1,i2⟩:=l4 a ha;have:i=j:=hE.nd i j (hv i (List.mem_cons_of_mem _ i1)) hj (by rw[i2,e1];rfl);subst this;exact hn.1 i1
theorem mF {vs:List Nat} {n:Nat} (hn:vs.Nodup) (hl:vs.length=n) (hb:∀ j ∈ vs,j<n) {j:Nat} (hj:j<n):j ∈ vs:=by
 apply Classical.byContradiction;intro hc;have:=fT (L:=j::vs) (M:=List.range n) (List.nodup_cons.2 ⟨hc,hn⟩) (fun i hi=>by
  rcases List.mem_cons.1 hi with rfl | hi
  · simpa using hj
  · simpa using hb i hi)
 simp only[List.length_cons,List.length_range] at this;omega
theorem Ht {es:List (AV×AV)} {h:List Int→Bool} {g:List Int→Int} {c:Nat} (hE:re (.num .u64) es h g c) (vs:List Nat) (hn:vs.Nodup) (hl:vs.length=es.length) (hv:∀ j ∈ vs,j<es.length) :
 ∃ ks:List Int,(vs.map fun j=>(es.map fun e=>(nr (1+1) e.1,nr (1+1) e.2)).getD j (.undef,.undef))=ks.map (Nb g)∧(∀ y,y ∈ ks↔h [y]=true)∧ks.Nodup:=by
 obtain ⟨ks,k1,k2,k3,_,k5⟩:=NU hE vs hn hv
 refine ⟨ks,k1,fun y=>⟨k2 y,fun hy=>?_⟩,k5⟩
 obtain ⟨_,j,j1,j2⟩:=hE.all _ hy
 exact k3 j (mF hn hl hv j1) y j2
theorem OU {es es':List (AV×AV)} {h:List Int→Bool} {g:List Int→Int} {c c':Nat} (hE:re (.num .u64) es h g c) (hE':re (.num .u64) es' h g c'):c=c':=by
 obtain ⟨ks,a1,a2,a3⟩:=Ht hE (List.range es.length) List.nodup_range (by simp) (fun j hj=>by simpa using hj);obtain ⟨ks',b1,b2,b3⟩:=Ht hE' (List.range es'.length) List.nodup_range (by simp) (fun j hj=>by simpa using hj);have e1:=congrArg List.length a1;have e2:=congrArg List.length b1;simp only[List.length_map,List.length_range] at e1 e2;have:=((List.perm_ext_iff_of_nodup a3 b3).2 (fun y=>(a2 y).trans (b2 y).symm)).length_eq;have:=hE.len;have:=hE'.len;omega
noncomputable def fC (W B:Nat→Int) (U k q:Nat):CS:=lW (fun Y=>decide (0<cF U (okW W B) k Y)) (fun Y=>cF U (okW W B) k Y) q
theorem Rx (W B:Nat→Int) (U k q:Nat):lW (hD U (okW W B) k []) (gD U (okW W B) k []) q=fC W B U k q:=by
 unfold fC;congr 1;funext Y;unfold hD;simp
theorem Bh {W B:Nat→Int} {U k q:Nat} {y:Int}:(fC W B U k q).h [y]=true↔∃ Y:Nat,y=(Y:Int)∧0<cF U (okW W B) k Y:=by
 show (decide (0≤y) && decide (0<cF U (okW W B) k y.toNat))=true↔_;rw[Bool.and_eq_true,decide_eq_true_iff,decide_eq_true_iff];constructor
 · rintro ⟨a,b⟩;exact ⟨y.toNat,by omega,b⟩
 · rintro ⟨Y,rfl,b⟩;exact ⟨by omega,by rw[Int.toNat_natCast];exact b⟩
theorem Ol {W B:Nat→Int} {U k q:Nat} {ks:List Int} (hn:ks.Nodup) (hk:∀ y,y ∈ ks↔(fC W B U k q).h [y]=true):∃ Ks:List Nat,ks=Ks.map (fun X:Nat=>(X:Int))∧Ks.Nodup∧∀ X,X ∈ Ks↔0<cF U (okW W B) k X:=by
 have e:ks=(ks.map Int.toNat).map (fun X:Nat=>(X:Int)):=by
  rw[List.map_map];conv=>lhs;rw[← List.map_id ks]
  apply List.map_congr_left;intro y hy;obtain ⟨Y,h1,_⟩:=Bh.1 ((hk y).1 hy);show y=((y.toNat:Nat):Int);omega
 refine ⟨ks.map Int.toNat,e,?_,fun X=>?_⟩
 · rw[e] at hn;exact List.Pairwise.of_map (S:=fun a b=>a≠b) _ (fun a b h e=>h (by rw[e])) hn
 · rw[List.mem_map];constructor
   · rintro ⟨y,hy,rfl⟩;obtain ⟨Y,h1,h2⟩:=Bh.1 ((hk y).1 hy);rw[h1,Int.toNat_natCast];exact h2
   · intro h;exact ⟨(X:Int),(hk _).2 (Bh.2 ⟨X,rfl,h⟩),Int.toNat_natCast X⟩
theorem N2 {W B:Nat→Int} {U k q:Nat} (hl:U≤10) (hk10:k≤10) (hG:Gd (fC W B U k q)) {ks:List Int} (hn:ks.Nodup) (hk:∀ y,y ∈ ks↔(fC W B U k q).h [y]=true) :
 ks.length≤1024∧∃ q',G1 W B (k:Int) U (aI ks) ks.length (fC W B U k q)=fC W B U (k+1) q'∧Gd (fC W B U (k+1) q'):=by
 obtain ⟨Ks,rfl,h1,h2⟩:=Ol hn hk
 rw[List.length_map]
 constructor
 · have:=fT (L:=Ks) (M:=List.range (2 ^ U)) h1 (fun X hX=>List.mem_range.2 (Fj ((h2 X).1 hX)))
   rw[List.length_range] at this
   exact Nat.le_trans this (Nat.pow_le_pow_right (by decide) hl:2 ^ U≤2 ^ 10)
 · rw[← Rx] at hG ⊢
   obtain ⟨q',e,hG'⟩:=ME W B k U hl hk10 q Ks (aI (Ks.map (fun X:Nat=>(X:Int)))) (fun j hj=>by
    rw[gw];show (List.map (fun X:Nat=>(X:Int)) Ks).getD j 0=_;rw[List.getD_eq_getElem?_getD,List.getElem?_eq_getElem (by simpa using hj),List.getElem_map];rfl) h1 (fun x hx=>(h2 x).1 hx) hG Ks.length (Nat.le_refl _)
   rw[e] at hG' ⊢
   rw[List.take_length] at hG' ⊢
   have e2:lW (hD U (okW W B) k Ks) (gD U (okW W B) k Ks) q'=fC W B U (k+1) q':=by
    unfold fC;congr 1
    · funext Y;exact LJ h2 Y
    · funext Y;exact LF h1 h2 Y
   rw[e2] at hG' ⊢
   exact ⟨q',rfl,hG'⟩
section
variable (n k:Nat) (O:Int) (U:Nat) (Z:Nat→Int) (V:Nat) (J:Nat→Int) (W B:Nat→Int) (b:an) (G:ab)
theorem Lr (hl:U≤10) (hk:k≤10) (q:Nat) (hG:Gd (fC W B U k q)):∃ q',Gd (fC W B U (k+1) q') ∧
 BV (oo (n+1)) cL qT 1 0 (aV::ib O U Z V J W B b (fC W B U k q)::G) (bF (aV::ib O U Z V J W B b (fC W B U k q)::G)) (I3 (k:Int) []) (.num .u64) (fC W B U k q).h (fC W B U k q).g (fC W B U k q).q 0 (.normal,aV::aV::ib O U Z V J W B b (fC W B U (k+1) q')::G):=by
 obtain ⟨es0,hE0⟩:=hG
 obtain ⟨ks0,_,o2,o3⟩:=Ht hE0 (List.range es0.length) List.nodup_range (by simp) (fun j hj=>by simpa using hj)
 obtain ⟨_,q',_,hG'⟩:=N2 hl hk ⟨es0,hE0⟩ o3 o2
 refine ⟨q',hG',rfl,fun es hE vs hn hlen hv=>?_⟩
 obtain ⟨ks,k1,k2,k3⟩:=Ht hE vs hn hlen hv
 obtain ⟨c1,q2,c2,c3⟩:=N2 hl hk ⟨es,hE⟩ k3 k2
 have eq:q2=q':=by
  obtain ⟨e1,h1⟩:=c3;obtain ⟨e2,h2⟩:=hG';exact OU h1 h2
 subst eq
 rw[k1]
 have hf:=JL (n+1) (k:Int) (fC W B U k q).g (bF (aV::ib O U Z V J W B b (fC W B U k q)::G)) ks [] (by simp;omega)
 rw[List.nil_append] at hf
 refine ⟨I3 (k:Int) ks,?_⟩
 cases ks with
 | nil =>
   refine ⟨Qr k,Ui,hf,yu (W5 (n+1) k _) (aw _) (Tr.ag rfl),?_⟩
   rw[fK]
   have h:=nB (y:=(.normal,_,_)) (tZ (n+1) k (ib O U Z V J W B b (fC W B U k q)::G)) (aw _) (aj _ _) (ai _ _) (Tr.ag rfl)
   refine ⟨_,_,h,?_⟩
   have c2:fC W B U k q=fC W B U (k+1) q2:=c2
   rw[c2];rfl
 | cons a r =>
   refine ⟨Qs k r.length (r.length+1),jL a r.length (r.length+1) (aI (a::r)),hf,yu (tX (n+1) k a r.length (r.length+1) (aI (a::r)) _) (aw _) (Tr.ag rfl),?_⟩
   rw[fK]
   rw[List.length_cons] at c1 c2
   have h:=SC n k a r.length (r.length+1) (aI (a::r)) O U Z V J W B b G (by omega) hl (fC W B U k q)
   rw[c2] at h
   exact ⟨_,_,h,rfl⟩
theorem IZ (hl:U≤10) (hk:k≤10) (q:Nat) (hG:Gd (fC W B U k q)):∃ q',Gd (fC W B U (k+1) q') ∧
 j9 (oo (n+1)) cS cL qT (iJ (k:Int)++[(6,.nils)]) (aV::aV::ib O U Z V J W B b (fC W B U k q)::G)=some (.normal,[],aV::aV::ib O U Z V J W B b (fC W B U (k+1) q')::G):=by
 obtain ⟨q',hG',hends⟩:=Lr n k O U Z V J W B b G hl hk q hG
 refine ⟨q',hG',?_⟩
 obtain ⟨es,hE⟩:=hG
 generalize fC W B U k q=s at *
 have hp:kT (oo (n+1)).P (oo (n+1)).nt (oo (n+1)).call cS.ops0 cS.pre (iJ (k:Int)++[(6,.nils)]) (aV::aV::ib O U Z V J W B b s::G)=some (iJ (k:Int)++[(6,.nils),(18,.map 2 1)],aV::aV::ib O U Z V J W B b s::G):=by
  have:=eC.IX (S:=cS) (cx:=oo (n+1)) (callR:=il aJ (n+1) 0) (aw _) (fr:=hints (iJ (k:Int)++[(6,.nils)])) (H:=aV::aV::ib O U Z V J W B b s::G) (by
   show (eC.Mm _ _ _ _ _).run=_;exact congrArg Tr.run (tS (n+1) k O U Z V J W B s.h s.g s.q b G))
  rw[aG] at this;exact this
 unfold j9
 rw[hp]
 show (@dite _ (∃ y,BV (oo (n+1)) cL qT 1 0 (aV::ib O U Z V J W B b s::G) (bF (aV::ib O U Z V J W B b s::G)) (I3 (k:Int) []) (.num .u64) s.h s.g s.q 0 y) (Classical.propDecidable _)
  (fun hx=>some ((Classical.choose hx).1,[],(Classical.choose hx).2)) (fun _=>none))=_
 have hex:∃ y,BV (oo (n+1)) cL qT 1 0 (aV::ib O U Z V J W B b s::G) (bF (aV::ib O U Z V J W B b s::G)) (I3 (k:Int) []) (.num .u64) s.h s.g s.q 0 y:=⟨_,hends⟩
 rw[dif_pos hex]
 have hc:=Classical.choose_spec hex
 generalize Classical.choose hex=Y at *
 obtain ⟨s1,f1,l1,e1,e2,frY,HY,e3,e4⟩:=hc.2 es hE (List.range es.length) List.nodup_range (by simp) (fun j hj=>by simpa using hj)
 obtain ⟨s2,f2,l2,g1,g2,frZ,HZ,g3,g4⟩:=hends.2 es hE (List.range es.length) List.nodup_range (by simp) (fun j hj=>by simpa using hj)
 rw[e1] at g1
 obtain rfl:=Option.some.inj g1
 rw[e2] at g2
 simp only[Option.some.injEq,Prod.mk.injEq,List.cons.injEq,and_true] at g2
 obtain ⟨rfl,rfl⟩:=g2
 rw[e3] at g3
 simp only[nP] at g3
 obtain ⟨h1,_,rfl⟩:=g3
 rw[e4] at g4
 rw[h1,g4]
end
end Go.Eng.Q
end
section
namespace Go.Eng.Q
open Go.Proofs Go.Eng.Gall
def Hn (g:FuncId) (c:bt):bt:=fun tgt args H=>match tgt with
 | .fn f=>cond (Nat.beq f g) .bad (c (.fn f) args H)
 | .round _ _=>.bad
 | .mode=>c .mode args H
noncomputable def qU (C:aK):Cx:=⟨Tryd.prog,C,100000,90,18,KtG.kt 90,none⟩
noncomputable def NS (C:aK):Cx:=⟨Tryd.prog,C,100000,73,83,KtG.kt 73,none⟩
noncomputable def sn (U:Nat) (j:Int):aA:=[(0,.yld 1 4),(9,.int .i64 (Int.ofNat U)),(10,.int .i64 j)]
theorem t90 (n:Nat) (C:aK) (U:Nat) (j:Int) (G G':ab):aH (qU C) (Sv (Hn 1000000 (il aJ n 0)) 1 4 [.int .i64 j] (aV::G) (.ok (.bool true,aV::G'))) aS aR (part Tryd.f90 [1,0,0]) (hints (sn U j)) (aV::G) =
 Tr.ite (bw j (Int.ofNat U)) (Tr.reqP ([AV.int .i64 j]=[AV.int .i64 j]∧aV::G=aV::G) (Tr.ite (bU true) (Tr.ok (Ex.ret,[(0,AV.yld 1 4,none),(9,AV.int .i64 (Int.ofNat U),none),(10,AV.int .i64 j,none),(16,AV.bool true,some 1)],aV::G')) (Tr.ok (Ex.normal,[(0,AV.yld 1 4,none),(9,AV.int .i64 (Int.ofNat U),none),(10,AV.int .i64 (aQ .i64 j (Int.ofNat 1)),none)],aV::G')))) (Tr.ok (Ex.exit 0,[(0,AV.yld 1 4,none),(9,AV.int .i64 (Int.ofNat U),none),(10,AV.int .i64 j,none),(11,AV.bool false,some 1)],aV::G)):=by kernel_rfl
theorem SM (n:Nat) (C:aK) (U:Nat) (j:Int) (G:ab):aH (qU C) (Hn 1000000 (il aJ n 0)) aS aR (part Tryd.f90 [1,0,0]) (hints (sn U j)) (aV::G) =
 Tr.ite (bw j (Int.ofNat U)) Tr.bad (Tr.ok (Ex.exit 0,[(0,AV.yld 1 4,none),(9,AV.int .i64 (Int.ofNat U),none),(10,AV.int .i64 j,none),(11,AV.bool false,some 1)],aV::G)):=by kernel_rfl
end Go.Eng.Q
end
section
namespace Go.Eng.Q
open Go.Proofs Go.Eng.Gall
noncomputable def Uj (s:Nat) (A:AV):AV:=.fn (.func 90) [] [.ptrT (some s) (.G [A]) 0]
noncomputable def dV (A:AV):aA:=[(1,.ptr 0 0 0 0),(3,.ptr 0 2 0 0),(4,.ptr 0 3 0 0),(16,Uj 0 A)]
noncomputable def Nc (O:Int) (U:Nat) (Z:Nat→Int) (V:Nat) (J:Nat→Int) (W B:Nat→Int):bJ:=⟨false,[(0,.row (.G [shV O U Z V J W B])),(0,.fmap (.num .u64) (mj (fun _=>false) [Int.ofNat 0] true) (ml (fun _=>Int.ofNat 0) [Int.ofNat 0] (Int.ofNat 1)) (qp false 0)),(0,.row (.G [.map 0 1])),(0,.row (.G [.fn (.func 71) [shV O U Z V J W B] []]))]⟩
theorem W6 (n:Nat) (k:Int) (A:AV) (H:ab):aH (oo n) (il aJ n 0) aS aR (part Tryd.f73 [1,1,1,0,1,0,0]) (hints [(1,.ptr 2 0 0 0),(3,.ptr 2 2 0 0),(4,.ptr 2 3 0 0),(16,Uj 2 A),(17,.int .i64 k)]) (aV::H) =
 Tr.ok (Ex.normal,[(1,AV.ptr 2 0 0 0,none),(3,AV.ptr 2 2 0 0,none),(4,AV.ptr 2 3 0 0,none),(5,AV.int .i64 k,none)],aV::H):=by kernel_rfl
theorem XA (n:Nat) (C:aK) (O:Int) (U:Nat) (Z:Nat→Int) (V:Nat) (J:Nat→Int) (W B:Nat→Int) (G G':ab):bu Tryd.prog C 100000 90 Tryd.f90 (KtG.kt 90) (Hn 1000000 (il aJ n 0)) (cw aS 0 (sn U (Int.ofNat 0)) (aV::G) (.ok (.normal,hints (sn U (Int.ofNat U)++[(11,.bool false)]),aV::G'))) aR [(.yld 0 4,none),(.ptrT (some 0) (.G [shV O U Z V J W B]) 0,none)] G =
 (fun (Z0:aA)=>Tr.reqP (Z0=Z0∧aV::G=aV::G) (Tr.ok ((AV.tup [],none),G'))) [(0,AV.yld 1 4),(9,AV.int .i64 (Int.ofNat U)),(10,AV.int .i64 (Int.ofNat 0))]:=by kernel_rfl
theorem Xs (n:Nat) (C:aK) (O:Int) (U:Nat) (Z:Nat→Int) (V:Nat) (J:Nat→Int) (W B:Nat→Int) (h:List Int→Bool) (g:List Int→Int) (q:Nat) (H:ab):bu Tryd.prog C 100000 73 Tryd.f73 (KtG.kt 73) (Hn 90 (il aJ n 1)) aS (OZ aR (fun _=>true) (dV (shV O U Z V J W B)) (Nc O U Z V J W B::H) (.ok (.normal,hints (dV (shV O U Z V J W B)),lX O U Z V J W B h g q .dead::H))) [(shV O U Z V J W B,none)] H =
 (fun (Z0:aA)=>Tr.reqP (Z0=Z0∧Nc O U Z V J W B::H=Nc O U Z V J W B::H) (Tr.req (cU (Int.ofNat 0) (Int.ofNat U)) (Tr.ok ((AV.int .i64 (g [bH IntKind.u64 (dc IntKind.u64 (Int.ofNat 1) (Int.ofNat U)) (Int.ofNat 1)]),none),H)))) [(1,AV.ptr 0 0 0 0),(3,AV.ptr 0 2 0 0),(4,AV.ptr 0 3 0 0),(16,AV.fn (Fn.func 90) [] [AV.ptrT (some 0) (Row.G [shV O U Z V J W B]) 0])]:=by kernel_rfl
theorem Uz:∀ b,(0,b) ∈ aE (bx Tryd.f90)→b=.loop (part Tryd.f90 [1,0,0]):=dK (by kernel_rfl)
end Go.Eng.Q
end
section
namespace Go.Eng.Q
open Go.Proofs Go.Eng.Gall
theorem OF {P:Program} {KT:FuncId→Nat→Nat} {fu:Nat} {g:FuncId} {r:pD} {c:bt} {call:aK} (h:c.Ok call):(Hn g c).Ok (py P KT fu g r call):=by
 refine ⟨h.1,fun tgt args H x hx=>?_⟩;cases tgt with
 | fn f =>
   have hx:(cond (Nat.beq f g) Tr.bad (c (.fn f) args H)).run=some x:=hx;show (if Nat.beq f g then _ else call (.fn f) (mw args) H)=_;cases hb:Nat.beq f g with
   | true=>rw[hb] at hx;exact (Tr.ah hx).elim
   | false=>rw[hb] at hx;exact h.2 _ _ _ _ hx
 | round d i=>exact (Tr.ah hx).elim
 | mode=>exact h.2 _ _ _ _ hx
theorem OG {P:Program} {KT:FuncId→Nat→Nat} {fu:Nat} {g:FuncId} {r:pD} {c:bt} {call:aK} (h:c.Ok call):(Hn g c).Ok (uc P KT fu r call):=by
 refine ⟨h.1,fun tgt args H x hx=>?_⟩;cases tgt with
 | fn f =>
   have hx:(cond (Nat.beq f g) Tr.bad (c (.fn f) args H)).run=some x:=hx;cases hb:Nat.beq f g with
   | true=>rw[hb] at hx;exact (Tr.ah hx).elim
   | false=>rw[hb] at hx;exact h.2 _ _ _ _ hx
 | round d i=>exact (Tr.ah hx).elim
 | mode=>exact h.2 _ _ _ _ hx
theorem En {P:Program} {KT:FuncId→Nat→Nat} {fu:Nat} {r:pD} {call:aK} {d i:Nat} {args:List AV} {H H1 H2:ab} {l l1 l2:ot} {fr fr1 frx:aA} {lvx:bJ} {e:Ex}
 (hg:az H d i=(0,.loop l)) (hf:l.fn=r.f) (hb:l.body=r.body) (hl:aL H d=false) (hs:l.state=.ready)
 (hp:me l.nt (nq (d+1) l.fr) l.params (args.map (nr 1))=some fr)
 (he:exec ⟨P,call,fu,l.fn,l.nt,KT l.fn,some (d+1,i)⟩ l.assign fr (⟨false,[]⟩::H)=some (.normal,fr1,H1))
 (hg1:az H1 (d+1) i=(0,.loop l1)) (hs1:l1.state=.ready)
 (hpc:kO ⟨P,call,fu,l.fn,l.nt,KT l.fn,some (d+1,i)⟩ r.S r.L r.suf r.pre fr1 (eh H1 (d+1) i (0,.loop { l1 with state:=.busy }))=some (e,frx,lvx::H2))
 (hg2:az H2 d i=(0,.loop l2)) :
 oa P KT fu r call d i args H=some (.bool (dv (KU r.id e)).isNone,eh H2 d i (0,.loop { l2 with state:=if (dv (KU r.id e)).isNone then .ready else .done,pending:=dv (KU r.id e) })):=by
 unfold oa
 rw[hg]
 show (@dite _ (l.fn=r.f∧l.body=r.body) (Classical.propDecidable _) _ _)=_
 rw[dif_pos ⟨hf,hb⟩,hl]
 simp only[Bool.false_eq_true,if_false,hs,hp,he,hg1,hs1,hpc,hg2]
theorem Qm:cB=.block 1 (assemble [kJ [0,0] cB] (cS.code cL) qT):=by kernel_rfl
theorem NJ:cS.ops0.toList=cS.pre++[cS.ro]:=by kernel_rfl
theorem NM:cS.ro.op=.range cS.ty (.tmp cS.m):=by kernel_rfl
theorem NC:cS.ro.dst=some cL.it:=by kernel_rfl
theorem NG:cS.ro.guard=none:=by kernel_rfl
theorem NK:cL.ops1.toList=cL.no::cL.t1:=by kernel_rfl
theorem NN:cL.no.op=.next (.tmp cL.it) false:=by kernel_rfl
theorem ND:cL.no.dst=some cL.nx:=by kernel_rfl
theorem NH:cL.no.guard=none:=by kernel_rfl
theorem NL:cL.ops2.toList=cL.eo::cL.t2:=by kernel_rfl
theorem NO:cL.eo.op=.entry (.tmp cL.it):=by kernel_rfl
theorem NF:cL.eo.dst=some cL.en:=by kernel_rfl
theorem NI:cL.eo.guard=none:=by kernel_rfl
theorem NP:cR.Ok Tryd.prog:=⟨Qm,⟨NJ,NM,NC,NG,_,_,Tryd.underlying128⟩,⟨NK,NN,ND,NH,NL,NO,NF,NI⟩⟩
noncomputable def ka (A:AV):ot:={ state:=.ready,pending:=none,fn:=73,nt:=83,fr:=dV A,params:=[17],assign:=part Tryd.f73 [1,1,1,0,1,0,0],body:=cB }
noncomputable def xK (A:AV):ot:={ ka A with state:=.busy }
theorem WZ:dX (bx Tryd.f73)=[(.tmp 16,#[17],part Tryd.f73 [1,1,1,0,1,0,0],cB)]:=by kernel_rfl
section
variable (n:Nat) (O:Int) (U:Nat) (Z:Nat→Int) (V:Nat) (J:Nat→Int) (W B:Nat→Int) (G:ab)
theorem Su (k:Nat) (hl:U≤10) (hk:k≤10) (q:Nat) (hG:Gd (fC W B U k q)):∃ q',Gd (fC W B U (k+1) q') ∧
 oa Tryd.prog KtG.kt 100000 cR (cd (n+1)) 1 4 [.int .i64 (Int.ofNat k)] (aV::ib O U Z V J W B (.loop (ka (shV O U Z V J W B))) (fC W B U k q)::G) =
  some (.bool true,aV::ib O U Z V J W B (.loop (ka (shV O U Z V J W B))) (fC W B U (k+1) q')::G):=by
 obtain ⟨q',hG',hr⟩:=IZ n k O U Z V J W B (.loop (xK (shV O U Z V J W B))) G hl hk q hG
 refine ⟨q',hG',?_⟩
 have h1:=nB (y:=(.normal,iJ (k:Int),aV::aV::ib O U Z V J W B (.loop (ka (shV O U Z V J W B))) (fC W B U k q)::G)) (W6 (n+1) (k:Int) (shV O U Z V J W B) (aV::ib O U Z V J W B (.loop (ka (shV O U Z V J W B))) (fC W B U k q)::G)) (aw _) (aj _ _) (ai _ _) (Tr.ag rfl)
 have h5:=nB (y:=(.normal,iJ (k:Int)++[(6,.nils)],aV::aV::ib O U Z V J W B (.loop (xK (shV O U Z V J W B))) (fC W B U k q)::G)) (t5 (n+1) (k:Int) (aV::ib O U Z V J W B (.loop (xK (shV O U Z V J W B))) (fC W B U k q)::G)) (aw _) (aj _ _) (ai _ _) (Tr.ag rfl)
 have hpc:kO (oo (n+1)) cR.S cR.L cR.suf cR.pre (iJ (k:Int)) (aV::aV::ib O U Z V J W B (.loop (xK (shV O U Z V J W B))) (fC W B U k q)::G)=some (.normal,[],aV::aV::ib O U Z V J W B (.loop (xK (shV O U Z V J W B))) (fC W B U (k+1) q')::G):=by
  show (match oM (oo (n+1)) (kJ [0,0] cB) (iJ (k:Int)) (aV::aV::ib O U Z V J W B (.loop (xK (shV O U Z V J W B))) (fC W B U k q)::G) with
   | some (.normal,fr,H)=>kO (oo (n+1)) cS cL qT [] fr H
   | x=>x)=_
  rw[fK];have h5:exec (oo (n+1)) (kJ [0,0] cB) (iJ (k:Int)) (aV::aV::ib O U Z V J W B (.loop (xK (shV O U Z V J W B))) (fC W B U k q)::G)=_:=h5;rw[h5];exact hr
 exact En (l:=ka (shV O U Z V J W B)) (l1:=ka (shV O U Z V J W B)) (l2:=xK (shV O U Z V J W B)) (e:=.normal) rfl rfl rfl rfl rfl rfl h1 rfl rfl hpc rfl
theorem Mz {P:Nat→Nat→Prop} {R:Nat→Nat→Nat→Prop} (hs:∀ k,∀ q,P k q→∃ q',P (k+1) q'∧R k q q') (q0:Nat) (h0:P 0 q0):∃ f:Nat→Nat,f 0=q0∧∀ k,P k (f k)∧R k (f k) (f (k+1)):=by
 let F:Nat→Nat:=fun k=>Nat.rec (motive:=fun _=>Nat) q0 (fun k q=>@dite _ (∃ q',P (k+1) q'∧R k q q') (Classical.propDecidable _) (fun h=>Classical.choose h) (fun _=>0)) k
 have hF:∀ k,P k (F k)∧(P k (F k)→P (k+1) (F (k+1))∧R k (F k) (F (k+1))):=by
  intro k;have step:∀ k,P k (F k)→P (k+1) (F (k+1))∧R k (F k) (F (k+1)):=fun k hp=>by
   have he:=hs k (F k) hp;have e:F (k+1)=Classical.choose he:=dif_pos he;rw[e];exact Classical.choose_spec he
  refine ⟨?_,step k⟩;induction k with
  | zero=>exact h0
  | succ k ih=>exact (step k ih).1
 exact ⟨F,rfl,fun k=>⟨(hF k).1,((hF k).2 (hF k).1).2⟩⟩
theorem Cl {C:aK} {c:Code} {callR:bt} {bl:eW} {rg:ou} {fr:aA} {H:ab} {T:Tr dY} {Q:Ex×aA×ab→Prop} (e:aH (qU C) callR bl rg c (hints fr) H=T) (hC:callR.Ok C) (hB:bl.Ok (qU C) c) (hR:rg.Ok (qU C) c) (h:T.all fun x=>Q x.st):∃ y,exec (qU C) c fr H=some y∧Q y:=by
 obtain ⟨x,h1,h2⟩:=h;have:=fJ (cx:=qU C) hC c hB hR (hints fr) H x (by rw[e];exact h1);rw[aG] at this;exact ⟨_,this,h2⟩
theorem LD {C:aK} {c:Code} (id:Nat) (F:Nat→aA) (G:Nat→ab) (N:Nat) (Y:aA×ab) (hN:N<99999)
 (hs:∀ j,j<N→∃ x,exec (qU C) c (F j) (G j)=some x∧(x.1=.normal∧tidy (aZ (G 0)) x.2.1 x.2.2=(F (j+1),G (j+1))))
 (he:∃ x,exec (qU C) c (F N) (G N)=some x∧x=(.exit id,Y)):exec (qU C) (.block id (.loop c)) (F 0) (G 0)=some (.normal,Y):=by
 have key:=iB (body:=exec (qU C) c) (n:=aZ (G 0)) F G N (fun _=>false) (fun j=>(.exit id,Y))
  (fun j hj hp=>by
    obtain ⟨x,h1,h2,h3⟩:=hs j hj;obtain ⟨e,f1,g1⟩:=x;simp only at h2;subst h2;exact ⟨_,_,h1,h3⟩)
  (fun j hj hp=>by cases hp)
  (by
    obtain ⟨x,h1,rfl⟩:=he;exact ⟨h1,by simp⟩) N 0 100000 (by omega) (by omega)
 exact gS key
theorem UZ (hl:U≤10) (q0:Nat) (hG:Gd (fC W B U 0 q0)):∃ q',Gd (fC W B U U q') ∧
 pj Tryd.prog KtG.kt 100000 90 (uc Tryd.prog KtG.kt 100000 cR (cd (n+1))) [.yld 0 4,.ptrT (some 0) (.G [shV O U Z V J W B]) 0] (ib O U Z V J W B (.loop (ka (shV O U Z V J W B))) (fC W B U 0 q0)::G) =
  some (.tup [],ib O U Z V J W B (.loop (ka (shV O U Z V J W B))) (fC W B U U q')::G):=by
 obtain ⟨f,rfl,hf⟩:=Mz (P:=fun k q=>k≤10→Gd (fC W B U k q)) (R:=fun k q q'=>k≤9→oa Tryd.prog KtG.kt 100000 cR (cd (n+1)) 1 4 [.int .i64 (Int.ofNat k)] (aV::ib O U Z V J W B (.loop (ka (shV O U Z V J W B))) (fC W B U k q)::G) =
  some (.bool true,aV::ib O U Z V J W B (.loop (ka (shV O U Z V J W B))) (fC W B U (k+1) q')::G)) (fun k q h=>by
  by_cases hk:k≤9
  · obtain ⟨q',h1,h2⟩:=Su n O U Z V J W B G k hl (by omega) q (h (by omega))
    exact ⟨q',fun _=>h1,fun _=>h2⟩
  · exact ⟨0,fun h=>by omega,fun h=>by omega⟩) q0 (fun _=>hG)
 refine ⟨f U,(hf U).1 hl,?_⟩
 let St:Nat→ab:=fun j=>ib O U Z V J W B (.loop (ka (shV O U Z V J W B))) (fC W B U j (f j))::G
 show pj Tryd.prog KtG.kt 100000 90 _ _ (St 0)=some (_,St U)
 have hr:∀ j,j<U→uc Tryd.prog KtG.kt 100000 cR (cd (n+1)) (.round 1 4) [.int .i64 (Int.ofNat j)] (aV::St j)=some (.bool true,aV::St (j+1)):=fun j hj=>(hf j).2 (by omega)
 have hC:(Hn 1000000 (il aJ (n+1) 0)).Ok (uc Tryd.prog KtG.kt 100000 cR (cd (n+1))):=OG (aw _)
 generalize uc Tryd.prog KtG.kt 100000 cR (cd (n+1))=C at *
 have hx:exec (qU C) (.block 0 (.loop (part Tryd.f90 [1,0,0]))) (sn U (Int.ofNat 0)) (aV::St 0)=some (.normal,sn U (Int.ofNat U)++[(11,.bool false)],aV::St U):=by
  refine LD 0 (fun j=>sn U (Int.ofNat j)) (fun j=>aV::St j) U (_,_) (by omega) (fun j hj=>?_) ?_
  · have ec:aQ .i64 (Int.ofNat j) (Int.ofNat 1)=Int.ofNat (j+1):=by
     have:=BS j (by omega);rw[fG];exact this
    refine Cl (Q:=fun y=>y.1=.normal∧tidy 0 y.2.1 y.2.2=(sn U (Int.ofNat (j+1)),aV::St (j+1))) (t90 (n+1) C U (Int.ofNat j) (St j) (St (j+1))) (Mp hC (fun x hy=>by rw[← Tr.af hy];exact hr j hj)) (aj _ _) (ai _ _) ?_;rw[ec];generalize St (j+1)=G' at *;generalize St j=G at *;refine Tr.ae (fun h0=>Tr.ak ⟨rfl,rfl⟩ (Tr.ae (fun h1=>?_) (fun h1=>Tr.ag ⟨rfl,rfl⟩))) (fun h0=>?_)
    · rw[aO] at h1;cases h1
    · exfalso;simp (disch:=omega) only[nV,nW] at h0;omega
  · refine Cl (SM (n+1) C U (Int.ofNat U) (St U)) hC (aj _ _) (ai _ _) (Tr.ae (fun h0=>?_) (fun h0=>Tr.ag rfl));exfalso;simp (disch:=omega) only[nV,nW] at h0;omega
 obtain ⟨y,h1,h2,h3⟩:Tr.all (bu Tryd.prog C 100000 90 Tryd.f90 (KtG.kt 90) (Hn 1000000 (il aJ (n+1) 0)) (cw aS 0 (sn U (Int.ofNat 0)) (aV::St 0) (.ok (.normal,hints (sn U (Int.ofNat U)++[(11,.bool false)]),aV::St U))) aR [(.yld 0 4,none),(.ptrT (some 0) (.G [shV O U Z V J W B]) 0,none)] (St 0)) (fun y=>y.1.1=AV.tup []∧y.2=St U):=by
  rw[XA];exact Tr.ak ⟨rfl,rfl⟩ (Tr.ag ⟨rfl,rfl⟩)
 have:=BA (P:=Tryd.prog) (KT:=KtG.kt) (fu:=100000) (f:=90) (call:=C) (fn:=Tryd.f90) Tryd.func90 rfl (args:=[(.yld 0 4,none),(.ptrT (some 0) (.G [shV O U Z V J W B]) 0,none)]) (H:=St 0) rfl hC (aM (aj _ _) Uz (fun x h=>by rw[← Tr.af h];simp only[dY.st,aG];exact hx)) (ai _ _) h1
 rw[h2,h3] at this
 exact this
noncomputable def cntF (U:Nat) (W B:Nat→Int):Int:=((ro U (okW W B) U).length:Int)
theorem Ug (W B:Nat→Int) (U:Nat):fC W B U 0 1=⟨mj (fun _=>false) [Int.ofNat 0] true,ml (fun _=>Int.ofNat 0) [Int.ofNat 0] (Int.ofNat 1),qp false 0⟩:=by
 have e1:=sM (fun _=>false) (fun _=>0) 0 0 true;have e2:=sN (fun _=>false) (fun _=>0) 0 0 1;have h0:(lW (fun _=>false) (fun _=>0) 0).h=fun _=>false:=by
  funext l;match l with
  | []=>rfl
  | [y]=>show (decide (0≤y) && false)=false;simp
  | _::_::_=>rfl
 have g0:(lW (fun _=>false) (fun _=>0) 0).g=fun _=>Int.ofNat 0:=by
  funext l;match l with
  | []=>rfl
  | [y]=>show (if 0≤y then (((0:Nat)):Int) else 0)=Int.ofNat 0;split<;>rfl
  | _::_::_=>rfl
 rw[h0] at e1;rw[g0] at e2;rw[gO,gP,lG];have e1:fp (fun _=>false) [Int.ofNat 0] true=_:=e1;have e2:iy (fun _=>Int.ofNat 0) [Int.ofNat 0] (Int.ofNat 1)=_:=e2;rw[e1,e2];have a1:(fun Y=>decide (0<cF U (okW W B) 0 Y))=fun y=>if y=0 then true else false:=by
  funext Y;rw[Cb];by_cases e:Y=0
  · rw[if_pos e,if_pos e];rfl
  · rw[if_neg e,if_neg e];rfl
 have a2:(fun Y=>cF U (okW W B) 0 Y)=fun y=>if y=0 then 1 else 0:=by funext Y;rw[Cb]
 unfold fC;rw[a1,a2];rfl
theorem U4 (W B:Nat→Int) (U:Nat):Gd (fC W B U 0 1):=by
 rw[Ug];show ∃ es,re (.num .u64) es (mj (fun _=>false) [Int.ofNat 0] true) (ml (fun _=>Int.ofNat 0) [Int.ofNat 0] (Int.ofNat 1)) (qp false 0);rw[gO,gP,lG];exact FU (h:=fun _=>false) (g:=fun _=>Int.ofNat 0) ⟨[],rfl,(fun j hj=>absurd hj (Nat.not_lt_zero _)),(fun n h=>by cases h),(fun n _=>rfl),(fun i j hi=>absurd hi (Nat.not_lt_zero _))⟩ _ _
theorem T8 (hl:U≤10) (H:ab):GH Tryd.prog KtG.kt 100000 73 90 cR (cd (n+1)) [shV O U Z V J W B] H=some (.int .i64 (cntF U W B),H):=by
 obtain ⟨q',hG',hr⟩:=UZ n O U Z V J W B H hl 1 (U4 W B U);have hC:(Hn 90 (il aJ n 1)).Ok (py Tryd.prog KtG.kt 100000 90 cR (cd (n+1))):=OF (gI n 1);have hx:exec (NS (py Tryd.prog KtG.kt 100000 90 cR (cd (n+1)))) (.rangeFunc (.tmp 16) #[17] (part Tryd.f73 [1,1,1,0,1,0,0]) cB) (dV (shV O U Z V J W B)) (Nc O U Z V J W B::H)=some (.normal,dV (shV O U Z V J W B),lX O U Z V J W B (fC W B U U q').h (fC W B U U q').g (fC W B U U q').q .dead::H) :=
  GI (cx:=NS (py Tryd.prog KtG.kt 100000 90 cR (cd (n+1)))) (l:=ka (shV O U Z V J W B)) (f:=.tmp 16) (ps:=#[17]) (fr:=dV (shV O U Z V J W B)) (H:=Nc O U Z V J W B::H) (g:=90) (a:=[]) (b:=[.ptrT (some 0) (.G [shV O U Z V J W B]) 0]) rfl rfl rfl (by
   rw[Ug] at hr;exact hr) rfl rfl rfl
 have e:bH .u64 (dc .u64 (Int.ofNat 1) (Int.ofNat U)) (Int.ofNat 1)=((2 ^ U-1:Nat):Int):=by
  have h1:=Nat.two_pow_pos U;have h2:2 ^ U≤2 ^ 10:=Nat.pow_le_pow_right (by decide) hl;rw[Ev (by omega),eA];show IntKind.u64.wrap (((2 ^ U:Nat):Int)-1)=_;rw[show ((2 ^ U:Nat):Int)-1=((2 ^ U-1:Nat):Int) by omega];exact jA (by omega)
 have hg:(fC W B U U q').g [((2 ^ U-1:Nat):Int)]=cntF U W B:=by
  unfold fC cntF;rw[F7,Lk]
 obtain ⟨y,h1,h2,h3⟩:Tr.all (bu Tryd.prog (py Tryd.prog KtG.kt 100000 90 cR (cd (n+1))) 100000 73 Tryd.f73 (KtG.kt 73) (Hn 90 (il aJ n 1)) aS (OZ aR (fun _=>true) (dV (shV O U Z V J W B)) (Nc O U Z V J W B::H) (.ok (.normal,hints (dV (shV O U Z V J W B)),lX O U Z V J W B (fC W B U U q').h (fC W B U U q').g (fC W B U U q').q .dead::H))) [(shV O U Z V J W B,none)] H) (fun y=>y.1.1=AV.int .i64 (cntF U W B)∧y.2=H):=by
  rw[Xs,e,hg];refine Tr.ak ⟨rfl,rfl⟩ (Tr.aa ?_ (Tr.ag ⟨rfl,rfl⟩));rw[a7];exact decide_eq_true (by show (0:Int)≤(U:Int);omega)
 have:=BA (P:=Tryd.prog) (KT:=KtG.kt) (fu:=100000) (f:=73) (call:=py Tryd.prog KtG.kt 100000 90 cR (cd (n+1))) (fn:=Tryd.f73) Tryd.func73 rfl (args:=[(shV O U Z V J W B,none)]) (H:=H) rfl hC (aj _ _) (GM (ai _ _) (fun f ps a b _ hm x hx2=>by
  rw[WZ] at hm;simp only[List.mem_cons,Prod.mk.injEq,List.not_mem_nil,or_false] at hm;obtain ⟨rfl,rfl,rfl,rfl⟩:=hm;rw[← Tr.af hx2];simp only[dY.st,aG];exact hx)) h1
 rw[h2,h3] at this;exact this
end
end Go.Eng.Q
end
section
namespace Go.Proofs
open Go.Shelf
def Tryd.EA:Go.Shelf.Ren:=⟨fun | 5=>95 | 8=>102 | 7=>101 | 19=>112 | 20=>113 | 10=>103 | 11=>104 | 12=>105 | 13=>106 | 14=>107 | 15=>108 | 16=>109 | 17=>110 | 18=>111 | 30=>114 | 31=>115 | 32=>116 | 33=>117 | 34=>118 | 35=>119 | 40=>120 | n=>n,fun | 23=>36 | 25=>3 | 3=>3 | 32=>88 | 22=>36 | 0=>0 | 44=>132 | 46=>134 | 4=>4 | 36=>142 | 35=>141 | 41=>146 | 5=>5 | 9=>9 | 53=>148 | 57=>152 | 63=>154 | 64=>155 | n=>n,fun | n=>n⟩
theorem Tryd.O3:Go.Proofs.SlLaysM.n5 Tryd.prog Tryd.EA:={
 mixed:=by kernel_rfl
 f5:=⟨Tryd.f95.name,by decide,Tryd.func95.trans (congrArg some (by kernel_rfl))⟩
 f7:=⟨Tryd.f101.name,by decide,Tryd.func101.trans (congrArg some (by kernel_rfl))⟩
 f8:=Tryd.func102.trans (congrArg some (by kernel_rfl))
 f10:=⟨Tryd.f103.name,by decide,Tryd.func103.trans (congrArg some (by kernel_rfl))⟩
 f11:=⟨Tryd.f104.name,by decide,Tryd.func104.trans (congrArg some (by kernel_rfl))⟩
 f12:=⟨Tryd.f105.name,by decide,Tryd.func105.trans (congrArg some (by kernel_rfl))⟩
 f13:=⟨Tryd.f106.name,by decide,Tryd.func106.trans (congrArg some (by kernel_rfl))⟩
 f14:=⟨Tryd.f107.name,by decide,Tryd.func107.trans (congrArg some (by kernel_rfl))⟩
 f15:=⟨Tryd.f108.name,by decide,Tryd.func108.trans (congrArg some (by kernel_rfl))⟩
 f16:=⟨Tryd.f109.name,by decide,Tryd.func109.trans (congrArg some (by kernel_rfl))⟩
 f17:=⟨Tryd.f110.name,by decide,Tryd.func110.trans (congrArg some (by kernel_rfl))⟩
 f18:=⟨Tryd.f111.name,by decide,Tryd.func111.trans (congrArg some (by kernel_rfl))⟩
 f19:=Tryd.func112.trans (congrArg some (by kernel_rfl))
 f20:=Tryd.func113.trans (congrArg some (by kernel_rfl))
 f30:=⟨Tryd.f114.name,by decide,Tryd.func114.trans (congrArg some (by kernel_rfl))⟩
 f31:=Tryd.func115.trans (congrArg some (by kernel_rfl))
 f32:=Tryd.func116.trans (congrArg some (by kernel_rfl))
 f33:=⟨Tryd.f117.name,by decide,Tryd.func117.trans (congrArg some (by kernel_rfl))⟩
 f34:=⟨Tryd.f118.name,by decide,Tryd.func118.trans (congrArg some (by kernel_rfl))⟩
 f35:=⟨Tryd.f119.name,by decide,Tryd.func119.trans (congrArg some (by kernel_rfl))⟩
 f40:=⟨Tryd.f120.name,by decide,Tryd.func120.trans (congrArg some (by kernel_rfl))⟩
 t0:=Tryd.underlying0
 a0:=Tryd.isAgg0
 z0:=Tryd.sizeOf0
 v0:=Tryd.zeroValue0
 t3:=Tryd.underlying3
 a3:=Tryd.isAgg3
 z3:=Tryd.sizeOf3
 v3:=Tryd.zeroValue3
 t4:=Tryd.underlying4
 a4:=Tryd.isAgg4
 z4:=Tryd.sizeOf4
 v4:=Tryd.zeroValue4
 t5:=Tryd.underlying5
 a5:=Tryd.isAgg5
 z5:=Tryd.sizeOf5
 v5:=Tryd.zeroValue5
 t9:=Tryd.underlying9
 a9:=Tryd.isAgg9
 z9:=Tryd.sizeOf9
 v9:=Tryd.zeroValue9
 t22:=Tryd.underlying36
 a22:=Tryd.isAgg36
 z22:=Tryd.sizeOf36
 v22:=Tryd.zeroValue36
 t23:=Tryd.underlying36
 a23:=Tryd.isAgg36
 z23:=Tryd.sizeOf36
 v23:=Tryd.zeroValue36
 t25:=Tryd.underlying3
 a25:=Tryd.isAgg3
 z25:=Tryd.sizeOf3
 v25:=Tryd.zeroValue3
 t32:=Tryd.underlying88
 a32:=Tryd.isAgg88
 z32:=Tryd.sizeOf88
 v32:=Tryd.zeroValue88
 t35:=Tryd.underlying141
 a35:=Tryd.isAgg141
 z35:=Tryd.sizeOf141
 v35:=Tryd.zeroValue141
 t36:=Tryd.underlying142
 a36:=Tryd.isAgg142
 z36:=Tryd.sizeOf142
 v36:=Tryd.zeroValue142
 t41:=Tryd.underlying146
 a41:=Tryd.isAgg146
 z41:=Tryd.sizeOf146
 v41:=Tryd.zeroValue146
 t44:=Tryd.underlying132
 a44:=Tryd.isAgg132
 z44:=Tryd.sizeOf132
 v44:=Tryd.zeroValue132
 t46:=Tryd.underlying134
 a46:=Tryd.isAgg134
 z46:=Tryd.sizeOf134
 v46:=Tryd.zeroValue134
 t53:=Tryd.underlying148
 a53:=Tryd.isAgg148
 z53:=Tryd.sizeOf148
 v53:=Tryd.zeroValue148
 t57:=Tryd.underlying152
 a57:=Tryd.isAgg152
 z57:=Tryd.sizeOf152
 v57:=Tryd.zeroValue152
 t63:=Tryd.underlying154
 a63:=Tryd.isAgg154
 z63:=Tryd.sizeOf154
 v63:=Tryd.zeroValue154
 t64:=Tryd.underlying155
 a64:=Tryd.isAgg155
 z64:=Tryd.sizeOf155
 v64:=Tryd.zeroValue155 }
def Tryd.Cf:Go.Shelf.Ren:=⟨fun | 27=>82 | 28=>97 | 29=>98 | n=>n,fun | 0=>0 | 3=>3 | 4=>4 | 5=>5 | 22=>134 | 25=>88 | 27=>132 | 53=>138 | 54=>139 | n=>n,fun | n=>n⟩
theorem Tryd.ctz:Lays7.n27 Tryd.prog Tryd.Cf:={
 mixed:=by kernel_rfl
 f27:=Tryd.func82.trans (congrArg some (by kernel_rfl))
 f28:=Tryd.func97.trans (congrArg some (by kernel_rfl))
 f29:=Tryd.func98.trans (congrArg some (by kernel_rfl))
 t0:=Tryd.underlying0
 a0:=Tryd.isAgg0
 z0:=Tryd.sizeOf0
 v0:=Tryd.zeroValue0
 i0:=by kernel_rfl
 t3:=Tryd.underlying3
 a3:=Tryd.isAgg3
 z3:=Tryd.sizeOf3
 v3:=Tryd.zeroValue3
 i3:=by kernel_rfl
 t4:=Tryd.underlying4
 a4:=Tryd.isAgg4
 z4:=Tryd.sizeOf4
 v4:=Tryd.zeroValue4
 i4:=by kernel_rfl
 t5:=Tryd.underlying5
 a5:=Tryd.isAgg5
 z5:=Tryd.sizeOf5
 v5:=Tryd.zeroValue5
 i5:=by kernel_rfl
 t22:=Tryd.underlying134
 a22:=Tryd.isAgg134
 z22:=Tryd.sizeOf134
 v22:=Tryd.zeroValue134
 i22:=by kernel_rfl
 t25:=Tryd.underlying88
 a25:=Tryd.isAgg88
 z25:=Tryd.sizeOf88
 v25:=Tryd.zeroValue88
 i25:=by kernel_rfl
 t27:=Tryd.underlying132
 a27:=Tryd.isAgg132
 z27:=Tryd.sizeOf132
 v27:=Tryd.zeroValue132
 i27:=by kernel_rfl
 t53:=Tryd.underlying138
 a53:=Tryd.isAgg138
 z53:=Tryd.sizeOf138
 v53:=Tryd.zeroValue138
 i53:=by kernel_rfl
 t54:=Tryd.underlying139
 a54:=Tryd.isAgg139
 z54:=Tryd.sizeOf139
 g0:=by kernel_rfl
 g1:=by kernel_rfl }
end Go.Proofs
namespace Go.Eng
open Go.Proofs Go.Sort
def O4 (L:List Int):List Int:=L.mergeSort fun x y=>decide (x≤y)
theorem MC:Jz Tryd.prog 95 O4 :=
 ⟨⟨_,Tryd.func95,by kernel_rfl⟩,fun L=>List.length_mergeSort L,fun blk off cap zs w h1 h2 h3=>AnyM.slices_Sort_int Tryd.O3 blk off cap zs w h1 h2 h3⟩
noncomputable def FA (args:List AV) (H:ab):Option (AV×ab) :=
 match args with
 | [.int .u64 x]=>if 0≤x∧x<18446744073709551616 then some (.int .i64 (Go.Lib.ctz 64 x.toNat),H) else none
 | _=>none
theorem HW {args:List AV} {H:ab} {v:AV} {H':ab} (h:FA args H=some (v,H')) {p:aF} {M:Mu} {w:World} {cargs:Array Value} (hH:bj p M H w) (hA:eH p M args cargs):(∃ fn,Tryd.prog.funcs[82]?=some fn∧fn.body.isNone=false)∧CallsIn Fence.wide 0 Tryd.prog 82 cargs w (eP p M H w v H'):=by
 refine ⟨⟨_,Tryd.func82,by kernel_rfl⟩,callsIn_wide.2 ?_⟩;unfold FA at h;split at h;case h_2=>simp at h
 rename_i x;split at h;case isFalse=>simp at h
 rename_i hx;simp only[nP] at h;obtain ⟨rfl,rfl⟩:=h;have hsize:cargs.size=1:=hA.1;have hv:=hA.2 0 (by simp);have hd:cargs=#[cargs.getD 0 undef]:=by
  apply Array.ext
  · simpa using hsize
  · intro j h1 h2;have:j=0:=by omega
    subst this;simp[Array.getD,hsize]
 have hv:al p M (.int .u64 x) (cargs.getD 0 undef):=hv;rw[hd,hv.ofInt];have hT:TabAt (Tryd.Cf.g 1) Go.Lib.deBruijn64tab w:=fun j hj=>hH.pers 1 j _ (p.2 1 j _ (by
  have:j<64:=hj;unfold oS;rw[if_pos ⟨rfl,this⟩]))
 have:=Any7.bits_TrailingZeros Tryd.ctz x.toNat wO w (fun _=>hT);rw[Int.toNat_of_nonneg hx.1] at this;refine Calls.mono this ?_;rintro e w' ⟨rfl,rfl⟩;exact ⟨_,rfl,Still.refl _,p,M,cC.refl hH,.int _ _⟩
end Go.Eng
end
