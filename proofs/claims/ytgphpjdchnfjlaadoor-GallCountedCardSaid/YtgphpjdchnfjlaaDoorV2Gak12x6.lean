/- Gall: closed calls. -/
import Derived.Test.YtgphpjdchnfjlaaDoorV2Gbqx13
import Derived.Test.YtgphpjdchnfjlaaDoorV2GaKx6
import Derived.Test.YtgphpjdchnfjlaaDoorV2EngRnOx7
import Derived.OpenShut
set_option maxRecDepth 100000
set_option linter.unusedVariables false
section
namespace Go.Eng.Gall
open Go.Proofs
noncomputable def Rq:b5:=⟨18,[.agg (.G [.int .i64 10,.slcT none (.I .i64 [100,110,60,110,90,95,75,100,120,125,80,110,80,80,70,200]) 4 4 true,.slcT none (.I .i64 [3,1]) 2 1 true]),.int .i64 3],.tup [.agg (.I .i64 [0,1]),.int .i64 0]⟩
theorem Qa:aA Tryd.prog Rq:=aR zA (H':=[⟨true,[]⟩]) (by kernel_rfl) (by kernel_rfl)
noncomputable def JD:List b5:=Rq::JC
theorem zB:∀ e ∈ JD,aA Tryd.prog e:=aQ Qa zA
noncomputable def Rr:b5:=⟨20,[.agg (.G [.int .i64 10,.slcT none (.I .i64 [100,110,60,110,90,95,75,100,120,125,80,110,80,80,70,200]) 4 4 true,.slcT none (.I .i64 [3,1]) 2 1 true]),.int .i64 3],.tup [.agg (.I .i64 [0,0]),.int .i64 0]⟩
theorem Qb:aA Tryd.prog Rr:=aR zB (H':=[⟨true,[]⟩]) (by kernel_rfl) (by kernel_rfl)
noncomputable def JE:List b5:=Rr::JD
theorem zC:∀ e ∈ JE,aA Tryd.prog e:=aQ Qb zB
noncomputable def Rs:b5:=⟨56,[.ptrT none (.G [.int .i64 10,.slcT none (.I .i64 [100,110,60,110,90,95,75,100,120,125,80,110,80,80,70,200]) 4 4 true,.slcT none (.I .i64 [3,1]) 2 1 true,.int .i64 0,.int .i64 3,.int .i64 0,.int .i64 1,.int .i64 2,.int .i64 3,.int .i64 0,.int .i64 1,.int .i64 0,.int .i64 0,.int .i64 0,.int .i64 0,.int .i64 0,.int .i64 0,.int .i64 0,.int .i64 0,.int .i64 0,.int .i64 0,.int .i64 0,.int .i64 0,.int .u64 4,.int .u64 8,.int .u64 0,.int .u64 0,.int .u64 0,.int .u64 0,.int .u64 0,.int .u64 0,.int .u64 0,.int .u64 0]) 0],.agg (.I .i64 [3,3,1,1,2,2,0,0,0,0,0,0,0,0,0,0,0,0,0,0])⟩
theorem Qc:aA Tryd.prog Rs:=aR zC (H':=[⟨true,[]⟩]) (by kernel_rfl) (by kernel_rfl)
noncomputable def JF:List b5:=Rs::JE
theorem zD:∀ e ∈ JF,aA Tryd.prog e:=aQ Qc zC
noncomputable def Rt:b5:=⟨65,[.ptrT none (.G [.int .i64 10,.slcT none (.I .i64 [100,110,60,110,90,95,75,100,120,125,80,110,80,80,70,200]) 4 4 true,.slcT none (.I .i64 [3,1]) 2 1 true,.int .i64 0,.int .i64 3,.int .i64 0,.int .i64 1,.int .i64 2,.int .i64 3,.int .i64 0,.int .i64 1,.int .i64 0,.int .i64 0,.int .i64 0,.int .i64 0,.int .i64 0,.int .i64 0,.int .i64 0,.int .i64 0,.int .i64 0,.int .i64 0,.int .i64 0,.int .i64 0,.int .u64 4,.int .u64 8,.int .u64 0,.int .u64 0,.int .u64 0,.int .u64 0,.int .u64 0,.int .u64 0,.int .u64 0,.int .u64 0]) 0],.tup [.agg (.G [.int .i64 0,.int .i64 0,.nils]),.bool false]⟩
theorem Qd:aA Tryd.prog Rt:=aR zD (H':=[⟨true,[]⟩]) (by kernel_rfl) (by kernel_rfl)
noncomputable def JG:List b5:=Rt::JF
theorem zE:∀ e ∈ JG,aA Tryd.prog e:=aQ Qd zD
end Go.Eng.Gall
end
section
namespace Go.Eng.Gall
open Go.Proofs
noncomputable def Ru:b5:=⟨32,[.agg (.G [.int .i64 10,.slcT none (.I .i64 [100,110,60,110,90,95,75,100,120,125,80,110,80,80,70,200]) 4 4 true,.slcT none (.I .i64 [3,1]) 2 1 true]),.int .i64 0,.int .i64 2],.tup [.bool false,.int .i64 0]⟩
theorem Qe:aA Tryd.prog Ru:=aR zE (H':=[⟨true,[]⟩]) (by kernel_rfl) (by kernel_rfl)
noncomputable def JH:List b5:=Ru::JG
theorem F3:∀ e ∈ JH,aA Tryd.prog e:=aQ Qe zE
noncomputable def Rv:b5:=⟨73,[.ptrT none (.G [.int .i64 10,.slcT none (.I .i64 [100,110,90,110,90,95,75,100,120,125,80,110,80,80,70,200]) 4 4 true,.slcT none (.I .i64 [3,1]) 2 1 true,.int .i64 0,.int .i64 1,.int .i64 0,.int .i64 1,.int .i64 2,.int .i64 3,.int .i64 0,.int .i64 1,.int .i64 0,.int .i64 0,.int .i64 0,.int .i64 0,.int .i64 0,.int .i64 0,.int .i64 0,.int .i64 0,.int .i64 0,.int .i64 0,.int .i64 0,.int .i64 0,.int .u64 0,.int .u64 8,.int .u64 0,.int .u64 0,.int .u64 0,.int .u64 0,.int .u64 0,.int .u64 0,.int .u64 0,.int .u64 0]) 0],.int .i64 0⟩
theorem Qf:aA Tryd.prog Rv:=Fv (dr:=10) (lc:=4) (zl:=[100,110,90,110,90,95,75,100,120,125,80,110,80,80,70,200]) (lb:=1) (bl:=[3,1]) (f1:=true) (f2:=true) (Wl:=[0,1,0,1,2,3,0,1,0,0,0,0,0,0,0,0,0,0,0,0]) (Bl:=[0,8,0,0,0,0,0,0,0,0]) (v:=0) rfl (by decide) rfl rfl rfl rfl (by kernel_rfl)
noncomputable def JI:List b5:=Rv::JH
theorem zF:∀ e ∈ JI,aA Tryd.prog e:=aQ Qf F3
noncomputable def Rw:b5:=⟨34,[.agg (.G [.int .i64 10,.slcT none (.I .i64 [100,110,90,110,90,95,75,100,120,125,80,110,80,80,70,200]) 4 4 true,.slcT none (.I .i64 [3,1]) 2 1 true])],.tup [.int .i64 0,.int .i64 0]⟩
theorem Qg:aA Tryd.prog Rw:=aR zF (H':=[⟨true,[]⟩]) (by kernel_rfl) (by kernel_rfl)
noncomputable def JJ:List b5:=Rw::JI
theorem zG:∀ e ∈ JJ,aA Tryd.prog e:=aQ Qg zF
noncomputable def Rx:b5:=⟨25,[.agg (.G [.int .i64 10,.slcT none (.I .i64 [100,110,60,110,90,95,75,100,120,125,80,110,80,80,70,200]) 4 4 true,.slcT none (.I .i64 [3,1]) 2 1 true])],.tup [.agg (.G [.int .i64 0,.int .i64 0,.nils]),.int .i64 5]⟩
theorem Qh:aA Tryd.prog Rx:=aR zG (H':=[⟨true,[]⟩]) (by kernel_rfl) (by kernel_rfl)
noncomputable def JK:List b5:=Rx::JJ
theorem zH:∀ e ∈ JK,aA Tryd.prog e:=aQ Qh zG
end Go.Eng.Gall
end
section
namespace Go.Eng.Gall
open Go.Proofs
noncomputable def Ry:b5:=⟨30,[.agg (.G [.int .i64 10,.slcT none (.I .i64 [100,110,90,110,90,95,75,100,120,125,80,110,80,80,70,200]) 4 4 true,.slcT none (.I .i64 [3,1]) 2 1 true]),.int .i64 0],.tup [.nils,.int .i64 13]⟩
theorem Qi:aA Tryd.prog Ry:=aR zH (H':=[⟨true,[]⟩]) (by kernel_rfl) (by kernel_rfl)
noncomputable def NG:List b5:=Ry::JK
theorem F4:∀ e ∈ NG,aA Tryd.prog e:=aQ Qi zH
end Go.Eng.Gall
end
section
namespace Go.Eng.Gall
open Go.Proofs
noncomputable def EW:b5:=⟨15,[],.bool true⟩
theorem Nb:aA Tryd.prog EW:=aR F4 (H':=[⟨true,[]⟩]) (by kernel_rfl) (by kernel_rfl)
end Go.Eng.Gall
end
section
namespace Go.Eng
open Go.Proofs Go.ChangeShapes Go.WideShapes Go.ChangeAt Go.RowKit
theorem Un {p:aD} {M:Mu} {k:IntKind} {z:Nat→Int} {N sz len:Nat} {full:Bool} {v:Value} (h:ai p M (.slcT none (.F (fun j=>.int k (z j)) N) sz len full) v):ai p M (.slcT none (.M [.arr k z N]) sz len full) v:=by
 cases h with
 | slcN=>exact .slcN
 | slcT vs h0 h1 hv hl hf hx =>
   have e:∀ j,j<(Row.M [an.arr k z N]).len→j<N:=fun j hj=>by simpa[Row.len,ay,aG] using hj
   refine .slcT vs (fun j hj=>h0 j (e j hj)) (fun j hj=>h1 j (e j hj)) (fun j hj=>?_) hl hf hx
   have:=hv j (e j hj)
   simp only[Row.get,getM,if_pos (e j hj)] at this ⊢
   exact this.bj _ _
theorem AR {P:Program} {w:World} {r:Reach} {base:Nat} {t e:TypeId} {v:Value} (ht:P.underlying t=some (.slice e)) (h:Cell.okWide P w r base t v):∀ a l c,v=.slice (some a) l c→a.spot=none:=by
 rintro a l c rfl
 simp only[Cell.okWide,ht,Cell.ok] at h
 exact h.2.2.2.1
theorem BB:uw Tryd.prog 2 1:=se Tryd.underlying2
theorem Ml:uw Tryd.prog 3 1:=se Tryd.underlying3
theorem Kl:uw Tryd.prog 29 2:=vU Tryd.underlying29 BB BB rfl rfl (by kernel_rfl) (by kernel_rfl) (by kernel_rfl)
theorem vV {P:Program} {k:IntKind} {t:TypeId} {f0 f1 f2:Field} {n0 n1 n2:Nat} (ht:P.underlying t=some (.struct #[f0,f1,f2])) (h0:jR k P f0.type n0) (h1:jR k P f1.type n1) (h2:jR k P f2.type n2) (o0:f0.offset=0) (o1:f1.offset=n0) (o2:f2.offset=n0+n1) (c0:P.cellsOf f0.type=n0) (c1:P.cellsOf f1.type=n1) (c2:P.cellsOf f2.type=n2) (c:P.cellsOf t=n0+n1+n2):jR k P t (n0+n1+n2):=by
 intro H enc w base sp held fuel cs x h
 obtain ⟨xs,m,_,_,hl,hxl,hf⟩:=DataW.trod_struct ht h
 match xs,hxl,hf with
 | [y0,y1,y2],_,hf =>
   have g0:=hf 0 f0 rfl
   have g1:=hf 1 f1 rfl
   have g2:=hf 2 f2 rfl
   obtain ⟨_,k0⟩:=h0 _ _ _ _ _ _ _ _ _ g0
   obtain ⟨_,k1⟩:=h1 _ _ _ _ _ _ _ _ _ g1
   obtain ⟨_,k2⟩:=h2 _ _ _ _ _ _ _ _ _ g2
   refine ⟨by rw[hl,c],fun j hj=>?_⟩
   by_cases p:j<n0
   · obtain ⟨z,hz,hw⟩:=k0 j p
     refine ⟨z,?_,hw⟩
     rw[o0,c0] at hz
     simpa[List.getElem?_take,p] using hz
   by_cases q:j<n0+n1
   · obtain ⟨z,hz,hw⟩:=k1 (j-n0) (by omega)
     refine ⟨z,?_,hw⟩
     rw[o1,c1] at hz
     have:j-n0<n1:=by omega
     simpa[List.getElem?_take,this,List.getElem?_drop,show n0+(j-n0)=j by omega] using hz
   · obtain ⟨z,hz,hw⟩:=k2 (j-(n0+n1)) (by omega)
     refine ⟨z,?_,hw⟩
     rw[o2,c2] at hz
     have:j-(n0+n1)<n2:=by omega
     simpa[List.getElem?_take,this,List.getElem?_drop,show n0+n1+(j-(n0+n1))=j by omega] using hz
theorem Km:uw Tryd.prog 56 4:=vV Tryd.underlying56 Kl BB BB rfl rfl rfl (by kernel_rfl) (by kernel_rfl) (by kernel_rfl) (by kernel_rfl)
def A8 (t:TypeId) (A:AV→Prop):Prop:=∀ (H:Type) (enc:TypeId×Value→H) (w:World) (r:Reach) (b0 base:Nat) (sp:Nat→Bool) (held:Bool) (v:Value) (d:DataW H) (ps:List MemPlace),ly w →
 Value.okWide Tryd.prog w r b0 t v→DataW.Trod enc Tryd.prog w base sp held t v d ps→∃ a,A a∧ai (Pw w) Mu.no a v
def zL:List (AV→Prop)→List AV→Prop
 | [],[]=>True
 | A::As,a::xs=>A a∧zL As xs
 | _,_=>False
theorem uy {A:AV→Prop} {As:List (AV→Prop)} {xs:List AV} (h:zL (A::As) xs):∃ a ys,xs=a::ys∧A a∧zL As ys:=by
 cases xs with
 | nil=>exact h.elim
 | cons a ys=>exact ⟨a,ys,rfl,h.1,h.2⟩
theorem DS {xs:List AV} (h:zL [] xs):xs=[]:=by
 cases xs with
 | nil=>rfl
 | cons a ys=>exact h.elim
def JO:List TypeId→List (AV→Prop)→Prop
 | [],[]=>True
 | t::ts,A::As=>A8 t A∧JO ts As
 | _,_=>False
theorem Bf {H:Type} {enc:TypeId×Value→H} {w:World} (hg:ly w) {r:Reach} {b0 base:Nat} {sp:Nat→Bool} {held:Bool}:∀ (ts:List TypeId) (As:List (AV→Prop)) (vs:List Value) (ds:List (DataW H)) (ps:List MemPlace),JO ts As →
 (∀ (j:Nat) t v,ts[j]?=some t→vs[j]?=some v→Value.okWide Tryd.prog w r b0 t v)→DataW.TrodAll enc Tryd.prog w base sp held ts vs ds ps→∃ xs,zL As xs∧vs.length=xs.length∧∀ j,j<xs.length→ai (Pw w) Mu.no (xs.getD j .undef) (vs.getD j undef)
 | [],[],vs,ds,ps,_,_,h=>by
   obtain ⟨rfl,rfl,rfl⟩:=trodAll_nil h
   exact ⟨[],trivial,rfl,fun j hj=>by simp at hj⟩
 | t::ts,A::As,vs,ds,ps,hT,hv,h=>by
   obtain ⟨v,vs',d,ds',p,q,rfl,rfl,rfl,h1,h2⟩:=trodAll_cons h
   obtain ⟨a,ha,hr⟩:=hT.1 H enc w r b0 base sp held v d p hg (hv 0 t v rfl rfl) h1
   obtain ⟨xs,hA,hl,hR⟩:=Bf hg ts As vs' ds' q hT.2 (fun j t' v' e1 e2=>hv (j+1) t' v' (by simpa using e1) (by simpa using e2)) h2
   refine ⟨a::xs,⟨ha,hA⟩,by simp[hl],fun j hj=>?_⟩
   cases j with
   | zero=>exact hr
   | succ j=>simpa using hR j (by simpa using hj)
 | [],_::_,_,_,_,hT,_,_=>hT.elim
 | _::_,[],_,_,_,hT,_,_=>hT.elim
theorem vz {H:Type} {enc:TypeId×Value→H} {W W':World} {base:Nat} {sp':Nat→Bool} (hl:laidOutB Tryd.prog=true):∀ (ts:List TypeId) (vs:List Value) (ds:List (DataW H)) (ps:List MemPlace),(∀ t ∈ ts,Tryd.prog.readableRec t=true∧t<Tryd.prog.types.size) →
 DataW.TrodAll enc Tryd.prog W base (fun _=>true) true ts vs ds ps→(∀ p ∈ ps,W.sameAt W' p)→(∀ p ∈ ps,sp' p.block=true)→DataW.TrodAll enc Tryd.prog W' base sp' true ts vs ds ps
 | [],vs,ds,ps,_,h,_,_=>by
   obtain ⟨rfl,rfl,rfl⟩:=trodAll_nil h
   exact trodAll_mk0
 | t::ts,vs,ds,ps,ht,h,hs,hp=>by
   obtain ⟨v,vs',d,ds',p,q,rfl,rfl,rfl,h1,h2⟩:=trodAll_cons h
   obtain ⟨r1,r2⟩:=ht t (by simp)
   refine ⟨p,q,?_,vz hl ts vs' ds' q (fun t' h'=>ht t' (List.mem_cons_of_mem _ h')) h2 (fun x hx=>hs x (List.mem_append_right _ hx)) (fun x hx=>hp x (List.mem_append_right _ hx)),rfl⟩
   exact WideElems.Trod_stays hl r1 r2 h1 (fun x hx=>hs x (List.mem_append_left _ hx)) (fun x hx=>hp x (List.mem_append_left _ hx))
theorem Ec (hN:dp Tryd.prog) (hm:Tryd.prog.follows .mixedOrders=true) (hW:aA Tryd.prog ⟨15,[],.bool true⟩) (n:Nat):bN Tryd.prog (cd n) :=
 mD hN (pw hN hm) (wu hN (pw hN hm) hW) KtG.kt 100000 n
theorem Dc {f:FuncId} {ts:List TypeId} {As:List (AV→Prop)} (hT:JO ts As) {n:Nat} (hlaw:∀ xs,zL As xs→∃ H',cd n (.fn f) xs [⟨true,[]⟩]=some (.bool true,H')) {H:Type} {enc:TypeId×Value→H} {w:World} (hg:ly w) {r:Reach} {b0 base:Nat} {sp:Nat→Bool} {held:Bool} {args:Array Value} {ds:List (DataW H)} {ps:List MemPlace}
 (hv:∀ (j:Nat) t v,ts[j]?=some t→args[j]?=some v→Value.okWide Tryd.prog w r b0 t v) (h:DataW.TrodAll enc Tryd.prog w base sp held ts args.toList ds ps) :
 Calls Tryd.prog f args w (fun e w'=>e=.returned (.bool true)∧Go.RowKit.Below w.heap.size w w'):=by
 obtain ⟨xs,hA,hl,hR⟩:=Bf hg ts As args.toList ds ps hT (fun j t v e1 e2=>hv j t v e1 (by simpa using e2)) h
 obtain ⟨H',hc⟩:=hlaw xs hA
 refine CP (Ec Gall.named Gall.mixed Gall.Nb n) hc hg ⟨by simpa using hl,fun j hj=>?_⟩
 have:=hR j hj
 have e:args.toList.getD j undef=args.getD j undef:=by
  rw[Array.getD_eq_getD_getElem?,List.getD_eq_getElem?_getD,Array.getElem?_toList]
 rwa [e] at this
theorem laidOut:laidOutB Tryd.prog=true:=by kernel_rfl
theorem sd {P:Program} {k:IntKind} {t e:TypeId} {n m:Nat} (ht:P.underlying t=some (.array n e)) (he:jR k P e m) (hm:0<m) (hc:P.cellsOf e=m) (hct:P.cellsOf t=n*m):jR k P t (n*m):=by
 intro H enc w base sp held fuel cs x h
 obtain ⟨xs,f,_,_,hl,hxl,hel⟩:=DataW.trod_array ht h
 refine ⟨by rw[hl,hct],fun j hj=>?_⟩
 have hi:j / m<n:=by rw[Nat.div_lt_iff_lt_mul hm];exact hj
 have hm':=Nat.mod_lt j hm
 have g:=hel (j / m) hi
 have:j / m<xs.length:=by omega
 rw[List.getElem?_eq_getElem this] at g
 obtain ⟨_,k1⟩:=he _ _ _ _ _ _ _ _ _ g
 obtain ⟨z,hz,hw⟩:=k1 (j % m) hm'
 refine ⟨z,?_,hw⟩
 rw[hc,List.getElem?_take,if_pos hm',List.getElem?_drop] at hz
 have hd:=Nat.div_add_mod j m
 rw[Nat.mul_comm] at hd
 rwa [hd] at hz
def Is (k:IntKind) (n:Nat) (a:AV):Prop:=∃ l:List Int,a=.agg (.I k l)∧l.length=n∧∀ x ∈ l,(Lit.int k x).wf=true
theorem Gy {t:TypeId} {k:IntKind} {n:Nat} (hs:∀ w r b v,Value.okWide Tryd.prog w r b t v→∃ cs,v=.agg cs) (hf:jR k Tryd.prog t n):A8 t (Is k n):=fun H enc w r b0 base sp held v d ps hg hv h=>by
 obtain ⟨cs,rfl⟩:=hs _ _ _ _ hv
 obtain ⟨fuel,hd⟩:=h
 obtain ⟨hl,hz⟩:=hf _ _ _ _ _ _ _ _ _ hd
 simp only[Value.cells,Array.length_toList] at hl
 have cell:∀ j (hj:j<n),∃ z:Int,cs.getD j undef=.int k z∧(Lit.int k z).wf=true:=fun j hj=>by
  obtain ⟨z,h1,h2⟩:=hz j hj
  simp only[Value.cells] at h1
  refine ⟨z,?_,h2⟩
  rw[Array.getD_eq_getD_getElem?,← Array.getElem?_toList,h1];rfl
 obtain ⟨zs,hzs⟩:∃ zs:Nat→Int,∀ j,j<n→cs.getD j undef=.int k (zs j)∧(Lit.int k (zs j)).wf=true :=
  ⟨fun j=>if h:j<n then Classical.choose (cell j h) else 0,fun j hj=>by
    have:=Classical.choose_spec (cell j hj)
    simp only[dif_pos hj];exact this⟩
 refine ⟨.agg (.I k ((List.range n).map zs)),⟨_,rfl,by simp,fun x hx=>?_⟩,.agg (by simp[Row.len,hl]) (fun j hj=>?_) (fun j hj=>?_)⟩
 · obtain ⟨j,hj,rfl⟩:=List.mem_map.1 hx
   exact (hzs j (by simpa using hj)).2
 · have hj:j<n:=by simpa[Row.len] using hj
   rw[(hzs j hj).1];rfl
 · have hj:j<n:=by simpa[Row.len] using hj
   rw[(hzs j hj).1]
   have e:(Row.I k ((List.range n).map zs)).get j=.int k (zs j):=by
    simp only[Row.get]
    rw[List.getD_eq_getElem?_getD]
    simp[hj]
   rw[e];exact .int _ _
theorem yj {t e:TypeId} {n:Nat} (ht:Tryd.prog.underlying t=some (.array n e)):∀ w r b v,Value.okWide Tryd.prog w r b t v→∃ cs,v=.agg cs:=fun w r b v h=>by
 simp only[Value.okWide,ht] at h
 obtain ⟨cs,h1,_⟩:=h
 exact ⟨cs,h1⟩
def N6 (a:AV):Prop:=∃ x y:Int,a=.agg (.I .u8 [x,y])∧(0≤x∧x≤255)∧(0≤y∧y≤255)
theorem Hz {a:AV} {k:IntKind} (h:Is k 2 a):∃ x y:Int,a=.agg (.I k [x,y])∧(Lit.int k x).wf=true∧(Lit.int k y).wf=true:=by
 obtain ⟨l,rfl,hl,hw⟩:=h
 match l,hl with
 | [x,y],_=>exact ⟨x,y,rfl,hw _ (by simp),hw _ (by simp)⟩
theorem Kn:uw Tryd.prog 61 2:=sd Tryd.underlying61 Ml (by omega) (by kernel_rfl) (by kernel_rfl)
theorem tp {t e n:Nat} (ht:Tryd.prog.underlying t=some (.slice e)) (he:uw Tryd.prog e n) (hn:0<n) (hc:Tryd.prog.cellsOf e=n) {H:Type} {enc:TypeId×Value→H} {w:World} (hg:ly w) {r:Reach} {b0 base:Nat} {sp:Nat→Bool} {held:Bool} {fuel:Nat} {v:Value} {x:DataW H×List MemPlace}
 (hv:Cell.okWide Tryd.prog w r b0 t v) (h:DataW.trod enc Tryd.prog w base sp held fuel t [v]=some x):∃ (len:Nat) (z:Nat→Int),ai (Pw w) Mu.no (slA n len z) v∧v.oneCell'=true:=by
 rcases AQ ht he hn hc hg (AR ht hv) h with rfl | ⟨zs,len,h1,h2⟩
 · exact ⟨0,fun _=>0,.slcN,rfl⟩
 · refine ⟨len,zs,?_,?_⟩
   · unfold slA
     rw[cC]
     exact Un h1
   · cases h1<;>rfl
def N5 (a:AV):Prop:=∃ (dr:Int) (lc:Nat) (zc:Nat→Int) (lb:Nat) (zb:Nat→Int),a=di dr lc zc lb zb
theorem LI:A8 25 N5:=fun H enc w r b0 base sp held v d ps hg hv h=>by
 have hts:Tryd.prog.cellTypes Tryd.prog.depth 25=some [2,22,23]:=by kernel_rfl
 have hc25:Tryd.prog.cellsOf 25=3:=by kernel_rfl
 have hc2:Tryd.prog.cellsOf 2=1:=by kernel_rfl
 have hc22:Tryd.prog.cellsOf 22=1:=by kernel_rfl
 have hc23:Tryd.prog.cellsOf 23=1:=by kernel_rfl
 have hc56:Tryd.prog.cellsOf 56=4:=by kernel_rfl
 have hc61:Tryd.prog.cellsOf 61=2:=by kernel_rfl
 simp only[Value.okWide,Tryd.underlying25] at hv
 obtain ⟨cs,rfl,hsz,ts,ht,_,hcell⟩:=hv
 rw[hts] at ht
 obtain rfl:=Option.some.inj ht
 rw[hc25] at hsz
 obtain ⟨fuel,hf⟩:=h
 obtain ⟨xs,n,_,_,_,hxl,hfield⟩:=DataW.trod_struct Tryd.underlying25 hf
 have e3:∃ c0 c1 c2,cs=#[c0,c1,c2]:=by
  refine ⟨cs[0],cs[1],cs[2],?_⟩
  apply Array.ext
  · simpa using hsz
  · intro i h1 h2
    simp at h2
    match i,h2 with
    | 0,_=>rfl
    | 1,_=>rfl
    | 2,_=>rfl
 obtain ⟨c0,c1,c2,rfl⟩:=e3
 have some_of:∀ i,i<3→∃ y,xs[i]?=some y:=fun i hi=>by
  have:i<xs.length:=by rw[hxl];simpa using hi
  exact ⟨xs[i],List.getElem?_eq_getElem this⟩
 obtain ⟨y0,hy0⟩:=some_of 0 (by omega)
 obtain ⟨y1,hy1⟩:=some_of 1 (by omega)
 obtain ⟨y2,hy2⟩:=some_of 2 (by omega)
 have f0:=hfield 0 _ rfl
 have f1:=hfield 1 _ rfl
 have f2:=hfield 2 _ rfl
 rw[hy0] at f0
 rw[hy1] at f1
 rw[hy2] at f2
 simp only[Value.cells] at f0 f1 f2
 have g0:DataW.trod enc Tryd.prog w base sp held n 2 [c0]=some y0:=by simpa[hc2] using f0
 have g1:DataW.trod enc Tryd.prog w base sp held n 22 [c1]=some y1:=by simpa[hc22] using f1
 have g2:DataW.trod enc Tryd.prog w base sp held n 23 [c2]=some y2:=by simpa[hc23] using f2
 obtain ⟨wd,e0,_,hw⟩:=DataW.trod_int Tryd.underlying2 g0
 simp only[List.cons.injEq,and_true] at e0
 subst e0
 obtain ⟨u1,hu1,k1⟩:=hcell 1 c1 rfl
 obtain ⟨u2,hu2,k2⟩:=hcell 2 c2 rfl
 simp at hu1 hu2
 subst hu1;subst hu2
 obtain ⟨lc,zc,r1,o1⟩:=tp Tryd.underlying22 Km (by omega) hc56 hg k1 g1
 obtain ⟨lb,zb,r2,o2⟩:=tp Tryd.underlying23 Kn (by omega) hc61 hg k2 g2
 refine ⟨_,⟨wd,lc,zc,lb,zb,rfl⟩,?_⟩
 refine .agg rfl (fun j hj=>?_) (fun j hj=>?_)
 · have hj':j<3:=hj
   match j,hj' with
   | 0,_=>rfl
   | 1,_=>exact o1
   | 2,_=>exact o2
 · have hj':j<3:=hj
   match j,hj' with
   | 0,_=>exact .int _ _
   | 1,_=>exact r1
   | 2,_=>exact r2
end Go.Eng
end
section
namespace Go.Eng
open Go.Proofs Go.ChangeShapes Go.WideShapes Go.ChangeAt Go.RowKit
theorem LJ:A8 67 N6:=fun H enc w r b0 base sp held v d ps hg hv h=>by
 obtain ⟨a,ha,hr⟩:=Gy (yj Tryd.underlying67) (sd Tryd.underlying67 (se Tryd.underlying5) (by omega) (by kernel_rfl) (by kernel_rfl)) H enc w r b0 base sp held v d ps hg hv h
 obtain ⟨x,y,rfl,h1,h2⟩:=Hz ha
 simp[Lit.wf,IntKind.min,IntKind.max,IntKind.signed,IntKind.bits] at h1 h2
 exact ⟨_,⟨x,y,rfl,⟨by omega,by omega⟩,by omega,by omega⟩,hr⟩
end Go.Eng
end
