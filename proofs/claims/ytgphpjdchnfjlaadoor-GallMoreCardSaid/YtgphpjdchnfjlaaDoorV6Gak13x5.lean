/- Gall: closed calls. -/
import Derived.Test.YtgphpjdchnfjlaaDoorV6Gdhx15
import Derived.Test.YtgphpjdchnfjlaaDoorV6GaKx6
import Derived.Test.YtgphpjdchnfjlaaDoorV6Gp2x6
import Derived.OpenShut
set_option maxRecDepth 100000
set_option linter.unusedVariables false
section
namespace Go.Eng.Gall
open Go.Proofs
noncomputable def TP:cG:=⟨32,[gA jZ [3,1],.int .i64 0,.int .i64 2],.tup [.bool false,.int .i64 0]⟩
theorem Se:aD Tryd.prog TP:=a6 Aq (H':=[⟨true,[]⟩]) (by kernel_rfl) (by kernel_rfl)
noncomputable def Lc:List cG:=TP::Lb
theorem Hp:∀ e ∈ Lc,aD Tryd.prog e:=aZ Se Aq
noncomputable def TQ:cG:=⟨73,[.ptrT none (gR ES [3,1] [0,1,0,1,2,3,0,1,0,0,0,0,0,0,0,0,0,0,0,0] [0,8,0,0,0,0,0,0,0,0]) 0],.int .i64 0⟩
theorem Sf:aD Tryd.prog TQ:=GI (O:=10) (U:=4) (zl:=[100,110,90,110,90,95,75,100,120,125,80,110,80,80,70,200]) (V:=1) (bl:=[3,1]) (f1:=true) (f2:=true) (Wl:=[0,1,0,1,2,3,0,1,0,0,0,0,0,0,0,0,0,0,0,0]) (Bl:=[0,8,0,0,0,0,0,0,0,0]) (v:=0) rfl (by decide) rfl rfl rfl rfl (by kernel_rfl)
noncomputable def Ld:List cG:=TQ::Lc
theorem Ar:∀ e ∈ Ld,aD Tryd.prog e:=aZ Sf Hp
noncomputable def TR:cG:=⟨34,[gA ES [3,1]],.tup [.int .i64 0,.int .i64 0]⟩
theorem Sg:aD Tryd.prog TR:=a6 Ar (H':=[⟨true,[]⟩]) (by kernel_rfl) (by kernel_rfl)
noncomputable def Le:List cG:=TR::Ld
theorem Au:∀ e ∈ Le,aD Tryd.prog e:=aZ Sg Ar
noncomputable def TS:cG:=⟨25,[gA jZ [3,1]],.tup [.agg (.G [.int .i64 0,.int .i64 0,.nils]),.int .i64 5]⟩
theorem Sh:aD Tryd.prog TS:=a6 Au (H':=[⟨true,[]⟩]) (by kernel_rfl) (by kernel_rfl)
noncomputable def Lf:List cG:=TS::Le
theorem Aw:∀ e ∈ Lf,aD Tryd.prog e:=aZ Sh Au
end Go.Eng.Gall
end
section
namespace Go.Eng.Gall
open Go.Proofs
noncomputable def TT:cG:=⟨30,[gA ES [3,1],.int .i64 0],.tup [.nils,.int .i64 13]⟩
theorem Si:aD Tryd.prog TT:=a6 Aw (H':=[⟨true,[]⟩]) (by kernel_rfl) (by kernel_rfl)
noncomputable def PE:List cG:=TT::Lf
theorem Hq:∀ e ∈ PE,aD Tryd.prog e:=aZ Si Aw
end Go.Eng.Gall
end
section
namespace Go.Eng.Gall
open Go.Proofs
noncomputable def EW:cG:=⟨15,[],.bool true⟩
theorem O1:aD Tryd.prog EW:=a6 Hq (H':=[⟨true,[]⟩]) (by kernel_rfl) (by kernel_rfl)
end Go.Eng.Gall
end
section
namespace Go.Eng
open Go.Proofs Go.ChangeShapes Go.WideShapes Go.ChangeAt Go.RowKit
theorem WX {p:aH} {M:Mu} {k:IntKind} {z:Nat→Int} {N sz len:Nat} {full:Bool} {v:Value} (h:al p M (.slcT none (.F (fun j=>.int k (z j)) N) sz len full) v):al p M (.slcT none (.M [.arr k z N]) sz len full) v:=by
 cases h with
 | slcN=>exact .slcN
 | slcT vs h0 h1 hv hl hf hx =>
   have e:∀ j,j<(Row.M [dh.arr k z N]).len→j<N:=fun j hj=>by simpa[Row.len,aB,aQ] using hj
   refine .slcT vs (fun j hj=>h0 j (e j hj)) (fun j hj=>h1 j (e j hj)) (fun j hj=>?_) hl hf hx;have:=hv j (e j hj);simp only[Row.get,getM,if_pos (e j hj)] at this ⊢;exact this.bw _ _
theorem BK {P:Program} {w:World} {r:Reach} {base:Nat} {t e:TypeId} {v:Value} (ht:P.underlying t=some (.slice e)) (h:Cell.okWide P w r base t v):∀ a l c,v=.slice (some a) l c→a.spot=none:=by
 rintro a l c rfl;simp only[Cell.okWide,ht,Cell.ok] at h;exact h.2.2.2.1
theorem Cu:vm Tryd.prog 2 1:=sL Tryd.underlying2
theorem Od:vm Tryd.prog 3 1:=sL Tryd.underlying3
theorem LV:vm Tryd.prog 29 2:=wH Tryd.underlying29 Cu Cu rfl rfl (by kernel_rfl) (by kernel_rfl) (by kernel_rfl)
theorem wI {P:Program} {k:IntKind} {t:TypeId} {f0 f1 f2:Field} {n0 n1 n2:Nat} (ht:P.underlying t=some (.struct #[f0,f1,f2])) (h0:kf k P f0.type n0) (h1:kf k P f1.type n1) (h2:kf k P f2.type n2) (o0:f0.offset=0) (o1:f1.offset=n0) (o2:f2.offset=n0+n1) (c0:P.cellsOf f0.type=n0) (c1:P.cellsOf f1.type=n1) (c2:P.cellsOf f2.type=n2) (c:P.cellsOf t=n0+n1+n2):kf k P t (n0+n1+n2):=by
 intro H enc w base sp held fuel cs x h;obtain ⟨xs,m,_,_,hl,hxl,hf⟩:=DataW.trod_struct ht h;match xs,hxl,hf with
 | [y0,y1,y2],_,hf =>
   have g0:=hf 0 f0 rfl;have g1:=hf 1 f1 rfl;have g2:=hf 2 f2 rfl;obtain ⟨_,k0⟩:=h0 _ _ _ _ _ _ _ _ _ g0;obtain ⟨_,k1⟩:=h1 _ _ _ _ _ _ _ _ _ g1;obtain ⟨_,k2⟩:=h2 _ _ _ _ _ _ _ _ _ g2;refine ⟨by rw[hl,c],fun j hj=>?_⟩;by_cases p:j<n0
   · obtain ⟨z,hz,hw⟩:=k0 j p;refine ⟨z,?_,hw⟩;rw[o0,c0] at hz;simpa[List.getElem?_take,p] using hz
   by_cases q:j<n0+n1
   · obtain ⟨z,hz,hw⟩:=k1 (j-n0) wO;refine ⟨z,?_,hw⟩;rw[o1,c1] at hz;have:j-n0<n1:=by omega
     simpa[List.getElem?_take,this,List.getElem?_drop,show n0+(j-n0)=j by omega] using hz
   · obtain ⟨z,hz,hw⟩:=k2 (j-(n0+n1)) wO;refine ⟨z,?_,hw⟩;rw[o2,c2] at hz;have:j-(n0+n1)<n2:=by omega
     simpa[List.getElem?_take,this,List.getElem?_drop,show n0+n1+(j-(n0+n1))=j by omega] using hz
theorem LW:vm Tryd.prog 56 4:=wI Tryd.underlying56 LV Cu Cu rfl rfl rfl (by kernel_rfl) (by kernel_rfl) (by kernel_rfl) (by kernel_rfl)
def sf (t:TypeId) (A:AV→Prop):Prop:=∀ (H:Type) (enc:TypeId×Value→H) (w:World) (r:Reach) (b0 base:Nat) (sp:Nat→Bool) (held:Bool) (v:Value) (d:DataW H) (ps:List MemPlace),l9 w →
 Value.okWide Tryd.prog w r b0 t v→DataW.Trod enc Tryd.prog w base sp held t v d ps→∃ a,A a∧al (Pw w) Mu.no a v
def AF:List (AV→Prop)→List AV→Prop
 | [],[]=>True
 | A::As,a::xs=>A a∧AF As xs
 | _,_=>False
theorem mZ {A:AV→Prop} {As:List (AV→Prop)} {xs:List AV} (h:AF (A::As) xs):∃ a ys,xs=a::ys∧A a∧AF As ys:=by
 cases xs with
 | nil=>exact h.elim
 | cons a ys=>exact ⟨a,ys,rfl,h.1,h.2⟩
theorem EZ {xs:List AV} (h:AF [] xs):xs=[]:=by
 cases xs with
 | nil=>rfl
 | cons a ys=>exact h.elim
def Li:List TypeId→List (AV→Prop)→Prop
 | [],[]=>True
 | t::ts,A::As=>sf t A∧Li ts As
 | _,_=>False
theorem Ca {H:Type} {enc:TypeId×Value→H} {w:World} (hg:l9 w) {r:Reach} {b0 base:Nat} {sp:Nat→Bool} {held:Bool}:∀ (ts:List TypeId) (As:List (AV→Prop)) (vs:List Value) (ds:List (DataW H)) (ps:List MemPlace),Li ts As →
 (∀ (j:Nat) t v,ts[j]?=some t→vs[j]?=some v→Value.okWide Tryd.prog w r b0 t v)→DataW.TrodAll enc Tryd.prog w base sp held ts vs ds ps→∃ xs,AF As xs∧vs.length=xs.length∧∀ j,j<xs.length→al (Pw w) Mu.no (xs.getD j .undef) (vs.getD j undef)
 | [],[],vs,ds,ps,_,_,h=>by
   obtain ⟨rfl,rfl,rfl⟩:=trodAll_nil h;exact ⟨[],trivial,rfl,fun j hj=>by simp at hj⟩
 | t::ts,A::As,vs,ds,ps,hT,hv,h=>by
   obtain ⟨v,vs',d,ds',p,q,rfl,rfl,rfl,h1,h2⟩:=trodAll_cons h;obtain ⟨a,ha,hr⟩:=hT.1 H enc w r b0 base sp held v d p hg (hv 0 t v rfl rfl) h1;obtain ⟨xs,hA,hl,hR⟩:=Ca hg ts As vs' ds' q hT.2 (fun j t' v' e1 e2=>hv (j+1) t' v' (by simpa using e1) (by simpa using e2)) h2;refine ⟨a::xs,⟨ha,hA⟩,by simp[hl],fun j hj=>?_⟩;cases j with
   | zero=>exact hr
   | succ j=>simpa using hR j (by simpa using hj)
 | [],_::_,_,_,_,hT,_,_=>hT.elim
 | _::_,[],_,_,_,hT,_,_=>hT.elim
theorem wi {H:Type} {enc:TypeId×Value→H} {W W':World} {base:Nat} {sp':Nat→Bool} (hl:laidOutB Tryd.prog=true):∀ (ts:List TypeId) (vs:List Value) (ds:List (DataW H)) (ps:List MemPlace),(∀ t ∈ ts,Tryd.prog.readableRec t=true∧t<Tryd.prog.types.size) →
 DataW.TrodAll enc Tryd.prog W base (fun _=>true) true ts vs ds ps→(∀ p ∈ ps,W.sameAt W' p)→(∀ p ∈ ps,sp' p.block=true)→DataW.TrodAll enc Tryd.prog W' base sp' true ts vs ds ps
 | [],vs,ds,ps,_,h,_,_=>by
   obtain ⟨rfl,rfl,rfl⟩:=trodAll_nil h;exact trodAll_mk0
 | t::ts,vs,ds,ps,ht,h,hs,hp=>by
   obtain ⟨v,vs',d,ds',p,q,rfl,rfl,rfl,h1,h2⟩:=trodAll_cons h;obtain ⟨r1,r2⟩:=ht t (by simp);refine ⟨p,q,?_,wi hl ts vs' ds' q (fun t' h'=>ht t' (List.mem_cons_of_mem _ h')) h2 (fun x hx=>hs x (List.mem_append_right _ hx)) (fun x hx=>hp x (List.mem_append_right _ hx)),rfl⟩;exact WideElems.Trod_stays hl r1 r2 h1 (fun x hx=>hs x (List.mem_append_left _ hx)) (fun x hx=>hp x (List.mem_append_left _ hx))
theorem Fu (hN:dG Tryd.prog) (hm:Tryd.prog.follows .mixedOrders=true) (hW:aD Tryd.prog ⟨15,[],.bool true⟩) (n:Nat):cj Tryd.prog (cd n) :=
 m7 hN (qa hN hm) (xh hN (qa hN hm) hW) KtG.kt 100000 n
theorem Ee {f:FuncId} {ts:List TypeId} {As:List (AV→Prop)} (hT:Li ts As) {n:Nat} (hlaw:∀ xs,AF As xs→∃ H',cd n (.fn f) xs [⟨true,[]⟩]=some (.bool true,H')) {H:Type} {enc:TypeId×Value→H} {w:World} (hg:l9 w) {r:Reach} {b0 base:Nat} {sp:Nat→Bool} {held:Bool} {args:Array Value} {ds:List (DataW H)} {ps:List MemPlace}
 (hv:∀ (j:Nat) t v,ts[j]?=some t→args[j]?=some v→Value.okWide Tryd.prog w r b0 t v) (h:DataW.TrodAll enc Tryd.prog w base sp held ts args.toList ds ps) :
 Calls Tryd.prog f args w (fun e w'=>e=.returned (.bool true)∧Go.RowKit.Below w.heap.size w w'):=by
 obtain ⟨xs,hA,hl,hR⟩:=Ca hg ts As args.toList ds ps hT (fun j t v e1 e2=>hv j t v e1 (by simpa using e2)) h
 obtain ⟨H',hc⟩:=hlaw xs hA
 refine DS (Fu Gall.named Gall.mixed Gall.O1 n) hc hg ⟨by simpa using hl,fun j hj=>?_⟩
 have:=hR j hj
 have e:args.toList.getD j undef=args.getD j undef:=by
  rw[Array.getD_eq_getD_getElem?,List.getD_eq_getElem?_getD,Array.getElem?_toList]
 rwa [e] at this
theorem H5 {t:TypeId} {k:IntKind} (ht:Tryd.prog.underlying t=some (.int k)):sf t (fun a=>∃ n:Int,a=.int k n∧(Lit.int k n).wf=true):=fun H enc w r b0 base sp held v d ps hg hv h=>by
 obtain ⟨fuel,hf⟩:=h;obtain ⟨n,e,_,hw⟩:=DataW.trod_int ht hf;obtain ⟨s,rfl⟩:=WideShapes.okWide_int ht hv;have:s=n:=by simpa[Value.cells] using e
 subst this;exact ⟨_,⟨s,rfl,hw⟩,.int _ _⟩
def P7 (a:AV):Prop:=∃ n:Int,a=.int .u8 n∧0≤n∧n≤255
theorem Nz:sf 5 P7:=fun H enc w r b0 base sp held v d ps hg hv h=>by
 obtain ⟨a,⟨n,rfl,hw⟩,hr⟩:=H5 Tryd.underlying5 H enc w r b0 base sp held v d ps hg hv h;simp[Lit.wf,IntKind.min,IntKind.max,IntKind.signed,IntKind.bits] at hw;exact ⟨_,⟨n,rfl,by omega,by omega⟩,hr⟩
theorem laidOut:laidOutB Tryd.prog=true:=by kernel_rfl
theorem sK {P:Program} {k:IntKind} {t e:TypeId} {n m:Nat} (ht:P.underlying t=some (.array n e)) (he:kf k P e m) (hm:0<m) (hc:P.cellsOf e=m) (hct:P.cellsOf t=n*m):kf k P t (n*m):=by
 intro H enc w base sp held fuel cs x h;obtain ⟨xs,f,_,_,hl,hxl,hel⟩:=DataW.trod_array ht h;refine ⟨by rw[hl,hct],fun j hj=>?_⟩;have hi:j / m<n:=by rw[Nat.div_lt_iff_lt_mul hm];exact hj
 have hm':=Nat.mod_lt j hm;have g:=hel (j / m) hi;have:j / m<xs.length:=by omega
 rw[List.getElem?_eq_getElem this] at g;obtain ⟨_,k1⟩:=he _ _ _ _ _ _ _ _ _ g;obtain ⟨z,hz,hw⟩:=k1 (j % m) hm';refine ⟨z,?_,hw⟩;rw[hc,List.getElem?_take,if_pos hm',List.getElem?_drop] at hz;have hd:=Nat.div_add_mod j m;rw[Nat.mul_comm] at hd;rwa [hd] at hz
def JS (k:IntKind) (n:Nat) (a:AV):Prop:=∃ l:List Int,a=.agg (.I k l)∧l.length=n∧∀ x ∈ l,(Lit.int k x).wf=true
theorem B9 {t:TypeId} {k:IntKind} {n:Nat} (hs:∀ w r b v,Value.okWide Tryd.prog w r b t v→∃ cs,v=.agg cs) (hf:kf k Tryd.prog t n):sf t (JS k n):=fun H enc w r b0 base sp held v d ps hg hv h=>by
 obtain ⟨cs,rfl⟩:=hs _ _ _ _ hv;obtain ⟨fuel,hd⟩:=h;obtain ⟨hl,hz⟩:=hf _ _ _ _ _ _ _ _ _ hd;simp only[Value.cells,Array.length_toList] at hl;have cell:∀ j (hj:j<n),∃ z:Int,cs.getD j undef=.int k z∧(Lit.int k z).wf=true:=fun j hj=>by
  obtain ⟨z,h1,h2⟩:=hz j hj;simp only[Value.cells] at h1;refine ⟨z,?_,h2⟩;rw[Array.getD_eq_getD_getElem?,← Array.getElem?_toList,h1];rfl
 obtain ⟨zs,hzs⟩:∃ zs:Nat→Int,∀ j,j<n→cs.getD j undef=.int k (zs j)∧(Lit.int k (zs j)).wf=true :=
  ⟨fun j=>if h:j<n then Classical.choose (cell j h) else 0,fun j hj=>by
    have:=Classical.choose_spec (cell j hj);simp only[dif_pos hj];exact this⟩
 refine ⟨.agg (.I k ((List.range n).map zs)),⟨_,rfl,by simp,fun x hx=>?_⟩,.agg (by simp[Row.len,hl]) (fun j hj=>?_) (fun j hj=>?_)⟩
 · obtain ⟨j,hj,rfl⟩:=List.mem_map.1 hx;exact (hzs j (by simpa using hj)).2
 · have hj:j<n:=by simpa[Row.len] using hj
   rw[(hzs j hj).1];rfl
 · have hj:j<n:=by simpa[Row.len] using hj
   rw[(hzs j hj).1];have e:(Row.I k ((List.range n).map zs)).get j=.int k (zs j):=by
    simp only[Row.get];rw[List.getD_eq_getElem?_getD];simp[hj]
   rw[e];exact .int _ _
theorem re {t e:TypeId} {n:Nat} (ht:Tryd.prog.underlying t=some (.array n e)):∀ w r b v,Value.okWide Tryd.prog w r b t v→∃ cs,v=.agg cs:=fun w r b v h=>by
 simp only[Value.okWide,ht] at h;obtain ⟨cs,h1,_⟩:=h;exact ⟨cs,h1⟩
theorem Je {a:AV} {k:IntKind} (h:JS k 2 a):∃ x y:Int,a=.agg (.I k [x,y])∧(Lit.int k x).wf=true∧(Lit.int k y).wf=true:=by
 obtain ⟨l,rfl,hl,hw⟩:=h;match l,hl with
 | [x,y],_=>exact ⟨x,y,rfl,hw _ (by simp),hw _ (by simp)⟩
theorem FP:vm Tryd.prog 61 2:=sK Tryd.underlying61 Od wO (by kernel_rfl) (by kernel_rfl)
theorem uu {t e n:Nat} (ht:Tryd.prog.underlying t=some (.slice e)) (he:vm Tryd.prog e n) (hn:0<n) (hc:Tryd.prog.cellsOf e=n) {H:Type} {enc:TypeId×Value→H} {w:World} (hg:l9 w) {r:Reach} {b0 base:Nat} {sp:Nat→Bool} {held:Bool} {fuel:Nat} {v:Value} {x:DataW H×List MemPlace}
 (hv:Cell.okWide Tryd.prog w r b0 t v) (h:DataW.trod enc Tryd.prog w base sp held fuel t [v]=some x):∃ (len:Nat) (z:Nat→Int),al (Pw w) Mu.no (slA n len z) v∧v.oneCell'=true:=by
 rcases BJ ht he hn hc hg (BK ht hv) h with rfl | ⟨zs,len,h1,h2⟩
 · exact ⟨0,fun _=>0,.slcN,rfl⟩
 · refine ⟨len,zs,?_,?_⟩
   · unfold slA
     rw[cQ]
     exact WX h1
   · cases h1<;>rfl
def P5 (a:AV):Prop:=∃ (O:Int) (U:Nat) (Z:Nat→Int) (V:Nat) (J:Nat→Int),a=bX O U Z V J
theorem Nx:sf 25 P5:=fun H enc w r b0 base sp held v d ps hg hv h=>by
 have hts:Tryd.prog.cellTypes Tryd.prog.depth 25=some [2,22,23]:=by kernel_rfl
 have hc25:Tryd.prog.cellsOf 25=3:=by kernel_rfl
 have hc2:Tryd.prog.cellsOf 2=1:=by kernel_rfl
 have hc22:Tryd.prog.cellsOf 22=1:=by kernel_rfl
 have hc23:Tryd.prog.cellsOf 23=1:=by kernel_rfl
 have hc56:Tryd.prog.cellsOf 56=4:=by kernel_rfl
 have hc61:Tryd.prog.cellsOf 61=2:=by kernel_rfl
 simp only[Value.okWide,Tryd.underlying25] at hv;obtain ⟨cs,rfl,hsz,ts,ht,_,hcell⟩:=hv;rw[hts] at ht;obtain rfl:=Option.some.inj ht;rw[hc25] at hsz;obtain ⟨fuel,hf⟩:=h;obtain ⟨xs,n,_,_,_,hxl,hfield⟩:=DataW.trod_struct Tryd.underlying25 hf;have e3:∃ c0 c1 c2,cs=#[c0,c1,c2]:=by
  refine ⟨cs[0],cs[1],cs[2],?_⟩;apply Array.ext
  · simpa using hsz
  · intro i h1 h2;simp at h2;match i,h2 with
    | 0,_=>rfl
    | 1,_=>rfl
    | 2,_=>rfl
 obtain ⟨c0,c1,c2,rfl⟩:=e3;have some_of:∀ i,i<3→∃ y,xs[i]?=some y:=fun i hi=>by
  have:i<xs.length:=by rw[hxl];simpa using hi
  exact ⟨xs[i],List.getElem?_eq_getElem this⟩
 obtain ⟨y0,hy0⟩:=some_of 0 wO;obtain ⟨y1,hy1⟩:=some_of 1 wO;obtain ⟨y2,hy2⟩:=some_of 2 wO;have f0:=hfield 0 _ rfl;have f1:=hfield 1 _ rfl;have f2:=hfield 2 _ rfl;rw[hy0] at f0;rw[hy1] at f1;rw[hy2] at f2;simp only[Value.cells] at f0 f1 f2;have g0:DataW.trod enc Tryd.prog w base sp held n 2 [c0]=some y0:=by simpa[hc2] using f0
 have g1:DataW.trod enc Tryd.prog w base sp held n 22 [c1]=some y1:=by simpa[hc22] using f1
 have g2:DataW.trod enc Tryd.prog w base sp held n 23 [c2]=some y2:=by simpa[hc23] using f2
 obtain ⟨wd,e0,_,hw⟩:=DataW.trod_int Tryd.underlying2 g0;simp only[List.cons.injEq,and_true] at e0;subst e0;obtain ⟨u1,hu1,k1⟩:=hcell 1 c1 rfl;obtain ⟨u2,hu2,k2⟩:=hcell 2 c2 rfl;simp at hu1 hu2;subst hu1;subst hu2;obtain ⟨U,Z,r1,o1⟩:=uu Tryd.underlying22 LW wO hc56 hg k1 g1;obtain ⟨V,J,r2,o2⟩:=uu Tryd.underlying23 FP wO hc61 hg k2 g2;refine ⟨_,⟨wd,U,Z,V,J,rfl⟩,?_⟩;refine .agg rfl (fun j hj=>?_) (fun j hj=>?_)
 · have hj':j<3:=hj;match j,hj' with
   | 0,_=>rfl
   | 1,_=>exact o1
   | 2,_=>exact o2
 · have hj':j<3:=hj;match j,hj' with
   | 0,_=>exact .int _ _
   | 1,_=>exact r1
   | 2,_=>exact r2
end Go.Eng
end
section
namespace Go.Eng
open Go.Proofs Go.ChangeShapes Go.WideShapes Go.ChangeAt Go.RowKit
def P6 (a:AV):Prop:=∃ x y:Int,a=.agg (.I .i64 [x,y])
theorem Ny:sf 61 P6:=fun H enc w r b0 base sp held v d ps hg hv h=>by
 obtain ⟨a,ha,hr⟩:=B9 (re Tryd.underlying61) FP H enc w r b0 base sp held v d ps hg hv h;obtain ⟨x,y,rfl,h1,h2⟩:=Je ha;exact ⟨_,⟨x,y,rfl⟩,hr⟩
def Lh (a:AV):Prop:=∃ x y z u:Int,a=.agg (.I .u16 [x,y,z,u])∧(0≤x∧x≤65535)∧(0≤y∧y≤65535)∧(0≤z∧z≤65535)∧(0≤u∧u≤65535)
theorem Lt:sf 62 Lh:=fun H enc w r b0 base sp held v d ps hg hv h=>by
 obtain ⟨a,⟨l,rfl,hl,hw⟩,hr⟩:=B9 (re Tryd.underlying62) (sK Tryd.underlying62 (sL Tryd.underlying57) wO (by kernel_rfl) (by kernel_rfl)) H enc w r b0 base sp held v d ps hg hv h;match l,hl with
 | [x,y,z,u],_ =>
   have h1:=hw x (by simp);have h2:=hw y (by simp);have h3:=hw z (by simp);have h4:=hw u (by simp);simp[Lit.wf,IntKind.min,IntKind.max,IntKind.signed,IntKind.bits] at h1 h2 h3 h4;exact ⟨_,⟨x,y,z,u,rfl,⟨by omega,by omega⟩,⟨by omega,by omega⟩,⟨by omega,by omega⟩,by omega,by omega⟩,hr⟩
end Go.Eng
end
