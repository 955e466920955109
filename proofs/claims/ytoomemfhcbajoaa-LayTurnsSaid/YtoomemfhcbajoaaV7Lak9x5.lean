/- Closed calls of the seat. -/
import Derived.Test.YtoomemfhcbajoaaV7Lb20x11
import Derived.Test.YtoomemfhcbajoaaV7LaAx6
import Derived.Test.YtoomemfhcbajoaaV7EngArg
import Derived.Test.YtoomemfhcbajoaaRows
import Derived.Test.YtoomemfhcbajoaaChecked
import Derived.ProofKit
import Derived.OpenShut
section
namespace Go.Proofs.Ytoomemfhcbajoaa.Known
open Go.Eng Go.Proofs
set_option maxRecDepth 100000
noncomputable def E17:Ora:=⟨34,[.agg (.G [.slcT none (.I .i64 [2,2,6,5,5,6,-1]) 1 7 true,.slcT none (.I .i64 [5,5,5,5,5,5,5]) 1 7 true])],.tup [.int .i64 2,.int .i64 0]⟩
theorem ok17:OneOk Try.prog E17:=one_ofO named mixed tab16_ok rs_ok [54,95] KtL.kt 100000 40 (H':=[⟨true,[]⟩]) (by kernel_rfl) (by kernel_rfl)
noncomputable def tab17:List Ora:=E17::tab16
theorem tab17_ok:∀ e ∈ tab17,OneOk Try.prog e:=cons_ok ok17 tab16_ok
noncomputable def E18:Ora:=⟨34,[.agg (.G [.slcT none (.I .i64 [2,2,6,5,5,6,-1]) 1 7 true,.slcT none (.I .i64 [4,4,4,4,4,4,4]) 1 7 true])],.tup [.int .i64 2,.int .i64 0]⟩
theorem ok18:OneOk Try.prog E18:=one_ofO named mixed tab17_ok rs_ok [54,95] KtL.kt 100000 40 (H':=[⟨true,[]⟩]) (by kernel_rfl) (by kernel_rfl)
noncomputable def tab18:List Ora:=E18::tab17
theorem tab18_ok:∀ e ∈ tab18,OneOk Try.prog e:=cons_ok ok18 tab17_ok
end Go.Proofs.Ytoomemfhcbajoaa.Known
end
section
namespace Go.Proofs.Ytoomemfhcbajoaa.Known
open Go.Eng Go.Proofs
set_option maxRecDepth 100000
noncomputable def E19:Ora:=⟨36,[.agg (.G [.slcT none (.I .i64 [2,2,6,5,5,6,-1]) 1 7 true,.slcT none (.I .i64 [5,5,5,5,5,5,5]) 1 7 true]),.int .i64 2],.tup [.int .i64 4,.int .i64 0]⟩
theorem ok19:OneOk Try.prog E19:=one_ofO named mixed tab18_ok rs_ok [54,95] KtL.kt 100000 40 (H':=[⟨true,[]⟩]) (by kernel_rfl) (by kernel_rfl)
noncomputable def tab19:List Ora:=E19::tab18
theorem tab19_ok:∀ e ∈ tab19,OneOk Try.prog e:=cons_ok ok19 tab18_ok
noncomputable def E20:Ora:=⟨36,[.agg (.G [.slcT none (.I .i64 [2,2,6,5,5,6,-1]) 1 7 true,.slcT none (.I .i64 [5,5,5,5,5,5,5]) 1 7 true]),.int .i64 3],.tup [.int .i64 4,.int .i64 0]⟩
theorem ok20:OneOk Try.prog E20:=one_ofO named mixed tab19_ok rs_ok [54,95] KtL.kt 100000 40 (H':=[⟨true,[]⟩]) (by kernel_rfl) (by kernel_rfl)
noncomputable def tab20:List Ora:=E20::tab19
theorem tab20_ok:∀ e ∈ tab20,OneOk Try.prog e:=cons_ok ok20 tab19_ok
end Go.Proofs.Ytoomemfhcbajoaa.Known
end
section
namespace Go.Proofs.Ytoomemfhcbajoaa.Known
open Go.Eng Go.Proofs
set_option maxRecDepth 100000
noncomputable def E21:Ora:=⟨39,[.agg (.G [.slcT none (.I .i64 [2,2,6,5,5,6,-1]) 1 7 true,.slcT none (.I .i64 [5,5,5,5,5,5,5]) 1 7 true]),.int .i64 2,.int .i64 5],.tup [.int .i64 2,.int .i64 0]⟩
theorem ok21:OneOk Try.prog E21:=one_ofO named mixed tab20_ok rs_ok [54,95] KtL.kt 100000 40 (H':=[⟨true,[]⟩]) (by kernel_rfl) (by kernel_rfl)
noncomputable def tab21:List Ora:=E21::tab20
theorem tab21_ok:∀ e ∈ tab21,OneOk Try.prog e:=cons_ok ok21 tab20_ok
noncomputable def E22:Ora:=⟨41,[.agg (.G [.slcT none (.I .i64 [2,2,6,5,5,6,-1]) 1 7 true,.slcT none (.I .i64 [4,4,4,4,4,4,4]) 1 7 true]),.int .i64 2],.tup [.nils,.int .i64 0]⟩
theorem ok22:OneOk Try.prog E22:=one_ofO named mixed tab21_ok rs_ok [54,95] KtL.kt 100000 40 (H':=[⟨true,[]⟩]) (by kernel_rfl) (by kernel_rfl)
noncomputable def tab22:List Ora:=E22::tab21
theorem tab22_ok:∀ e ∈ tab22,OneOk Try.prog e:=cons_ok ok22 tab21_ok
end Go.Proofs.Ytoomemfhcbajoaa.Known
end
section
namespace Go.Proofs.Ytoomemfhcbajoaa.Known
open Go.Eng Go.Proofs
set_option maxRecDepth 100000
noncomputable def EW:Ora:=⟨16,[],.bool true⟩
theorem okW:OneOk Try.prog EW:=one_ofO named mixed tab22_ok rs_ok [54,95] KtL.kt 100000 40 (H':=[⟨true,[]⟩]) (by kernel_rfl) (by kernel_rfl)
end Go.Proofs.Ytoomemfhcbajoaa.Known
end
section
namespace Go.Eng
open Go.Proofs Go.ChangeShapes Go.WideShapes Go.ChangeAt Go.RowKit
set_option linter.unusedVariables false
set_option maxRecDepth 100000
theorem toM {p:Pst} {M:Mu} {k:IntKind} {z:Nat→Int} {N sz len:Nat} {full:Bool} {v:Value} (h:VRel p M (.slcT none (.F (fun j=>.int k (z j)) N) sz len full) v):VRel p M (.slcT none (.M [.arr k z N]) sz len full) v:=by
 cases h with
 | slcN=>exact .slcN
 | slcT vs h0 h1 hv hl hf hx =>
   have e:∀ j,j<(Row.M [Seg.arr k z N]).len→j<N:=fun j hj=>by simpa[Row.len,lenM,segLen] using hj
   refine .slcT vs (fun j hj=>h0 j (e j hj)) (fun j hj=>h1 j (e j hj)) (fun j hj=>?_) hl hf hx
   have:=hv j (e j hj)
   simp only[Row.get,getM,if_pos (e j hj)] at this ⊢
   exact this.anyInt _ _
theorem slice_spot {P:Program} {w:World} {r:Reach} {base:Nat} {t e:TypeId} {v:Value} (ht:P.underlying t=some (.slice e)) (h:Cell.okWide P w r base t v):∀ a l c,v=.slice (some a) l c→a.spot=none:=by
 rintro a l c rfl
 simp only[Cell.okWide,ht,Cell.ok] at h
 exact h.2.2.2.1
theorem flat3:FlatI Try.prog 3 1:=flat_int Try.underlying3
def ArgOk (t:TypeId) (A:AV→Prop):Prop:=∀ (H:Type) (enc:TypeId×Value→H) (w:World) (r:Reach) (b0 base:Nat) (sp:Nat→Bool) (held:Bool) (v:Value) (d:DataW H) (ps:List MemPlace),
 Value.okWide Try.prog w r b0 t v→DataW.Trod enc Try.prog w base sp held t v d ps→∃ a,A a∧VRel (Pw w) Mu.no a v
def AllA:List (AV→Prop)→List AV→Prop
 | [],[]=>True
 | A::As,a::xs=>A a∧AllA As xs
 | _,_=>False
theorem allA_cons {A:AV→Prop} {As:List (AV→Prop)} {xs:List AV} (h:AllA (A::As) xs):∃ a ys,xs=a::ys∧A a∧AllA As ys:=by
 cases xs with
 | nil=>exact h.elim
 | cons a ys=>exact ⟨a,ys,rfl,h.1,h.2⟩
theorem allA_nil {xs:List AV} (h:AllA [] xs):xs=[]:=by
 cases xs with
 | nil=>rfl
 | cons a ys=>exact h.elim
def AllT:List TypeId→List (AV→Prop)→Prop
 | [],[]=>True
 | t::ts,A::As=>ArgOk t A∧AllT ts As
 | _,_=>False
theorem args_ok {H:Type} {enc:TypeId×Value→H} {w:World} {r:Reach} {b0 base:Nat} {sp:Nat→Bool} {held:Bool}:∀ (ts:List TypeId) (As:List (AV→Prop)) (vs:List Value) (ds:List (DataW H)) (ps:List MemPlace),AllT ts As →
 (∀ (j:Nat) t v,ts[j]?=some t→vs[j]?=some v→Value.okWide Try.prog w r b0 t v)→DataW.TrodAll enc Try.prog w base sp held ts vs ds ps→∃ xs,AllA As xs∧vs.length=xs.length∧∀ j,j<xs.length→VRel (Pw w) Mu.no (xs.getD j .undef) (vs.getD j undef)
 | [],[],vs,ds,ps,_,_,h=>by
   obtain ⟨rfl,rfl,rfl⟩:=trodAll_nil h
   exact ⟨[],trivial,rfl,fun j hj=>by simp at hj⟩
 | t::ts,A::As,vs,ds,ps,hT,hv,h=>by
   obtain ⟨v,vs',d,ds',p,q,rfl,rfl,rfl,h1,h2⟩:=trodAll_cons h
   obtain ⟨a,ha,hr⟩:=hT.1 H enc w r b0 base sp held v d p (hv 0 t v rfl rfl) h1
   obtain ⟨xs,hA,hl,hR⟩:=args_ok ts As vs' ds' q hT.2 (fun j t' v' e1 e2=>hv (j+1) t' v' (by simpa using e1) (by simpa using e2)) h2
   refine ⟨a::xs,⟨ha,hA⟩,by simp[hl],fun j hj=>?_⟩
   cases j with
   | zero=>exact hr
   | succ j=>simpa using hR j (by simpa using hj)
 | [],_::_,_,_,_,hT,_,_=>hT.elim
 | _::_,[],_,_,_,hT,_,_=>hT.elim
theorem stays_all {H:Type} {enc:TypeId×Value→H} {W W':World} {base:Nat} {sp':Nat→Bool} (hl:laidOutB Try.prog=true):∀ (ts:List TypeId) (vs:List Value) (ds:List (DataW H)) (ps:List MemPlace),(∀ t ∈ ts,Try.prog.readableRec t=true∧t<Try.prog.types.size) →
 DataW.TrodAll enc Try.prog W base (fun _=>true) true ts vs ds ps→(∀ p ∈ ps,W.sameAt W' p)→(∀ p ∈ ps,sp' p.block=true)→DataW.TrodAll enc Try.prog W' base sp' true ts vs ds ps
 | [],vs,ds,ps,_,h,_,_=>by
   obtain ⟨rfl,rfl,rfl⟩:=trodAll_nil h
   exact trodAll_mk0
 | t::ts,vs,ds,ps,ht,h,hs,hp=>by
   obtain ⟨v,vs',d,ds',p,q,rfl,rfl,rfl,h1,h2⟩:=trodAll_cons h
   obtain ⟨r1,r2⟩:=ht t (by simp)
   refine ⟨p,q,?_,stays_all hl ts vs' ds' q (fun t' h'=>ht t' (List.mem_cons_of_mem _ h')) h2 (fun x hx=>hs x (List.mem_append_right _ hx)) (fun x hx=>hp x (List.mem_append_right _ hx)),rfl⟩
   exact WideElems.Trod_stays hl r1 r2 h1 (fun x hx=>hs x (List.mem_append_left _ hx)) (fun x hx=>hp x (List.mem_append_left _ hx))
theorem cd_ok (hN:Named Try.prog) (hm:Try.prog.follows .mixedOrders=true) (hW:OneOk Try.prog ⟨16,[],.bool true⟩) (n:Nat):CallOk Try.prog (cd n) :=
 callN_rel hN (drawOk hN hm) (oraD_ok hN (drawOk hN hm) hW) KtL.kt 100000 n
theorem law_calls {f:FuncId} {ts:List TypeId} {As:List (AV→Prop)} (hT:AllT ts As) {n:Nat} (hlaw:∀ xs,AllA As xs→∃ H',cd n (.fn f) xs [⟨true,[]⟩]=some (.bool true,H')) {H:Type} {enc:TypeId×Value→H} {w:World} {r:Reach} {b0 base:Nat} {sp:Nat→Bool} {held:Bool} {args:Array Value} {ds:List (DataW H)} {ps:List MemPlace}
 (hv:∀ (j:Nat) t v,ts[j]?=some t→args[j]?=some v→Value.okWide Try.prog w r b0 t v) (h:DataW.TrodAll enc Try.prog w base sp held ts args.toList ds ps) :
 Calls Try.prog f args w (fun e w'=>e=.returned (.bool true)∧Go.RowKit.Below w.heap.size w w'):=by
 obtain ⟨xs,hA,hl,hR⟩:=args_ok ts As args.toList ds ps hT (fun j t v e1 e2=>hv j t v e1 (by simpa using e2)) h
 obtain ⟨H',hc⟩:=hlaw xs hA
 refine calls_law (cd_ok Ytoomemfhcbajoaa.Known.named Ytoomemfhcbajoaa.Known.mixed Ytoomemfhcbajoaa.Known.okW n) hc ⟨by simpa using hl,fun j hj=>?_⟩
 have:=hR j hj
 have e:args.toList.getD j undef=args.getD j undef:=by
  rw[Array.getD_eq_getD_getElem?,List.getD_eq_getElem?_getD,Array.getElem?_toList]
 rwa [e] at this
theorem argIntK {t:TypeId} {k:IntKind} (ht:Try.prog.underlying t=some (.int k)):ArgOk t (fun a=>∃ n:Int,a=.int k n∧(Lit.int k n).wf=true):=fun H enc w r b0 base sp held v d ps hv h=>by
 obtain ⟨fuel,hf⟩:=h
 obtain ⟨n,e,_,hw⟩:=DataW.trod_int ht hf
 obtain ⟨s,rfl⟩:=WideShapes.okWide_int ht hv
 have:s=n:=by simpa[Value.cells] using e
 subst this
 exact ⟨_,⟨s,rfl,hw⟩,.int _ _⟩
def AU8 (a:AV):Prop:=∃ n:Int,a=.int .u8 n∧0≤n∧n≤255
theorem argU8:ArgOk 5 AU8:=fun H enc w r b0 base sp held v d ps hv h=>by
 obtain ⟨a,⟨n,rfl,hw⟩,hr⟩:=argIntK Try.underlying5 H enc w r b0 base sp held v d ps hv h
 simp[Lit.wf,IntKind.min,IntKind.max,IntKind.signed,IntKind.bits] at hw
 exact ⟨_,⟨n,rfl,by omega,by omega⟩,hr⟩
theorem own:ownKnob Try.prog.godebug=none:=by kernel_rfl
theorem laidOut:laidOutB Try.prog=true:=by kernel_rfl
theorem slice_arg {t e n:Nat} (ht:Try.prog.underlying t=some (.slice e)) (he:FlatI Try.prog e n) (hn:0<n) (hc:Try.prog.cellsOf e=n) {H:Type} {enc:TypeId×Value→H} {w:World} {r:Reach} {b0 base:Nat} {sp:Nat→Bool} {held:Bool} {fuel:Nat} {v:Value} {x:DataW H×List MemPlace}
 (hv:Cell.okWide Try.prog w r b0 t v) (h:DataW.trod enc Try.prog w base sp held fuel t [v]=some x):∃ len z,VRel (Pw w) Mu.no (slA n len z) v∧v.oneCell'=true:=by
 rcases slice_flat ht he hn hc (slice_spot ht hv) h with rfl | ⟨zs,len,h1,h2⟩
 · exact ⟨0,fun _=>0,.slcN,rfl⟩
 · refine ⟨len,zs,?_,?_⟩
   · unfold slA
     rw[mulS_eq]
     exact toM h1
   · cases h1<;>rfl
def ASheet (a:AV):Prop:=∃ (l:Nat) (t:Nat→Int) (k:Nat) (d:Nat→Int),a=shA l t k d
theorem slA_1 (l:Nat) (z:Nat→Int):slA 1 l z=sl1 l z false:=by unfold slA sl1;rw[mulS_eq,Nat.mul_one]
theorem argSheet:ArgOk 24 ASheet:=fun H enc w r b0 base sp held v d ps hv h=>by
 have hts:Try.prog.cellTypes Try.prog.depth 24=some [22,22]:=by kernel_rfl
 have hc24:Try.prog.cellsOf 24=2:=by kernel_rfl
 have hc22:Try.prog.cellsOf 22=1:=by kernel_rfl
 have hc3:Try.prog.cellsOf 3=1:=by kernel_rfl
 simp only[Value.okWide,Try.underlying24] at hv
 obtain ⟨cs,rfl,hsz,ts,ht,_,hcell⟩:=hv
 rw[hts] at ht
 obtain rfl:=Option.some.inj ht
 rw[hc24] at hsz
 obtain ⟨fuel,hf⟩:=h
 obtain ⟨xs,n,_,_,_,hxl,hfield⟩:=DataW.trod_struct Try.underlying24 hf
 have e3:∃ c0 c1,cs=#[c0,c1]:=by
  refine ⟨cs[0],cs[1],?_⟩
  apply Array.ext
  · simpa using hsz
  · intro i h1 h2
    simp at h2
    match i,h2 with
    | 0,_=>rfl
    | 1,_=>rfl
 obtain ⟨c0,c1,rfl⟩:=e3
 have some_of:∀ i,i<2→∃ y,xs[i]?=some y:=fun i hi=>by
  have:i<xs.length:=by rw[hxl];simpa using hi
  exact ⟨xs[i],List.getElem?_eq_getElem this⟩
 obtain ⟨y0,hy0⟩:=some_of 0 (by omega)
 obtain ⟨y1,hy1⟩:=some_of 1 (by omega)
 have f0:=hfield 0 _ rfl
 have f1:=hfield 1 _ rfl
 rw[hy0] at f0
 rw[hy1] at f1
 simp only[Value.cells] at f0 f1
 have g0:DataW.trod enc Try.prog w base sp held n 22 [c0]=some y0:=by simpa[hc22] using f0
 have g1:DataW.trod enc Try.prog w base sp held n 22 [c1]=some y1:=by simpa[hc22] using f1
 obtain ⟨u0,hu0,k0⟩:=hcell 0 c0 rfl
 obtain ⟨u1,hu1,k1⟩:=hcell 1 c1 rfl
 simp at hu0 hu1
 subst hu0;subst hu1
 obtain ⟨l,z0,r0,o0⟩:=slice_arg Try.underlying22 flat3 (by omega) hc3 k0 g0
 obtain ⟨k,z1,r1,o1⟩:=slice_arg Try.underlying22 flat3 (by omega) hc3 k1 g1
 rw[slA_1] at r0 r1
 refine ⟨_,⟨l,z0,k,z1,rfl⟩,?_⟩
 refine .agg rfl (fun j hj=>?_) (fun j hj=>?_)
 · have hj':j<2:=hj
   match j,hj' with
   | 0,_=>exact o0
   | 1,_=>exact o1
 · have hj':j<2:=hj
   match j,hj' with
   | 0,_=>exact r0
   | 1,_=>exact r1
end Go.Eng
end
