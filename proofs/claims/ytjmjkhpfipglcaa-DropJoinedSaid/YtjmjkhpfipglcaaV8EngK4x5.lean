/- Closed calls of the drop laws: First. -/
import Derived.Test.YtjmjkhpfipglcaaV8Xrx5
import Derived.Test.YtjmjkhpfipglcaaV8DrAx6
import Derived.Test.YtjmjkhpfipglcaaRows
import Derived.Test.YtjmjkhpfipglcaaChecked
import Derived.ProofKit
import Derived.OpenShut
section
namespace Go.Proofs.Ytjmjkhpfipglcaa.Known
open Go.Eng Go.Proofs
set_option maxRecDepth 100000
def E6:Ora:=⟨25,[bathB,.int .i64 0,.int .i64 2],.tup [.agg (.I .i64 [0,0]),.int .i64 17]⟩
theorem ok6:OneOk Try.prog E6:=one_of named mixed tab1_ok Kt.kt 100000 40 (H':=[⟨true,[]⟩]) (by kernel_rfl) (by kernel_rfl)
end Go.Proofs.Ytjmjkhpfipglcaa.Known
end
section
namespace Go.Proofs.Ytjmjkhpfipglcaa.Known
open Go.Eng Go.Proofs
set_option maxRecDepth 100000
def tabW:List Ora:=[E2,E3,E4,E5,E6,E7,E8,E9,E10,E11,E12,E13,E0,E1]
theorem tabW_ok:∀ e ∈ tabW,OneOk Try.prog e:=by
 intro e h
 simp only[tabW,List.mem_cons,List.not_mem_nil,or_false] at h
 rcases h with rfl | rfl | rfl | rfl | rfl | rfl | rfl | rfl | rfl | rfl | rfl | rfl | rfl | rfl
 · exact ok2
 · exact ok3
 · exact ok4
 · exact ok5
 · exact ok6
 · exact ok7
 · exact ok8
 · exact ok9
 · exact ok10
 · exact ok11
 · exact ok12
 · exact ok13
 · exact ok0
 · exact ok1
def E14:Ora:=⟨16,[],.bool true⟩
theorem ok14:OneOk Try.prog E14:=one_of named mixed tabW_ok Kt.kt 100000 40 (H':=[⟨true,[]⟩]) (by kernel_rfl) (by kernel_rfl)
end Go.Proofs.Ytjmjkhpfipglcaa.Known
end
section
namespace Go.Eng
open Go.Proofs Go.ChangeShapes Go.WideShapes Go.ChangeAt Go.RowKit
set_option linter.unusedVariables false
set_option maxRecDepth 100000
def ArgOk (t:TypeId) (A:AV→Prop):Prop:=∀ (H:Type) (enc:TypeId×Value→H) (w:World) (r:Reach) (b0 base:Nat) (sp:Nat→Bool) (held:Bool) (v:Value) (d:DataW H) (ps:List MemPlace),
 Value.okWide Try.prog w r b0 t v→DataW.Trod enc Try.prog w base sp held t v d ps→∃ a,A a∧VRel (Pw w) Mu.no a v
def AllA:List (AV→Prop)→List AV→Prop
 | [],[]=>True
 | A::As,a::xs=>A a∧AllA As xs
 | _,_=>False
theorem allA_cons {A:AV→Prop} {As:List (AV→Prop)} {xs:List AV} (h:AllA (A::As) xs):∃ a ys,xs=a::ys∧A a∧AllA As ys:=by
 cases xs with
 | nil=>exact h.elim
 | cons a ys=>exact ⟨a,ys,rfl,h.1,h.2⟩
theorem allA_nil {xs:List AV} (h:AllA [] xs):xs=[]:=by
 cases xs with
 | nil=>rfl
 | cons a ys=>exact h.elim
def AllT:List TypeId→List (AV→Prop)→Prop
 | [],[]=>True
 | t::ts,A::As=>ArgOk t A∧AllT ts As
 | _,_=>False
theorem args_ok {H:Type} {enc:TypeId×Value→H} {w:World} {r:Reach} {b0 base:Nat} {sp:Nat→Bool} {held:Bool}:∀ (ts:List TypeId) (As:List (AV→Prop)) (vs:List Value) (ds:List (DataW H)) (ps:List MemPlace),AllT ts As →
 (∀ (j:Nat) t v,ts[j]?=some t→vs[j]?=some v→Value.okWide Try.prog w r b0 t v)→DataW.TrodAll enc Try.prog w base sp held ts vs ds ps→∃ xs,AllA As xs∧vs.length=xs.length∧∀ j,j<xs.length→VRel (Pw w) Mu.no (xs.getD j .undef) (vs.getD j undef)
 | [],[],vs,ds,ps,_,_,h=>by
   obtain ⟨rfl,rfl,rfl⟩:=trodAll_nil h
   exact ⟨[],trivial,rfl,fun j hj=>by simp at hj⟩
 | t::ts,A::As,vs,ds,ps,hT,hv,h=>by
   obtain ⟨v,vs',d,ds',p,q,rfl,rfl,rfl,h1,h2⟩:=trodAll_cons h
   obtain ⟨a,ha,hr⟩:=hT.1 H enc w r b0 base sp held v d p (hv 0 t v rfl rfl) h1
   obtain ⟨xs,hA,hl,hR⟩:=args_ok ts As vs' ds' q hT.2 (fun j t' v' e1 e2=>hv (j+1) t' v' (by simpa using e1) (by simpa using e2)) h2
   refine ⟨a::xs,⟨ha,hA⟩,by simp[hl],fun j hj=>?_⟩
   cases j with
   | zero=>exact hr
   | succ j=>simpa using hR j (by simpa using hj)
 | [],_::_,_,_,_,hT,_,_=>hT.elim
 | _::_,[],_,_,_,hT,_,_=>hT.elim
theorem stays_all {H:Type} {enc:TypeId×Value→H} {W W':World} {base:Nat} {sp':Nat→Bool} (hl:laidOutB Try.prog=true):∀ (ts:List TypeId) (vs:List Value) (ds:List (DataW H)) (ps:List MemPlace),(∀ t ∈ ts,Try.prog.readableRec t=true∧t<Try.prog.types.size) →
 DataW.TrodAll enc Try.prog W base (fun _=>true) true ts vs ds ps→(∀ p ∈ ps,W.sameAt W' p)→(∀ p ∈ ps,sp' p.block=true)→DataW.TrodAll enc Try.prog W' base sp' true ts vs ds ps
 | [],vs,ds,ps,_,h,_,_=>by
   obtain ⟨rfl,rfl,rfl⟩:=trodAll_nil h
   exact trodAll_mk0
 | t::ts,vs,ds,ps,ht,h,hs,hp=>by
   obtain ⟨v,vs',d,ds',p,q,rfl,rfl,rfl,h1,h2⟩:=trodAll_cons h
   obtain ⟨r1,r2⟩:=ht t (by simp)
   refine ⟨p,q,?_,stays_all hl ts vs' ds' q (fun t' h'=>ht t' (List.mem_cons_of_mem _ h')) h2 (fun x hx=>hs x (List.mem_append_right _ hx)) (fun x hx=>hp x (List.mem_append_right _ hx)),rfl⟩
   exact WideElems.Trod_stays hl r1 r2 h1 (fun x hx=>hs x (List.mem_append_left _ hx)) (fun x hx=>hp x (List.mem_append_left _ hx))
theorem cd_ok (hN:Named Try.prog) (hm:Try.prog.follows .mixedOrders=true) (hW:OneOk Try.prog ⟨16,[],.bool true⟩) (n:Nat):CallOk Try.prog (cd n) :=
 callN_rel hN (drawOk hN hm) (oraS_ok _ (fun e he=>by
  simp only[List.mem_singleton] at he
  subst he
  exact hW)) Kt.kt 100000 n
theorem law_calls {f:FuncId} {ts:List TypeId} {As:List (AV→Prop)} (hT:AllT ts As) {n:Nat} (hlaw:∀ xs,AllA As xs→∃ H',cd n (.fn f) xs [⟨true,[]⟩]=some (.bool true,H')) {H:Type} {enc:TypeId×Value→H} {w:World} {r:Reach} {b0 base:Nat} {sp:Nat→Bool} {held:Bool} {args:Array Value} {ds:List (DataW H)} {ps:List MemPlace}
 (hv:∀ (j:Nat) t v,ts[j]?=some t→args[j]?=some v→Value.okWide Try.prog w r b0 t v) (h:DataW.TrodAll enc Try.prog w base sp held ts args.toList ds ps) :
 Calls Try.prog f args w (fun e w'=>e=.returned (.bool true)∧Go.RowKit.Below w.heap.size w w'):=by
 obtain ⟨xs,hA,hl,hR⟩:=args_ok ts As args.toList ds ps hT (fun j t v e1 e2=>hv j t v e1 (by simpa using e2)) h
 obtain ⟨H',hc⟩:=hlaw xs hA
 refine calls_law (cd_ok Ytjmjkhpfipglcaa.Known.named Ytjmjkhpfipglcaa.Known.mixed Ytjmjkhpfipglcaa.Known.ok14 n) hc ⟨by simpa using hl,fun j hj=>?_⟩
 have:=hR j hj
 have e:args.toList.getD j undef=args.getD j undef:=by
  rw[Array.getD_eq_getD_getElem?,List.getD_eq_getElem?_getD,Array.getElem?_toList]
 rwa [e] at this
def ABath (a:AV):Prop:=∃ w ls zs ld zd,a=bathA w ls zs ld zd
theorem argBath:ArgOk 25 ABath:=fun H enc w r b0 base sp held v d ps hv h=>by
 obtain ⟨wd,ls,zs,ld,zd,hr⟩:=bath_arg hv h
 exact ⟨_,⟨wd,ls,zs,ld,zd,rfl⟩,hr⟩
theorem own:ownKnob Try.prog.godebug=none:=by kernel_rfl
theorem laidOut:laidOutB Try.prog=true:=by kernel_rfl
end Go.Eng
end
section
namespace Go.Eng
open Go.Proofs Go.ChangeShapes Go.WideShapes Go.ChangeAt Go.RowKit
set_option linter.unusedVariables false
set_option maxRecDepth 100000
theorem flat_array {P:Program} {k:IntKind} {t e:TypeId} {n m:Nat} (ht:P.underlying t=some (.array n e)) (he:FlatK k P e m) (hm:0<m) (hc:P.cellsOf e=m) (hct:P.cellsOf t=n*m):FlatK k P t (n*m):=by
 intro H enc w base sp held fuel cs x h
 obtain ⟨xs,f,_,_,hl,hxl,hel⟩:=DataW.trod_array ht h
 refine ⟨by rw[hl,hct],fun j hj=>?_⟩
 have hi:j / m<n:=by rw[Nat.div_lt_iff_lt_mul hm];exact hj
 have hm':=Nat.mod_lt j hm
 have g:=hel (j / m) hi
 have:j / m<xs.length:=by omega
 rw[List.getElem?_eq_getElem this] at g
 obtain ⟨_,k1⟩:=he _ _ _ _ _ _ _ _ _ g
 obtain ⟨z,hz,hw⟩:=k1 (j % m) hm'
 refine ⟨z,?_,hw⟩
 rw[hc,List.getElem?_take,if_pos hm',List.getElem?_drop] at hz
 have hd:=Nat.div_add_mod j m
 rw[Nat.mul_comm] at hd
 rwa [hd] at hz
def AFlat (k:IntKind) (n:Nat) (a:AV):Prop:=∃ l:List Int,a=.agg (.I k l)∧l.length=n∧∀ x ∈ l,(Lit.int k x).wf=true
theorem argFlat {t:TypeId} {k:IntKind} {n:Nat} (hs:∀ w r b v,Value.okWide Try.prog w r b t v→∃ cs,v=.agg cs) (hf:FlatK k Try.prog t n):ArgOk t (AFlat k n):=fun H enc w r b0 base sp held v d ps hv h=>by
 obtain ⟨cs,rfl⟩:=hs _ _ _ _ hv
 obtain ⟨fuel,hd⟩:=h
 obtain ⟨hl,hz⟩:=hf _ _ _ _ _ _ _ _ _ hd
 simp only[Value.cells,Array.length_toList] at hl
 have cell:∀ j (hj:j<n),∃ z:Int,cs.getD j undef=.int k z∧(Lit.int k z).wf=true:=fun j hj=>by
  obtain ⟨z,h1,h2⟩:=hz j hj
  simp only[Value.cells] at h1
  refine ⟨z,?_,h2⟩
  rw[Array.getD_eq_getD_getElem?,← Array.getElem?_toList,h1];rfl
 obtain ⟨zs,hzs⟩:∃ zs:Nat→Int,∀ j,j<n→cs.getD j undef=.int k (zs j)∧(Lit.int k (zs j)).wf=true :=
  ⟨fun j=>if h:j<n then Classical.choose (cell j h) else 0,fun j hj=>by
    have:=Classical.choose_spec (cell j hj)
    simp only[dif_pos hj];exact this⟩
 refine ⟨.agg (.I k ((List.range n).map zs)),⟨_,rfl,by simp,fun x hx=>?_⟩,.agg (by simp[Row.len,hl]) (fun j hj=>?_) (fun j hj=>?_)⟩
 · obtain ⟨j,hj,rfl⟩:=List.mem_map.1 hx
   exact (hzs j (by simpa using hj)).2
 · have hj:j<n:=by simpa[Row.len] using hj
   rw[(hzs j hj).1];rfl
 · have hj:j<n:=by simpa[Row.len] using hj
   rw[(hzs j hj).1]
   have e:(Row.I k ((List.range n).map zs)).get j=.int k (zs j):=by
    simp only[Row.get]
    rw[List.getD_eq_getElem?_getD]
    simp[hj]
   rw[e];exact .int _ _
theorem okAgg_array {t e:TypeId} {n:Nat} (ht:Try.prog.underlying t=some (.array n e)):∀ w r b v,Value.okWide Try.prog w r b t v→∃ cs,v=.agg cs:=fun w r b v h=>by
 simp only[Value.okWide,ht] at h
 obtain ⟨cs,h1,_⟩:=h
 exact ⟨cs,h1⟩
def AP8 (a:AV):Prop:=∃ x y:Int,a=.agg (.I .u8 [x,y])∧(0≤x∧x≤255)∧(0≤y∧y≤255)
theorem pair_of {a:AV} {k:IntKind} (h:AFlat k 2 a):∃ x y:Int,a=.agg (.I k [x,y])∧(Lit.int k x).wf=true∧(Lit.int k y).wf=true:=by
 obtain ⟨l,rfl,hl,hw⟩:=h
 match l,hl with
 | [x,y],_=>exact ⟨x,y,rfl,hw _ (by simp),hw _ (by simp)⟩
theorem argP8:ArgOk 54 AP8:=fun H enc w r b0 base sp held v d ps hv h=>by
 obtain ⟨a,ha,hr⟩:=argFlat (okAgg_array Try.underlying54) (flat_array Try.underlying54 (flat_int Try.underlying5) (by omega) (by kernel_rfl) (by kernel_rfl)) H enc w r b0 base sp held v d ps hv h
 obtain ⟨x,y,rfl,h1,h2⟩:=pair_of ha
 simp[Lit.wf,IntKind.min,IntKind.max,IntKind.signed,IntKind.bits] at h1 h2
 exact ⟨_,⟨x,y,rfl,⟨by omega,by omega⟩,by omega,by omega⟩,hr⟩
end Go.Eng
end
section
namespace Go.Eng
open Go.Proofs Go.ChangeShapes Go.WideShapes Go.ChangeAt Go.RowKit
set_option linter.unusedVariables false
set_option maxRecDepth 100000
end Go.Eng
end
