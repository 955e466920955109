/- Closed calls of the seat. -/
import Derived.Test.YtoomemfhcbajoaaV3Lb47x3
import Derived.Test.YtoomemfhcbajoaaV3LaRfx7
import Derived.Test.YtoomemfhcbajoaaV3Lb22x2
import Derived.Test.YtoomemfhcbajoaaV3EngRnFx5
import Derived.Test.YtoomemfhcbajoaaRows
import Derived.Test.YtoomemfhcbajoaaChecked
import Derived.ProofKit
import Derived.OpenShut
set_option maxRecDepth 100000
set_option linter.unusedVariables false
section
namespace Go.Proofs.Ytoomemfhcbajoaa.Known
open Go.Eng Go.Proofs
noncomputable def E3:fV:=⟨50,[.int .i64 3],.agg (.G [.slcT none (.I .i64 [2,2,6,5,5,6,-1]) 1 7 true,.slcT none (.I .i64 [3,3,3,3,3,3,3]) 1 7 true])⟩
theorem SA:bw Try.prog E3:=b8 named mixed Ci eN [54,95] KtL.kt 100000 40 (H':=[⟨true,[]⟩]) (by kernel_rfl) (by kernel_rfl)
noncomputable def Mh:List fV:=E3::Mf
theorem Cj:∀ e ∈ Mh,bw Try.prog e:=cq SA Ci
noncomputable def E4:fV:=⟨21,[.agg (.G [.slcT none (.I .i64 [2,2,6,5,5,6,-1]) 1 7 true,.slcT none (.I .i64 [5,5,5,5,5,5,5]) 1 7 true])],.int .i64 0⟩
theorem SB:bw Try.prog E4:=b8 named mixed Cj eN [54,95] KtL.kt 100000 40 (H':=[⟨true,[]⟩]) (by kernel_rfl) (by kernel_rfl)
noncomputable def Mi:List fV:=E4::Mh
theorem Ck:∀ e ∈ Mi,bw Try.prog e:=cq SB Cj
end Go.Proofs.Ytoomemfhcbajoaa.Known
end
section
namespace Go.Proofs.Ytoomemfhcbajoaa.Known
open Go.Eng Go.Proofs
noncomputable def E5:fV:=⟨17,[.agg (.G [.slcT none (.I .i64 [2,2,6,5,5,6,-1]) 1 7 true,.slcT none (.I .i64 [5,5,5,5,5,5,5]) 1 7 true])],.tup [.slcT none (.I .i64 [3,3,2,3,3,2,1]) 1 7 false,.int .i64 0]⟩
theorem SC:bw Try.prog E5:=b8 named mixed Ck eN [54,95] KtL.kt 100000 40 (H':=[⟨true,[]⟩]) (by kernel_rfl) (by kernel_rfl)
noncomputable def Mj:List fV:=E5::Mi
theorem Cl:∀ e ∈ Mj,bw Try.prog e:=cq SC Ck
noncomputable def E6:fV:=⟨19,[.agg (.G [.slcT none (.I .i64 [2,2,6,5,5,6,-1]) 1 7 true,.slcT none (.I .i64 [5,5,5,5,5,5,5]) 1 7 true])],.tup [.slcT none (.I .i64 [3,3,4,3,3,4,5]) 1 7 false,.int .i64 0]⟩
theorem SD:bw Try.prog E6:=b8 named mixed Cl eN [54,95] KtL.kt 100000 40 (H':=[⟨true,[]⟩]) (by kernel_rfl) (by kernel_rfl)
noncomputable def Mk:List fV:=E6::Mj
theorem Cm:∀ e ∈ Mk,bw Try.prog e:=cq SD Cl
end Go.Proofs.Ytoomemfhcbajoaa.Known
end
section
namespace Go.Proofs.Ytoomemfhcbajoaa.Known
open Go.Eng Go.Proofs
noncomputable def E7:fV:=⟨21,[.agg (.G [.slcT none (.I .i64 [2,2,6,5,5,6,-1]) 1 7 true,.slcT none (.I .i64 [4,4,4,4,4,4,4]) 1 7 true])],.int .i64 0⟩
theorem SE:bw Try.prog E7:=b8 named mixed Cm eN [54,95] KtL.kt 100000 40 (H':=[⟨true,[]⟩]) (by kernel_rfl) (by kernel_rfl)
noncomputable def Ml:List fV:=E7::Mk
theorem Cn:∀ e ∈ Ml,bw Try.prog e:=cq SE Cm
noncomputable def E8:fV:=⟨21,[.agg (.G [.slcT none (.I .i64 [2,2,6,5,5,6,-1]) 1 7 true,.slcT none (.I .i64 [3,3,3,3,3,3,3]) 1 7 true])],.int .i64 0⟩
theorem SF:bw Try.prog E8:=b8 named mixed Cn eN [54,95] KtL.kt 100000 40 (H':=[⟨true,[]⟩]) (by kernel_rfl) (by kernel_rfl)
noncomputable def Mm:List fV:=E8::Ml
theorem Co:∀ e ∈ Mm,bw Try.prog e:=cq SF Cn
end Go.Proofs.Ytoomemfhcbajoaa.Known
end
section
namespace Go.Proofs.Ytoomemfhcbajoaa.Known
open Go.Eng Go.Proofs
noncomputable def E9:fV:=⟨32,[.agg (.G [.slcT none (.I .i64 [2,2,6,5,5,6,-1]) 1 7 true,.slcT none (.I .i64 [3,3,3,3,3,3,3]) 1 7 true]),.int .i64 2],.tup [.int .i64 1,.int .i64 0]⟩
theorem SG:bw Try.prog E9:=b8 named mixed Co eN [54,95] KtL.kt 100000 40 (H':=[⟨true,[]⟩]) (by kernel_rfl) (by kernel_rfl)
noncomputable def Mn:List fV:=E9::Mm
theorem Cp:∀ e ∈ Mn,bw Try.prog e:=cq SG Co
noncomputable def Px:fV:=⟨32,[.agg (.G [.slcT none (.I .i64 [2,2,6,5,5,6,-1]) 1 7 true,.slcT none (.I .i64 [4,4,4,4,4,4,4]) 1 7 true]),.int .i64 2],.tup [.int .i64 0,.int .i64 5]⟩
theorem Of:bw Try.prog Px:=b8 named mixed Cp eN [54,95] KtL.kt 100000 40 (H':=[⟨true,[]⟩]) (by kernel_rfl) (by kernel_rfl)
noncomputable def Iw:List fV:=Px::Mn
theorem zD:∀ e ∈ Iw,bw Try.prog e:=cq Of Cp
end Go.Proofs.Ytoomemfhcbajoaa.Known
end
section
namespace Go.Proofs.Ytoomemfhcbajoaa.Known
open Go.Eng Go.Proofs
noncomputable def Py:fV:=⟨34,[.agg (.G [.slcT none (.I .i64 [2,2,6,5,5,6,-1]) 1 7 true,.slcT none (.I .i64 [3,3,3,3,3,3,3]) 1 7 true])],.tup [.int .i64 4,.int .i64 0]⟩
theorem Og:bw Try.prog Py:=b8 named mixed zD eN [54,95] KtL.kt 100000 40 (H':=[⟨true,[]⟩]) (by kernel_rfl) (by kernel_rfl)
noncomputable def Ix:List fV:=Py::Iw
theorem zE:∀ e ∈ Ix,bw Try.prog e:=cq Og zD
noncomputable def Pz:fV:=⟨36,[.agg (.G [.slcT none (.I .i64 [2,2,6,5,5,6,-1]) 1 7 true,.slcT none (.I .i64 [5,5,5,5,5,5,5]) 1 7 true]),.int .i64 4],.tup [.int .i64 3,.int .i64 0]⟩
theorem Oh:bw Try.prog Pz:=b8 named mixed zE eN [54,95] KtL.kt 100000 40 (H':=[⟨true,[]⟩]) (by kernel_rfl) (by kernel_rfl)
noncomputable def Iy:List fV:=Pz::Ix
theorem zF:∀ e ∈ Iy,bw Try.prog e:=cq Oh zE
end Go.Proofs.Ytoomemfhcbajoaa.Known
end
section
namespace Go.Proofs.Ytoomemfhcbajoaa.Known
open Go.Eng Go.Proofs
noncomputable def PA:fV:=⟨39,[.agg (.G [.slcT none (.I .i64 [2,2,6,5,5,6,-1]) 1 7 true,.slcT none (.I .i64 [4,4,4,4,4,4,4]) 1 7 true]),.int .i64 2,.int .i64 5],.tup [.int .i64 3,.int .i64 0]⟩
theorem Oi:bw Try.prog PA:=b8 named mixed zF eN [54,95] KtL.kt 100000 40 (H':=[⟨true,[]⟩]) (by kernel_rfl) (by kernel_rfl)
noncomputable def Iz:List fV:=PA::Iy
theorem zG:∀ e ∈ Iz,bw Try.prog e:=cq Oi zF
noncomputable def PB:fV:=⟨41,[.agg (.G [.slcT none (.I .i64 [2,2,6,5,5,6,-1]) 1 7 true,.slcT none (.I .i64 [5,5,5,5,5,5,5]) 1 7 true]),.int .i64 2],.tup [.slcT none (.I .i64 [1,2,3,4,5]) 1 5 false,.int .i64 0]⟩
theorem Oj:bw Try.prog PB:=b8 named mixed zG eN [54,95] KtL.kt 100000 40 (H':=[⟨true,[]⟩]) (by kernel_rfl) (by kernel_rfl)
noncomputable def IA:List fV:=PB::Iz
theorem zH:∀ e ∈ IA,bw Try.prog e:=cq Oj zG
end Go.Proofs.Ytoomemfhcbajoaa.Known
end
section
namespace Go.Proofs.Ytoomemfhcbajoaa.Known
open Go.Eng Go.Proofs
noncomputable def PC:fV:=⟨37,[.agg (.G [.slcT none (.I .i64 [2,2,6,5,5,6,-1]) 1 7 true,.slcT none (.I .i64 [3,3,3,3,3,3,3]) 1 7 true]),.int .i64 2,.int .i64 1],.int .i64 0⟩
theorem Ol:bw Try.prog PC:=b8 named mixed zH eN [54,95] KtL.kt 100000 40 (H':=[⟨true,[]⟩]) (by kernel_rfl) (by kernel_rfl)
noncomputable def IB:List fV:=PC::IA
theorem zI:∀ e ∈ IB,bw Try.prog e:=cq Ol zH
noncomputable def PD:fV:=⟨37,[.agg (.G [.slcT none (.I .i64 [2,2,6,5,5,6,-1]) 1 7 true,.slcT none (.I .i64 [4,4,4,4,4,4,4]) 1 7 true]),.int .i64 2,.int .i64 1],.int .i64 14⟩
theorem Om:bw Try.prog PD:=b8 named mixed zI eN [54,95] KtL.kt 100000 40 (H':=[⟨true,[]⟩]) (by kernel_rfl) (by kernel_rfl)
noncomputable def IC:List fV:=PD::IB
theorem zJ:∀ e ∈ IC,bw Try.prog e:=cq Om zI
end Go.Proofs.Ytoomemfhcbajoaa.Known
end
section
namespace Go.Proofs.Ytoomemfhcbajoaa.Known
open Go.Eng Go.Proofs
noncomputable def PE:fV:=⟨34,[.agg (.G [.slcT none (.I .i64 [2,2,6,5,5,6,-1]) 1 7 true,.slcT none (.I .i64 [5,5,5,5,5,5,5]) 1 7 true])],.tup [.int .i64 2,.int .i64 0]⟩
theorem On:bw Try.prog PE:=b8 named mixed zJ eN [54,95] KtL.kt 100000 40 (H':=[⟨true,[]⟩]) (by kernel_rfl) (by kernel_rfl)
noncomputable def ID:List fV:=PE::IC
theorem zK:∀ e ∈ ID,bw Try.prog e:=cq On zJ
noncomputable def PF:fV:=⟨34,[.agg (.G [.slcT none (.I .i64 [2,2,6,5,5,6,-1]) 1 7 true,.slcT none (.I .i64 [4,4,4,4,4,4,4]) 1 7 true])],.tup [.int .i64 2,.int .i64 0]⟩
theorem Oo:bw Try.prog PF:=b8 named mixed zK eN [54,95] KtL.kt 100000 40 (H':=[⟨true,[]⟩]) (by kernel_rfl) (by kernel_rfl)
noncomputable def IE:List fV:=PF::ID
theorem zL:∀ e ∈ IE,bw Try.prog e:=cq Oo zK
end Go.Proofs.Ytoomemfhcbajoaa.Known
end
section
namespace Go.Proofs.Ytoomemfhcbajoaa.Known
open Go.Eng Go.Proofs
noncomputable def PG:fV:=⟨36,[.agg (.G [.slcT none (.I .i64 [2,2,6,5,5,6,-1]) 1 7 true,.slcT none (.I .i64 [5,5,5,5,5,5,5]) 1 7 true]),.int .i64 2],.tup [.int .i64 4,.int .i64 0]⟩
theorem Oq:bw Try.prog PG:=b8 named mixed zL eN [54,95] KtL.kt 100000 40 (H':=[⟨true,[]⟩]) (by kernel_rfl) (by kernel_rfl)
noncomputable def IF:List fV:=PG::IE
theorem zM:∀ e ∈ IF,bw Try.prog e:=cq Oq zL
noncomputable def PH:fV:=⟨36,[.agg (.G [.slcT none (.I .i64 [2,2,6,5,5,6,-1]) 1 7 true,.slcT none (.I .i64 [5,5,5,5,5,5,5]) 1 7 true]),.int .i64 3],.tup [.int .i64 4,.int .i64 0]⟩
theorem Ot:bw Try.prog PH:=b8 named mixed zM eN [54,95] KtL.kt 100000 40 (H':=[⟨true,[]⟩]) (by kernel_rfl) (by kernel_rfl)
noncomputable def IG:List fV:=PH::IF
theorem zN:∀ e ∈ IG,bw Try.prog e:=cq Ot zM
end Go.Proofs.Ytoomemfhcbajoaa.Known
end
section
namespace Go.Proofs.Ytoomemfhcbajoaa.Known
open Go.Eng Go.Proofs
noncomputable def PI:fV:=⟨39,[.agg (.G [.slcT none (.I .i64 [2,2,6,5,5,6,-1]) 1 7 true,.slcT none (.I .i64 [5,5,5,5,5,5,5]) 1 7 true]),.int .i64 2,.int .i64 5],.tup [.int .i64 2,.int .i64 0]⟩
theorem Ou:bw Try.prog PI:=b8 named mixed zN eN [54,95] KtL.kt 100000 40 (H':=[⟨true,[]⟩]) (by kernel_rfl) (by kernel_rfl)
noncomputable def IH:List fV:=PI::IG
theorem zO:∀ e ∈ IH,bw Try.prog e:=cq Ou zN
noncomputable def PJ:fV:=⟨41,[.agg (.G [.slcT none (.I .i64 [2,2,6,5,5,6,-1]) 1 7 true,.slcT none (.I .i64 [4,4,4,4,4,4,4]) 1 7 true]),.int .i64 2],.tup [.nils,.int .i64 0]⟩
theorem Ov:bw Try.prog PJ:=b8 named mixed zO eN [54,95] KtL.kt 100000 40 (H':=[⟨true,[]⟩]) (by kernel_rfl) (by kernel_rfl)
noncomputable def Mg:List fV:=PJ::IH
theorem FR:∀ e ∈ Mg,bw Try.prog e:=cq Ov zO
end Go.Proofs.Ytoomemfhcbajoaa.Known
end
section
namespace Go.Proofs.Ytoomemfhcbajoaa.Known
open Go.Eng Go.Proofs
noncomputable def EW:fV:=⟨16,[],.bool true⟩
theorem okW:bw Try.prog EW:=b8 named mixed FR eN [54,95] KtL.kt 100000 40 (H':=[⟨true,[]⟩]) (by kernel_rfl) (by kernel_rfl)
end Go.Proofs.Ytoomemfhcbajoaa.Known
end
section
namespace Go.Eng
open Go.Proofs Go.ChangeShapes Go.WideShapes Go.ChangeAt Go.RowKit
theorem P0 {p:aC} {M:Mu} {k:IntKind} {z:Nat→Int} {N sz len:Nat} {full:Bool} {v:Value} (h:ai p M (.slcT none (.F (fun j=>.int k (z j)) N) sz len full) v):ai p M (.slcT none (.M [.arr k z N]) sz len full) v:=by
 cases h with
 | slcN=>exact .slcN
 | slcT vs h0 h1 hv hl hf hx =>
   have e:∀ j,j<(Row.M [ah.arr k z N]).len→j<N:=fun j hj=>by simpa[Row.len,aw,aM] using hj
   refine .slcT vs (fun j hj=>h0 j (e j hj)) (fun j hj=>h1 j (e j hj)) (fun j hj=>?_) hl hf hx
   have:=hv j (e j hj)
   simp only[Row.get,getM,if_pos (e j hj)] at this ⊢
   exact this.bC _ _
theorem tw {P:Program} {w:World} {r:Reach} {base:Nat} {t e:TypeId} {v:Value} (ht:P.underlying t=some (.slice e)) (h:Cell.okWide P w r base t v):∀ a l c,v=.slice (some a) l c→a.spot=none:=by
 rintro a l c rfl
 simp only[Cell.okWide,ht,Cell.ok] at h
 exact h.2.2.2.1
theorem Ez:HT Try.prog 3 1:=EA Try.underlying3
def xv (t:TypeId) (A:AV→Prop):Prop:=∀ (H:Type) (enc:TypeId×Value→H) (w:World) (r:Reach) (b0 base:Nat) (sp:Nat→Bool) (hsp:∀ b,sp b=true) (held:Bool) (v:Value) (d:DataW H) (ps:List MemPlace),
 Value.okWide Try.prog w r b0 t v→DataW.Trod enc Try.prog w base sp held t v d ps→∃ a,A a∧ai (Pw w) Mu.no a v
def zY:List (AV→Prop)→List AV→Prop
 | [],[]=>True
 | A::As,a::xs=>A a∧zY As xs
 | _,_=>False
theorem pE {A:AV→Prop} {As:List (AV→Prop)} {xs:List AV} (h:zY (A::As) xs):∃ a ys,xs=a::ys∧A a∧zY As ys:=by
 cases xs with
 | nil=>exact h.elim
 | cons a ys=>exact ⟨a,ys,rfl,h.1,h.2⟩
theorem DU {xs:List AV} (h:zY [] xs):xs=[]:=by
 cases xs with
 | nil=>rfl
 | cons a ys=>exact h.elim
def IL:List TypeId→List (AV→Prop)→Prop
 | [],[]=>True
 | t::ts,A::As=>xv t A∧IL ts As
 | _,_=>False
theorem Bc {H:Type} {enc:TypeId×Value→H} {w:World} {r:Reach} {b0 base:Nat} {sp:Nat→Bool} (hsp:∀ b,sp b=true) {held:Bool}:∀ (ts:List TypeId) (As:List (AV→Prop)) (vs:List Value) (ds:List (DataW H)) (ps:List MemPlace),IL ts As →
 (∀ (j:Nat) t v,ts[j]?=some t→vs[j]?=some v→Value.okWide Try.prog w r b0 t v)→DataW.TrodAll enc Try.prog w base sp held ts vs ds ps→∃ xs,zY As xs∧vs.length=xs.length∧∀ j,j<xs.length→ai (Pw w) Mu.no (xs.getD j .undef) (vs.getD j undef)
 | [],[],vs,ds,ps,_,_,h=>by
   obtain ⟨rfl,rfl,rfl⟩:=trodAll_nil h
   exact ⟨[],trivial,rfl,fun j hj=>by simp at hj⟩
 | t::ts,A::As,vs,ds,ps,hT,hv,h=>by
   obtain ⟨v,vs',d,ds',p,q,rfl,rfl,rfl,h1,h2⟩:=trodAll_cons h
   obtain ⟨a,ha,hr⟩:=hT.1 H enc w r b0 base sp hsp held v d p (hv 0 t v rfl rfl) h1
   obtain ⟨xs,hA,hl,hR⟩:=Bc hsp ts As vs' ds' q hT.2 (fun j t' v' e1 e2=>hv (j+1) t' v' (by simpa using e1) (by simpa using e2)) h2
   refine ⟨a::xs,⟨ha,hA⟩,by simp[hl],fun j hj=>?_⟩
   cases j with
   | zero=>exact hr
   | succ j=>simpa using hR j (by simpa using hj)
 | [],_::_,_,_,_,hT,_,_=>hT.elim
 | _::_,[],_,_,_,hT,_,_=>hT.elim
theorem vF {H:Type} {enc:TypeId×Value→H} {W W':World} {base:Nat} {sp':Nat→Bool} (hl:laidOutB Try.prog=true):∀ (ts:List TypeId) (vs:List Value) (ds:List (DataW H)) (ps:List MemPlace),(∀ t ∈ ts,Try.prog.readableRec t=true∧t<Try.prog.types.size) →
 DataW.TrodAll enc Try.prog W base (fun _=>true) true ts vs ds ps→(∀ p ∈ ps,W.sameAt W' p)→(∀ p ∈ ps,sp' p.block=true)→DataW.TrodAll enc Try.prog W' base sp' true ts vs ds ps
 | [],vs,ds,ps,_,h,_,_=>by
   obtain ⟨rfl,rfl,rfl⟩:=trodAll_nil h
   exact trodAll_mk0
 | t::ts,vs,ds,ps,ht,h,hs,hp=>by
   obtain ⟨v,vs',d,ds',p,q,rfl,rfl,rfl,h1,h2⟩:=trodAll_cons h
   obtain ⟨r1,r2⟩:=ht t (by simp)
   refine ⟨p,q,?_,vF hl ts vs' ds' q (fun t' h'=>ht t' (List.mem_cons_of_mem _ h')) h2 (fun x hx=>hs x (List.mem_append_right _ hx)) (fun x hx=>hp x (List.mem_append_right _ hx)),rfl⟩
   exact WideElems.Trod_stays hl r1 r2 h1 (fun x hx=>hs x (List.mem_append_left _ hx)) (fun x hx=>hp x (List.mem_append_left _ hx))
theorem KN (hN:c7 Try.prog) (hm:Try.prog.follows .mixedOrders=true) (hW:bw Try.prog ⟨16,[],.bool true⟩) (n:Nat):cj Try.prog (cd n) :=
 pH hN (vV hN hm) (Hh hN (vV hN hm) hW) KtL.kt 100000 n
theorem C6 {f:FuncId} {ts:List TypeId} {As:List (AV→Prop)} (hT:IL ts As) {n:Nat} (hlaw:∀ xs,zY As xs→∃ H',cd n (.fn f) xs [⟨true,[]⟩]=some (.bool true,H')) {H:Type} {enc:TypeId×Value→H} {w:World} {r:Reach} {b0 base:Nat} {sp:Nat→Bool} {held:Bool} {args:Array Value} {ds:List (DataW H)} {ps:List MemPlace} (hsp:∀ b,sp b=true)
 (hv:∀ (j:Nat) t v,ts[j]?=some t→args[j]?=some v→Value.okWide Try.prog w r b0 t v) (h:DataW.TrodAll enc Try.prog w base sp held ts args.toList ds ps) :
 Calls Try.prog f args w (fun e w'=>e=.returned (.bool true)∧Go.RowKit.Below w.heap.size w w'):=by
 obtain ⟨xs,hA,hl,hR⟩:=Bc hsp ts As args.toList ds ps hT (fun j t v e1 e2=>hv j t v e1 (by simpa using e2)) h
 obtain ⟨H',hc⟩:=hlaw xs hA
 refine CG (KN Ytoomemfhcbajoaa.Known.named Ytoomemfhcbajoaa.Known.mixed Ytoomemfhcbajoaa.Known.okW n) hc ⟨by simpa using hl,fun j hj=>?_⟩
 have:=hR j hj
 have e:args.toList.getD j undef=args.getD j undef:=by
  rw[Array.getD_eq_getD_getElem?,List.getD_eq_getElem?_getD,Array.getElem?_toList]
 rwa [e] at this
theorem Gf {t:TypeId} {k:IntKind} (ht:Try.prog.underlying t=some (.int k)):xv t (fun a=>∃ n:Int,a=.int k n∧(Lit.int k n).wf=true):=fun H enc w r b0 base sp hsp held v d ps hv h=>by
 obtain ⟨fuel,hf⟩:=h
 obtain ⟨n,e,_,hw⟩:=DataW.trod_int ht hf
 obtain ⟨s,rfl⟩:=WideShapes.okWide_int ht hv
 have:s=n:=by simpa[Value.cells] using e
 subst this
 exact ⟨_,⟨s,rfl,hw⟩,.int _ _⟩
def MN (a:AV):Prop:=∃ n:Int,a=.int .u8 n∧0≤n∧n≤255
theorem Kr:xv 5 MN:=fun H enc w r b0 base sp hsp held v d ps hv h=>by
 obtain ⟨a,⟨n,rfl,hw⟩,hr⟩:=Gf Try.underlying5 H enc w r b0 base sp hsp held v d ps hv h
 simp[Lit.wf,IntKind.min,IntKind.max,IntKind.signed,IntKind.bits] at hw
 exact ⟨_,⟨n,rfl,by omega,by omega⟩,hr⟩
theorem own:ownKnob Try.prog.godebug=none:=by kernel_rfl
theorem laidOut:laidOutB Try.prog=true:=by kernel_rfl
theorem vD {t e n:Nat} (ht:Try.prog.underlying t=some (.slice e)) (he:HT Try.prog e n) (hn:0<n) (hc:Try.prog.cellsOf e=n) {H:Type} {enc:TypeId×Value→H} {w:World} {r:Reach} {b0 base:Nat} {sp:Nat→Bool} {held:Bool} {fuel:Nat} {v:Value} {x:DataW H×List MemPlace}
 (hv:Cell.okWide Try.prog w r b0 t v) (h:DataW.trod enc Try.prog w base sp held fuel t [v]=some x):∃ len z,ai (Pw w) Mu.no (MI n len z) v∧v.oneCell'=true:=by
 rcases tv ht he hn hc (tw ht hv) h with rfl | ⟨zs,len,h1,h2⟩
 · exact ⟨0,fun _=>0,.slcN,rfl⟩
 · refine ⟨len,zs,?_,?_⟩
   · unfold MI
     rw[cr]
     exact P0 h1
   · cases h1<;>rfl
def zX (a:AV):Prop:=∃ (l:Nat) (t:Nat→Int) (k:Nat) (d:Nat→Int),a=cg l t k d
theorem LN (l:Nat) (z:Nat→Int):MI 1 l z=bP l z false:=by unfold MI bP;rw[cr,Nat.mul_one]
theorem D2:xv 24 zX:=fun H enc w r b0 base sp hsp held v d ps hv h=>by
 have hts:Try.prog.cellTypes Try.prog.depth 24=some [22,22]:=by kernel_rfl
 have hc24:Try.prog.cellsOf 24=2:=by kernel_rfl
 have hc22:Try.prog.cellsOf 22=1:=by kernel_rfl
 have hc3:Try.prog.cellsOf 3=1:=by kernel_rfl
 simp only[Value.okWide,Try.underlying24] at hv
 obtain ⟨cs,rfl,hsz,ts,ht,_,hcell⟩:=hv
 rw[hts] at ht
 obtain rfl:=Option.some.inj ht
 rw[hc24] at hsz
 obtain ⟨fuel,hf⟩:=h
 obtain ⟨xs,n,_,_,_,hxl,hfield⟩:=DataW.trod_struct Try.underlying24 hf
 have e3:∃ c0 c1,cs=#[c0,c1]:=by
  refine ⟨cs[0],cs[1],?_⟩
  apply Array.ext
  · simpa using hsz
  · intro i h1 h2
    simp at h2
    match i,h2 with
    | 0,_=>rfl
    | 1,_=>rfl
 obtain ⟨c0,c1,rfl⟩:=e3
 have some_of:∀ i,i<2→∃ y,xs[i]?=some y:=fun i hi=>by
  have:i<xs.length:=by rw[hxl];simpa using hi
  exact ⟨xs[i],List.getElem?_eq_getElem this⟩
 obtain ⟨y0,hy0⟩:=some_of 0 (by omega)
 obtain ⟨y1,hy1⟩:=some_of 1 (by omega)
 have f0:=hfield 0 _ rfl
 have f1:=hfield 1 _ rfl
 rw[hy0] at f0
 rw[hy1] at f1
 simp only[Value.cells] at f0 f1
 have g0:DataW.trod enc Try.prog w base sp held n 22 [c0]=some y0:=by simpa[hc22] using f0
 have g1:DataW.trod enc Try.prog w base sp held n 22 [c1]=some y1:=by simpa[hc22] using f1
 obtain ⟨u0,hu0,k0⟩:=hcell 0 c0 rfl
 obtain ⟨u1,hu1,k1⟩:=hcell 1 c1 rfl
 simp at hu0 hu1
 subst hu0;subst hu1
 obtain ⟨l,z0,r0,o0⟩:=vD Try.underlying22 Ez (by omega) hc3 k0 g0
 obtain ⟨k,z1,r1,o1⟩:=vD Try.underlying22 Ez (by omega) hc3 k1 g1
 rw[LN] at r0 r1
 refine ⟨_,⟨l,z0,k,z1,rfl⟩,?_⟩
 refine .agg rfl (fun j hj=>?_) (fun j hj=>?_)
 · have hj':j<2:=hj
   match j,hj' with
   | 0,_=>exact o0
   | 1,_=>exact o1
 · have hj':j<2:=hj
   match j,hj' with
   | 0,_=>exact r0
   | 1,_=>exact r1
def MM (a:AV):Prop:=∃ (m:Nat) (f:Nat→Nat→Int) (g:Nat→Nat),a=fF m f g∧∀ i j,-9223372036854775808≤f i j∧f i j≤9223372036854775807
theorem DT {a:Addr} (h:a.spot=none) (i:Nat):a.add i=⟨a.block,a.off+i,none⟩:=by
 obtain ⟨b,o,s⟩:=a
 dsimp only at h
 subst h
 unfold Addr.add
 split
 · rename_i h0;subst h0;rfl
 · rfl
theorem pJ {w:World} {base:Nat} {a:Addr} {cs:List Value} (h:w.cells? base a 1=some cs):∃ c,cs=[c]∧w.cell? a=some c:=by
 unfold World.cells? at h
 split at h
 · cases hc:w.cell? (a.add 0) with
   | none=>simp[List.range_succ,hc] at h
   | some c =>
     simp[List.range_succ,hc] at h
     exact ⟨c,h.symm,hc⟩
 · cases h
theorem uG {w:World} {a:Addr} {v:Value} (h:w.cell? a=some v):a.spot=none:=by
 unfold World.cell? at h
 split at h
 · split at h
   · cases h
   · rename_i hs
     cases ha:a.spot with
     | none=>rfl
     | some x=>rw[ha] at hs;exact absurd rfl hs
 · cases h
theorem px:(-9223372036854775808:Int)≤0∧(0:Int)≤9223372036854775807:=by decide
theorem Ax {H:Type} {enc:TypeId×Value→H} {w:World} {base:Nat} {sp:Nat→Bool} (hsp:∀ b,sp b=true) {held:Bool} {fuel:Nat} {v:Value} {x:DataW H×List MemPlace} (h:DataW.trod enc Try.prog w base sp held fuel 22 [v]=some x) :
 ∃ (q:Nat) (z:Nat→Int),ai (Pw w) Mu.no (bP q z false) v∧v.oneCell'=true∧∀ j,-9223372036854775808≤z j∧z j≤9223372036854775807:=by
 have hc3:Try.prog.cellsOf 3=1:=by kernel_rfl
 rcases DataW.trod_slice Try.underlying22 h with ⟨h0,_⟩ | ⟨a,len,cap,elems,rest,m,_,hcs,_,_,hl,_,hlen,hel,hs,_⟩
 · have h0:v=.slice none 0 0:=by simpa using h0
   subst h0
   exact ⟨0,fun _=>0,.slcN,rfl,fun _=>px⟩
 · simp only[List.cons.injEq,and_true] at hcs
   subst hcs
   by_cases hz:cap=0
   · have hl0:len=0:=by omega
     subst hz;subst hl0
     exact ⟨0,fun _=>0,.slcN,rfl,fun _=>px⟩
   · have hspot:a.spot=none:=by
      by_cases h1:len=0
      · subst h1
        obtain ⟨r1,r2⟩:=hs (hsp _)
        have:=r2 0 (by omega)
        rw[hc3] at this
        have hne:rest[0]?≠none:=fun h=>by
         have:=List.getElem?_eq_none_iff.1 h;omega
        rw[← this] at hne
        cases hcl:w.cells? base (a.add ((0+0)*1)) 1 with
        | none=>rw[hcl] at hne;simp at hne
        | some cs =>
          obtain ⟨c,_,hc⟩:=pJ hcl
          exact uG hc
      · have:=hel 0 (by omega)
        rw[hc3] at this
        have hne:elems[0]?≠none:=fun h=>by
         have:=List.getElem?_eq_none_iff.1 h;omega
        rw[← this] at hne
        cases hcl:w.cells? base (a.add (0*1)) 1 with
        | none=>rw[hcl] at hne;simp at hne
        | some cs =>
          obtain ⟨c,_,hc⟩:=pJ hcl
          exact uG hc
     rcases tv Try.underlying22 Ez (by omega) hc3 (fun b l' c' e=>by injection e with e1 _ _;injection e1 with e1;rw[← e1];exact hspot) h with e | ⟨zs,len',h1,h2⟩
     · cases e
     · refine ⟨len',fun j=>if j<len'*1 then zs j else 0,?_,rfl,fun j=>?_⟩
       · unfold bP
         have h3:=P0 h1
         generalize hv:Value.slice (some a) len cap=v' at h3
         rw[Nat.mul_one] at h3
         cases h3 with
         | slcN=>exact .slcN
         | slcT vs a0 a1 hv' hl hf' hx =>
           refine .slcT vs a0 a1 (fun j hj=>?_) hl hf' hx
           have:=hv' j hj
           have hj':j<len':=by simpa[Row.len,aw,aM] using hj
           simp only[Row.get,getM,if_pos hj',Nat.mul_one] at this ⊢
           exact this.bC _ _
       · dsimp only
         split
         · have:=h2 j (by assumption)
           simp[Lit.wf,IntKind.min,IntKind.max,IntKind.signed,IntKind.bits] at this
           omega
         · exact px
theorem Kq:xv 32 MM:=fun H enc w r b0 base sp hsp held v d ps hv h=>by
 have hc22:Try.prog.cellsOf 22=1:=by kernel_rfl
 simp only[Value.okWide,Try.underlying32] at hv
 have hcell:v.cells.toList=[v]:=by
  simp only[Cell.okWide,Try.underlying32] at hv
  cases v<;>simp_all [Cell.ok]<;>rfl
 obtain ⟨fuel,hf⟩:=h
 rw[hcell] at hf
 have hspot:=tw Try.underlying32 hv
 rcases DataW.trod_slice Try.underlying32 hf with ⟨h0,_⟩ | ⟨a,len,cap,elems,rest,m,_,hcs,_,_,hl,_,hlen,hel,hs,_⟩
 · have h0:v=.slice none 0 0:=by simpa using h0
   subst h0
   exact ⟨_,⟨0,fun _ _=>0,fun _=>0,rfl,fun _ _=>px⟩,.slcN⟩
 · simp only[List.cons.injEq,and_true] at hcs
   have hsp0:=hspot a len cap hcs
   have cell:∀ j,j<len→∃ c,w.cell? ⟨a.block,a.off+j,none⟩=some c∧c.oneCell'=true∧∃ (q:Nat) (z:Nat→Int),ai (Pw w) Mu.no (bP q z false) c∧∀ j,-9223372036854775808≤z j∧z j≤9223372036854775807:=fun j hj=>by
    have:=hel j hj
    rw[hc22,Nat.mul_one,DT hsp0] at this
    have hne:elems[j]?≠none:=fun h=>by
     have:=List.getElem?_eq_none_iff.1 h;omega
    rw[← this] at hne
    cases hcl:w.cells? base ⟨a.block,a.off+j,none⟩ 1 with
    | none=>rw[hcl] at hne;simp at hne
    | some cs =>
      obtain ⟨c,rfl,hc⟩:=pJ hcl
      rw[hcl] at hne
      cases ht:DataW.trod enc Try.prog w base sp held m 22 [c] with
      | none=>simp[ht] at hne
      | some y =>
        obtain ⟨q,z,h1,h2,h3⟩:=Ax hsp ht
        exact ⟨c,hc,h2,q,z,h1,h3⟩
   obtain ⟨cs,hcs2⟩:∃ cs:Nat→Value,∀ j,j<len→w.cell? ⟨a.block,a.off+j,none⟩=some (cs j)∧(cs j).oneCell'=true∧∃ (q:Nat) (z:Nat→Int),ai (Pw w) Mu.no (bP q z false) (cs j)∧∀ j,-9223372036854775808≤z j∧z j≤9223372036854775807 :=
    ⟨fun j=>if h:j<len then Classical.choose (cell j h) else undef,fun j hj=>by
      have:=Classical.choose_spec (cell j hj)
      simp only[dif_pos hj];exact this⟩
   obtain ⟨g,hg⟩:∃ g:Nat→Nat,∀ j,j<len→∃ (z:Nat→Int),ai (Pw w) Mu.no (bP (g j) z false) (cs j)∧∀ j,-9223372036854775808≤z j∧z j≤9223372036854775807 :=
    ⟨fun j=>if h:j<len then Classical.choose (hcs2 j h).2.2 else 0,fun j hj=>by
      have:=Classical.choose_spec (hcs2 j hj).2.2
      simp only[dif_pos hj];exact this⟩
   obtain ⟨f,hf2⟩:∃ f:Nat→Nat→Int,∀ i,(i<len→ai (Pw w) Mu.no (bP (g i) (f i) false) (cs i))∧∀ j,-9223372036854775808≤f i j∧f i j≤9223372036854775807 :=
    ⟨fun i=>if h:i<len then Classical.choose (hg i h) else fun _=>0,fun i=>by
      dsimp only
      split
      · rename_i hi
        obtain ⟨z1,z2⟩:=Classical.choose_spec (hg i hi)
        exact ⟨fun _=>z1,z2⟩
      · rename_i hi
        exact ⟨fun h=>absurd h hi,fun _=>px⟩⟩
   refine ⟨_,⟨len,f,g,rfl,fun i j=>(hf2 i).2 j⟩,?_⟩
   obtain ⟨b,o,s⟩:=a
   dsimp only at hsp0
   subst hsp0
   rw[hcs]
   unfold fF
   exact .slcT (o:=o) cs (fun j hj=>(hcs2 j hj).1) (fun j hj=>(hcs2 j hj).2.1) (fun j hj=>(hf2 j).1 hj) hl (fun h=>by cases h) (.inr rfl)
end Go.Eng
end
