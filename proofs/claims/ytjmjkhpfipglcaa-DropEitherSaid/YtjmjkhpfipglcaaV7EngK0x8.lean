/- Closed calls of the drop laws: the baths of the examples and their tables. -/
import Derived.Test.YtjmjkhpfipglcaaV7EngXx4
import Derived.Test.YtjmjkhpfipglcaaV7EngThx6
import Derived.Test.YtjmjkhpfipglcaaProg
import Derived.KernelRfl
import Derived.Test.YtjmjkhpfipglcaaChecked
import Derived.Test.YtjmjkhpfipglcaaV7Xdx4
import Derived.Test.YtjmjkhpfipglcaaV7DrAx4
import Derived.Test.YtjmjkhpfipglcaaRows
import Derived.ProofKit
import Derived.OpenShut
section
namespace Go.Proofs.Ytjmjkhpfipglcaa.Known
open Go.Eng Go.Proofs
set_option maxRecDepth 100000
theorem named:jc Try.prog:=by
 have h:(Try.prog.funcs.toList.all fun fn=>fn.body.isNone || !(fn.name == "runtime.NumGoroutine"))=true:=by kernel_rfl
 intro f fn hf hb
 have:=List.all_eq_true.1 h fn (by simpa using Array.mem_of_getElem? hf)
 rw[hb] at this
 simpa using this
theorem mixed:Try.prog.follows .mixedOrders=true:=by kernel_rfl
def kL:AV:=.agg (.G [.int .i64 100,.slcT none (.I .i64 [20,50,50,50,80,50]) 2 3 true,.slcT none (.I .i64 [0,100,144,1,225,400,0,200,300,2,100,100]) 3 4 true])
def F1:AV:=.agg (.G [.int .i64 100,.slcT none (.I .i64 [20,50,50,50,80,50]) 2 3 true,.slcT none (.I .i64 [0,100,144,2,100,100]) 3 2 true])
def E0:oM:=⟨77,[kL],.ptrT (some 0) (.G [.int .i64 100,.slcT none (.I .i64 [20,50,50,50,80,50]) 2 3 true,.slcT none (.I .i64 [0,100,144,1,225,400,0,200,300,2,100,100]) 3 4 true,.slcT none (.I .i64 [300,444,225,400,100,100]) 2 3 true,.int .i64 0,.int .i64 0,.int .i64 0,.int .i64 0,.int .i64 0,.int .i64 0,.int .i64 0,.int .i64 0,.int .i64 0,.int .i64 0,.int .i64 0,.int .i64 0,.int .i64 0,.int .i64 0,.int .i64 1,.int .i64 0,.int .i64 0,.int .i64 0,.int .i64 0,.int .i64 0,.int .i64 0,.int .i64 0,.int .i64 0,.int .i64 0,.int .i64 0,.int .i64 1,.int .i64 0,.int .i64 2,.int .i64 0,.int .i64 0,.int .i64 0,.int .i64 0,.int .i64 0,.int .i64 0,.int .i64 0,.int .i64 0,.int .i64 0,.int .i64 0,.int .i64 2,.int .i64 0,.int .i64 1,.int .i64 0,.int .i64 0,.int .i64 0,.int .i64 0,.int .i64 0,.int .i64 0,.int .i64 0,.int .i64 0,.int .i64 0,.int .i64 0,.int .i64 1,.int .i64 0,.int .i64 0,.int .i64 0,.int .i64 0,.int .i64 0,.int .i64 0,.int .i64 0,.int .i64 0,.int .i64 0,.int .i64 0,.int .i64 0,.int .i64 0,.int .i64 0,.int .i64 0,.int .i64 0,.int .i64 0,.int .i64 0,.int .i64 0,.int .i64 0,.int .i64 0,.int .i64 0,.int .i64 0,.int .i64 0,.int .i64 0,.int .i64 0,.int .i64 0,.int .i64 0,.int .i64 0,.int .i64 0,.int .i64 0,.int .i64 0,.int .i64 0,.int .i64 0,.int .i64 0,.int .i64 0,.int .i64 0,.int .i64 0,.int .i64 0,.int .i64 0,.int .i64 0,.int .i64 0,.int .i64 0,.int .i64 0,.int .i64 0,.int .i64 0,.int .i64 0,.int .i64 0,.int .i64 0,.int .i64 0,.int .i64 0,.int .i64 0,.int .i64 0,.int .i64 0,.int .i64 0,.int .i64 0,.int .i64 0,.int .i64 0,.int .i64 0,.int .i64 0,.int .i64 0,.int .i64 0,.int .i64 0,.int .i64 0,.int .i64 0,.int .i64 0,.int .i64 0,.int .i64 0,.int .i64 0,.int .i64 0,.int .i64 0,.int .i64 0,.int .i64 0,.int .i64 0,.int .i64 0,.int .i64 0,.int .i64 0,.int .i64 0,.int .i64 0,.int .i64 0,.int .i64 0,.int .i64 0,.int .i64 0,.int .i64 0,.int .i64 0,.int .i64 0,.int .i64 0,.int .i64 0,.int .i64 0,.int .i64 0,.int .i64 0,.int .i64 0,.int .i64 0]) 0⟩
def E1:oM:=⟨77,[F1],.ptrT (some 0) (.G [.int .i64 100,.slcT none (.I .i64 [20,50,50,50,80,50]) 2 3 true,.slcT none (.I .i64 [0,100,144,2,100,100]) 3 2 true,.slcT none (.I .i64 [100,144,0,0,100,100]) 2 3 true,.int .i64 0,.int .i64 0,.int .i64 0,.int .i64 0,.int .i64 0,.int .i64 0,.int .i64 0,.int .i64 0,.int .i64 0,.int .i64 0,.int .i64 0,.int .i64 0,.int .i64 0,.int .i64 0,.int .i64 0,.int .i64 0,.int .i64 0,.int .i64 0,.int .i64 0,.int .i64 0,.int .i64 0,.int .i64 0,.int .i64 0,.int .i64 0,.int .i64 0,.int .i64 0,.int .i64 0,.int .i64 0,.int .i64 0,.int .i64 0,.int .i64 0,.int .i64 0,.int .i64 0,.int .i64 0,.int .i64 0,.int .i64 0,.int .i64 0,.int .i64 0,.int .i64 0,.int .i64 0,.int .i64 0,.int .i64 0,.int .i64 0,.int .i64 0,.int .i64 0,.int .i64 0,.int .i64 0,.int .i64 0,.int .i64 0,.int .i64 0,.int .i64 0,.int .i64 0,.int .i64 0,.int .i64 0,.int .i64 0,.int .i64 0,.int .i64 0,.int .i64 0,.int .i64 0,.int .i64 0,.int .i64 0,.int .i64 0,.int .i64 0,.int .i64 0,.int .i64 0,.int .i64 0,.int .i64 0,.int .i64 0,.int .i64 0,.int .i64 0,.int .i64 0,.int .i64 0,.int .i64 0,.int .i64 0,.int .i64 0,.int .i64 0,.int .i64 0,.int .i64 0,.int .i64 0,.int .i64 0,.int .i64 0,.int .i64 0,.int .i64 0,.int .i64 0,.int .i64 0,.int .i64 0,.int .i64 0,.int .i64 0,.int .i64 0,.int .i64 0,.int .i64 0,.int .i64 0,.int .i64 0,.int .i64 0,.int .i64 0,.int .i64 0,.int .i64 0,.int .i64 0,.int .i64 0,.int .i64 0,.int .i64 0,.int .i64 0,.int .i64 0,.int .i64 0,.int .i64 0,.int .i64 0,.int .i64 0,.int .i64 0,.int .i64 0,.int .i64 0,.int .i64 0,.int .i64 0,.int .i64 0,.int .i64 0,.int .i64 0,.int .i64 0,.int .i64 0,.int .i64 0,.int .i64 0,.int .i64 0,.int .i64 0,.int .i64 0,.int .i64 0,.int .i64 0,.int .i64 0,.int .i64 0,.int .i64 0,.int .i64 0,.int .i64 0,.int .i64 0,.int .i64 0,.int .i64 0,.int .i64 0,.int .i64 0,.int .i64 0,.int .i64 0,.int .i64 0,.int .i64 0,.int .i64 0,.int .i64 0,.int .i64 0,.int .i64 0,.int .i64 0,.int .i64 0]) 0⟩
theorem zV:∀ e ∈ ([]:List oM),eC Try.prog e:=fun e h=>by cases h
theorem Pq:eC Try.prog E0:=fL named mixed zV Kt.kt 100000 40 (H':=[⟨true,[]⟩]) (by kernel_rfl) (by kernel_rfl)
theorem Pr:eC Try.prog E1:=fL named mixed zV Kt.kt 100000 40 (H':=[⟨true,[]⟩]) (by kernel_rfl) (by kernel_rfl)
def K4:List oM:=[E0,E1]
theorem fD:∀ e ∈ K4,eC Try.prog e:=by
 intro e h
 simp only[K4,List.mem_cons,List.not_mem_nil,or_false] at h
 rcases h with rfl | rfl
 · exact Pq
 · exact Pr
end Go.Proofs.Ytjmjkhpfipglcaa.Known
end
section
namespace Go.Proofs.Ytjmjkhpfipglcaa.Known
open Go.Eng Go.Proofs
set_option maxRecDepth 100000
def E2:oM:=⟨17,[kL,.int .i64 0],.tup [.agg (.I .i64 [300,444]),.int .i64 0]⟩
theorem RG:eC Try.prog E2:=fL named mixed fD Kt.kt 100000 40 (H':=[⟨true,[]⟩]) (by kernel_rfl) (by kernel_rfl)
def E3:oM:=⟨21,[kL,.int .i64 1,.int .i64 2],.tup [.int .i64 1,.int .i64 0]⟩
theorem RH:eC Try.prog E3:=fL named mixed fD Kt.kt 100000 40 (H':=[⟨true,[]⟩]) (by kernel_rfl) (by kernel_rfl)
def E4:oM:=⟨23,[kL,.int .i64 0,.int .i64 2],.tup [.int .i64 2,.int .i64 0]⟩
theorem RI:eC Try.prog E4:=fL named mixed fD Kt.kt 100000 40 (H':=[⟨true,[]⟩]) (by kernel_rfl) (by kernel_rfl)
def E7:oM:=⟨27,[F1,.int .i64 1],.tup [.int .i64 323,.int .i64 0]⟩
theorem RL:eC Try.prog E7:=fL named mixed fD Kt.kt 100000 40 (H':=[⟨true,[]⟩]) (by kernel_rfl) (by kernel_rfl)
def E8:oM:=⟨27,[kL,.int .i64 2],.tup [.int .i64 0,.int .i64 10]⟩
theorem RM:eC Try.prog E8:=fL named mixed fD Kt.kt 100000 40 (H':=[⟨true,[]⟩]) (by kernel_rfl) (by kernel_rfl)
def E9:oM:=⟨29,[kL,.int .i64 (-1),.int .i64 2,.bool false],.tup [.slcT none (.I .i64 [-1,0,1,2]) 1 4 true,.int .i64 0]⟩
theorem RN:eC Try.prog E9:=fL named mixed fD Kt.kt 100000 40 (H':=[⟨true,[]⟩]) (by kernel_rfl) (by kernel_rfl)
def O8:oM:=⟨29,[kL,.int .i64 (-1),.int .i64 2,.bool true],.tup [.nils,.int .i64 5]⟩
theorem NL:eC Try.prog O8:=fL named mixed fD Kt.kt 100000 40 (H':=[⟨true,[]⟩]) (by kernel_rfl) (by kernel_rfl)
def O9:oM:=⟨34,[kL,.int .i64 0,.int .i64 2,.bool true],.tup [.slcT none (.I .i64 [0,1]) 1 2 false,.int .i64 0]⟩
theorem NM:eC Try.prog O9:=fL named mixed fD Kt.kt 100000 40 (H':=[⟨true,[]⟩]) (by kernel_rfl) (by kernel_rfl)
def Pa:oM:=⟨34,[kL,.int .i64 0,.int .i64 2,.bool false],.tup [.nils,.int .i64 11]⟩
theorem NN:eC Try.prog Pa:=fL named mixed fD Kt.kt 100000 40 (H':=[⟨true,[]⟩]) (by kernel_rfl) (by kernel_rfl)
def Pb:oM:=⟨36,[kL,.bool true],.tup [.slcT (some 0) (.G [.slcT none (.I .i64 [-2]) 1 1 true,.slcT none (.I .i64 [-1]) 1 1 true,.slcT none (.I .i64 [0,1]) 1 2 false,.slcT none (.I .i64 [2]) 1 1 true]) 1 4 false,.int .i64 0]⟩
theorem NO:eC Try.prog Pb:=fL named mixed fD Kt.kt 100000 40 (H':=[⟨true,[]⟩]) (by kernel_rfl) (by kernel_rfl)
end Go.Proofs.Ytjmjkhpfipglcaa.Known
end
section
namespace Go.Proofs.Ytjmjkhpfipglcaa.Known
open Go.Eng Go.Proofs
set_option maxRecDepth 100000
def E5:oM:=⟨25,[kL,.int .i64 0,.int .i64 1],.tup [.agg (.I .i64 [2,3]),.int .i64 0]⟩
theorem RJ:eC Try.prog E5:=fL named mixed fD Kt.kt 100000 40 (H':=[⟨true,[]⟩]) (by kernel_rfl) (by kernel_rfl)
end Go.Proofs.Ytjmjkhpfipglcaa.Known
end
section
namespace Go.Proofs.Ytjmjkhpfipglcaa.Known
open Go.Eng Go.Proofs
set_option maxRecDepth 100000
def E6:oM:=⟨25,[kL,.int .i64 0,.int .i64 2],.tup [.agg (.I .i64 [0,0]),.int .i64 17]⟩
theorem RK:eC Try.prog E6:=fL named mixed fD Kt.kt 100000 40 (H':=[⟨true,[]⟩]) (by kernel_rfl) (by kernel_rfl)
end Go.Proofs.Ytjmjkhpfipglcaa.Known
end
section
namespace Go.Proofs.Ytjmjkhpfipglcaa.Known
open Go.Eng Go.Proofs
set_option maxRecDepth 100000
def K5:List oM:=[E2,E3,E4,E5,E6,E7,E8,E9,O8,O9,Pa,Pb,E0,E1]
theorem FM:∀ e ∈ K5,eC Try.prog e:=by
 intro e h
 simp only[K5,List.mem_cons,List.not_mem_nil,or_false] at h
 rcases h with rfl | rfl | rfl | rfl | rfl | rfl | rfl | rfl | rfl | rfl | rfl | rfl | rfl | rfl
 · exact RG
 · exact RH
 · exact RI
 · exact RJ
 · exact RK
 · exact RL
 · exact RM
 · exact RN
 · exact NL
 · exact NM
 · exact NN
 · exact NO
 · exact Pq
 · exact Pr
def Pv:oM:=⟨16,[],.bool true⟩
theorem NP:eC Try.prog Pv:=fL named mixed FM Kt.kt 100000 40 (H':=[⟨true,[]⟩]) (by kernel_rfl) (by kernel_rfl)
end Go.Proofs.Ytjmjkhpfipglcaa.Known
end
section
namespace Go.Eng
open Go.Proofs Go.ChangeShapes Go.WideShapes Go.ChangeAt Go.RowKit
set_option linter.unusedVariables false
set_option maxRecDepth 100000
def px (t:TypeId) (A:AV→Prop):Prop:=∀ (H:Type) (enc:TypeId×Value→H) (w:World) (r:Reach) (b0 base:Nat) (sp:Nat→Bool) (held:Bool) (v:Value) (d:DataW H) (ps:List MemPlace),
 Value.okWide Try.prog w r b0 t v→DataW.Trod enc Try.prog w base sp held t v d ps→∃ a,A a∧ar (Pw w) Mu.no a v
def xV:List (AV→Prop)→List AV→Prop
 | [],[]=>True
 | A::As,a::xs=>A a∧xV As xs
 | _,_=>False
theorem iC {A:AV→Prop} {As:List (AV→Prop)} {xs:List AV} (h:xV (A::As) xs):∃ a ys,xs=a::ys∧A a∧xV As ys:=by
 cases xs with
 | nil=>exact h.elim
 | cons a ys=>exact ⟨a,ys,rfl,h.1,h.2⟩
theorem BG {xs:List AV} (h:xV [] xs):xs=[]:=by
 cases xs with
 | nil=>rfl
 | cons a ys=>exact h.elim
def Gp:List TypeId→List (AV→Prop)→Prop
 | [],[]=>True
 | t::ts,A::As=>px t A∧Gp ts As
 | _,_=>False
theorem y8 {H:Type} {enc:TypeId×Value→H} {w:World} {r:Reach} {b0 base:Nat} {sp:Nat→Bool} {held:Bool}:∀ (ts:List TypeId) (As:List (AV→Prop)) (vs:List Value) (ds:List (DataW H)) (ps:List MemPlace),Gp ts As →
 (∀ (j:Nat) t v,ts[j]?=some t→vs[j]?=some v→Value.okWide Try.prog w r b0 t v)→DataW.TrodAll enc Try.prog w base sp held ts vs ds ps→∃ xs,xV As xs∧vs.length=xs.length∧∀ j,j<xs.length→ar (Pw w) Mu.no (xs.getD j .undef) (vs.getD j undef)
 | [],[],vs,ds,ps,_,_,h=>by
   obtain ⟨rfl,rfl,rfl⟩:=trodAll_nil h
   exact ⟨[],trivial,rfl,fun j hj=>by simp at hj⟩
 | t::ts,A::As,vs,ds,ps,hT,hv,h=>by
   obtain ⟨v,vs',d,ds',p,q,rfl,rfl,rfl,h1,h2⟩:=trodAll_cons h
   obtain ⟨a,ha,hr⟩:=hT.1 H enc w r b0 base sp held v d p (hv 0 t v rfl rfl) h1
   obtain ⟨xs,hA,hl,hR⟩:=y8 ts As vs' ds' q hT.2 (fun j t' v' e1 e2=>hv (j+1) t' v' (by simpa using e1) (by simpa using e2)) h2
   refine ⟨a::xs,⟨ha,hA⟩,by simp[hl],fun j hj=>?_⟩
   cases j with
   | zero=>exact hr
   | succ j=>simpa using hR j (by simpa using hj)
 | [],_::_,_,_,_,hT,_,_=>hT.elim
 | _::_,[],_,_,_,hT,_,_=>hT.elim
theorem uj {H:Type} {enc:TypeId×Value→H} {W W':World} {base:Nat} {sp':Nat→Bool} (hl:laidOutB Try.prog=true):∀ (ts:List TypeId) (vs:List Value) (ds:List (DataW H)) (ps:List MemPlace),(∀ t ∈ ts,Try.prog.readableRec t=true∧t<Try.prog.types.size) →
 DataW.TrodAll enc Try.prog W base (fun _=>true) true ts vs ds ps→(∀ p ∈ ps,W.sameAt W' p)→(∀ p ∈ ps,sp' p.block=true)→DataW.TrodAll enc Try.prog W' base sp' true ts vs ds ps
 | [],vs,ds,ps,_,h,_,_=>by
   obtain ⟨rfl,rfl,rfl⟩:=trodAll_nil h
   exact trodAll_mk0
 | t::ts,vs,ds,ps,ht,h,hs,hp=>by
   obtain ⟨v,vs',d,ds',p,q,rfl,rfl,rfl,h1,h2⟩:=trodAll_cons h
   obtain ⟨r1,r2⟩:=ht t (by simp)
   refine ⟨p,q,?_,uj hl ts vs' ds' q (fun t' h'=>ht t' (List.mem_cons_of_mem _ h')) h2 (fun x hx=>hs x (List.mem_append_right _ hx)) (fun x hx=>hp x (List.mem_append_right _ hx)),rfl⟩
   exact WideElems.Trod_stays hl r1 r2 h1 (fun x hx=>hs x (List.mem_append_left _ hx)) (fun x hx=>hp x (List.mem_append_left _ hx))
theorem Jc (hN:jc Try.prog) (hm:Try.prog.follows .mixedOrders=true) (hW:eC Try.prog ⟨16,[],.bool true⟩) (n:Nat):fE Try.prog (cd n) :=
 oO hN (B7 hN hm) (EX _ (fun e he=>by
  simp only[List.mem_singleton] at he
  subst he
  exact hW)) Kt.kt 100000 n
theorem A6 {f:FuncId} {ts:List TypeId} {As:List (AV→Prop)} (hT:Gp ts As) {n:Nat} (hlaw:∀ xs,xV As xs→∃ H',cd n (.fn f) xs [⟨true,[]⟩]=some (.bool true,H')) {H:Type} {enc:TypeId×Value→H} {w:World} {r:Reach} {b0 base:Nat} {sp:Nat→Bool} {held:Bool} {args:Array Value} {ds:List (DataW H)} {ps:List MemPlace}
 (hv:∀ (j:Nat) t v,ts[j]?=some t→args[j]?=some v→Value.okWide Try.prog w r b0 t v) (h:DataW.TrodAll enc Try.prog w base sp held ts args.toList ds ps) :
 Calls Try.prog f args w (fun e w'=>e=.returned (.bool true)∧Go.RowKit.Below w.heap.size w w'):=by
 obtain ⟨xs,hA,hl,hR⟩:=y8 ts As args.toList ds ps hT (fun j t v e1 e2=>hv j t v e1 (by simpa using e2)) h
 obtain ⟨H',hc⟩:=hlaw xs hA
 refine AH (Jc Ytjmjkhpfipglcaa.Known.named Ytjmjkhpfipglcaa.Known.mixed Ytjmjkhpfipglcaa.Known.NP n) hc ⟨by simpa using hl,fun j hj=>?_⟩
 have:=hR j hj
 have e:args.toList.getD j undef=args.getD j undef:=by
  rw[Array.getD_eq_getD_getElem?,List.getD_eq_getElem?_getD,Array.getElem?_toList]
 rwa [e] at this
def BA (a:AV):Prop:=∃ w ls zs ld zd,a=aa w ls zs ld zd
def BB (a:AV):Prop:=∃ b,a=.bool b
theorem DI:px 25 BA:=fun H enc w r b0 base sp held v d ps hv h=>by
 obtain ⟨wd,ls,zs,ld,zd,hr⟩:=BL hv h
 exact ⟨_,⟨wd,ls,zs,ld,zd,rfl⟩,hr⟩
theorem own:ownKnob Try.prog.godebug=none:=by kernel_rfl
theorem laidOut:laidOutB Try.prog=true:=by kernel_rfl
end Go.Eng
end
section
namespace Go.Eng
open Go.Proofs Go.ChangeShapes Go.WideShapes Go.ChangeAt Go.RowKit
set_option linter.unusedVariables false
set_option maxRecDepth 100000
theorem yf {P:Program} {k:IntKind} {t e:TypeId} {n m:Nat} (ht:P.underlying t=some (.array n e)) (he:my k P e m) (hm:0<m) (hc:P.cellsOf e=m) (hct:P.cellsOf t=n*m):my k P t (n*m):=by
 intro H enc w base sp held fuel cs x h
 obtain ⟨xs,f,_,_,hl,hxl,hel⟩:=DataW.trod_array ht h
 refine ⟨by rw[hl,hct],fun j hj=>?_⟩
 have hi:j / m<n:=by rw[Nat.div_lt_iff_lt_mul hm];exact hj
 have hm':=Nat.mod_lt j hm
 have g:=hel (j / m) hi
 have:j / m<xs.length:=by omega
 rw[List.getElem?_eq_getElem this] at g
 obtain ⟨_,k1⟩:=he _ _ _ _ _ _ _ _ _ g
 obtain ⟨z,hz,hw⟩:=k1 (j % m) hm'
 refine ⟨z,?_,hw⟩
 rw[hc,List.getElem?_take,if_pos hm',List.getElem?_drop] at hz
 have hd:=Nat.div_add_mod j m
 rw[Nat.mul_comm] at hd
 rwa [hd] at hz
def FY (k:IntKind) (n:Nat) (a:AV):Prop:=∃ l:List Int,a=.agg (.I k l)∧l.length=n∧∀ x ∈ l,(Lit.int k x).wf=true
theorem DK {t:TypeId} {k:IntKind} {n:Nat} (hs:∀ w r b v,Value.okWide Try.prog w r b t v→∃ cs,v=.agg cs) (hf:my k Try.prog t n):px t (FY k n):=fun H enc w r b0 base sp held v d ps hv h=>by
 obtain ⟨cs,rfl⟩:=hs _ _ _ _ hv
 obtain ⟨fuel,hd⟩:=h
 obtain ⟨hl,hz⟩:=hf _ _ _ _ _ _ _ _ _ hd
 simp only[Value.cells,Array.length_toList] at hl
 have cell:∀ j (hj:j<n),∃ z:Int,cs.getD j undef=.int k z∧(Lit.int k z).wf=true:=fun j hj=>by
  obtain ⟨z,h1,h2⟩:=hz j hj
  simp only[Value.cells] at h1
  refine ⟨z,?_,h2⟩
  rw[Array.getD_eq_getD_getElem?,← Array.getElem?_toList,h1];rfl
 obtain ⟨zs,hzs⟩:∃ zs:Nat→Int,∀ j,j<n→cs.getD j undef=.int k (zs j)∧(Lit.int k (zs j)).wf=true :=
  ⟨fun j=>if h:j<n then Classical.choose (cell j h) else 0,fun j hj=>by
    have:=Classical.choose_spec (cell j hj)
    simp only[dif_pos hj];exact this⟩
 refine ⟨.agg (.I k ((List.range n).map zs)),⟨_,rfl,by simp,fun x hx=>?_⟩,.agg (by simp[Row.len,hl]) (fun j hj=>?_) (fun j hj=>?_)⟩
 · obtain ⟨j,hj,rfl⟩:=List.mem_map.1 hx
   exact (hzs j (by simpa using hj)).2
 · have hj:j<n:=by simpa[Row.len] using hj
   rw[(hzs j hj).1];rfl
 · have hj:j<n:=by simpa[Row.len] using hj
   rw[(hzs j hj).1]
   have e:(Row.I k ((List.range n).map zs)).get j=.int k (zs j):=by
    simp only[Row.get]
    rw[List.getD_eq_getElem?_getD]
    simp[hj]
   rw[e];exact .int _ _
theorem w7 {t e:TypeId} {n:Nat} (ht:Try.prog.underlying t=some (.array n e)):∀ w r b v,Value.okWide Try.prog w r b t v→∃ cs,v=.agg cs:=fun w r b v h=>by
 simp only[Value.okWide,ht] at h
 obtain ⟨cs,h1,_⟩:=h
 exact ⟨cs,h1⟩
def Lw (a:AV):Prop:=∃ x y:Int,a=.agg (.I .u8 [x,y])∧(0≤x∧x≤255)∧(0≤y∧y≤255)
theorem EZ {a:AV} {k:IntKind} (h:FY k 2 a):∃ x y:Int,a=.agg (.I k [x,y])∧(Lit.int k x).wf=true∧(Lit.int k y).wf=true:=by
 obtain ⟨l,rfl,hl,hw⟩:=h
 match l,hl with
 | [x,y],_=>exact ⟨x,y,rfl,hw _ (by simp),hw _ (by simp)⟩
theorem IQ:px 54 Lw:=fun H enc w r b0 base sp held v d ps hv h=>by
 obtain ⟨a,ha,hr⟩:=DK (w7 Try.underlying54) (yf Try.underlying54 (ln Try.underlying5) (by omega) (by kernel_rfl) (by kernel_rfl)) H enc w r b0 base sp held v d ps hv h
 obtain ⟨x,y,rfl,h1,h2⟩:=EZ ha
 simp[Lit.wf,IntKind.min,IntKind.max,IntKind.signed,IntKind.bits] at h1 h2
 exact ⟨_,⟨x,y,rfl,⟨by omega,by omega⟩,by omega,by omega⟩,hr⟩
theorem vM {t e n:Nat} {k:IntKind} (ht:Try.prog.underlying t=some (.slice e)) (he:my k Try.prog e n) (hn:0<n) (hc:Try.prog.cellsOf e=n):px t (fun a=>∃ (len:Nat) (z:Nat→Int),a=.slcT none (.M [.arr k z (len*n)]) n len false∧∀ j,(Lit.int k (z j)).wf=true):=fun H enc w r b0 base sp held v d ps hv h=>by
 simp only[Value.okWide,ht] at hv
 have hcell:v.cells.toList=[v]:=by
  simp only[Cell.okWide,ht] at hv
  cases v<;>simp_all [Cell.ok]<;>rfl
 obtain ⟨fuel,hf⟩:=h
 rw[hcell] at hf
 have h0:(Lit.int k 0).wf=true:=by cases k<;>rfl
 rcases ss ht he hn hc (su ht hv) hf with rfl | ⟨zs,len,h1,h2⟩
 · exact ⟨_,⟨0,fun _=>0,rfl,fun _=>h0⟩,.slcN⟩
 · refine ⟨_,⟨len,fun j=>if j<len*n then zs j else 0,rfl,fun j=>?_⟩,?_⟩
   · dsimp only
     split
     · exact h2 _ (by assumption)
     · exact h0
   · have h3:=Ps h1
     cases h3 with
     | slcN=>exact .slcN
     | slcT vs a0 a1 hv' hl hf' hx =>
       refine .slcT vs a0 a1 (fun j hj=>?_) hl hf' hx
       have:=hv' j hj
       have hj':j<len*n:=by simpa[Row.len,aM,aT] using hj
       simp only[Row.get,getM,if_pos hj'] at this ⊢
       exact this.bZ _ _
def BC (a:AV):Prop:=∃ (len:Nat) (z:Nat→Int),a=.slcT none (.M [.arr .u16 z len]) 1 len false∧∀ j,0≤z j∧z j≤65535
theorem DM:px 53 BC:=fun H enc w r b0 base sp held v d ps hv h=>by
 obtain ⟨a,⟨len,z,rfl,hz⟩,hr⟩:=vM Try.underlying53 (ln Try.underlying66) (by omega) (by kernel_rfl) H enc w r b0 base sp held v d ps hv h
 refine ⟨_,⟨len,z,by rw[Nat.mul_one],fun j=>?_⟩,hr⟩
 have:=hz j
 simp[Lit.wf,IntKind.min,IntKind.max,IntKind.signed,IntKind.bits] at this
 omega
end Go.Eng
end
section
namespace Go.Eng
open Go.Proofs Go.ChangeShapes Go.WideShapes Go.ChangeAt Go.RowKit
set_option linter.unusedVariables false
set_option maxRecDepth 100000
theorem DJ:px 4 BB:=fun H enc w r b0 base sp held v d ps hv h=>by
 obtain ⟨b,rfl⟩:=WideShapes.okWide_bool Try.underlying4 hv
 exact ⟨_,⟨b,rfl⟩,.bool _⟩
def vH (a:AV):Prop:=∃ (len:Nat) (z:Nat→Int),a=.slcT none (.M [.arr .i64 z len]) 1 len false
theorem yZ:px 42 vH:=fun H enc w r b0 base sp held v d ps hv h=>by
 obtain ⟨a,⟨len,z,rfl,hz⟩,hr⟩:=vM Try.underlying42 (ln Try.underlying3) (by omega) (by kernel_rfl) H enc w r b0 base sp held v d ps hv h
 exact ⟨_,⟨len,z,by rw[Nat.mul_one]⟩,hr⟩
end Go.Eng
end
