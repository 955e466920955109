/- Closed calls of the seat. -/
import Derived.Test.YtigmfpmabgekoaaGreatV6Bt3x9
import Derived.Test.YtigmfpmabgekoaaGreatV6Bak0x6
import Derived.Test.YtigmfpmabgekoaaGreatV6EngArgx7
import Derived.Test.YtigmfpmabgekoaaGreatRows
import Derived.Test.YtigmfpmabgekoaaGreatChecked
import Derived.ProofKit
import Derived.OpenShut
set_option maxRecDepth 100000
set_option linter.unusedVariables false
section
namespace Go.Proofs.YtigmfpmabgekoaaGreat.Known
open Go.Eng Go.Proofs
noncomputable def NY:iQ:=⟨39,[.slcT none (.I .i64 [100,110,20,60,5,90,90,10,30,3,150,150,0,40,4,130,130,25,50,6]) 5 4 true,.slcT none (.I .i64 [80]) 1 1 false],.int .i64 14⟩
theorem MV:bM Tryz.prog NY:=dG named mixed Bo iH [68] KtB.kt 100000 40 (H':=[⟨true,[]⟩]) (by kernel_rfl) (by kernel_rfl)
noncomputable def Hj:List iQ:=NY::KS
theorem yJ:∀ e ∈ Hj,bM Tryz.prog e:=dS MV Bo
noncomputable def NZ:iQ:=⟨36,[.slcT none (.I .i64 [100,110,20,60,5,90,90,10,30,3,150,150,0,40,4,130,130,25,50,6]) 5 4 true,.int .i64 0],.tup [.int .i64 0,.nils,.int .i64 0]⟩
theorem MW:bM Tryz.prog NZ:=dG named mixed yJ iH [68] KtB.kt 100000 40 (H':=[⟨true,[]⟩]) (by kernel_rfl) (by kernel_rfl)
noncomputable def Hk:List iQ:=NZ::Hj
theorem yK:∀ e ∈ Hk,bM Tryz.prog e:=dS MW yJ
noncomputable def N0:iQ:=⟨36,[.slcT none (.I .i64 [100,110,20,60,5,90,90,10,30,3,150,150,0,40,4,130,130,25,50,6]) 5 4 true,.int .i64 2],.tup [.int .i64 18,.slcT none (.I .i64 [80,110]) 1 2 false,.int .i64 0]⟩
theorem MX:bM Tryz.prog N0:=dG named mixed yK iH [68] KtB.kt 100000 40 (H':=[⟨true,[]⟩]) (by kernel_rfl) (by kernel_rfl)
noncomputable def Hl:List iQ:=N0::Hk
theorem yL:∀ e ∈ Hl,bM Tryz.prog e:=dS MX yK
end Go.Proofs.YtigmfpmabgekoaaGreat.Known
end
section
namespace Go.Proofs.YtigmfpmabgekoaaGreat.Known
open Go.Eng Go.Proofs
noncomputable def N1:iQ:=⟨18,[.slcT none (.I .i64 [100,110,20,60,5,90,90,10,30,3,150,150,0,40,4,130,130,25,50,6]) 5 4 true,.int .i64 81],.tup [.slcT none (.I .i64 [3]) 1 1 false,.int .i64 0]⟩
theorem MY:bM Tryz.prog N1:=dG named mixed yL iH [68] KtB.kt 100000 40 (H':=[⟨true,[]⟩]) (by kernel_rfl) (by kernel_rfl)
noncomputable def Hm:List iQ:=N1::Hl
theorem yM:∀ e ∈ Hm,bM Tryz.prog e:=dS MY yL
noncomputable def N2:iQ:=⟨36,[.slcT none (.I .i64 [100,110,20,60,5,90,90,10,30,3,150,150,0,40,4,130,140,30,35,6]) 5 4 true,.int .i64 1],.tup [.int .i64 8,.slcT none (.I .i64 [60]) 1 1 false,.int .i64 0]⟩
theorem MZ:bM Tryz.prog N2:=dG named mixed yM iH [68] KtB.kt 100000 40 (H':=[⟨true,[]⟩]) (by kernel_rfl) (by kernel_rfl)
noncomputable def KJ:List iQ:=N2::Hm
theorem Ey:∀ e ∈ KJ,bM Tryz.prog e:=dS MZ yM
end Go.Proofs.YtigmfpmabgekoaaGreat.Known
end
section
namespace Go.Proofs.YtigmfpmabgekoaaGreat.Known
open Go.Eng Go.Proofs
noncomputable def EW:iQ:=⟨15,[],.bool true⟩
theorem okW:bM Tryz.prog EW:=dG named mixed Ey iH [68] KtB.kt 100000 40 (H':=[⟨true,[]⟩]) (by kernel_rfl) (by kernel_rfl)
end Go.Proofs.YtigmfpmabgekoaaGreat.Known
end
section
namespace Go.Eng
open Go.Proofs Go.ChangeShapes Go.WideShapes Go.ChangeAt Go.RowKit
theorem QI {p:aC} {M:Mu} {k:IntKind} {z:Nat→Int} {N sz len:Nat} {full:Bool} {v:Value} (h:ai p M (.slcT none (.F (fun j=>.int k (z j)) N) sz len full) v):ai p M (.slcT none (.M [.arr k z N]) sz len full) v:=by
 cases h with
 | slcN=>exact .slcN
 | slcT vs h0 h1 hv hl hf hx =>
   have e:∀ j,j<(Row.M [aW.arr k z N]).len→j<N:=fun j hj=>by simpa[Row.len,ay,aG] using hj
   refine .slcT vs (fun j hj=>h0 j (e j hj)) (fun j hj=>h1 j (e j hj)) (fun j hj=>?_) hl hf hx
   have:=hv j (e j hj)
   simp only[Row.get,getM,if_pos (e j hj)] at this ⊢
   exact this.br _ _
theorem zT {P:Program} {w:World} {r:Reach} {base:Nat} {t e:TypeId} {v:Value} (ht:P.underlying t=some (.slice e)) (h:Cell.okWide P w r base t v):∀ a l c,v=.slice (some a) l c→a.spot=none:=by
 rintro a l c rfl
 simp only[Cell.okWide,ht,Cell.ok] at h
 exact h.2.2.2.1
theorem Dd:CE Tryz.prog 2 1:=Df Tryz.underlying2
theorem De:CE Tryz.prog 26 2:=vB Tryz.underlying26 Dd Dd rfl rfl (by kernel_rfl) (by kernel_rfl) (by kernel_rfl)
theorem vC {P:Program} {k:IntKind} {t:TypeId} {f0 f1 f2:Field} {n0 n1 n2:Nat} (ht:P.underlying t=some (.struct #[f0,f1,f2])) (h0:lj k P f0.type n0) (h1:lj k P f1.type n1) (h2:lj k P f2.type n2) (o0:f0.offset=0) (o1:f1.offset=n0) (o2:f2.offset=n0+n1) (c0:P.cellsOf f0.type=n0) (c1:P.cellsOf f1.type=n1) (c2:P.cellsOf f2.type=n2) (c:P.cellsOf t=n0+n1+n2):lj k P t (n0+n1+n2):=by
 intro H enc w base sp held fuel cs x h
 obtain ⟨xs,m,_,_,hl,hxl,hf⟩:=DataW.trod_struct ht h
 match xs,hxl,hf with
 | [y0,y1,y2],_,hf =>
   have g0:=hf 0 f0 rfl
   have g1:=hf 1 f1 rfl
   have g2:=hf 2 f2 rfl
   obtain ⟨_,k0⟩:=h0 _ _ _ _ _ _ _ _ _ g0
   obtain ⟨_,k1⟩:=h1 _ _ _ _ _ _ _ _ _ g1
   obtain ⟨_,k2⟩:=h2 _ _ _ _ _ _ _ _ _ g2
   refine ⟨by rw[hl,c],fun j hj=>?_⟩
   by_cases p:j<n0
   · obtain ⟨z,hz,hw⟩:=k0 j p
     refine ⟨z,?_,hw⟩
     rw[o0,c0] at hz
     simpa[List.getElem?_take,p] using hz
   by_cases q:j<n0+n1
   · obtain ⟨z,hz,hw⟩:=k1 (j-n0) (by omega)
     refine ⟨z,?_,hw⟩
     rw[o1,c1] at hz
     have:j-n0<n1:=by omega
     simpa[List.getElem?_take,this,List.getElem?_drop,show n0+(j-n0)=j by omega] using hz
   · obtain ⟨z,hz,hw⟩:=k2 (j-(n0+n1)) (by omega)
     refine ⟨z,?_,hw⟩
     rw[o2,c2] at hz
     have:j-(n0+n1)<n2:=by omega
     simpa[List.getElem?_take,this,List.getElem?_drop,show n0+n1+(j-(n0+n1))=j by omega] using hz
theorem HZ:CE Tryz.prog 56 5:=vC Tryz.underlying56 De De Dd rfl rfl rfl (by kernel_rfl) (by kernel_rfl) (by kernel_rfl) (by kernel_rfl)
def Ad (t:TypeId) (A:AV→Prop):Prop:=∀ (H:Type) (enc:TypeId×Value→H) (w:World) (r:Reach) (b0 base:Nat) (sp:Nat→Bool) (held:Bool) (v:Value) (d:DataW H) (ps:List MemPlace),
 Value.okWide Tryz.prog w r b0 t v→DataW.Trod enc Tryz.prog w base sp held t v d ps→∃ a,A a∧ai (Pw w) Mu.no a v
def yT:List (AV→Prop)→List AV→Prop
 | [],[]=>True
 | A::As,a::xs=>A a∧yT As xs
 | _,_=>False
theorem tU {A:AV→Prop} {As:List (AV→Prop)} {xs:List AV} (h:yT (A::As) xs):∃ a ys,xs=a::ys∧A a∧yT As ys:=by
 cases xs with
 | nil=>exact h.elim
 | cons a ys=>exact ⟨a,ys,rfl,h.1,h.2⟩
theorem CJ {xs:List AV} (h:yT [] xs):xs=[]:=by
 cases xs with
 | nil=>rfl
 | cons a ys=>exact h.elim
def Hp:List TypeId→List (AV→Prop)→Prop
 | [],[]=>True
 | t::ts,A::As=>Ad t A∧Hp ts As
 | _,_=>False
theorem Ak {H:Type} {enc:TypeId×Value→H} {w:World} {r:Reach} {b0 base:Nat} {sp:Nat→Bool} {held:Bool}:∀ (ts:List TypeId) (As:List (AV→Prop)) (vs:List Value) (ds:List (DataW H)) (ps:List MemPlace),Hp ts As →
 (∀ (j:Nat) t v,ts[j]?=some t→vs[j]?=some v→Value.okWide Tryz.prog w r b0 t v)→DataW.TrodAll enc Tryz.prog w base sp held ts vs ds ps→∃ xs,yT As xs∧vs.length=xs.length∧∀ j,j<xs.length→ai (Pw w) Mu.no (xs.getD j .undef) (vs.getD j undef)
 | [],[],vs,ds,ps,_,_,h=>by
   obtain ⟨rfl,rfl,rfl⟩:=trodAll_nil h
   exact ⟨[],trivial,rfl,fun j hj=>by simp at hj⟩
 | t::ts,A::As,vs,ds,ps,hT,hv,h=>by
   obtain ⟨v,vs',d,ds',p,q,rfl,rfl,rfl,h1,h2⟩:=trodAll_cons h
   obtain ⟨a,ha,hr⟩:=hT.1 H enc w r b0 base sp held v d p (hv 0 t v rfl rfl) h1
   obtain ⟨xs,hA,hl,hR⟩:=Ak ts As vs' ds' q hT.2 (fun j t' v' e1 e2=>hv (j+1) t' v' (by simpa using e1) (by simpa using e2)) h2
   refine ⟨a::xs,⟨ha,hA⟩,by simp[hl],fun j hj=>?_⟩
   cases j with
   | zero=>exact hr
   | succ j=>simpa using hR j (by simpa using hj)
 | [],_::_,_,_,_,hT,_,_=>hT.elim
 | _::_,[],_,_,_,hT,_,_=>hT.elim
theorem uZ {H:Type} {enc:TypeId×Value→H} {W W':World} {base:Nat} {sp':Nat→Bool} (hl:laidOutB Tryz.prog=true):∀ (ts:List TypeId) (vs:List Value) (ds:List (DataW H)) (ps:List MemPlace),(∀ t ∈ ts,Tryz.prog.readableRec t=true∧t<Tryz.prog.types.size) →
 DataW.TrodAll enc Tryz.prog W base (fun _=>true) true ts vs ds ps→(∀ p ∈ ps,W.sameAt W' p)→(∀ p ∈ ps,sp' p.block=true)→DataW.TrodAll enc Tryz.prog W' base sp' true ts vs ds ps
 | [],vs,ds,ps,_,h,_,_=>by
   obtain ⟨rfl,rfl,rfl⟩:=trodAll_nil h
   exact trodAll_mk0
 | t::ts,vs,ds,ps,ht,h,hs,hp=>by
   obtain ⟨v,vs',d,ds',p,q,rfl,rfl,rfl,h1,h2⟩:=trodAll_cons h
   obtain ⟨r1,r2⟩:=ht t (by simp)
   refine ⟨p,q,?_,uZ hl ts vs' ds' q (fun t' h'=>ht t' (List.mem_cons_of_mem _ h')) h2 (fun x hx=>hs x (List.mem_append_right _ hx)) (fun x hx=>hp x (List.mem_append_right _ hx)),rfl⟩
   exact WideElems.Trod_stays hl r1 r2 h1 (fun x hx=>hs x (List.mem_append_left _ hx)) (fun x hx=>hp x (List.mem_append_left _ hx))
theorem Jk (hN:b8 Tryz.prog) (hm:Tryz.prog.follows .mixedOrders=true) (hW:bM Tryz.prog ⟨15,[],.bool true⟩) (n:Nat):bD Tryz.prog (cd n) :=
 ph hN (vt hN hm) (Gg hN (vt hN hm) hW) KtB.kt 100000 n
theorem B5 {f:FuncId} {ts:List TypeId} {As:List (AV→Prop)} (hT:Hp ts As) {n:Nat} (hlaw:∀ xs,yT As xs→∃ H',cd n (.fn f) xs [⟨true,[]⟩]=some (.bool true,H')) {H:Type} {enc:TypeId×Value→H} {w:World} {r:Reach} {b0 base:Nat} {sp:Nat→Bool} {held:Bool} {args:Array Value} {ds:List (DataW H)} {ps:List MemPlace}
 (hv:∀ (j:Nat) t v,ts[j]?=some t→args[j]?=some v→Value.okWide Tryz.prog w r b0 t v) (h:DataW.TrodAll enc Tryz.prog w base sp held ts args.toList ds ps) :
 Calls Tryz.prog f args w (fun e w'=>e=.returned (.bool true)∧Go.RowKit.Below w.heap.size w w'):=by
 obtain ⟨xs,hA,hl,hR⟩:=Ak ts As args.toList ds ps hT (fun j t v e1 e2=>hv j t v e1 (by simpa using e2)) h
 obtain ⟨H',hc⟩:=hlaw xs hA
 refine BB (Jk YtigmfpmabgekoaaGreat.Known.named YtigmfpmabgekoaaGreat.Known.mixed YtigmfpmabgekoaaGreat.Known.okW n) hc ⟨by simpa using hl,fun j hj=>?_⟩
 have:=hR j hj
 have e:args.toList.getD j undef=args.getD j undef:=by
  rw[Array.getD_eq_getD_getElem?,List.getD_eq_getElem?_getD,Array.getElem?_toList]
 rwa [e] at this
def Hn (a:AV):Prop:=∃ n:Int,a=.int .i64 n∧-9223372036854775808≤n∧n≤9223372036854775807
theorem Hx:Ad 3 Hn:=fun H enc w r b0 base sp held v d ps hv h=>by
 obtain ⟨fuel,hf⟩:=h
 obtain ⟨n,e,_,hw⟩:=DataW.trod_int Tryz.underlying3 hf
 have e3:Tryz.prog.cellsOf 3=1:=by kernel_rfl
 obtain ⟨s,rfl⟩:=WideShapes.okWide_int Tryz.underlying3 hv
 have:s=n:=by simpa[Value.cells] using e
 subst this
 refine ⟨_,⟨s,rfl,?_⟩,.int _ _⟩
 simp[Lit.wf,IntKind.min,IntKind.max,IntKind.signed,IntKind.bits] at hw
 omega
theorem own:ownKnob Tryz.prog.godebug=none:=by kernel_rfl
theorem laidOut:laidOutB Tryz.prog=true:=by kernel_rfl
theorem CO {t e n:Nat} {k:IntKind} (ht:Tryz.prog.underlying t=some (.slice e)) (he:lj k Tryz.prog e n) (hn:0<n) (hc:Tryz.prog.cellsOf e=n):Ad t (fun a=>∃ (len:Nat) (z:Nat→Int),a=.slcT none (.M [.arr k z (len*n)]) n len false∧∀ j,(Lit.int k (z j)).wf=true):=fun H enc w r b0 base sp held v d ps hv h=>by
 simp only[Value.okWide,ht] at hv
 have hcell:v.cells.toList=[v]:=by
  simp only[Cell.okWide,ht] at hv
  cases v<;>simp_all [Cell.ok]<;>rfl
 obtain ⟨fuel,hf⟩:=h
 rw[hcell] at hf
 have h0:(Lit.int k 0).wf=true:=by cases k<;>rfl
 rcases zS ht he hn hc (zT ht hv) hf with rfl | ⟨zs,len,h1,h2⟩
 · exact ⟨_,⟨0,fun _=>0,rfl,fun _=>h0⟩,.slcN⟩
 · refine ⟨_,⟨len,fun j=>if j<len*n then zs j else 0,rfl,fun j=>?_⟩,?_⟩
   · dsimp only
     split
     · exact h2 _ (by assumption)
     · exact h0
   · have h3:=QI h1
     cases h3 with
     | slcN=>exact .slcN
     | slcT vs a0 a1 hv' hl hf' hx =>
       refine .slcT vs a0 a1 (fun j hj=>?_) hl hf' hx
       have:=hv' j hj
       have hj':j<len*n:=by simpa[Row.len,ay,aG] using hj
       simp only[Row.get,getM,if_pos hj'] at this ⊢
       exact this.br _ _
def Ho (a:AV):Prop:=∃ (len:Nat) (z:Nat→Int),a=aO 5 len z
theorem Hy:Ad 22 Ho:=fun H enc w r b0 base sp held v d ps hv h=>by
 obtain ⟨a,⟨len,z,rfl,hz⟩,hr⟩:=CO Tryz.underlying22 HZ (by omega) (by kernel_rfl) H enc w r b0 base sp held v d ps hv h
 refine ⟨_,⟨len,z,rfl⟩,?_⟩
 unfold aO
 rw[b7]
 exact hr
end Go.Eng
end
