/- Bath: the frame of the laws: arguments, a law's call, what is left as it was. -/
import Derived.Test.YtigmfpmabgekoaaGreatV12Bak0x6
import Derived.Test.YtigmfpmabgekoaaGreatV12EngSox7
import Derived.Test.YtigmfpmabgekoaaGreatV12Bs3x8
import Derived.Test.YtigmfpmabgekoaaGreatRows
import Derived.Test.YtigmfpmabgekoaaGreatChecked
import Derived.ProofKit
import Derived.OpenShut
set_option linter.unusedVariables false
set_option maxRecDepth 100000
namespace Go.Eng
open Go.Proofs Go.ChangeShapes Go.WideShapes Go.ChangeAt Go.RowKit
theorem Uj {p:aH} {M:Mu} {k:IntKind} {z:Nat→Int} {N sz len:Nat} {full:Bool} {v:Value} (h:aj p M (.slcT none (.F (fun j=>.int k (z j)) N) sz len full) v):aj p M (.slcT none (.M [.arr k z N]) sz len full) v:=by
 cases h with
 | slcN=>exact .slcN
 | slcT vs h0 h1 hv hl hf hx =>
   have e:∀ j,j<(Row.M [aL.arr k z N]).len→j<N:=fun j hj=>by simpa[Row.len,aE,aM] using hj
   refine .slcT vs (fun j hj=>h0 j (e j hj)) (fun j hj=>h1 j (e j hj)) (fun j hj=>?_) hl hf hx
   have:=hv j (e j hj)
   simp only[Row.get,getM,if_pos (e j hj)] at this ⊢
   exact this.bA _ _
theorem Bt {P:Program} {w:World} {r:Reach} {base:Nat} {t e:TypeId} {v:Value} (ht:P.underlying t=some (.slice e)) (h:Cell.okWide P w r base t v):∀ a l c,v=.slice (some a) l c→a.spot=none:=by
 rintro a l c rfl
 simp only[Cell.okWide,ht,Cell.ok] at h
 exact h.2.2.2.1
theorem Fa:En Tryz.prog 2 1:=Fc Tryz.underlying2
theorem Fb:En Tryz.prog 26 2:=xh Tryz.underlying26 Fa Fa rfl rfl (by kernel_rfl) (by kernel_rfl) (by kernel_rfl)
theorem xi {P:Program} {k:IntKind} {t:TypeId} {f0 f1 f2:Field} {n0 n1 n2:Nat} (ht:P.underlying t=some (.struct #[f0,f1,f2])) (h0:mn k P f0.type n0) (h1:mn k P f1.type n1) (h2:mn k P f2.type n2) (o0:f0.offset=0) (o1:f1.offset=n0) (o2:f2.offset=n0+n1) (c0:P.cellsOf f0.type=n0) (c1:P.cellsOf f1.type=n1) (c2:P.cellsOf f2.type=n2) (c:P.cellsOf t=n0+n1+n2):mn k P t (n0+n1+n2):=by
 intro H enc w base sp held fuel cs x h
 obtain ⟨xs,m,_,_,hl,hxl,hf⟩:=DataW.trod_struct ht h
 match xs,hxl,hf with
 | [y0,y1,y2],_,hf =>
   have g0:=hf 0 f0 rfl
   have g1:=hf 1 f1 rfl
   have g2:=hf 2 f2 rfl
   obtain ⟨_,k0⟩:=h0 _ _ _ _ _ _ _ _ _ g0
   obtain ⟨_,k1⟩:=h1 _ _ _ _ _ _ _ _ _ g1
   obtain ⟨_,k2⟩:=h2 _ _ _ _ _ _ _ _ _ g2
   refine ⟨by rw[hl,c],fun j hj=>?_⟩
   by_cases p:j<n0
   · obtain ⟨z,hz,hw⟩:=k0 j p
     refine ⟨z,?_,hw⟩
     rw[o0,c0] at hz
     simpa[List.getElem?_take,p] using hz
   by_cases q:j<n0+n1
   · obtain ⟨z,hz,hw⟩:=k1 (j-n0) (by omega)
     refine ⟨z,?_,hw⟩
     rw[o1,c1] at hz
     have:j-n0<n1:=by omega
     simpa[List.getElem?_take,this,List.getElem?_drop,show n0+(j-n0)=j by omega] using hz
   · obtain ⟨z,hz,hw⟩:=k2 (j-(n0+n1)) (by omega)
     refine ⟨z,?_,hw⟩
     rw[o2,c2] at hz
     have:j-(n0+n1)<n2:=by omega
     simpa[List.getElem?_take,this,List.getElem?_drop,show n0+n1+(j-(n0+n1))=j by omega] using hz
theorem Kd:En Tryz.prog 56 5:=xi Tryz.underlying56 Fb Fb Fa rfl rfl rfl (by kernel_rfl) (by kernel_rfl) (by kernel_rfl) (by kernel_rfl)
def vl (t:TypeId) (A:AV→Prop):Prop:=∀ (H:Type) (enc:TypeId×Value→H) (w:World) (r:Reach) (b0 base:Nat) (sp:Nat→Bool) (held:Bool) (v:Value) (d:DataW H) (ps:List MemPlace),
 Value.okWide Tryz.prog w r b0 t v→DataW.Trod enc Tryz.prog w base sp held t v d ps→∃ a,A a∧aj (Pw w) Mu.no a v
def AD:List (AV→Prop)→List AV→Prop
 | [],[]=>True
 | A::As,a::xs=>A a∧AD As xs
 | _,_=>False
theorem kB {A:AV→Prop} {As:List (AV→Prop)} {xs:List AV} (h:AD (A::As) xs):∃ a ys,xs=a::ys∧A a∧AD As ys:=by
 cases xs with
 | nil=>exact h.elim
 | cons a ys=>exact ⟨a,ys,rfl,h.1,h.2⟩
theorem Et {xs:List AV} (h:AD [] xs):xs=[]:=by
 cases xs with
 | nil=>rfl
 | cons a ys=>exact h.elim
def JC:List TypeId→List (AV→Prop)→Prop
 | [],[]=>True
 | t::ts,A::As=>vl t A∧JC ts As
 | _,_=>False
theorem BO {H:Type} {enc:TypeId×Value→H} {w:World} {r:Reach} {b0 base:Nat} {sp:Nat→Bool} {held:Bool}:∀ (ts:List TypeId) (As:List (AV→Prop)) (vs:List Value) (ds:List (DataW H)) (ps:List MemPlace),JC ts As →
 (∀ (j:Nat) t v,ts[j]?=some t→vs[j]?=some v→Value.okWide Tryz.prog w r b0 t v)→DataW.TrodAll enc Tryz.prog w base sp held ts vs ds ps→∃ xs,AD As xs∧vs.length=xs.length∧∀ j,j<xs.length→aj (Pw w) Mu.no (xs.getD j .undef) (vs.getD j undef)
 | [],[],vs,ds,ps,_,_,h=>by
   obtain ⟨rfl,rfl,rfl⟩:=trodAll_nil h
   exact ⟨[],trivial,rfl,fun j hj=>by simp at hj⟩
 | t::ts,A::As,vs,ds,ps,hT,hv,h=>by
   obtain ⟨v,vs',d,ds',p,q,rfl,rfl,rfl,h1,h2⟩:=trodAll_cons h
   obtain ⟨a,ha,hr⟩:=hT.1 H enc w r b0 base sp held v d p (hv 0 t v rfl rfl) h1
   obtain ⟨xs,hA,hl,hR⟩:=BO ts As vs' ds' q hT.2 (fun j t' v' e1 e2=>hv (j+1) t' v' (by simpa using e1) (by simpa using e2)) h2
   refine ⟨a::xs,⟨ha,hA⟩,by simp[hl],fun j hj=>?_⟩
   cases j with
   | zero=>exact hr
   | succ j=>simpa using hR j (by simpa using hj)
 | [],_::_,_,_,_,hT,_,_=>hT.elim
 | _::_,[],_,_,_,hT,_,_=>hT.elim
theorem wA {H:Type} {enc:TypeId×Value→H} {W W':World} {base:Nat} {sp':Nat→Bool} (hl:laidOutB Tryz.prog=true):∀ (ts:List TypeId) (vs:List Value) (ds:List (DataW H)) (ps:List MemPlace),(∀ t ∈ ts,Tryz.prog.readableRec t=true∧t<Tryz.prog.types.size) →
 DataW.TrodAll enc Tryz.prog W base (fun _=>true) true ts vs ds ps→(∀ p ∈ ps,W.sameAt W' p)→(∀ p ∈ ps,sp' p.block=true)→DataW.TrodAll enc Tryz.prog W' base sp' true ts vs ds ps
 | [],vs,ds,ps,_,h,_,_=>by
   obtain ⟨rfl,rfl,rfl⟩:=trodAll_nil h
   exact trodAll_mk0
 | t::ts,vs,ds,ps,ht,h,hs,hp=>by
   obtain ⟨v,vs',d,ds',p,q,rfl,rfl,rfl,h1,h2⟩:=trodAll_cons h
   obtain ⟨r1,r2⟩:=ht t (by simp)
   refine ⟨p,q,?_,wA hl ts vs' ds' q (fun t' h'=>ht t' (List.mem_cons_of_mem _ h')) h2 (fun x hx=>hs x (List.mem_append_right _ hx)) (fun x hx=>hp x (List.mem_append_right _ hx)),rfl⟩
   exact WideElems.Trod_stays hl r1 r2 h1 (fun x hx=>hs x (List.mem_append_left _ hx)) (fun x hx=>hp x (List.mem_append_left _ hx))
theorem LI (hN:cw Tryz.prog) (hm:Tryz.prog.follows .mixedOrders=true) (hW:bV Tryz.prog ⟨15,[],.bool true⟩) (n:Nat):bL Tryz.prog (cd n) :=
 qi hN (wZ hN hm) (Ie hN (wZ hN hm) hW) KtB.kt 100000 n
theorem DP {f:FuncId} {ts:List TypeId} {As:List (AV→Prop)} (hT:JC ts As) {n:Nat} (hlaw:∀ xs,AD As xs→∃ H',cd n (.fn f) xs [⟨true,[]⟩]=some (.bool true,H')) {H:Type} {enc:TypeId×Value→H} {w:World} {r:Reach} {b0 base:Nat} {sp:Nat→Bool} {held:Bool} {args:Array Value} {ds:List (DataW H)} {ps:List MemPlace}
 (hv:∀ (j:Nat) t v,ts[j]?=some t→args[j]?=some v→Value.okWide Tryz.prog w r b0 t v) (h:DataW.TrodAll enc Tryz.prog w base sp held ts args.toList ds ps) :
 Calls Tryz.prog f args w (fun e w'=>e=.returned (.bool true)∧Go.RowKit.Below w.heap.size w w'):=by
 obtain ⟨xs,hA,hl,hR⟩:=BO ts As args.toList ds ps hT (fun j t v e1 e2=>hv j t v e1 (by simpa using e2)) h
 obtain ⟨H',hc⟩:=hlaw xs hA
 refine Dq (LI YtigmfpmabgekoaaGreat.Known.named YtigmfpmabgekoaaGreat.Known.mixed YtigmfpmabgekoaaGreat.Known.okW n) hc ⟨by simpa using hl,fun j hj=>?_⟩
 have:=hR j hj
 have e:args.toList.getD j undef=args.getD j undef:=by
  rw[Array.getD_eq_getD_getElem?,List.getD_eq_getElem?_getD,Array.getElem?_toList]
 rwa [e] at this
theorem BN {t:TypeId} {k:IntKind} (ht:Tryz.prog.underlying t=some (.int k)):vl t (fun a=>∃ n:Int,a=.int k n∧(Lit.int k n).wf=true):=fun H enc w r b0 base sp held v d ps hv h=>by
 obtain ⟨fuel,hf⟩:=h
 obtain ⟨n,e,_,hw⟩:=DataW.trod_int ht hf
 obtain ⟨s,rfl⟩:=WideShapes.okWide_int ht hv
 have:s=n:=by simpa[Value.cells] using e
 subst this
 exact ⟨_,⟨s,rfl,hw⟩,.int _ _⟩
def JB (a:AV):Prop:=∃ n:Int,a=.int .u8 n∧0≤n∧n≤255
theorem EA:vl 5 JB:=fun H enc w r b0 base sp held v d ps hv h=>by
 obtain ⟨a,⟨n,rfl,hw⟩,hr⟩:=BN Tryz.underlying5 H enc w r b0 base sp held v d ps hv h
 simp[Lit.wf,IntKind.min,IntKind.max,IntKind.signed,IntKind.bits] at hw
 exact ⟨_,⟨n,rfl,by omega,by omega⟩,hr⟩
def JA (a:AV):Prop:=∃ n:Int,a=.int .u16 n∧0≤n∧n≤65535
theorem JO:vl 54 JA:=fun H enc w r b0 base sp held v d ps hv h=>by
 obtain ⟨a,⟨n,rfl,hw⟩,hr⟩:=BN Tryz.underlying54 H enc w r b0 base sp held v d ps hv h
 simp[Lit.wf,IntKind.min,IntKind.max,IntKind.signed,IntKind.bits] at hw
 exact ⟨_,⟨n,rfl,by omega,by omega⟩,hr⟩
theorem own:ownKnob Tryz.prog.godebug=none:=by kernel_rfl
theorem laidOut:laidOutB Tryz.prog=true:=by kernel_rfl
theorem Ez {t e n:Nat} {k:IntKind} (ht:Tryz.prog.underlying t=some (.slice e)) (he:mn k Tryz.prog e n) (hn:0<n) (hc:Tryz.prog.cellsOf e=n):vl t (fun a=>∃ (len:Nat) (z:Nat→Int),a=.slcT none (.M [.arr k z (len*n)]) n len false∧∀ j,(Lit.int k (z j)).wf=true):=fun H enc w r b0 base sp held v d ps hv h=>by
 simp only[Value.okWide,ht] at hv
 have hcell:v.cells.toList=[v]:=by
  simp only[Cell.okWide,ht] at hv
  cases v<;>simp_all [Cell.ok]<;>rfl
 obtain ⟨fuel,hf⟩:=h
 rw[hcell] at hf
 have h0:(Lit.int k 0).wf=true:=by cases k<;>rfl
 rcases Bs ht he hn hc (Bt ht hv) hf with rfl | ⟨zs,len,h1,h2⟩
 · exact ⟨_,⟨0,fun _=>0,rfl,fun _=>h0⟩,.slcN⟩
 · refine ⟨_,⟨len,fun j=>if j<len*n then zs j else 0,rfl,fun j=>?_⟩,?_⟩
   · dsimp only
     split
     · exact h2 _ (by assumption)
     · exact h0
   · have h3:=Uj h1
     cases h3 with
     | slcN=>exact .slcN
     | slcT vs a0 a1 hv' hl hf' hx =>
       refine .slcT vs a0 a1 (fun j hj=>?_) hl hf' hx
       have:=hv' j hj
       have hj':j<len*n:=by simpa[Row.len,aE,aM] using hj
       simp only[Row.get,getM,if_pos hj'] at this ⊢
       exact this.bA _ _
def Jz (a:AV):Prop:=∃ (len:Nat) (z:Nat→Int),a=aG 5 len z
theorem JN:vl 22 Jz:=fun H enc w r b0 base sp held v d ps hv h=>by
 obtain ⟨a,⟨len,z,rfl,hz⟩,hr⟩:=Ez Tryz.underlying22 Kd (by omega) (by kernel_rfl) H enc w r b0 base sp held v d ps hv h
 refine ⟨_,⟨len,z,rfl⟩,?_⟩
 unfold aG
 rw[cj]
 exact hr
end Go.Eng
