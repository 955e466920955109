/- Gall: the frame of the laws: arguments, a law's call, what is left as it was. -/
import Derived.Test.YtgphpjdchnfjlaaDoorV5GaKx6
import Derived.Test.YtgphpjdchnfjlaaDoorV5Gcqx18
import Derived.Test.YtgphpjdchnfjlaaDoorV5Gp2x6
import Derived.OpenShut
set_option linter.unusedVariables false
set_option maxRecDepth 100000
section
namespace Go.Eng
open Go.Proofs Go.ChangeShapes Go.WideShapes Go.ChangeAt Go.RowKit
theorem VB {p:aL} {M:Mu} {k:IntKind} {z:Nat→Int} {N sz len:Nat} {full:Bool} {v:Value} (h:an p M (.slcT none (.F (fun j=>.int k (z j)) N) sz len full) v):an p M (.slcT none (.M [.arr k z N]) sz len full) v:=by
 cases h with
 | slcN=>exact .slcN
 | slcT vs h0 h1 hv hl hf hx =>
   have e:∀ j,j<(Row.M [da.arr k z N]).len→j<N:=fun j hj=>by simpa[Row.len,aE,aV] using hj
   refine .slcT vs (fun j hj=>h0 j (e j hj)) (fun j hj=>h1 j (e j hj)) (fun j hj=>?_) hl hf hx;have:=hv j (e j hj);simp only[Row.get,getM,if_pos (e j hj)] at this ⊢;exact this.bz _ _
theorem uC {P:Program} {w:World} {r:Reach} {base:Nat} {t e:TypeId} {v:Value} (ht:P.underlying t=some (.slice e)) (h:Cell.okWide P w r base t v):∀ a l c,v=.slice (some a) l c→a.spot=none:=by
 rintro a l c rfl;simp only[Cell.okWide,ht,Cell.ok] at h;exact h.2.2.2.1
theorem CV:vC Tryd.prog 2 1:=pg Tryd.underlying2
theorem OP:vC Tryd.prog 3 1:=pg Tryd.underlying3
theorem Mj:vC Tryd.prog 29 2:=w8 Tryd.underlying29 CV CV rfl rfl (by kernel_rfl) (by kernel_rfl) (by kernel_rfl)
theorem w9 {P:Program} {k:IntKind} {t:TypeId} {f0 f1 f2:Field} {n0 n1 n2:Nat} (ht:P.underlying t=some (.struct #[f0,f1,f2])) (h0:kh k P f0.type n0) (h1:kh k P f1.type n1) (h2:kh k P f2.type n2) (o0:f0.offset=0) (o1:f1.offset=n0) (o2:f2.offset=n0+n1) (c0:P.cellsOf f0.type=n0) (c1:P.cellsOf f1.type=n1) (c2:P.cellsOf f2.type=n2) (c:P.cellsOf t=n0+n1+n2):kh k P t (n0+n1+n2):=by
 intro H enc w base sp held fuel cs x h;obtain ⟨xs,m,_,_,hl,hxl,hf⟩:=DataW.trod_struct ht h;match xs,hxl,hf with
 | [y0,y1,y2],_,hf =>
   have g0:=hf 0 f0 rfl;have g1:=hf 1 f1 rfl;have g2:=hf 2 f2 rfl;obtain ⟨_,k0⟩:=h0 _ _ _ _ _ _ _ _ _ g0;obtain ⟨_,k1⟩:=h1 _ _ _ _ _ _ _ _ _ g1;obtain ⟨_,k2⟩:=h2 _ _ _ _ _ _ _ _ _ g2;refine ⟨by rw[hl,c],fun j hj=>?_⟩;by_cases p:j<n0
   · obtain ⟨z,hz,hw⟩:=k0 j p;refine ⟨z,?_,hw⟩;rw[o0,c0] at hz;simpa[List.getElem?_take,p] using hz
   by_cases q:j<n0+n1
   · obtain ⟨z,hz,hw⟩:=k1 (j-n0) wO;refine ⟨z,?_,hw⟩;rw[o1,c1] at hz;have:j-n0<n1:=by omega
     simpa[List.getElem?_take,this,List.getElem?_drop,show n0+(j-n0)=j by omega] using hz
   · obtain ⟨z,hz,hw⟩:=k2 (j-(n0+n1)) wO;refine ⟨z,?_,hw⟩;rw[o2,c2] at hz;have:j-(n0+n1)<n2:=by omega
     simpa[List.getElem?_take,this,List.getElem?_drop,show n0+n1+(j-(n0+n1))=j by omega] using hz
theorem Mk:vC Tryd.prog 56 4:=w9 Tryd.underlying56 Mj CV CV rfl rfl rfl (by kernel_rfl) (by kernel_rfl) (by kernel_rfl) (by kernel_rfl)
def vB (t:TypeId) (A:AV→Prop):Prop:=∀ (H:Type) (enc:TypeId×Value→H) (w:World) (r:Reach) (b0 base:Nat) (sp:Nat→Bool) (held:Bool) (v:Value) (d:DataW H) (ps:List MemPlace),mg w →
 Value.okWide Tryd.prog w r b0 t v→DataW.Trod enc Tryd.prog w base sp held t v d ps→∃ a,A a∧an (Pw w) Mu.no a v
def A6:List (AV→Prop)→List AV→Prop
 | [],[]=>True
 | A::As,a::xs=>A a∧A6 As xs
 | _,_=>False
theorem p9 {A:AV→Prop} {As:List (AV→Prop)} {xs:List AV} (h:A6 (A::As) xs):∃ a ys,xs=a::ys∧A a∧A6 As ys:=by
 cases xs with
 | nil=>exact h.elim
 | cons a ys=>exact ⟨a,ys,rfl,h.1,h.2⟩
theorem FC {xs:List AV} (h:A6 [] xs):xs=[]:=by
 cases xs with
 | nil=>rfl
 | cons a ys=>exact h.elim
def LI:List TypeId→List (AV→Prop)→Prop
 | [],[]=>True
 | t::ts,A::As=>vB t A∧LI ts As
 | _,_=>False
theorem CA {H:Type} {enc:TypeId×Value→H} {w:World} (hg:mg w) {r:Reach} {b0 base:Nat} {sp:Nat→Bool} {held:Bool}:∀ (ts:List TypeId) (As:List (AV→Prop)) (vs:List Value) (ds:List (DataW H)) (ps:List MemPlace),LI ts As →
 (∀ (j:Nat) t v,ts[j]?=some t→vs[j]?=some v→Value.okWide Tryd.prog w r b0 t v)→DataW.TrodAll enc Tryd.prog w base sp held ts vs ds ps→∃ xs,A6 As xs∧vs.length=xs.length∧∀ j,j<xs.length→an (Pw w) Mu.no (xs.getD j .undef) (vs.getD j undef)
 | [],[],vs,ds,ps,_,_,h=>by
   obtain ⟨rfl,rfl,rfl⟩:=trodAll_nil h;exact ⟨[],trivial,rfl,fun j hj=>by simp at hj⟩
 | t::ts,A::As,vs,ds,ps,hT,hv,h=>by
   obtain ⟨v,vs',d,ds',p,q,rfl,rfl,rfl,h1,h2⟩:=trodAll_cons h;obtain ⟨a,ha,hr⟩:=hT.1 H enc w r b0 base sp held v d p hg (hv 0 t v rfl rfl) h1;obtain ⟨xs,hA,hl,hR⟩:=CA hg ts As vs' ds' q hT.2 (fun j t' v' e1 e2=>hv (j+1) t' v' (by simpa using e1) (by simpa using e2)) h2;refine ⟨a::xs,⟨ha,hA⟩,by simp[hl],fun j hj=>?_⟩;cases j with
   | zero=>exact hr
   | succ j=>simpa using hR j (by simpa using hj)
 | [],_::_,_,_,_,hT,_,_=>hT.elim
 | _::_,[],_,_,_,hT,_,_=>hT.elim
theorem wB {H:Type} {enc:TypeId×Value→H} {W W':World} {base:Nat} {sp':Nat→Bool} (hl:laidOutB Tryd.prog=true):∀ (ts:List TypeId) (vs:List Value) (ds:List (DataW H)) (ps:List MemPlace),(∀ t ∈ ts,Tryd.prog.readableRec t=true∧t<Tryd.prog.types.size) →
 DataW.TrodAll enc Tryd.prog W base (fun _=>true) true ts vs ds ps→(∀ p ∈ ps,W.sameAt W' p)→(∀ p ∈ ps,sp' p.block=true)→DataW.TrodAll enc Tryd.prog W' base sp' true ts vs ds ps
 | [],vs,ds,ps,_,h,_,_=>by
   obtain ⟨rfl,rfl,rfl⟩:=trodAll_nil h;exact trodAll_mk0
 | t::ts,vs,ds,ps,ht,h,hs,hp=>by
   obtain ⟨v,vs',d,ds',p,q,rfl,rfl,rfl,h1,h2⟩:=trodAll_cons h;obtain ⟨r1,r2⟩:=ht t (by simp);refine ⟨p,q,?_,wB hl ts vs' ds' q (fun t' h'=>ht t' (List.mem_cons_of_mem _ h')) h2 (fun x hx=>hs x (List.mem_append_right _ hx)) (fun x hx=>hp x (List.mem_append_right _ hx)),rfl⟩;exact WideElems.Trod_stays hl r1 r2 h1 (fun x hx=>hs x (List.mem_append_left _ hx)) (fun x hx=>hp x (List.mem_append_left _ hx))
theorem FW (hN:dN Tryd.prog) (hm:Tryd.prog.follows .mixedOrders=true) (hW:aG Tryd.prog ⟨15,[],.bool true⟩) (n:Nat):cg Tryd.prog (cd n) :=
 na hN (qf hN hm) (xD hN (qf hN hm) hW) KtG.kt 100000 n
theorem ED {f:FuncId} {ts:List TypeId} {As:List (AV→Prop)} (hT:LI ts As) {n:Nat} (hlaw:∀ xs,A6 As xs→∃ H',cd n (.fn f) xs [⟨true,[]⟩]=some (.bool true,H')) {H:Type} {enc:TypeId×Value→H} {w:World} (hg:mg w) {r:Reach} {b0 base:Nat} {sp:Nat→Bool} {held:Bool} {args:Array Value} {ds:List (DataW H)} {ps:List MemPlace}
 (hv:∀ (j:Nat) t v,ts[j]?=some t→args[j]?=some v→Value.okWide Tryd.prog w r b0 t v) (h:DataW.TrodAll enc Tryd.prog w base sp held ts args.toList ds ps) :
 Calls Tryd.prog f args w (fun e w'=>e=.returned (.bool true)∧Go.RowKit.Below w.heap.size w w'):=by
 obtain ⟨xs,hA,hl,hR⟩:=CA hg ts As args.toList ds ps hT (fun j t v e1 e2=>hv j t v e1 (by simpa using e2)) h
 obtain ⟨H',hc⟩:=hlaw xs hA
 refine Ef (FW Gall.named Gall.mixed Gall.PD n) hc hg ⟨by simpa using hl,fun j hj=>?_⟩
 have:=hR j hj
 have e:args.toList.getD j undef=args.getD j undef:=by
  rw[Array.getD_eq_getD_getElem?,List.getD_eq_getElem?_getD,Array.getElem?_toList]
 rwa [e] at this
theorem laidOut:laidOutB Tryd.prog=true:=by kernel_rfl
theorem Bu {P:Program} {k:IntKind} {t e:TypeId} {n m:Nat} (ht:P.underlying t=some (.array n e)) (he:kh k P e m) (hm:0<m) (hc:P.cellsOf e=m) (hct:P.cellsOf t=n*m):kh k P t (n*m):=by
 intro H enc w base sp held fuel cs x h;obtain ⟨xs,f,_,_,hl,hxl,hel⟩:=DataW.trod_array ht h;refine ⟨by rw[hl,hct],fun j hj=>?_⟩;have hi:j / m<n:=by rw[Nat.div_lt_iff_lt_mul hm];exact hj
 have hm':=Nat.mod_lt j hm;have g:=hel (j / m) hi;have:j / m<xs.length:=by omega
 rw[List.getElem?_eq_getElem this] at g;obtain ⟨_,k1⟩:=he _ _ _ _ _ _ _ _ _ g;obtain ⟨z,hz,hw⟩:=k1 (j % m) hm';refine ⟨z,?_,hw⟩;rw[hc,List.getElem?_take,if_pos hm',List.getElem?_drop] at hz;have hd:=Nat.div_add_mod j m;rw[Nat.mul_comm] at hd;rwa [hd] at hz
theorem yf {t e n:Nat} {k:IntKind} (ht:Tryd.prog.underlying t=some (.slice e)) (he:kh k Tryd.prog e n) (hn:0<n) (hc:Tryd.prog.cellsOf e=n):vB t (fun a=>∃ (len:Nat) (z:Nat→Int),a=.slcT none (.M [.arr k z (len*n)]) n len false∧∀ j,(Lit.int k (z j)).wf=true):=fun H enc w r b0 base sp held v d ps hg hv h=>by
 simp only[Value.okWide,ht] at hv;have hcell:v.cells.toList=[v]:=by
  simp only[Cell.okWide,ht] at hv;cases v<;>simp_all [Cell.ok]<;>rfl
 obtain ⟨fuel,hf⟩:=h;rw[hcell] at hf;have h0:(Lit.int k 0).wf=true:=by cases k<;>rfl
 rcases uB ht he hn hc hg (uC ht hv) hf with rfl | ⟨zs,len,h1,h2⟩
 · exact ⟨_,⟨0,fun _=>0,rfl,fun _=>h0⟩,.slcN⟩
 · refine ⟨_,⟨len,fun j=>if j<len*n then zs j else 0,rfl,fun j=>?_⟩,?_⟩
   · dsimp only;split
     · exact h2 _ (by assumption)
     · exact h0
   · have h3:=VB h1;cases h3 with
     | slcN=>exact .slcN
     | slcT vs a0 a1 hv' hl hf' hx =>
       refine .slcT vs a0 a1 (fun j hj=>?_) hl hf' hx;have:=hv' j hj;have hj':j<len*n:=by simpa[Row.len,aE,aV] using hj
       simp only[Row.get,getM,if_pos hj'] at this ⊢;exact this.bz _ _
def Ct (a:AV):Prop:=∃ (len:Nat) (z:Nat→Int),a=.slcT none (.M [.arr .i64 z len]) 1 len false∧∀ j,-9223372036854775808≤z j∧z j≤9223372036854775807
theorem Iw {t e:TypeId} (ht:Tryd.prog.underlying t=some (.slice e)) (he:Tryd.prog.underlying e=some (.int .i64)) (hc:Tryd.prog.cellsOf e=1):vB t Ct:=fun H enc w r b0 base sp held v d ps hg hv h=>by
 obtain ⟨a,⟨len,z,rfl,hz⟩,hr⟩:=yf ht (pg he) wO hc H enc w r b0 base sp held v d ps hg hv h;refine ⟨_,⟨len,z,by rw[Nat.mul_one],fun j=>?_⟩,hr⟩;have:=hz j;simp[Lit.wf,IntKind.min,IntKind.max,IntKind.signed,IntKind.bits] at this;omega
theorem N6:vB 36 Ct:=Iw Tryd.underlying36 Tryd.underlying3 (by kernel_rfl)
theorem Ml:vC Tryd.prog 61 2:=Bu Tryd.underlying61 OP wO (by kernel_rfl) (by kernel_rfl)
theorem uA {t e n:Nat} (ht:Tryd.prog.underlying t=some (.slice e)) (he:vC Tryd.prog e n) (hn:0<n) (hc:Tryd.prog.cellsOf e=n) {H:Type} {enc:TypeId×Value→H} {w:World} (hg:mg w) {r:Reach} {b0 base:Nat} {sp:Nat→Bool} {held:Bool} {fuel:Nat} {v:Value} {x:DataW H×List MemPlace}
 (hv:Cell.okWide Tryd.prog w r b0 t v) (h:DataW.trod enc Tryd.prog w base sp held fuel t [v]=some x):∃ (len:Nat) (z:Nat→Int),an (Pw w) Mu.no (slA n len z) v∧v.oneCell'=true:=by
 rcases uB ht he hn hc hg (uC ht hv) h with rfl | ⟨zs,len,h1,h2⟩
 · exact ⟨0,fun _=>0,.slcN,rfl⟩
 · refine ⟨len,zs,?_,?_⟩
   · unfold slA
     rw[cY]
     exact VB h1
   · cases h1<;>rfl
def QT (a:AV):Prop:=∃ (O:Int) (U:Nat) (Z:Nat→Int) (V:Nat) (J:Nat→Int),a=bt O U Z V J
theorem N7:vB 25 QT:=fun H enc w r b0 base sp held v d ps hg hv h=>by
 have hts:Tryd.prog.cellTypes Tryd.prog.depth 25=some [2,22,23]:=by kernel_rfl
 have hc25:Tryd.prog.cellsOf 25=3:=by kernel_rfl
 have hc2:Tryd.prog.cellsOf 2=1:=by kernel_rfl
 have hc22:Tryd.prog.cellsOf 22=1:=by kernel_rfl
 have hc23:Tryd.prog.cellsOf 23=1:=by kernel_rfl
 have hc56:Tryd.prog.cellsOf 56=4:=by kernel_rfl
 have hc61:Tryd.prog.cellsOf 61=2:=by kernel_rfl
 simp only[Value.okWide,Tryd.underlying25] at hv;obtain ⟨cs,rfl,hsz,ts,ht,_,hcell⟩:=hv;rw[hts] at ht;obtain rfl:=Option.some.inj ht;rw[hc25] at hsz;obtain ⟨fuel,hf⟩:=h;obtain ⟨xs,n,_,_,_,hxl,hfield⟩:=DataW.trod_struct Tryd.underlying25 hf;have e3:∃ c0 c1 c2,cs=#[c0,c1,c2]:=by
  refine ⟨cs[0],cs[1],cs[2],?_⟩;apply Array.ext
  · simpa using hsz
  · intro i h1 h2;simp at h2;match i,h2 with
    | 0,_=>rfl
    | 1,_=>rfl
    | 2,_=>rfl
 obtain ⟨c0,c1,c2,rfl⟩:=e3;have some_of:∀ i,i<3→∃ y,xs[i]?=some y:=fun i hi=>by
  have:i<xs.length:=by rw[hxl];simpa using hi
  exact ⟨xs[i],List.getElem?_eq_getElem this⟩
 obtain ⟨y0,hy0⟩:=some_of 0 wO;obtain ⟨y1,hy1⟩:=some_of 1 wO;obtain ⟨y2,hy2⟩:=some_of 2 wO;have f0:=hfield 0 _ rfl;have f1:=hfield 1 _ rfl;have f2:=hfield 2 _ rfl;rw[hy0] at f0;rw[hy1] at f1;rw[hy2] at f2;simp only[Value.cells] at f0 f1 f2;have g0:DataW.trod enc Tryd.prog w base sp held n 2 [c0]=some y0:=by simpa[hc2] using f0
 have g1:DataW.trod enc Tryd.prog w base sp held n 22 [c1]=some y1:=by simpa[hc22] using f1
 have g2:DataW.trod enc Tryd.prog w base sp held n 23 [c2]=some y2:=by simpa[hc23] using f2
 obtain ⟨wd,e0,_,hw⟩:=DataW.trod_int Tryd.underlying2 g0;simp only[List.cons.injEq,and_true] at e0;subst e0;obtain ⟨u1,hu1,k1⟩:=hcell 1 c1 rfl;obtain ⟨u2,hu2,k2⟩:=hcell 2 c2 rfl;simp at hu1 hu2;subst hu1;subst hu2;obtain ⟨U,Z,r1,o1⟩:=uA Tryd.underlying22 Mk wO hc56 hg k1 g1;obtain ⟨V,J,r2,o2⟩:=uA Tryd.underlying23 Ml wO hc61 hg k2 g2;refine ⟨_,⟨wd,U,Z,V,J,rfl⟩,?_⟩;refine .agg rfl (fun j hj=>?_) (fun j hj=>?_)
 · have hj':j<3:=hj;match j,hj' with
   | 0,_=>rfl
   | 1,_=>exact o1
   | 2,_=>exact o2
 · have hj':j<3:=hj;match j,hj' with
   | 0,_=>exact .int _ _
   | 1,_=>exact r1
   | 2,_=>exact r2
end Go.Eng
end
section
namespace Go.Eng
open Go.Proofs Go.ChangeShapes Go.WideShapes Go.ChangeAt Go.RowKit
def FA (a:AV):Prop:=∃ (len:Nat) (z:Nat→Int),a=.slcT none (.M [.arr .u16 z len]) 1 len false∧∀ j,0≤z j∧z j≤65535
theorem Ix:vB 54 FA:=fun H enc w r b0 base sp held v d ps hg hv h=>by
 obtain ⟨a,⟨len,z,rfl,hz⟩,hr⟩:=yf Tryd.underlying54 (pg Tryd.underlying57) wO (by kernel_rfl) H enc w r b0 base sp held v d ps hg hv h;refine ⟨_,⟨len,z,by rw[Nat.mul_one],fun j=>?_⟩,hr⟩;have:=hz j;simp[Lit.wf,IntKind.min,IntKind.max,IntKind.signed,IntKind.bits] at this;omega
end Go.Eng
end
