/- Closed calls of the seat: what they lean on. -/
import Derived.Test.YtigmfpmabgekoaaGreatV7EngRn4x4
import Derived.Test.YtigmfpmabgekoaaGreatV7EngKtBx3
import Derived.Test.YtigmfpmabgekoaaGreatProg
import Derived.KernelRfl
import Derived.Test.YtigmfpmabgekoaaGreatChecked
import Derived.Test.YtigmfpmabgekoaaGreatV7BaSox5
import Derived.Test.YtigmfpmabgekoaaGreatRows
import Derived.ProofKit
import Derived.OpenShut
section
namespace Go.Proofs.YtigmfpmabgekoaaGreat.Known
open Go.Eng Go.Proofs
set_option maxRecDepth 100000
theorem named:Named Tryz.prog:=by
 have h:(Tryz.prog.funcs.toList.all fun fn=>fn.body.isNone || !(fn.name == "runtime.NumGoroutine"))=true:=by kernel_rfl
 intro f fn hf hb
 have:=List.all_eq_true.1 h fn (by simpa using Array.mem_of_getElem? hf)
 rw[hb] at this
 simpa using this
theorem mixed:Tryz.prog.follows .mixedOrders=true:=by kernel_rfl
theorem none_ok:∀ e ∈ ([]:List Ora),OneOk Tryz.prog e:=fun e h=>by cases h
theorem cons_ok {e:Ora} {t:List Ora} (h:OneOk Tryz.prog e) (k:∀ x ∈ t,OneOk Tryz.prog x):∀ x ∈ e::t,OneOk Tryz.prog x:=fun x hx=>by
 rcases List.mem_cons.1 hx with rfl | hx
 · exact h
 · exact k x hx
def tab0:List Ora:=[]
theorem tab0_ok:∀ e ∈ tab0,OneOk Tryz.prog e:=none_ok
def navB:List Nat→Code→Code
 | [],c=>c
 | x :: p,c=>match c with
   | .seq a b=>match x with
     | 0=>navB p a
     | _=>navB p b
   | .cond _ a b=>match x with
     | 0=>navB p a
     | _=>navB p b
   | .block _ b=>navB p b
   | .loop b=>navB p b
   | .scope b=>navB p b
   | .rangeFunc _ _ a b=>match x with
     | 0=>navB p a
     | _=>navB p b
   | c=>c
def opsB:Code→Array Oper
 | .region _ ops _=>ops
 | _=>#[]
noncomputable def bd79:Code:=Tryz.f79.body.getD .skip
def hdO (l:List Oper):Oper:=l.headD { dst:=none,op:=.move (.tmp 0),type:=0,pos := "",after:=#[],guard:=none }
noncomputable def mostS:RStart:={ id0:=24,ops0:=opsB (navB [1,1,1,1,1,1,0,0] bd79),pre:=(opsB (navB [1,1,1,1,1,1,0,0] bd79)).toList.take 1,ro:=hdO ((opsB (navB [1,1,1,1,1,1,0,0] bd79)).toList.drop 1),m:=90,ty:=122 }
noncomputable def mostL:RLoop:={ out:=6,id1:=25,id2:=26,nxt:=7,ops1:=opsB (navB [1,1,1,1,1,1,0,1,0,0,0] bd79),ops2:=opsB (navB [1,1,1,1,1,1,0,1,0,0,1,1,0,0] bd79),no:=hdO (opsB (navB [1,1,1,1,1,1,0,1,0,0,0] bd79)).toList,eo:=hdO (opsB (navB [1,1,1,1,1,1,0,1,0,0,1,1,0,0] bd79)).toList,t1:=(opsB (navB [1,1,1,1,1,1,0,1,0,0,0] bd79)).toList.tail,t2:=(opsB (navB [1,1,1,1,1,1,0,1,0,0,1,1,0,0] bd79)).toList.tail,it:=91,nx:=92,mo:=93,en:=94,rest:=navB [1,1,1,1,1,1,0,1,0,0,1,1,0,1] bd79,km:=1361129467678802093696356908627478183936 }
noncomputable def most:RFun:={ f:=79,pre:=[navB [0] bd79,navB [1,0] bd79,navB [1,1,0] bd79,navB [1,1,1,0] bd79,navB [1,1,1,1,0] bd79,navB [1,1,1,1,1,0] bd79],S:=mostS,L:=mostL,suf:=navB [1,1,1,1,1,1,1] bd79 }
theorem most_b:Tryz.f79.body=some (assemble most.pre (mostS.code mostL) most.suf):=by kernel_rfl
theorem most_l0:mostS.ops0.toList=mostS.pre++[mostS.ro]:=by kernel_rfl
theorem most_o0:mostS.ro.op=.range mostS.ty (.tmp mostS.m):=by kernel_rfl
theorem most_d0:mostS.ro.dst=some mostL.it:=by kernel_rfl
theorem most_g0:mostS.ro.guard=none:=by kernel_rfl
theorem most_l1:mostL.ops1.toList=mostL.no::mostL.t1:=by kernel_rfl
theorem most_o1:mostL.no.op=.next (.tmp mostL.it) false:=by kernel_rfl
theorem most_d1:mostL.no.dst=some mostL.nx:=by kernel_rfl
theorem most_g1:mostL.no.guard=none:=by kernel_rfl
theorem most_l2:mostL.ops2.toList=mostL.eo::mostL.t2:=by kernel_rfl
theorem most_o2:mostL.eo.op=.entry (.tmp mostL.it):=by kernel_rfl
theorem most_d2:mostL.eo.dst=some mostL.en:=by kernel_rfl
theorem most_g2:mostL.eo.guard=none:=by kernel_rfl
theorem most_ok:most.Ok Tryz.prog:=⟨⟨Tryz.f79,Tryz.func79,most_b⟩,⟨most_l0,most_o0,most_d0,most_g0,⟨_,_,Tryz.underlying122⟩⟩,⟨most_l1,most_o1,most_d1,most_g1,most_l2,most_o2,most_d2,most_g2⟩⟩
noncomputable def rs:List RFun:=[most]
theorem rs_ok:∀ r ∈ rs,r.Ok Tryz.prog:=fun r h=>by
 rcases List.mem_cons.1 h with rfl | h
 · exact most_ok
 · cases h
end Go.Proofs.YtigmfpmabgekoaaGreat.Known
end
section
namespace Go.Proofs.YtigmfpmabgekoaaGreat.Known
open Go.Eng Go.Proofs
set_option maxRecDepth 100000
noncomputable def E1:Ora:=⟨51,[],.slcT none (.I .i64 [100,110,20,60,5,90,90,10,30,3,150,150,0,40,4,130,140,30,35,6]) 5 4 true⟩
theorem ok1:OneOk Tryz.prog E1:=one_ofO named mixed tab0_ok rs_ok [50] KtB.kt 100000 40 (H':=[⟨true,[]⟩]) (by kernel_rfl) (by kernel_rfl)
noncomputable def tab1:List Ora:=E1::tab0
theorem tab1_ok:∀ e ∈ tab1,OneOk Tryz.prog e:=cons_ok ok1 tab0_ok
noncomputable def E2:Ora:=⟨18,[.slcT none (.I .i64 [100,110,20,60,5,90,90,10,30,3,150,150,0,40,4,130,130,25,50,6]) 5 4 true,.int .i64 80],.tup [.slcT none (.I .i64 [0,1,3]) 1 3 false,.int .i64 0]⟩
theorem ok2:OneOk Tryz.prog E2:=one_ofO named mixed tab1_ok rs_ok [68] KtB.kt 100000 40 (H':=[⟨true,[]⟩]) (by kernel_rfl) (by kernel_rfl)
noncomputable def tab2:List Ora:=E2::tab1
theorem tab2_ok:∀ e ∈ tab2,OneOk Tryz.prog e:=cons_ok ok2 tab1_ok
noncomputable def E3:Ora:=⟨23,[.slcT none (.I .i64 [100,110,20,60,5,90,90,10,30,3,150,150,0,40,4,130,130,25,50,6]) 5 4 true],.tup [.slcT none (.I .i64 [80,150]) 1 2 true,.int .i64 0]⟩
theorem ok3:OneOk Tryz.prog E3:=one_ofO named mixed tab2_ok rs_ok [68] KtB.kt 100000 40 (H':=[⟨true,[]⟩]) (by kernel_rfl) (by kernel_rfl)
noncomputable def tab3:List Ora:=E3::tab2
theorem tab3_ok:∀ e ∈ tab3,OneOk Tryz.prog e:=cons_ok ok3 tab2_ok
end Go.Proofs.YtigmfpmabgekoaaGreat.Known
end
section
namespace Go.Proofs.YtigmfpmabgekoaaGreat.Known
open Go.Eng Go.Proofs
set_option maxRecDepth 100000
noncomputable def E4:Ora:=⟨32,[.slcT none (.I .i64 [100,110,20,60,5,90,90,10,30,3,150,150,0,40,4,130,130,25,50,6]) 5 4 true],.tup [.slcT none (.I .i64 [0,2]) 1 2 false,.int .i64 0]⟩
theorem ok4:OneOk Tryz.prog E4:=one_ofO named mixed tab3_ok rs_ok [68] KtB.kt 100000 40 (H':=[⟨true,[]⟩]) (by kernel_rfl) (by kernel_rfl)
noncomputable def tab4:List Ora:=E4::tab3
theorem tab4_ok:∀ e ∈ tab4,OneOk Tryz.prog e:=cons_ok ok4 tab3_ok
noncomputable def E5:Ora:=⟨25,[.slcT none (.I .i64 [100,110,20,60,5,90,90,10,30,3,150,150,0,40,4,130,130,25,50,6]) 5 4 true],.tup [.slcT none (.I .i64 [2]) 1 1 false,.int .i64 0]⟩
theorem ok5:OneOk Tryz.prog E5:=one_ofO named mixed tab4_ok rs_ok [68] KtB.kt 100000 40 (H':=[⟨true,[]⟩]) (by kernel_rfl) (by kernel_rfl)
noncomputable def tab5:List Ora:=E5::tab4
theorem tab5_ok:∀ e ∈ tab5,OneOk Tryz.prog e:=cons_ok ok5 tab4_ok
noncomputable def E6:Ora:=⟨36,[.slcT none (.I .i64 [100,110,20,60,5,90,90,10,30,3,150,150,0,40,4,130,130,25,50,6]) 5 4 true,.int .i64 1],.tup [.int .i64 14,.slcT none (.I .i64 [80]) 1 1 false,.int .i64 0]⟩
theorem ok6:OneOk Tryz.prog E6:=one_ofO named mixed tab5_ok rs_ok [68] KtB.kt 100000 40 (H':=[⟨true,[]⟩]) (by kernel_rfl) (by kernel_rfl)
noncomputable def tab6:List Ora:=E6::tab5
theorem tab6_ok:∀ e ∈ tab6,OneOk Tryz.prog e:=cons_ok ok6 tab5_ok
end Go.Proofs.YtigmfpmabgekoaaGreat.Known
end
section
namespace Go.Proofs.YtigmfpmabgekoaaGreat.Known
open Go.Eng Go.Proofs
set_option maxRecDepth 100000
noncomputable def E7:Ora:=⟨43,[.slcT none (.I .i64 [100,110,20,60,5,90,90,10,30,3,150,150,0,40,4,130,130,25,50,6]) 5 4 true,.int .i64 1],.tup [.int .i64 4,.slcT none (.I .i64 [1,3,4,0]) 1 4 true,.int .i64 0]⟩
theorem ok7:OneOk Tryz.prog E7:=one_ofO named mixed tab6_ok rs_ok [68] KtB.kt 100000 40 (H':=[⟨true,[]⟩]) (by kernel_rfl) (by kernel_rfl)
noncomputable def tab7:List Ora:=E7::tab6
theorem tab7_ok:∀ e ∈ tab7,OneOk Tryz.prog e:=cons_ok ok7 tab6_ok
noncomputable def E8:Ora:=⟨45,[.slcT none (.I .i64 [100,110,20,60,5,90,90,10,30,3,150,150,0,40,4,130,130,25,50,6]) 5 4 true,.int .i64 1,.int .i64 4,.slcT none (.I .i64 [1,3,4,0]) 1 4 true],.tup [.int .i64 14,.int .i64 0]⟩
theorem ok8:OneOk Tryz.prog E8:=one_ofO named mixed tab7_ok rs_ok [68] KtB.kt 100000 40 (H':=[⟨true,[]⟩]) (by kernel_rfl) (by kernel_rfl)
noncomputable def tab8:List Ora:=E8::tab7
theorem tab8_ok:∀ e ∈ tab8,OneOk Tryz.prog e:=cons_ok ok8 tab7_ok
noncomputable def E9:Ora:=⟨34,[.slcT none (.I .i64 [100,110,20,60,5,90,90,10,30,3,150,150,0,40,4,130,130,25,50,6]) 5 4 true,.slcT none (.I .i64 [0,2]) 1 2 false],.int .i64 0⟩
theorem ok9:OneOk Tryz.prog E9:=one_ofO named mixed tab8_ok rs_ok [68] KtB.kt 100000 40 (H':=[⟨true,[]⟩]) (by kernel_rfl) (by kernel_rfl)
noncomputable def tab9:List Ora:=E9::tab8
theorem tab9_ok:∀ e ∈ tab9,OneOk Tryz.prog e:=cons_ok ok9 tab8_ok
end Go.Proofs.YtigmfpmabgekoaaGreat.Known
end
section
namespace Go.Proofs.YtigmfpmabgekoaaGreat.Known
open Go.Eng Go.Proofs
set_option maxRecDepth 100000
noncomputable def E10:Ora:=⟨39,[.slcT none (.I .i64 [100,110,20,60,5,90,90,10,30,3,150,150,0,40,4,130,130,25,50,6]) 5 4 true,.slcT none (.I .i64 [80]) 1 1 false],.int .i64 14⟩
theorem ok10:OneOk Tryz.prog E10:=one_ofO named mixed tab9_ok rs_ok [68] KtB.kt 100000 40 (H':=[⟨true,[]⟩]) (by kernel_rfl) (by kernel_rfl)
noncomputable def tab10:List Ora:=E10::tab9
theorem tab10_ok:∀ e ∈ tab10,OneOk Tryz.prog e:=cons_ok ok10 tab9_ok
noncomputable def E11:Ora:=⟨36,[.slcT none (.I .i64 [100,110,20,60,5,90,90,10,30,3,150,150,0,40,4,130,130,25,50,6]) 5 4 true,.int .i64 0],.tup [.int .i64 0,.nils,.int .i64 0]⟩
theorem ok11:OneOk Tryz.prog E11:=one_ofO named mixed tab10_ok rs_ok [68] KtB.kt 100000 40 (H':=[⟨true,[]⟩]) (by kernel_rfl) (by kernel_rfl)
noncomputable def tab11:List Ora:=E11::tab10
theorem tab11_ok:∀ e ∈ tab11,OneOk Tryz.prog e:=cons_ok ok11 tab10_ok
noncomputable def E12:Ora:=⟨36,[.slcT none (.I .i64 [100,110,20,60,5,90,90,10,30,3,150,150,0,40,4,130,130,25,50,6]) 5 4 true,.int .i64 2],.tup [.int .i64 18,.slcT none (.I .i64 [80,110]) 1 2 false,.int .i64 0]⟩
theorem ok12:OneOk Tryz.prog E12:=one_ofO named mixed tab11_ok rs_ok [68] KtB.kt 100000 40 (H':=[⟨true,[]⟩]) (by kernel_rfl) (by kernel_rfl)
noncomputable def tab12:List Ora:=E12::tab11
theorem tab12_ok:∀ e ∈ tab12,OneOk Tryz.prog e:=cons_ok ok12 tab11_ok
end Go.Proofs.YtigmfpmabgekoaaGreat.Known
end
section
namespace Go.Proofs.YtigmfpmabgekoaaGreat.Known
open Go.Eng Go.Proofs
set_option maxRecDepth 100000
noncomputable def E13:Ora:=⟨18,[.slcT none (.I .i64 [100,110,20,60,5,90,90,10,30,3,150,150,0,40,4,130,130,25,50,6]) 5 4 true,.int .i64 81],.tup [.slcT none (.I .i64 [3]) 1 1 false,.int .i64 0]⟩
theorem ok13:OneOk Tryz.prog E13:=one_ofO named mixed tab12_ok rs_ok [68] KtB.kt 100000 40 (H':=[⟨true,[]⟩]) (by kernel_rfl) (by kernel_rfl)
noncomputable def tab13:List Ora:=E13::tab12
theorem tab13_ok:∀ e ∈ tab13,OneOk Tryz.prog e:=cons_ok ok13 tab12_ok
noncomputable def E14:Ora:=⟨36,[.slcT none (.I .i64 [100,110,20,60,5,90,90,10,30,3,150,150,0,40,4,130,140,30,35,6]) 5 4 true,.int .i64 1],.tup [.int .i64 8,.slcT none (.I .i64 [60]) 1 1 false,.int .i64 0]⟩
theorem ok14:OneOk Tryz.prog E14:=one_ofO named mixed tab13_ok rs_ok [68] KtB.kt 100000 40 (H':=[⟨true,[]⟩]) (by kernel_rfl) (by kernel_rfl)
noncomputable def tab14:List Ora:=E14::tab13
theorem tab14_ok:∀ e ∈ tab14,OneOk Tryz.prog e:=cons_ok ok14 tab13_ok
end Go.Proofs.YtigmfpmabgekoaaGreat.Known
end
section
namespace Go.Proofs.YtigmfpmabgekoaaGreat.Known
open Go.Eng Go.Proofs
set_option maxRecDepth 100000
noncomputable def EW:Ora:=⟨15,[],.bool true⟩
theorem okW:OneOk Tryz.prog EW:=one_ofO named mixed tab14_ok rs_ok [68] KtB.kt 100000 40 (H':=[⟨true,[]⟩]) (by kernel_rfl) (by kernel_rfl)
end Go.Proofs.YtigmfpmabgekoaaGreat.Known
end
section
namespace Go.Eng
open Go.Proofs Go.ChangeShapes Go.WideShapes Go.ChangeAt Go.RowKit
set_option linter.unusedVariables false
set_option maxRecDepth 100000
theorem toM {p:Pst} {M:Mu} {k:IntKind} {z:Nat→Int} {N sz len:Nat} {full:Bool} {v:Value} (h:VRel p M (.slcT none (.F (fun j=>.int k (z j)) N) sz len full) v):VRel p M (.slcT none (.M [.arr k z N]) sz len full) v:=by
 cases h with
 | slcN=>exact .slcN
 | slcT vs h0 h1 hv hl hf hx =>
   have e:∀ j,j<(Row.M [Seg.arr k z N]).len→j<N:=fun j hj=>by simpa[Row.len,lenM,segLen] using hj
   refine .slcT vs (fun j hj=>h0 j (e j hj)) (fun j hj=>h1 j (e j hj)) (fun j hj=>?_) hl hf hx
   have:=hv j (e j hj)
   simp only[Row.get,getM,if_pos (e j hj)] at this ⊢
   exact this.anyInt _ _
theorem slice_spot {P:Program} {w:World} {r:Reach} {base:Nat} {t e:TypeId} {v:Value} (ht:P.underlying t=some (.slice e)) (h:Cell.okWide P w r base t v):∀ a l c,v=.slice (some a) l c→a.spot=none:=by
 rintro a l c rfl
 simp only[Cell.okWide,ht,Cell.ok] at h
 exact h.2.2.2.1
theorem flat2:FlatI Tryz.prog 2 1:=flat_int Tryz.underlying2
theorem flat26:FlatI Tryz.prog 26 2:=flat_struct2 Tryz.underlying26 flat2 flat2 rfl rfl (by kernel_rfl) (by kernel_rfl) (by kernel_rfl)
theorem flat_struct3 {P:Program} {k:IntKind} {t:TypeId} {f0 f1 f2:Field} {n0 n1 n2:Nat} (ht:P.underlying t=some (.struct #[f0,f1,f2])) (h0:FlatK k P f0.type n0) (h1:FlatK k P f1.type n1) (h2:FlatK k P f2.type n2) (o0:f0.offset=0) (o1:f1.offset=n0) (o2:f2.offset=n0+n1) (c0:P.cellsOf f0.type=n0) (c1:P.cellsOf f1.type=n1) (c2:P.cellsOf f2.type=n2) (c:P.cellsOf t=n0+n1+n2):FlatK k P t (n0+n1+n2):=by
 intro H enc w base sp held fuel cs x h
 obtain ⟨xs,m,_,_,hl,hxl,hf⟩:=DataW.trod_struct ht h
 match xs,hxl,hf with
 | [y0,y1,y2],_,hf =>
   have g0:=hf 0 f0 rfl
   have g1:=hf 1 f1 rfl
   have g2:=hf 2 f2 rfl
   obtain ⟨_,k0⟩:=h0 _ _ _ _ _ _ _ _ _ g0
   obtain ⟨_,k1⟩:=h1 _ _ _ _ _ _ _ _ _ g1
   obtain ⟨_,k2⟩:=h2 _ _ _ _ _ _ _ _ _ g2
   refine ⟨by rw[hl,c],fun j hj=>?_⟩
   by_cases p:j<n0
   · obtain ⟨z,hz,hw⟩:=k0 j p
     refine ⟨z,?_,hw⟩
     rw[o0,c0] at hz
     simpa[List.getElem?_take,p] using hz
   by_cases q:j<n0+n1
   · obtain ⟨z,hz,hw⟩:=k1 (j-n0) (by omega)
     refine ⟨z,?_,hw⟩
     rw[o1,c1] at hz
     have:j-n0<n1:=by omega
     simpa[List.getElem?_take,this,List.getElem?_drop,show n0+(j-n0)=j by omega] using hz
   · obtain ⟨z,hz,hw⟩:=k2 (j-(n0+n1)) (by omega)
     refine ⟨z,?_,hw⟩
     rw[o2,c2] at hz
     have:j-(n0+n1)<n2:=by omega
     simpa[List.getElem?_take,this,List.getElem?_drop,show n0+n1+(j-(n0+n1))=j by omega] using hz
theorem flat56:FlatI Tryz.prog 56 5:=flat_struct3 Tryz.underlying56 flat26 flat26 flat2 rfl rfl rfl (by kernel_rfl) (by kernel_rfl) (by kernel_rfl) (by kernel_rfl)
def ArgOk (t:TypeId) (A:AV→Prop):Prop:=∀ (H:Type) (enc:TypeId×Value→H) (w:World) (r:Reach) (b0 base:Nat) (sp:Nat→Bool) (held:Bool) (v:Value) (d:DataW H) (ps:List MemPlace),
 Value.okWide Tryz.prog w r b0 t v→DataW.Trod enc Tryz.prog w base sp held t v d ps→∃ a,A a∧VRel (Pw w) Mu.no a v
def AllA:List (AV→Prop)→List AV→Prop
 | [],[]=>True
 | A::As,a::xs=>A a∧AllA As xs
 | _,_=>False
theorem allA_cons {A:AV→Prop} {As:List (AV→Prop)} {xs:List AV} (h:AllA (A::As) xs):∃ a ys,xs=a::ys∧A a∧AllA As ys:=by
 cases xs with
 | nil=>exact h.elim
 | cons a ys=>exact ⟨a,ys,rfl,h.1,h.2⟩
theorem allA_nil {xs:List AV} (h:AllA [] xs):xs=[]:=by
 cases xs with
 | nil=>rfl
 | cons a ys=>exact h.elim
def AllT:List TypeId→List (AV→Prop)→Prop
 | [],[]=>True
 | t::ts,A::As=>ArgOk t A∧AllT ts As
 | _,_=>False
theorem args_ok {H:Type} {enc:TypeId×Value→H} {w:World} {r:Reach} {b0 base:Nat} {sp:Nat→Bool} {held:Bool}:∀ (ts:List TypeId) (As:List (AV→Prop)) (vs:List Value) (ds:List (DataW H)) (ps:List MemPlace),AllT ts As →
 (∀ (j:Nat) t v,ts[j]?=some t→vs[j]?=some v→Value.okWide Tryz.prog w r b0 t v)→DataW.TrodAll enc Tryz.prog w base sp held ts vs ds ps→∃ xs,AllA As xs∧vs.length=xs.length∧∀ j,j<xs.length→VRel (Pw w) Mu.no (xs.getD j .undef) (vs.getD j undef)
 | [],[],vs,ds,ps,_,_,h=>by
   obtain ⟨rfl,rfl,rfl⟩:=trodAll_nil h
   exact ⟨[],trivial,rfl,fun j hj=>by simp at hj⟩
 | t::ts,A::As,vs,ds,ps,hT,hv,h=>by
   obtain ⟨v,vs',d,ds',p,q,rfl,rfl,rfl,h1,h2⟩:=trodAll_cons h
   obtain ⟨a,ha,hr⟩:=hT.1 H enc w r b0 base sp held v d p (hv 0 t v rfl rfl) h1
   obtain ⟨xs,hA,hl,hR⟩:=args_ok ts As vs' ds' q hT.2 (fun j t' v' e1 e2=>hv (j+1) t' v' (by simpa using e1) (by simpa using e2)) h2
   refine ⟨a::xs,⟨ha,hA⟩,by simp[hl],fun j hj=>?_⟩
   cases j with
   | zero=>exact hr
   | succ j=>simpa using hR j (by simpa using hj)
 | [],_::_,_,_,_,hT,_,_=>hT.elim
 | _::_,[],_,_,_,hT,_,_=>hT.elim
theorem stays_all {H:Type} {enc:TypeId×Value→H} {W W':World} {base:Nat} {sp':Nat→Bool} (hl:laidOutB Tryz.prog=true):∀ (ts:List TypeId) (vs:List Value) (ds:List (DataW H)) (ps:List MemPlace),(∀ t ∈ ts,Tryz.prog.readableRec t=true∧t<Tryz.prog.types.size) →
 DataW.TrodAll enc Tryz.prog W base (fun _=>true) true ts vs ds ps→(∀ p ∈ ps,W.sameAt W' p)→(∀ p ∈ ps,sp' p.block=true)→DataW.TrodAll enc Tryz.prog W' base sp' true ts vs ds ps
 | [],vs,ds,ps,_,h,_,_=>by
   obtain ⟨rfl,rfl,rfl⟩:=trodAll_nil h
   exact trodAll_mk0
 | t::ts,vs,ds,ps,ht,h,hs,hp=>by
   obtain ⟨v,vs',d,ds',p,q,rfl,rfl,rfl,h1,h2⟩:=trodAll_cons h
   obtain ⟨r1,r2⟩:=ht t (by simp)
   refine ⟨p,q,?_,stays_all hl ts vs' ds' q (fun t' h'=>ht t' (List.mem_cons_of_mem _ h')) h2 (fun x hx=>hs x (List.mem_append_right _ hx)) (fun x hx=>hp x (List.mem_append_right _ hx)),rfl⟩
   exact WideElems.Trod_stays hl r1 r2 h1 (fun x hx=>hs x (List.mem_append_left _ hx)) (fun x hx=>hp x (List.mem_append_left _ hx))
theorem cd_ok (hN:Named Tryz.prog) (hm:Tryz.prog.follows .mixedOrders=true) (hW:OneOk Tryz.prog ⟨15,[],.bool true⟩) (n:Nat):CallOk Tryz.prog (cd n) :=
 callN_rel hN (drawOk hN hm) (oraD_ok hN (drawOk hN hm) hW) KtB.kt 100000 n
theorem law_calls {f:FuncId} {ts:List TypeId} {As:List (AV→Prop)} (hT:AllT ts As) {n:Nat} (hlaw:∀ xs,AllA As xs→∃ H',cd n (.fn f) xs [⟨true,[]⟩]=some (.bool true,H')) {H:Type} {enc:TypeId×Value→H} {w:World} {r:Reach} {b0 base:Nat} {sp:Nat→Bool} {held:Bool} {args:Array Value} {ds:List (DataW H)} {ps:List MemPlace}
 (hv:∀ (j:Nat) t v,ts[j]?=some t→args[j]?=some v→Value.okWide Tryz.prog w r b0 t v) (h:DataW.TrodAll enc Tryz.prog w base sp held ts args.toList ds ps) :
 Calls Tryz.prog f args w (fun e w'=>e=.returned (.bool true)∧Go.RowKit.Below w.heap.size w w'):=by
 obtain ⟨xs,hA,hl,hR⟩:=args_ok ts As args.toList ds ps hT (fun j t v e1 e2=>hv j t v e1 (by simpa using e2)) h
 obtain ⟨H',hc⟩:=hlaw xs hA
 refine calls_law (cd_ok YtigmfpmabgekoaaGreat.Known.named YtigmfpmabgekoaaGreat.Known.mixed YtigmfpmabgekoaaGreat.Known.okW n) hc ⟨by simpa using hl,fun j hj=>?_⟩
 have:=hR j hj
 have e:args.toList.getD j undef=args.getD j undef:=by
  rw[Array.getD_eq_getD_getElem?,List.getD_eq_getElem?_getD,Array.getElem?_toList]
 rwa [e] at this
theorem own:ownKnob Tryz.prog.godebug=none:=by kernel_rfl
theorem laidOut:laidOutB Tryz.prog=true:=by kernel_rfl
theorem argSlice {t e n:Nat} {k:IntKind} (ht:Tryz.prog.underlying t=some (.slice e)) (he:FlatK k Tryz.prog e n) (hn:0<n) (hc:Tryz.prog.cellsOf e=n):ArgOk t (fun a=>∃ (len:Nat) (z:Nat→Int),a=.slcT none (.M [.arr k z (len*n)]) n len false∧∀ j,(Lit.int k (z j)).wf=true):=fun H enc w r b0 base sp held v d ps hv h=>by
 simp only[Value.okWide,ht] at hv
 have hcell:v.cells.toList=[v]:=by
  simp only[Cell.okWide,ht] at hv
  cases v<;>simp_all [Cell.ok]<;>rfl
 obtain ⟨fuel,hf⟩:=h
 rw[hcell] at hf
 have h0:(Lit.int k 0).wf=true:=by cases k<;>rfl
 rcases slice_flat ht he hn hc (slice_spot ht hv) hf with rfl | ⟨zs,len,h1,h2⟩
 · exact ⟨_,⟨0,fun _=>0,rfl,fun _=>h0⟩,.slcN⟩
 · refine ⟨_,⟨len,fun j=>if j<len*n then zs j else 0,rfl,fun j=>?_⟩,?_⟩
   · dsimp only
     split
     · exact h2 _ (by assumption)
     · exact h0
   · have h3:=toM h1
     cases h3 with
     | slcN=>exact .slcN
     | slcT vs a0 a1 hv' hl hf' hx =>
       refine .slcT vs a0 a1 (fun j hj=>?_) hl hf' hx
       have:=hv' j hj
       have hj':j<len*n:=by simpa[Row.len,lenM,segLen] using hj
       simp only[Row.get,getM,if_pos hj'] at this ⊢
       exact this.anyInt _ _
def AI64s (a:AV):Prop:=∃ (len:Nat) (z:Nat→Int),a=.slcT none (.M [.arr .i64 z len]) 1 len false∧∀ j,-9223372036854775808≤z j∧z j≤9223372036854775807
theorem argI64s {t e:TypeId} (ht:Tryz.prog.underlying t=some (.slice e)) (he:Tryz.prog.underlying e=some (.int .i64)) (hc:Tryz.prog.cellsOf e=1):ArgOk t AI64s:=fun H enc w r b0 base sp held v d ps hv h=>by
 obtain ⟨a,⟨len,z,rfl,hz⟩,hr⟩:=argSlice ht (flat_int he) (by omega) hc H enc w r b0 base sp held v d ps hv h
 refine ⟨_,⟨len,z,by rw[Nat.mul_one],fun j=>?_⟩,hr⟩
 have:=hz j
 simp[Lit.wf,IntKind.min,IntKind.max,IntKind.signed,IntKind.bits] at this
 omega
theorem arg30:ArgOk 30 AI64s:=argI64s Tryz.underlying30 Tryz.underlying3 (by kernel_rfl)
theorem arg36:ArgOk 36 AI64s:=argI64s Tryz.underlying36 Tryz.underlying2 (by kernel_rfl)
def AOrd (a:AV):Prop:=∃ (len:Nat) (z:Nat→Int),a=slA 5 len z
theorem argOrd:ArgOk 22 AOrd:=fun H enc w r b0 base sp held v d ps hv h=>by
 obtain ⟨a,⟨len,z,rfl,hz⟩,hr⟩:=argSlice Tryz.underlying22 flat56 (by omega) (by kernel_rfl) H enc w r b0 base sp held v d ps hv h
 refine ⟨_,⟨len,z,rfl⟩,?_⟩
 unfold slA
 rw[mulS_eq]
 exact hr
end Go.Eng
end
