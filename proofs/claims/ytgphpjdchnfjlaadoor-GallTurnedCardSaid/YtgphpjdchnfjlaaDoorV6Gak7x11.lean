/- Gall: closed calls. -/
import Derived.Test.YtgphpjdchnfjlaaDoorV6Gdfx8
import Derived.Test.YtgphpjdchnfjlaaDoorV6GaKx6
import Derived.Test.YtgphpjdchnfjlaaDoorV6Gp2x6
import Derived.OpenShut
set_option maxRecDepth 100000
set_option linter.unusedVariables false
section
namespace Go.Eng.Gall
open Go.Proofs
noncomputable def Vb:cH:=⟨49,[gA FH [3,1],.nils],.tup [.ptrT none (gR FH [3,1] [0,1,0,1,2,3,0,1,0,0,0,0,0,0,0,0,0,0,0,0] [0,8,0,0,0,0,0,0,0,0]) 0,.int .i64 0]⟩
theorem TA:aG Tryd.prog Vb:=a8 AE (H':=[⟨true,[]⟩]) (by kernel_rfl) (by kernel_rfl)
noncomputable def LZ:List cH:=Vb::LY
theorem AF:∀ e ∈ LZ,aG Tryd.prog e:=a7 TA AE
noncomputable def Vc:cH:=⟨56,[.ptrT none (gR FH [3,1] [0,1,0,1,2,3,0,1,0,0,0,0,0,0,0,0,0,0,0,0] [0,8,0,0,0,0,0,0,0,0]) 0],.agg (.I .i64 [0,1,1,1,2,3,0,0,0,0,0,0,0,0,0,0,0,0,0,0])⟩
theorem TB:aG Tryd.prog Vc:=a8 AF (H':=[⟨true,[]⟩]) (by kernel_rfl) (by kernel_rfl)
noncomputable def L1:List cH:=Vc::LZ
theorem AG:∀ e ∈ L1,aG Tryd.prog e:=a7 TB AF
noncomputable def Vd:cH:=⟨65,[.ptrT none (gR FH [3,1] [0,1,0,1,2,3,0,1,0,0,0,0,0,0,0,0,0,0,0,0] [0,8,0,0,0,0,0,0,0,0]) 0],.tup [.agg (.G [.int .i64 0,.int .i64 1,.slcT none (.I .i64 [0,1,3]) 1 3 false]),.bool true]⟩
theorem TC:aG Tryd.prog Vd:=a8 AG (H':=[⟨true,[]⟩]) (by kernel_rfl) (by kernel_rfl)
noncomputable def L2:List cH:=Vd::L1
theorem AH:∀ e ∈ L2,aG Tryd.prog e:=a7 TC AG
noncomputable def Ve:cH:=⟨74,[.ptrT none (gR FH [3,1] [0,1,0,1,2,3,0,1,0,0,0,0,0,0,0,0,0,0,0,0] [0,8,0,0,0,0,0,0,0,0]) 0],.nils⟩
theorem TD:aG Tryd.prog Ve:=a8 AH (H':=[⟨true,[]⟩]) (by kernel_rfl) (by kernel_rfl)
noncomputable def L3:List cH:=Ve::L2
theorem AI:∀ e ∈ L3,aG Tryd.prog e:=a7 TD AH
end Go.Eng.Gall
end
section
namespace Go.Eng.Gall
open Go.Proofs
noncomputable def Vf:cH:=⟨38,[gA FH [3,1]],.tup [.nils,.int .i64 13]⟩
theorem TE:aG Tryd.prog Vf:=a8 AI (H':=[⟨true,[]⟩]) (by kernel_rfl) (by kernel_rfl)
noncomputable def L4:List cH:=Vf::L3
theorem AJ:∀ e ∈ L4,aG Tryd.prog e:=a7 TE AI
noncomputable def Vg:cH:=⟨25,[gA FH [3,1]],.tup [.agg (.G [.int .i64 0,.int .i64 1,.slcT none (.I .i64 [0,1,3]) 1 3 false]),.int .i64 0]⟩
theorem J3:aG Tryd.prog Vg:=a8 AJ (H':=[⟨true,[]⟩]) (by kernel_rfl) (by kernel_rfl)
noncomputable def L5:List cH:=Vg::L4
theorem AK:∀ e ∈ L5,aG Tryd.prog e:=a7 J3 AJ
noncomputable def Vh:cH:=⟨56,[.ptrT none (gR kf [3,1] [1,1,0,1,2,3,0,1,0,0,0,0,0,0,0,0,0,0,0,0] [0,8,0,0,0,0,0,0,0,0]) 0],.agg (.I .i64 [1,1,1,1,2,3,0,0,0,0,0,0,0,0,0,0,0,0,0,0])⟩
theorem TF:aG Tryd.prog Vh:=a8 AK (H':=[⟨true,[]⟩]) (by kernel_rfl) (by kernel_rfl)
noncomputable def L6:List cH:=Vh::L5
theorem AL:∀ e ∈ L6,aG Tryd.prog e:=a7 TF AK
noncomputable def Vi:cH:=⟨65,[.ptrT none (gR kf [3,1] [1,1,0,1,2,3,0,1,0,0,0,0,0,0,0,0,0,0,0,0] [0,8,0,0,0,0,0,0,0,0]) 0],.tup [.agg (.G [.int .i64 0,.int .i64 1,.slcT none (.I .i64 [0,1,3]) 1 3 false]),.bool true]⟩
theorem TG:aG Tryd.prog Vi:=a8 AL (H':=[⟨true,[]⟩]) (by kernel_rfl) (by kernel_rfl)
noncomputable def L7:List cH:=Vi::L6
theorem AM:∀ e ∈ L7,aG Tryd.prog e:=a7 TG AL
end Go.Eng.Gall
end
section
namespace Go.Eng.Gall
open Go.Proofs
noncomputable def Vj:cH:=⟨56,[.ptrT none (gR kf [3,1] [2,2,0,1,2,3,0,1,0,0,0,0,0,0,0,0,0,0,0,0] [0,8,0,0,0,0,0,0,0,0]) 0],.agg (.I .i64 [2,2,1,1,2,3,0,0,0,0,0,0,0,0,0,0,0,0,0,0])⟩
theorem TH:aG Tryd.prog Vj:=a8 AM (H':=[⟨true,[]⟩]) (by kernel_rfl) (by kernel_rfl)
noncomputable def L8:List cH:=Vj::L7
theorem AN:∀ e ∈ L8,aG Tryd.prog e:=a7 TH AM
noncomputable def Vk:cH:=⟨65,[.ptrT none (gR kf [3,1] [2,2,0,1,2,3,0,1,0,0,0,0,0,0,0,0,0,0,0,0] [0,8,0,0,0,0,0,0,0,0]) 0],.tup [.agg (.G [.int .i64 0,.int .i64 0,.nils]),.bool false]⟩
theorem TI:aG Tryd.prog Vk:=a8 AN (H':=[⟨true,[]⟩]) (by kernel_rfl) (by kernel_rfl)
noncomputable def L9:List cH:=Vk::L8
theorem AO:∀ e ∈ L9,aG Tryd.prog e:=a7 TI AN
noncomputable def Vl:cH:=⟨56,[.ptrT none (gR kf [3,1] [3,3,0,1,2,3,0,1,0,0,0,0,0,0,0,0,0,0,0,0] [0,8,0,0,0,0,0,0,0,0]) 0],.agg (.I .i64 [3,3,1,1,2,3,0,0,0,0,0,0,0,0,0,0,0,0,0,0])⟩
theorem TJ:aG Tryd.prog Vl:=a8 AO (H':=[⟨true,[]⟩]) (by kernel_rfl) (by kernel_rfl)
noncomputable def Ma:List cH:=Vl::L9
theorem AP:∀ e ∈ Ma,aG Tryd.prog e:=a7 TJ AO
noncomputable def Vm:cH:=⟨65,[.ptrT none (gR kf [3,1] [3,3,0,1,2,3,0,1,0,0,0,0,0,0,0,0,0,0,0,0] [0,8,0,0,0,0,0,0,0,0]) 0],.tup [.agg (.G [.int .i64 0,.int .i64 0,.nils]),.bool false]⟩
theorem TK:aG Tryd.prog Vm:=a8 AP (H':=[⟨true,[]⟩]) (by kernel_rfl) (by kernel_rfl)
noncomputable def Mb:List cH:=Vm::Ma
theorem AQ:∀ e ∈ Mb,aG Tryd.prog e:=a7 TK AP
end Go.Eng.Gall
end
section
namespace Go.Eng.Gall
open Go.Proofs
noncomputable def Vn:cH:=⟨30,[gA kf [3,1],.int .i64 0],.tup [.slcT none (.I .i64 [2,3]) 1 2 false,.int .i64 0]⟩
theorem TL:aG Tryd.prog Vn:=a8 AQ (H':=[⟨true,[]⟩]) (by kernel_rfl) (by kernel_rfl)
noncomputable def Mc:List cH:=Vn::Mb
theorem AR:∀ e ∈ Mc,aG Tryd.prog e:=a7 TL AQ
noncomputable def Vo:cH:=⟨56,[.ptrT none (gR kf [3,1] [0,3,0,1,2,3,0,1,0,0,0,0,0,0,0,0,0,0,0,0] [0,9,0,0,0,0,0,0,0,0]) 0],.agg (.I .i64 [0,0,1,1,2,3,0,0,0,0,0,0,0,0,0,0,0,0,0,0])⟩
theorem TM:aG Tryd.prog Vo:=a8 AR (H':=[⟨true,[]⟩]) (by kernel_rfl) (by kernel_rfl)
noncomputable def Md:List cH:=Vo::Mc
theorem AS:∀ e ∈ Md,aG Tryd.prog e:=a7 TM AR
noncomputable def m8:cH:=⟨65,[.ptrT none (gR kf [3,1] [0,3,0,1,2,3,0,1,0,0,0,0,0,0,0,0,0,0,0,0] [0,9,0,0,0,0,0,0,0,0]) 0],.tup [.agg (.G [.int .i64 0,.int .i64 0,.slcT none (.I .i64 [0,3]) 1 2 false]),.bool true]⟩
theorem TN:aG Tryd.prog m8:=a8 AS (H':=[⟨true,[]⟩]) (by kernel_rfl) (by kernel_rfl)
noncomputable def Me:List cH:=m8::Md
theorem AT:∀ e ∈ Me,aG Tryd.prog e:=a7 TN AS
noncomputable def Vp:cH:=⟨32,[gA kf [3,1],.int .i64 1,.int .i64 0],.tup [.bool true,.int .i64 0]⟩
theorem TO:aG Tryd.prog Vp:=a8 AT (H':=[⟨true,[]⟩]) (by kernel_rfl) (by kernel_rfl)
noncomputable def Mf:List cH:=Vp::Me
theorem Ij:∀ e ∈ Mf,aG Tryd.prog e:=a7 TO AT
end Go.Eng.Gall
end
section
namespace Go.Eng.Gall
open Go.Proofs
noncomputable def Vq:cH:=⟨73,[.ptrT none (gR kf [3,1] [0,3,0,1,2,3,0,1,0,0,0,0,0,0,0,0,0,0,0,0] [0,8,0,0,0,0,0,0,0,0]) 0],.int .i64 2⟩
theorem TP:aG Tryd.prog Vq:=Hq (O:=10) (U:=4) (zl:=[100,110,60,110,90,95,75,100,120,125,80,110,80,80,70,200]) (V:=1) (bl:=[3,1]) (f1:=true) (f2:=true) (Wl:=[0,3,0,1,2,3,0,1,0,0,0,0,0,0,0,0,0,0,0,0]) (Bl:=[0,8,0,0,0,0,0,0,0,0]) (v:=2) rfl (by decide) rfl rfl rfl rfl (by kernel_rfl)
noncomputable def Mg:List cH:=Vq::Mf
theorem AU:∀ e ∈ Mg,aG Tryd.prog e:=a7 TP Ij
noncomputable def Vr:cH:=⟨34,[gA kf [3,1]],.tup [.int .i64 2,.int .i64 0]⟩
theorem TQ:aG Tryd.prog Vr:=a8 AU (H':=[⟨true,[]⟩]) (by kernel_rfl) (by kernel_rfl)
noncomputable def Mh:List cH:=Vr::Mg
theorem AW:∀ e ∈ Mh,aG Tryd.prog e:=a7 TQ AU
noncomputable def Vs:cH:=⟨18,[gA kf [3,1],.int .i64 0],.tup [.agg (.I .i64 [0,3]),.int .i64 0]⟩
theorem TR:aG Tryd.prog Vs:=a8 AW (H':=[⟨true,[]⟩]) (by kernel_rfl) (by kernel_rfl)
noncomputable def Mi:List cH:=Vs::Mh
theorem AX:∀ e ∈ Mi,aG Tryd.prog e:=a7 TR AW
noncomputable def Vt:cH:=⟨18,[gA kf [3,1],.int .i64 1],.tup [.agg (.I .i64 [0,1]),.int .i64 0]⟩
theorem TS:aG Tryd.prog Vt:=a8 AX (H':=[⟨true,[]⟩]) (by kernel_rfl) (by kernel_rfl)
noncomputable def Mj:List cH:=Vt::Mi
theorem AY:∀ e ∈ Mj,aG Tryd.prog e:=a7 TS AX
end Go.Eng.Gall
end
section
namespace Go.Eng.Gall
open Go.Proofs
noncomputable def Vu:cH:=⟨18,[gA kf [3,1],.int .i64 3],.tup [.agg (.I .i64 [0,1]),.int .i64 0]⟩
theorem TT:aG Tryd.prog Vu:=a8 AY (H':=[⟨true,[]⟩]) (by kernel_rfl) (by kernel_rfl)
noncomputable def Mk:List cH:=Vu::Mj
theorem AZ:∀ e ∈ Mk,aG Tryd.prog e:=a7 TT AY
noncomputable def Vv:cH:=⟨20,[gA kf [3,1],.int .i64 3],.tup [.agg (.I .i64 [0,0]),.int .i64 0]⟩
theorem TU:aG Tryd.prog Vv:=a8 AZ (H':=[⟨true,[]⟩]) (by kernel_rfl) (by kernel_rfl)
noncomputable def Ml:List cH:=Vv::Mk
theorem A0:∀ e ∈ Ml,aG Tryd.prog e:=a7 TU AZ
noncomputable def Vw:cH:=⟨56,[.ptrT none (gR kf [3,1] [0,3,0,1,2,3,0,1,0,0,0,0,0,0,0,0,0,0,0,0] [4,8,0,0,0,0,0,0,0,0]) 0],.agg (.I .i64 [3,3,1,1,2,2,0,0,0,0,0,0,0,0,0,0,0,0,0,0])⟩
theorem TV:aG Tryd.prog Vw:=a8 A0 (H':=[⟨true,[]⟩]) (by kernel_rfl) (by kernel_rfl)
noncomputable def Mm:List cH:=Vw::Ml
theorem A1:∀ e ∈ Mm,aG Tryd.prog e:=a7 TV A0
noncomputable def Vx:cH:=⟨65,[.ptrT none (gR kf [3,1] [0,3,0,1,2,3,0,1,0,0,0,0,0,0,0,0,0,0,0,0] [4,8,0,0,0,0,0,0,0,0]) 0],.tup [.agg (.G [.int .i64 0,.int .i64 0,.nils]),.bool false]⟩
theorem TW:aG Tryd.prog Vx:=a8 A1 (H':=[⟨true,[]⟩]) (by kernel_rfl) (by kernel_rfl)
noncomputable def Mn:List cH:=Vx::Mm
theorem A2:∀ e ∈ Mn,aG Tryd.prog e:=a7 TW A1
end Go.Eng.Gall
end
section
namespace Go.Eng.Gall
open Go.Proofs
noncomputable def Vy:cH:=⟨32,[gA kf [3,1],.int .i64 0,.int .i64 2],.tup [.bool false,.int .i64 0]⟩
theorem TX:aG Tryd.prog Vy:=a8 A2 (H':=[⟨true,[]⟩]) (by kernel_rfl) (by kernel_rfl)
noncomputable def Mo:List cH:=Vy::Mn
theorem Ik:∀ e ∈ Mo,aG Tryd.prog e:=a7 TX A2
noncomputable def Vz:cH:=⟨73,[.ptrT none (gR FH [3,1] [0,1,0,1,2,3,0,1,0,0,0,0,0,0,0,0,0,0,0,0] [0,8,0,0,0,0,0,0,0,0]) 0],.int .i64 0⟩
theorem TY:aG Tryd.prog Vz:=Hq (O:=10) (U:=4) (zl:=[100,110,90,110,90,95,75,100,120,125,80,110,80,80,70,200]) (V:=1) (bl:=[3,1]) (f1:=true) (f2:=true) (Wl:=[0,1,0,1,2,3,0,1,0,0,0,0,0,0,0,0,0,0,0,0]) (Bl:=[0,8,0,0,0,0,0,0,0,0]) (v:=0) rfl (by decide) rfl rfl rfl rfl (by kernel_rfl)
noncomputable def Mp:List cH:=Vz::Mo
theorem A3:∀ e ∈ Mp,aG Tryd.prog e:=a7 TY Ik
noncomputable def VA:cH:=⟨34,[gA FH [3,1]],.tup [.int .i64 0,.int .i64 0]⟩
theorem TZ:aG Tryd.prog VA:=a8 A3 (H':=[⟨true,[]⟩]) (by kernel_rfl) (by kernel_rfl)
noncomputable def Mq:List cH:=VA::Mp
theorem A4:∀ e ∈ Mq,aG Tryd.prog e:=a7 TZ A3
noncomputable def VB:cH:=⟨25,[gA kf [3,1]],.tup [.agg (.G [.int .i64 0,.int .i64 0,.nils]),.int .i64 5]⟩
theorem T2:aG Tryd.prog VB:=a8 A4 (H':=[⟨true,[]⟩]) (by kernel_rfl) (by kernel_rfl)
noncomputable def Mr:List cH:=VB::Mq
theorem A5:∀ e ∈ Mr,aG Tryd.prog e:=a7 T2 A4
end Go.Eng.Gall
end
section
namespace Go.Eng.Gall
open Go.Proofs
noncomputable def VC:cH:=⟨30,[gA FH [3,1],.int .i64 0],.tup [.nils,.int .i64 13]⟩
theorem T3:aG Tryd.prog VC:=a8 A5 (H':=[⟨true,[]⟩]) (by kernel_rfl) (by kernel_rfl)
noncomputable def Rf:List cH:=VC::Mr
theorem Il:∀ e ∈ Rf,aG Tryd.prog e:=a7 T3 A5
end Go.Eng.Gall
end
section
namespace Go.Eng.Gall
open Go.Proofs
noncomputable def EW:cH:=⟨15,[],.bool true⟩
theorem Qx:aG Tryd.prog EW:=a8 Il (H':=[⟨true,[]⟩]) (by kernel_rfl) (by kernel_rfl)
end Go.Eng.Gall
end
section
namespace Go.Eng
open Go.Proofs Go.ChangeShapes Go.WideShapes Go.ChangeAt Go.RowKit
theorem VW {p:aL} {M:Mu} {k:IntKind} {z:Nat→Int} {N sz len:Nat} {full:Bool} {v:Value} (h:an p M (.slcT none (.F (fun j=>.int k (z j)) N) sz len full) v):an p M (.slcT none (.M [.arr k z N]) sz len full) v:=by
 cases h with
 | slcN=>exact .slcN
 | slcT vs h0 h1 hv hl hf hx =>
   have e:∀ j,j<(Row.M [dp.arr k z N]).len→j<N:=fun j hj=>by simpa[Row.len,aE,aU] using hj
   refine .slcT vs (fun j hj=>h0 j (e j hj)) (fun j hj=>h1 j (e j hj)) (fun j hj=>?_) hl hf hx;have:=hv j (e j hj);simp only[Row.get,getM,if_pos (e j hj)] at this ⊢;exact this.bx _ _
theorem uM {P:Program} {w:World} {r:Reach} {base:Nat} {t e:TypeId} {v:Value} (ht:P.underlying t=some (.slice e)) (h:Cell.okWide P w r base t v):∀ a l c,v=.slice (some a) l c→a.spot=none:=by
 rintro a l c rfl;simp only[Cell.okWide,ht,Cell.ok] at h;exact h.2.2.2.1
theorem Da:vK Tryd.prog 2 1:=sY Tryd.underlying2
theorem PJ:vK Tryd.prog 3 1:=sY Tryd.underlying3
theorem Ng:vK Tryd.prog 29 2:=xi Tryd.underlying29 Da Da rfl rfl (by kernel_rfl) (by kernel_rfl) (by kernel_rfl)
theorem xj {P:Program} {k:IntKind} {t:TypeId} {f0 f1 f2:Field} {n0 n1 n2:Nat} (ht:P.underlying t=some (.struct #[f0,f1,f2])) (h0:kz k P f0.type n0) (h1:kz k P f1.type n1) (h2:kz k P f2.type n2) (o0:f0.offset=0) (o1:f1.offset=n0) (o2:f2.offset=n0+n1) (c0:P.cellsOf f0.type=n0) (c1:P.cellsOf f1.type=n1) (c2:P.cellsOf f2.type=n2) (c:P.cellsOf t=n0+n1+n2):kz k P t (n0+n1+n2):=by
 intro H enc w base sp held fuel cs x h;obtain ⟨xs,m,_,_,hl,hxl,hf⟩:=DataW.trod_struct ht h;match xs,hxl,hf with
 | [y0,y1,y2],_,hf =>
   have g0:=hf 0 f0 rfl;have g1:=hf 1 f1 rfl;have g2:=hf 2 f2 rfl;obtain ⟨_,k0⟩:=h0 _ _ _ _ _ _ _ _ _ g0;obtain ⟨_,k1⟩:=h1 _ _ _ _ _ _ _ _ _ g1;obtain ⟨_,k2⟩:=h2 _ _ _ _ _ _ _ _ _ g2;refine ⟨by rw[hl,c],fun j hj=>?_⟩;by_cases p:j<n0
   · obtain ⟨z,hz,hw⟩:=k0 j p;refine ⟨z,?_,hw⟩;rw[o0,c0] at hz;simpa[List.getElem?_take,p] using hz
   by_cases q:j<n0+n1
   · obtain ⟨z,hz,hw⟩:=k1 (j-n0) wO;refine ⟨z,?_,hw⟩;rw[o1,c1] at hz;have:j-n0<n1:=by omega
     simpa[List.getElem?_take,this,List.getElem?_drop,show n0+(j-n0)=j by omega] using hz
   · obtain ⟨z,hz,hw⟩:=k2 (j-(n0+n1)) wO;refine ⟨z,?_,hw⟩;rw[o2,c2] at hz;have:j-(n0+n1)<n2:=by omega
     simpa[List.getElem?_take,this,List.getElem?_drop,show n0+n1+(j-(n0+n1))=j by omega] using hz
theorem Nh:vK Tryd.prog 56 4:=xj Tryd.underlying56 Ng Da Da rfl rfl rfl (by kernel_rfl) (by kernel_rfl) (by kernel_rfl) (by kernel_rfl)
def sr (t:TypeId) (A:AV→Prop):Prop:=∀ (H:Type) (enc:TypeId×Value→H) (w:World) (r:Reach) (b0 base:Nat) (sp:Nat→Bool) (held:Bool) (v:Value) (d:DataW H) (ps:List MemPlace),mh w →
 Value.okWide Tryd.prog w r b0 t v→DataW.Trod enc Tryd.prog w base sp held t v d ps→∃ a,A a∧an (Pw w) Mu.no a v
def Bg:List (AV→Prop)→List AV→Prop
 | [],[]=>True
 | A::As,a::xs=>A a∧Bg As xs
 | _,_=>False
theorem qc {A:AV→Prop} {As:List (AV→Prop)} {xs:List AV} (h:Bg (A::As) xs):∃ a ys,xs=a::ys∧A a∧Bg As ys:=by
 cases xs with
 | nil=>exact h.elim
 | cons a ys=>exact ⟨a,ys,rfl,h.1,h.2⟩
theorem FP {xs:List AV} (h:Bg [] xs):xs=[]:=by
 cases xs with
 | nil=>rfl
 | cons a ys=>exact h.elim
def MB:List TypeId→List (AV→Prop)→Prop
 | [],[]=>True
 | t::ts,A::As=>sr t A∧MB ts As
 | _,_=>False
theorem CN {H:Type} {enc:TypeId×Value→H} {w:World} (hg:mh w) {r:Reach} {b0 base:Nat} {sp:Nat→Bool} {held:Bool}:∀ (ts:List TypeId) (As:List (AV→Prop)) (vs:List Value) (ds:List (DataW H)) (ps:List MemPlace),MB ts As →
 (∀ (j:Nat) t v,ts[j]?=some t→vs[j]?=some v→Value.okWide Tryd.prog w r b0 t v)→DataW.TrodAll enc Tryd.prog w base sp held ts vs ds ps→∃ xs,Bg As xs∧vs.length=xs.length∧∀ j,j<xs.length→an (Pw w) Mu.no (xs.getD j .undef) (vs.getD j undef)
 | [],[],vs,ds,ps,_,_,h=>by
   obtain ⟨rfl,rfl,rfl⟩:=trodAll_nil h;exact ⟨[],trivial,rfl,fun j hj=>by simp at hj⟩
 | t::ts,A::As,vs,ds,ps,hT,hv,h=>by
   obtain ⟨v,vs',d,ds',p,q,rfl,rfl,rfl,h1,h2⟩:=trodAll_cons h;obtain ⟨a,ha,hr⟩:=hT.1 H enc w r b0 base sp held v d p hg (hv 0 t v rfl rfl) h1;obtain ⟨xs,hA,hl,hR⟩:=CN hg ts As vs' ds' q hT.2 (fun j t' v' e1 e2=>hv (j+1) t' v' (by simpa using e1) (by simpa using e2)) h2;refine ⟨a::xs,⟨ha,hA⟩,by simp[hl],fun j hj=>?_⟩;cases j with
   | zero=>exact hr
   | succ j=>simpa using hR j (by simpa using hj)
 | [],_::_,_,_,_,hT,_,_=>hT.elim
 | _::_,[],_,_,_,hT,_,_=>hT.elim
theorem wR {H:Type} {enc:TypeId×Value→H} {W W':World} {base:Nat} {sp':Nat→Bool} (hl:laidOutB Tryd.prog=true):∀ (ts:List TypeId) (vs:List Value) (ds:List (DataW H)) (ps:List MemPlace),(∀ t ∈ ts,Tryd.prog.readableRec t=true∧t<Tryd.prog.types.size) →
 DataW.TrodAll enc Tryd.prog W base (fun _=>true) true ts vs ds ps→(∀ p ∈ ps,W.sameAt W' p)→(∀ p ∈ ps,sp' p.block=true)→DataW.TrodAll enc Tryd.prog W' base sp' true ts vs ds ps
 | [],vs,ds,ps,_,h,_,_=>by
   obtain ⟨rfl,rfl,rfl⟩:=trodAll_nil h;exact trodAll_mk0
 | t::ts,vs,ds,ps,ht,h,hs,hp=>by
   obtain ⟨v,vs',d,ds',p,q,rfl,rfl,rfl,h1,h2⟩:=trodAll_cons h;obtain ⟨r1,r2⟩:=ht t (by simp);refine ⟨p,q,?_,wR hl ts vs' ds' q (fun t' h'=>ht t' (List.mem_cons_of_mem _ h')) h2 (fun x hx=>hs x (List.mem_append_right _ hx)) (fun x hx=>hp x (List.mem_append_right _ hx)),rfl⟩;exact WideElems.Trod_stays hl r1 r2 h1 (fun x hx=>hs x (List.mem_append_left _ hx)) (fun x hx=>hp x (List.mem_append_left _ hx))
theorem Gf (hN:dK Tryd.prog) (hm:Tryd.prog.follows .mixedOrders=true) (hW:aG Tryd.prog ⟨15,[],.bool true⟩) (n:Nat):cq Tryd.prog (cd n) :=
 nf hN (qi hN hm) (xH hN (qi hN hm) hW) KtG.kt 100000 n
theorem ET {f:FuncId} {ts:List TypeId} {As:List (AV→Prop)} (hT:MB ts As) {n:Nat} (hlaw:∀ xs,Bg As xs→∃ H',cd n (.fn f) xs [⟨true,[]⟩]=some (.bool true,H')) {H:Type} {enc:TypeId×Value→H} {w:World} (hg:mh w) {r:Reach} {b0 base:Nat} {sp:Nat→Bool} {held:Bool} {args:Array Value} {ds:List (DataW H)} {ps:List MemPlace}
 (hv:∀ (j:Nat) t v,ts[j]?=some t→args[j]?=some v→Value.okWide Tryd.prog w r b0 t v) (h:DataW.TrodAll enc Tryd.prog w base sp held ts args.toList ds ps) :
 Calls Tryd.prog f args w (fun e w'=>e=.returned (.bool true)∧Go.RowKit.Below w.heap.size w w'):=by
 obtain ⟨xs,hA,hl,hR⟩:=CN hg ts As args.toList ds ps hT (fun j t v e1 e2=>hv j t v e1 (by simpa using e2)) h
 obtain ⟨H',hc⟩:=hlaw xs hA
 refine Ez (Gf Gall.named Gall.mixed Gall.Qx n) hc hg ⟨by simpa using hl,fun j hj=>?_⟩
 have:=hR j hj
 have e:args.toList.getD j undef=args.getD j undef:=by
  rw[Array.getD_eq_getD_getElem?,List.getD_eq_getElem?_getD,Array.getElem?_toList]
 rwa [e] at this
theorem IX {t:TypeId} {k:IntKind} (ht:Tryd.prog.underlying t=some (.int k)):sr t (fun a=>∃ n:Int,a=.int k n∧(Lit.int k n).wf=true):=fun H enc w r b0 base sp held v d ps hg hv h=>by
 obtain ⟨fuel,hf⟩:=h;obtain ⟨n,e,_,hw⟩:=DataW.trod_int ht hf;obtain ⟨s,rfl⟩:=WideShapes.okWide_int ht hv;have:s=n:=by simpa[Value.cells] using e
 subst this;exact ⟨_,⟨s,rfl,hw⟩,.int _ _⟩
def RM (a:AV):Prop:=∃ n:Int,a=.int .u8 n∧0≤n∧n≤255
theorem O3:sr 5 RM:=fun H enc w r b0 base sp held v d ps hg hv h=>by
 obtain ⟨a,⟨n,rfl,hw⟩,hr⟩:=IX Tryd.underlying5 H enc w r b0 base sp held v d ps hg hv h;simp[Lit.wf,IntKind.min,IntKind.max,IntKind.signed,IntKind.bits] at hw;exact ⟨_,⟨n,rfl,by omega,by omega⟩,hr⟩
theorem laidOut:laidOutB Tryd.prog=true:=by kernel_rfl
theorem BE {P:Program} {k:IntKind} {t e:TypeId} {n m:Nat} (ht:P.underlying t=some (.array n e)) (he:kz k P e m) (hm:0<m) (hc:P.cellsOf e=m) (hct:P.cellsOf t=n*m):kz k P t (n*m):=by
 intro H enc w base sp held fuel cs x h;obtain ⟨xs,f,_,_,hl,hxl,hel⟩:=DataW.trod_array ht h;refine ⟨by rw[hl,hct],fun j hj=>?_⟩;have hi:j / m<n:=by rw[Nat.div_lt_iff_lt_mul hm];exact hj
 have hm':=Nat.mod_lt j hm;have g:=hel (j / m) hi;have:j / m<xs.length:=by omega
 rw[List.getElem?_eq_getElem this] at g;obtain ⟨_,k1⟩:=he _ _ _ _ _ _ _ _ _ g;obtain ⟨z,hz,hw⟩:=k1 (j % m) hm';refine ⟨z,?_,hw⟩;rw[hc,List.getElem?_take,if_pos hm',List.getElem?_drop] at hz;have hd:=Nat.div_add_mod j m;rw[Nat.mul_comm] at hd;rwa [hd] at hz
theorem FW {t e n:Nat} {k:IntKind} (ht:Tryd.prog.underlying t=some (.slice e)) (he:kz k Tryd.prog e n) (hn:0<n) (hc:Tryd.prog.cellsOf e=n):sr t (fun a=>∃ (len:Nat) (z:Nat→Int),a=.slcT none (.M [.arr k z (len*n)]) n len false∧∀ j,(Lit.int k (z j)).wf=true):=fun H enc w r b0 base sp held v d ps hg hv h=>by
 simp only[Value.okWide,ht] at hv;have hcell:v.cells.toList=[v]:=by
  simp only[Cell.okWide,ht] at hv;cases v<;>simp_all [Cell.ok]<;>rfl
 obtain ⟨fuel,hf⟩:=h;rw[hcell] at hf;have h0:(Lit.int k 0).wf=true:=by cases k<;>rfl
 rcases uL ht he hn hc hg (uM ht hv) hf with rfl | ⟨zs,len,h1,h2⟩
 · exact ⟨_,⟨0,fun _=>0,rfl,fun _=>h0⟩,.slcN⟩
 · refine ⟨_,⟨len,fun j=>if j<len*n then zs j else 0,rfl,fun j=>?_⟩,?_⟩
   · dsimp only;split
     · exact h2 _ (by assumption)
     · exact h0
   · have h3:=VW h1;cases h3 with
     | slcN=>exact .slcN
     | slcT vs a0 a1 hv' hl hf' hx =>
       refine .slcT vs a0 a1 (fun j hj=>?_) hl hf' hx;have:=hv' j hj;have hj':j<len*n:=by simpa[Row.len,aE,aU] using hj
       simp only[Row.get,getM,if_pos hj'] at this ⊢;exact this.bx _ _
def CH (a:AV):Prop:=∃ (len:Nat) (z:Nat→Int),a=.slcT none (.M [.arr .i64 z len]) 1 len false∧∀ j,-9223372036854775808≤z j∧z j≤9223372036854775807
theorem IW {t e:TypeId} (ht:Tryd.prog.underlying t=some (.slice e)) (he:Tryd.prog.underlying e=some (.int .i64)) (hc:Tryd.prog.cellsOf e=1):sr t CH:=fun H enc w r b0 base sp held v d ps hg hv h=>by
 obtain ⟨a,⟨len,z,rfl,hz⟩,hr⟩:=FW ht (sY he) wO hc H enc w r b0 base sp held v d ps hg hv h;refine ⟨_,⟨len,z,by rw[Nat.mul_one],fun j=>?_⟩,hr⟩;have:=hz j;simp[Lit.wf,IntKind.min,IntKind.max,IntKind.signed,IntKind.bits] at this;omega
theorem O1:sr 36 CH:=IW Tryd.underlying36 Tryd.underlying3 (by kernel_rfl)
theorem Ni:vK Tryd.prog 61 2:=BE Tryd.underlying61 PJ wO (by kernel_rfl) (by kernel_rfl)
theorem uK {t e n:Nat} (ht:Tryd.prog.underlying t=some (.slice e)) (he:vK Tryd.prog e n) (hn:0<n) (hc:Tryd.prog.cellsOf e=n) {H:Type} {enc:TypeId×Value→H} {w:World} (hg:mh w) {r:Reach} {b0 base:Nat} {sp:Nat→Bool} {held:Bool} {fuel:Nat} {v:Value} {x:DataW H×List MemPlace}
 (hv:Cell.okWide Tryd.prog w r b0 t v) (h:DataW.trod enc Tryd.prog w base sp held fuel t [v]=some x):∃ (len:Nat) (z:Nat→Int),an (Pw w) Mu.no (slA n len z) v∧v.oneCell'=true:=by
 rcases uL ht he hn hc hg (uM ht hv) h with rfl | ⟨zs,len,h1,h2⟩
 · exact ⟨0,fun _=>0,.slcN,rfl⟩
 · refine ⟨len,zs,?_,?_⟩
   · unfold slA
     rw[cO]
     exact VW h1
   · cases h1<;>rfl
def RL (a:AV):Prop:=∃ (O:Int) (U:Nat) (Z:Nat→Int) (V:Nat) (J:Nat→Int),a=bj O U Z V J
theorem O2:sr 25 RL:=fun H enc w r b0 base sp held v d ps hg hv h=>by
 have hts:Tryd.prog.cellTypes Tryd.prog.depth 25=some [2,22,23]:=by kernel_rfl
 have hc25:Tryd.prog.cellsOf 25=3:=by kernel_rfl
 have hc2:Tryd.prog.cellsOf 2=1:=by kernel_rfl
 have hc22:Tryd.prog.cellsOf 22=1:=by kernel_rfl
 have hc23:Tryd.prog.cellsOf 23=1:=by kernel_rfl
 have hc56:Tryd.prog.cellsOf 56=4:=by kernel_rfl
 have hc61:Tryd.prog.cellsOf 61=2:=by kernel_rfl
 simp only[Value.okWide,Tryd.underlying25] at hv;obtain ⟨cs,rfl,hsz,ts,ht,_,hcell⟩:=hv;rw[hts] at ht;obtain rfl:=Option.some.inj ht;rw[hc25] at hsz;obtain ⟨fuel,hf⟩:=h;obtain ⟨xs,n,_,_,_,hxl,hfield⟩:=DataW.trod_struct Tryd.underlying25 hf;have e3:∃ c0 c1 c2,cs=#[c0,c1,c2]:=by
  refine ⟨cs[0],cs[1],cs[2],?_⟩;apply Array.ext
  · simpa using hsz
  · intro i h1 h2;simp at h2;match i,h2 with
    | 0,_=>rfl
    | 1,_=>rfl
    | 2,_=>rfl
 obtain ⟨c0,c1,c2,rfl⟩:=e3;have some_of:∀ i,i<3→∃ y,xs[i]?=some y:=fun i hi=>by
  have:i<xs.length:=by rw[hxl];simpa using hi
  exact ⟨xs[i],List.getElem?_eq_getElem this⟩
 obtain ⟨y0,hy0⟩:=some_of 0 wO;obtain ⟨y1,hy1⟩:=some_of 1 wO;obtain ⟨y2,hy2⟩:=some_of 2 wO;have f0:=hfield 0 _ rfl;have f1:=hfield 1 _ rfl;have f2:=hfield 2 _ rfl;rw[hy0] at f0;rw[hy1] at f1;rw[hy2] at f2;simp only[Value.cells] at f0 f1 f2;have g0:DataW.trod enc Tryd.prog w base sp held n 2 [c0]=some y0:=by simpa[hc2] using f0
 have g1:DataW.trod enc Tryd.prog w base sp held n 22 [c1]=some y1:=by simpa[hc22] using f1
 have g2:DataW.trod enc Tryd.prog w base sp held n 23 [c2]=some y2:=by simpa[hc23] using f2
 obtain ⟨wd,e0,_,hw⟩:=DataW.trod_int Tryd.underlying2 g0;simp only[List.cons.injEq,and_true] at e0;subst e0;obtain ⟨u1,hu1,k1⟩:=hcell 1 c1 rfl;obtain ⟨u2,hu2,k2⟩:=hcell 2 c2 rfl;simp at hu1 hu2;subst hu1;subst hu2;obtain ⟨U,Z,r1,o1⟩:=uK Tryd.underlying22 Nh wO hc56 hg k1 g1;obtain ⟨V,J,r2,o2⟩:=uK Tryd.underlying23 Ni wO hc61 hg k2 g2;refine ⟨_,⟨wd,U,Z,V,J,rfl⟩,?_⟩;refine .agg rfl (fun j hj=>?_) (fun j hj=>?_)
 · have hj':j<3:=hj;match j,hj' with
   | 0,_=>rfl
   | 1,_=>exact o1
   | 2,_=>exact o2
 · have hj':j<3:=hj;match j,hj' with
   | 0,_=>exact .int _ _
   | 1,_=>exact r1
   | 2,_=>exact r2
end Go.Eng
end
section
namespace Go.Eng
open Go.Proofs Go.ChangeShapes Go.WideShapes Go.ChangeAt Go.RowKit
end Go.Eng
end
