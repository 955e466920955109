/- Gall: closed calls. -/
import Derived.Test.YtgphpjdchnfjlaaDoorV4Gayx8
import Derived.Test.YtgphpjdchnfjlaaDoorV4GaKx6
import Derived.Test.YtgphpjdchnfjlaaDoorV4Gp2x6
import Derived.OpenShut
set_option maxRecDepth 100000
set_option linter.unusedVariables false
section
namespace Go.Eng.Gall
open Go.Proofs
noncomputable def PJ:bW:=⟨65,[.ptrT none (.G [.int .i64 10,.slcT none (.I .i64 [100,110,60,110,90,95,75,100,120,125,80,110,80,80,70,200]) 4 4 true,.slcT none (.I .i64 [3,1]) 2 1 true,.int .i64 0,.int .i64 3,.int .i64 1,.int .i64 1,.int .i64 2,.int .i64 3,.int .i64 0,.int .i64 0,.int .i64 0,.int .i64 0,.int .i64 0,.int .i64 0,.int .i64 0,.int .i64 0,.int .i64 0,.int .i64 0,.int .i64 0,.int .i64 0,.int .i64 0,.int .i64 0,.int .u64 0,.int .u64 8,.int .u64 0,.int .u64 0,.int .u64 0,.int .u64 0,.int .u64 0,.int .u64 0,.int .u64 0,.int .u64 0]) 0],.tup [.agg (.G [.int .i64 0,.int .i64 0,.nils]),.bool false]⟩
theorem Oi:ay Tryd.prog PJ:=aS yb (H':=[⟨true,[]⟩]) (by kernel_rfl) (by kernel_rfl)
noncomputable def HN:List bW:=PJ::HM
theorem yc:∀ e ∈ HN,ay Tryd.prog e:=aP Oi yb
noncomputable def PK:bW:=⟨56,[.ptrT none (.G [.int .i64 10,.slcT none (.I .i64 [100,110,60,110,90,95,75,100,120,125,80,110,80,80,70,200]) 4 4 true,.slcT none (.I .i64 [3,1]) 2 1 true,.int .i64 2,.int .i64 2,.int .i64 1,.int .i64 1,.int .i64 2,.int .i64 3,.int .i64 0,.int .i64 0,.int .i64 0,.int .i64 0,.int .i64 0,.int .i64 0,.int .i64 0,.int .i64 0,.int .i64 0,.int .i64 0,.int .i64 0,.int .i64 0,.int .i64 0,.int .i64 0,.int .u64 0,.int .u64 8,.int .u64 0,.int .u64 0,.int .u64 0,.int .u64 0,.int .u64 0,.int .u64 0,.int .u64 0,.int .u64 0]) 0],.agg (.I .i64 [2,2,1,1,2,3,0,0,0,0,0,0,0,0,0,0,0,0,0,0])⟩
theorem Oj:ay Tryd.prog PK:=aS yc (H':=[⟨true,[]⟩]) (by kernel_rfl) (by kernel_rfl)
noncomputable def HO:List bW:=PK::HN
theorem yd:∀ e ∈ HO,ay Tryd.prog e:=aP Oj yc
noncomputable def PL:bW:=⟨65,[.ptrT none (.G [.int .i64 10,.slcT none (.I .i64 [100,110,60,110,90,95,75,100,120,125,80,110,80,80,70,200]) 4 4 true,.slcT none (.I .i64 [3,1]) 2 1 true,.int .i64 2,.int .i64 2,.int .i64 1,.int .i64 1,.int .i64 2,.int .i64 3,.int .i64 0,.int .i64 0,.int .i64 0,.int .i64 0,.int .i64 0,.int .i64 0,.int .i64 0,.int .i64 0,.int .i64 0,.int .i64 0,.int .i64 0,.int .i64 0,.int .i64 0,.int .i64 0,.int .u64 0,.int .u64 8,.int .u64 0,.int .u64 0,.int .u64 0,.int .u64 0,.int .u64 0,.int .u64 0,.int .u64 0,.int .u64 0]) 0],.tup [.agg (.G [.int .i64 0,.int .i64 0,.nils]),.bool false]⟩
theorem Ol:ay Tryd.prog PL:=aS yd (H':=[⟨true,[]⟩]) (by kernel_rfl) (by kernel_rfl)
noncomputable def HP:List bW:=PL::HO
theorem ye:∀ e ∈ HP,ay Tryd.prog e:=aP Ol yd
noncomputable def PM:bW:=⟨56,[.ptrT none (.G [.int .i64 10,.slcT none (.I .i64 [100,110,60,110,90,95,75,100,120,125,80,110,80,80,70,200]) 4 4 true,.slcT none (.I .i64 [3,1]) 2 1 true,.int .i64 2,.int .i64 2,.int .i64 1,.int .i64 1,.int .i64 3,.int .i64 3,.int .i64 0,.int .i64 0,.int .i64 0,.int .i64 0,.int .i64 0,.int .i64 0,.int .i64 0,.int .i64 0,.int .i64 0,.int .i64 0,.int .i64 0,.int .i64 0,.int .i64 0,.int .i64 0,.int .u64 0,.int .u64 8,.int .u64 0,.int .u64 0,.int .u64 0,.int .u64 0,.int .u64 0,.int .u64 0,.int .u64 0,.int .u64 0]) 0],.agg (.I .i64 [2,2,1,1,3,3,0,0,0,0,0,0,0,0,0,0,0,0,0,0])⟩
theorem Om:ay Tryd.prog PM:=aS ye (H':=[⟨true,[]⟩]) (by kernel_rfl) (by kernel_rfl)
noncomputable def HQ:List bW:=PM::HP
theorem yf:∀ e ∈ HQ,ay Tryd.prog e:=aP Om ye
end Go.Eng.Gall
end
section
namespace Go.Eng.Gall
open Go.Proofs
noncomputable def PN:bW:=⟨65,[.ptrT none (.G [.int .i64 10,.slcT none (.I .i64 [100,110,60,110,90,95,75,100,120,125,80,110,80,80,70,200]) 4 4 true,.slcT none (.I .i64 [3,1]) 2 1 true,.int .i64 2,.int .i64 2,.int .i64 1,.int .i64 1,.int .i64 3,.int .i64 3,.int .i64 0,.int .i64 0,.int .i64 0,.int .i64 0,.int .i64 0,.int .i64 0,.int .i64 0,.int .i64 0,.int .i64 0,.int .i64 0,.int .i64 0,.int .i64 0,.int .i64 0,.int .i64 0,.int .u64 0,.int .u64 8,.int .u64 0,.int .u64 0,.int .u64 0,.int .u64 0,.int .u64 0,.int .u64 0,.int .u64 0,.int .u64 0]) 0],.tup [.agg (.G [.int .i64 0,.int .i64 0,.nils]),.bool false]⟩
theorem On:ay Tryd.prog PN:=aS yf (H':=[⟨true,[]⟩]) (by kernel_rfl) (by kernel_rfl)
noncomputable def HR:List bW:=PN::HQ
theorem yg:∀ e ∈ HR,ay Tryd.prog e:=aP On yf
noncomputable def PO:bW:=⟨74,[.ptrT none (.G [.int .i64 10,.slcT none (.I .i64 [100,110,60,110,90,95,75,100,120,125,80,110,80,80,70,200]) 4 4 true,.slcT none (.I .i64 [3,1]) 2 1 true,.int .i64 0,.int .i64 3,.int .i64 0,.int .i64 1,.int .i64 2,.int .i64 3,.int .i64 0,.int .i64 1,.int .i64 0,.int .i64 0,.int .i64 0,.int .i64 0,.int .i64 0,.int .i64 0,.int .i64 0,.int .i64 0,.int .i64 0,.int .i64 0,.int .i64 0,.int .i64 0,.int .u64 0,.int .u64 8,.int .u64 0,.int .u64 0,.int .u64 0,.int .u64 0,.int .u64 0,.int .u64 0,.int .u64 0,.int .u64 0]) 0],.slcT none (.I .i64 [3,1,0,2]) 1 4 false⟩
theorem Oo:ay Tryd.prog PO:=aS yg (H':=[⟨true,[]⟩]) (by kernel_rfl) (by kernel_rfl)
noncomputable def HS:List bW:=PO::HR
theorem yh:∀ e ∈ HS,ay Tryd.prog e:=aP Oo yg
noncomputable def PQ:bW:=⟨38,[.agg (.G [.int .i64 10,.slcT none (.I .i64 [100,110,60,110,90,95,75,100,120,125,80,110,80,80,70,200]) 4 4 true,.slcT none (.I .i64 [3,1]) 2 1 true])],.tup [.slcT none (.I .i64 [3,1,0,2]) 1 4 true,.int .i64 0]⟩
theorem Oq:ay Tryd.prog PQ:=aS yh (H':=[⟨true,[]⟩]) (by kernel_rfl) (by kernel_rfl)
noncomputable def HT:List bW:=PQ::HS
theorem yi:∀ e ∈ HT,ay Tryd.prog e:=aP Oq yh
noncomputable def PR:bW:=⟨22,[.agg (.G [.int .i64 10,.slcT none (.I .i64 [100,110,90,110,90,95,75,100,120,125,80,110,80,80,70,200]) 4 4 true,.slcT none (.I .i64 [3,1]) 2 1 true])],.int .i64 0⟩
theorem Ot:ay Tryd.prog PR:=aS yi (H':=[⟨true,[]⟩]) (by kernel_rfl) (by kernel_rfl)
noncomputable def HU:List bW:=PR::HT
theorem yj:∀ e ∈ HU,ay Tryd.prog e:=aP Ot yi
end Go.Eng.Gall
end
section
namespace Go.Eng.Gall
open Go.Proofs
noncomputable def PS:bW:=⟨49,[.agg (.G [.int .i64 10,.slcT none (.I .i64 [100,110,90,110,90,95,75,100,120,125,80,110,80,80,70,200]) 4 4 true,.slcT none (.I .i64 [3,1]) 2 1 true]),.nils],.tup [.ptrT none (.G [.int .i64 10,.slcT none (.I .i64 [100,110,90,110,90,95,75,100,120,125,80,110,80,80,70,200]) 4 4 true,.slcT none (.I .i64 [3,1]) 2 1 true,.int .i64 0,.int .i64 1,.int .i64 0,.int .i64 1,.int .i64 2,.int .i64 3,.int .i64 0,.int .i64 1,.int .i64 0,.int .i64 0,.int .i64 0,.int .i64 0,.int .i64 0,.int .i64 0,.int .i64 0,.int .i64 0,.int .i64 0,.int .i64 0,.int .i64 0,.int .i64 0,.int .u64 0,.int .u64 8,.int .u64 0,.int .u64 0,.int .u64 0,.int .u64 0,.int .u64 0,.int .u64 0,.int .u64 0,.int .u64 0]) 0,.int .i64 0]⟩
theorem Ou:ay Tryd.prog PS:=aS yj (H':=[⟨true,[]⟩]) (by kernel_rfl) (by kernel_rfl)
noncomputable def HW:List bW:=PS::HU
theorem yk:∀ e ∈ HW,ay Tryd.prog e:=aP Ou yj
noncomputable def PT:bW:=⟨56,[.ptrT none (.G [.int .i64 10,.slcT none (.I .i64 [100,110,90,110,90,95,75,100,120,125,80,110,80,80,70,200]) 4 4 true,.slcT none (.I .i64 [3,1]) 2 1 true,.int .i64 0,.int .i64 1,.int .i64 0,.int .i64 1,.int .i64 2,.int .i64 3,.int .i64 0,.int .i64 1,.int .i64 0,.int .i64 0,.int .i64 0,.int .i64 0,.int .i64 0,.int .i64 0,.int .i64 0,.int .i64 0,.int .i64 0,.int .i64 0,.int .i64 0,.int .i64 0,.int .u64 0,.int .u64 8,.int .u64 0,.int .u64 0,.int .u64 0,.int .u64 0,.int .u64 0,.int .u64 0,.int .u64 0,.int .u64 0]) 0],.agg (.I .i64 [0,1,1,1,2,3,0,0,0,0,0,0,0,0,0,0,0,0,0,0])⟩
theorem Ov:ay Tryd.prog PT:=aS yk (H':=[⟨true,[]⟩]) (by kernel_rfl) (by kernel_rfl)
noncomputable def H3:List bW:=PT::HW
theorem yl:∀ e ∈ H3,ay Tryd.prog e:=aP Ov yk
noncomputable def PU:bW:=⟨65,[.ptrT none (.G [.int .i64 10,.slcT none (.I .i64 [100,110,90,110,90,95,75,100,120,125,80,110,80,80,70,200]) 4 4 true,.slcT none (.I .i64 [3,1]) 2 1 true,.int .i64 0,.int .i64 1,.int .i64 0,.int .i64 1,.int .i64 2,.int .i64 3,.int .i64 0,.int .i64 1,.int .i64 0,.int .i64 0,.int .i64 0,.int .i64 0,.int .i64 0,.int .i64 0,.int .i64 0,.int .i64 0,.int .i64 0,.int .i64 0,.int .i64 0,.int .i64 0,.int .u64 0,.int .u64 8,.int .u64 0,.int .u64 0,.int .u64 0,.int .u64 0,.int .u64 0,.int .u64 0,.int .u64 0,.int .u64 0]) 0],.tup [.agg (.G [.int .i64 0,.int .i64 1,.slcT none (.I .i64 [0,1,3]) 1 3 false]),.bool true]⟩
theorem Ow:ay Tryd.prog PU:=aS yl (H':=[⟨true,[]⟩]) (by kernel_rfl) (by kernel_rfl)
noncomputable def H4:List bW:=PU::H3
theorem ym:∀ e ∈ H4,ay Tryd.prog e:=aP Ow yl
noncomputable def PV:bW:=⟨74,[.ptrT none (.G [.int .i64 10,.slcT none (.I .i64 [100,110,90,110,90,95,75,100,120,125,80,110,80,80,70,200]) 4 4 true,.slcT none (.I .i64 [3,1]) 2 1 true,.int .i64 0,.int .i64 1,.int .i64 0,.int .i64 1,.int .i64 2,.int .i64 3,.int .i64 0,.int .i64 1,.int .i64 0,.int .i64 0,.int .i64 0,.int .i64 0,.int .i64 0,.int .i64 0,.int .i64 0,.int .i64 0,.int .i64 0,.int .i64 0,.int .i64 0,.int .i64 0,.int .u64 0,.int .u64 8,.int .u64 0,.int .u64 0,.int .u64 0,.int .u64 0,.int .u64 0,.int .u64 0,.int .u64 0,.int .u64 0]) 0],.nils⟩
theorem Ox:ay Tryd.prog PV:=aS ym (H':=[⟨true,[]⟩]) (by kernel_rfl) (by kernel_rfl)
noncomputable def H5:List bW:=PV::H4
theorem yn:∀ e ∈ H5,ay Tryd.prog e:=aP Ox ym
end Go.Eng.Gall
end
section
namespace Go.Eng.Gall
open Go.Proofs
noncomputable def PW:bW:=⟨38,[.agg (.G [.int .i64 10,.slcT none (.I .i64 [100,110,90,110,90,95,75,100,120,125,80,110,80,80,70,200]) 4 4 true,.slcT none (.I .i64 [3,1]) 2 1 true])],.tup [.nils,.int .i64 13]⟩
theorem Oy:ay Tryd.prog PW:=aS yn (H':=[⟨true,[]⟩]) (by kernel_rfl) (by kernel_rfl)
noncomputable def H6:List bW:=PW::H5
theorem yo:∀ e ∈ H6,ay Tryd.prog e:=aP Oy yn
noncomputable def PX:bW:=⟨25,[.agg (.G [.int .i64 10,.slcT none (.I .i64 [100,110,90,110,90,95,75,100,120,125,80,110,80,80,70,200]) 4 4 true,.slcT none (.I .i64 [3,1]) 2 1 true])],.tup [.agg (.G [.int .i64 0,.int .i64 1,.slcT none (.I .i64 [0,1,3]) 1 3 false]),.int .i64 0]⟩
theorem Oz:ay Tryd.prog PX:=aS yo (H':=[⟨true,[]⟩]) (by kernel_rfl) (by kernel_rfl)
noncomputable def H7:List bW:=PX::H6
theorem yp:∀ e ∈ H7,ay Tryd.prog e:=aP Oz yo
noncomputable def PY:bW:=⟨56,[.ptrT none (.G [.int .i64 10,.slcT none (.I .i64 [100,110,60,110,90,95,75,100,120,125,80,110,80,80,70,200]) 4 4 true,.slcT none (.I .i64 [3,1]) 2 1 true,.int .i64 1,.int .i64 1,.int .i64 0,.int .i64 1,.int .i64 2,.int .i64 3,.int .i64 0,.int .i64 1,.int .i64 0,.int .i64 0,.int .i64 0,.int .i64 0,.int .i64 0,.int .i64 0,.int .i64 0,.int .i64 0,.int .i64 0,.int .i64 0,.int .i64 0,.int .i64 0,.int .u64 0,.int .u64 8,.int .u64 0,.int .u64 0,.int .u64 0,.int .u64 0,.int .u64 0,.int .u64 0,.int .u64 0,.int .u64 0]) 0],.agg (.I .i64 [1,1,1,1,2,3,0,0,0,0,0,0,0,0,0,0,0,0,0,0])⟩
theorem OA:ay Tryd.prog PY:=aS yp (H':=[⟨true,[]⟩]) (by kernel_rfl) (by kernel_rfl)
noncomputable def H8:List bW:=PY::H7
theorem yq:∀ e ∈ H8,ay Tryd.prog e:=aP OA yp
noncomputable def PZ:bW:=⟨65,[.ptrT none (.G [.int .i64 10,.slcT none (.I .i64 [100,110,60,110,90,95,75,100,120,125,80,110,80,80,70,200]) 4 4 true,.slcT none (.I .i64 [3,1]) 2 1 true,.int .i64 1,.int .i64 1,.int .i64 0,.int .i64 1,.int .i64 2,.int .i64 3,.int .i64 0,.int .i64 1,.int .i64 0,.int .i64 0,.int .i64 0,.int .i64 0,.int .i64 0,.int .i64 0,.int .i64 0,.int .i64 0,.int .i64 0,.int .i64 0,.int .i64 0,.int .i64 0,.int .u64 0,.int .u64 8,.int .u64 0,.int .u64 0,.int .u64 0,.int .u64 0,.int .u64 0,.int .u64 0,.int .u64 0,.int .u64 0]) 0],.tup [.agg (.G [.int .i64 0,.int .i64 1,.slcT none (.I .i64 [0,1,3]) 1 3 false]),.bool true]⟩
theorem OB:ay Tryd.prog PZ:=aS yq (H':=[⟨true,[]⟩]) (by kernel_rfl) (by kernel_rfl)
noncomputable def H9:List bW:=PZ::H8
theorem yr:∀ e ∈ H9,ay Tryd.prog e:=aP OB yq
end Go.Eng.Gall
end
section
namespace Go.Eng.Gall
open Go.Proofs
noncomputable def P0:bW:=⟨56,[.ptrT none (.G [.int .i64 10,.slcT none (.I .i64 [100,110,60,110,90,95,75,100,120,125,80,110,80,80,70,200]) 4 4 true,.slcT none (.I .i64 [3,1]) 2 1 true,.int .i64 2,.int .i64 2,.int .i64 0,.int .i64 1,.int .i64 2,.int .i64 3,.int .i64 0,.int .i64 1,.int .i64 0,.int .i64 0,.int .i64 0,.int .i64 0,.int .i64 0,.int .i64 0,.int .i64 0,.int .i64 0,.int .i64 0,.int .i64 0,.int .i64 0,.int .i64 0,.int .u64 0,.int .u64 8,.int .u64 0,.int .u64 0,.int .u64 0,.int .u64 0,.int .u64 0,.int .u64 0,.int .u64 0,.int .u64 0]) 0],.agg (.I .i64 [2,2,1,1,2,3,0,0,0,0,0,0,0,0,0,0,0,0,0,0])⟩
theorem OC:ay Tryd.prog P0:=aS yr (H':=[⟨true,[]⟩]) (by kernel_rfl) (by kernel_rfl)
noncomputable def Ia:List bW:=P0::H9
theorem yt:∀ e ∈ Ia,ay Tryd.prog e:=aP OC yr
noncomputable def P1:bW:=⟨65,[.ptrT none (.G [.int .i64 10,.slcT none (.I .i64 [100,110,60,110,90,95,75,100,120,125,80,110,80,80,70,200]) 4 4 true,.slcT none (.I .i64 [3,1]) 2 1 true,.int .i64 2,.int .i64 2,.int .i64 0,.int .i64 1,.int .i64 2,.int .i64 3,.int .i64 0,.int .i64 1,.int .i64 0,.int .i64 0,.int .i64 0,.int .i64 0,.int .i64 0,.int .i64 0,.int .i64 0,.int .i64 0,.int .i64 0,.int .i64 0,.int .i64 0,.int .i64 0,.int .u64 0,.int .u64 8,.int .u64 0,.int .u64 0,.int .u64 0,.int .u64 0,.int .u64 0,.int .u64 0,.int .u64 0,.int .u64 0]) 0],.tup [.agg (.G [.int .i64 0,.int .i64 0,.nils]),.bool false]⟩
theorem OD:ay Tryd.prog P1:=aS yt (H':=[⟨true,[]⟩]) (by kernel_rfl) (by kernel_rfl)
noncomputable def Ib:List bW:=P1::Ia
theorem yu:∀ e ∈ Ib,ay Tryd.prog e:=aP OD yt
noncomputable def P4:bW:=⟨56,[.ptrT none (.G [.int .i64 10,.slcT none (.I .i64 [100,110,60,110,90,95,75,100,120,125,80,110,80,80,70,200]) 4 4 true,.slcT none (.I .i64 [3,1]) 2 1 true,.int .i64 3,.int .i64 3,.int .i64 0,.int .i64 1,.int .i64 2,.int .i64 3,.int .i64 0,.int .i64 1,.int .i64 0,.int .i64 0,.int .i64 0,.int .i64 0,.int .i64 0,.int .i64 0,.int .i64 0,.int .i64 0,.int .i64 0,.int .i64 0,.int .i64 0,.int .i64 0,.int .u64 0,.int .u64 8,.int .u64 0,.int .u64 0,.int .u64 0,.int .u64 0,.int .u64 0,.int .u64 0,.int .u64 0,.int .u64 0]) 0],.agg (.I .i64 [3,3,1,1,2,3,0,0,0,0,0,0,0,0,0,0,0,0,0,0])⟩
theorem OE:ay Tryd.prog P4:=aS yu (H':=[⟨true,[]⟩]) (by kernel_rfl) (by kernel_rfl)
noncomputable def Ic:List bW:=P4::Ib
theorem yv:∀ e ∈ Ic,ay Tryd.prog e:=aP OE yu
noncomputable def P5:bW:=⟨65,[.ptrT none (.G [.int .i64 10,.slcT none (.I .i64 [100,110,60,110,90,95,75,100,120,125,80,110,80,80,70,200]) 4 4 true,.slcT none (.I .i64 [3,1]) 2 1 true,.int .i64 3,.int .i64 3,.int .i64 0,.int .i64 1,.int .i64 2,.int .i64 3,.int .i64 0,.int .i64 1,.int .i64 0,.int .i64 0,.int .i64 0,.int .i64 0,.int .i64 0,.int .i64 0,.int .i64 0,.int .i64 0,.int .i64 0,.int .i64 0,.int .i64 0,.int .i64 0,.int .u64 0,.int .u64 8,.int .u64 0,.int .u64 0,.int .u64 0,.int .u64 0,.int .u64 0,.int .u64 0,.int .u64 0,.int .u64 0]) 0],.tup [.agg (.G [.int .i64 0,.int .i64 0,.nils]),.bool false]⟩
theorem OF:ay Tryd.prog P5:=aS yv (H':=[⟨true,[]⟩]) (by kernel_rfl) (by kernel_rfl)
noncomputable def Ie:List bW:=P5::Ic
theorem yw:∀ e ∈ Ie,ay Tryd.prog e:=aP OF yv
end Go.Eng.Gall
end
section
namespace Go.Eng.Gall
open Go.Proofs
noncomputable def P6:bW:=⟨30,[.agg (.G [.int .i64 10,.slcT none (.I .i64 [100,110,60,110,90,95,75,100,120,125,80,110,80,80,70,200]) 4 4 true,.slcT none (.I .i64 [3,1]) 2 1 true]),.int .i64 0],.tup [.slcT none (.I .i64 [2,3]) 1 2 false,.int .i64 0]⟩
theorem OG:ay Tryd.prog P6:=aS yw (H':=[⟨true,[]⟩]) (by kernel_rfl) (by kernel_rfl)
noncomputable def Ig:List bW:=P6::Ie
theorem yx:∀ e ∈ Ig,ay Tryd.prog e:=aP OG yw
noncomputable def P7:bW:=⟨56,[.ptrT none (.G [.int .i64 10,.slcT none (.I .i64 [100,110,60,110,90,95,75,100,120,125,80,110,80,80,70,200]) 4 4 true,.slcT none (.I .i64 [3,1]) 2 1 true,.int .i64 0,.int .i64 3,.int .i64 0,.int .i64 1,.int .i64 2,.int .i64 3,.int .i64 0,.int .i64 1,.int .i64 0,.int .i64 0,.int .i64 0,.int .i64 0,.int .i64 0,.int .i64 0,.int .i64 0,.int .i64 0,.int .i64 0,.int .i64 0,.int .i64 0,.int .i64 0,.int .u64 0,.int .u64 9,.int .u64 0,.int .u64 0,.int .u64 0,.int .u64 0,.int .u64 0,.int .u64 0,.int .u64 0,.int .u64 0]) 0],.agg (.I .i64 [0,0,1,1,2,3,0,0,0,0,0,0,0,0,0,0,0,0,0,0])⟩
theorem OH:ay Tryd.prog P7:=aS yx (H':=[⟨true,[]⟩]) (by kernel_rfl) (by kernel_rfl)
noncomputable def Ih:List bW:=P7::Ig
theorem yy:∀ e ∈ Ih,ay Tryd.prog e:=aP OH yx
noncomputable def P8:bW:=⟨65,[.ptrT none (.G [.int .i64 10,.slcT none (.I .i64 [100,110,60,110,90,95,75,100,120,125,80,110,80,80,70,200]) 4 4 true,.slcT none (.I .i64 [3,1]) 2 1 true,.int .i64 0,.int .i64 3,.int .i64 0,.int .i64 1,.int .i64 2,.int .i64 3,.int .i64 0,.int .i64 1,.int .i64 0,.int .i64 0,.int .i64 0,.int .i64 0,.int .i64 0,.int .i64 0,.int .i64 0,.int .i64 0,.int .i64 0,.int .i64 0,.int .i64 0,.int .i64 0,.int .u64 0,.int .u64 9,.int .u64 0,.int .u64 0,.int .u64 0,.int .u64 0,.int .u64 0,.int .u64 0,.int .u64 0,.int .u64 0]) 0],.tup [.agg (.G [.int .i64 0,.int .i64 0,.slcT none (.I .i64 [0,3]) 1 2 false]),.bool true]⟩
theorem OI:ay Tryd.prog P8:=aS yy (H':=[⟨true,[]⟩]) (by kernel_rfl) (by kernel_rfl)
noncomputable def Ii:List bW:=P8::Ih
theorem yz:∀ e ∈ Ii,ay Tryd.prog e:=aP OI yy
noncomputable def P9:bW:=⟨32,[.agg (.G [.int .i64 10,.slcT none (.I .i64 [100,110,60,110,90,95,75,100,120,125,80,110,80,80,70,200]) 4 4 true,.slcT none (.I .i64 [3,1]) 2 1 true]),.int .i64 1,.int .i64 0],.tup [.bool true,.int .i64 0]⟩
theorem OJ:ay Tryd.prog P9:=aS yz (H':=[⟨true,[]⟩]) (by kernel_rfl) (by kernel_rfl)
noncomputable def Ij:List bW:=P9::Ii
theorem ET:∀ e ∈ Ij,ay Tryd.prog e:=aP OJ yz
end Go.Eng.Gall
end
section
namespace Go.Eng.Gall
open Go.Proofs
noncomputable def Qa:bW:=⟨73,[.ptrT none (.G [.int .i64 10,.slcT none (.I .i64 [100,110,60,110,90,95,75,100,120,125,80,110,80,80,70,200]) 4 4 true,.slcT none (.I .i64 [3,1]) 2 1 true,.int .i64 0,.int .i64 3,.int .i64 0,.int .i64 1,.int .i64 2,.int .i64 3,.int .i64 0,.int .i64 1,.int .i64 0,.int .i64 0,.int .i64 0,.int .i64 0,.int .i64 0,.int .i64 0,.int .i64 0,.int .i64 0,.int .i64 0,.int .i64 0,.int .i64 0,.int .i64 0,.int .u64 0,.int .u64 8,.int .u64 0,.int .u64 0,.int .u64 0,.int .u64 0,.int .u64 0,.int .u64 0,.int .u64 0,.int .u64 0]) 0],.int .i64 2⟩
theorem OK:ay Tryd.prog Qa:=Eh (dr:=10) (lc:=4) (zl:=[100,110,60,110,90,95,75,100,120,125,80,110,80,80,70,200]) (lb:=1) (bl:=[3,1]) (f1:=true) (f2:=true) (Wl:=[0,3,0,1,2,3,0,1,0,0,0,0,0,0,0,0,0,0,0,0]) (Bl:=[0,8,0,0,0,0,0,0,0,0]) (v:=2) rfl (by decide) rfl rfl rfl rfl (by kernel_rfl)
noncomputable def Ik:List bW:=Qa::Ij
theorem yA:∀ e ∈ Ik,ay Tryd.prog e:=aP OK ET
noncomputable def Qb:bW:=⟨34,[.agg (.G [.int .i64 10,.slcT none (.I .i64 [100,110,60,110,90,95,75,100,120,125,80,110,80,80,70,200]) 4 4 true,.slcT none (.I .i64 [3,1]) 2 1 true])],.tup [.int .i64 2,.int .i64 0]⟩
theorem OL:ay Tryd.prog Qb:=aS yA (H':=[⟨true,[]⟩]) (by kernel_rfl) (by kernel_rfl)
noncomputable def Il:List bW:=Qb::Ik
theorem yB:∀ e ∈ Il,ay Tryd.prog e:=aP OL yA
noncomputable def Qc:bW:=⟨18,[.agg (.G [.int .i64 10,.slcT none (.I .i64 [100,110,60,110,90,95,75,100,120,125,80,110,80,80,70,200]) 4 4 true,.slcT none (.I .i64 [3,1]) 2 1 true]),.int .i64 0],.tup [.agg (.I .i64 [0,3]),.int .i64 0]⟩
theorem OM:ay Tryd.prog Qc:=aS yB (H':=[⟨true,[]⟩]) (by kernel_rfl) (by kernel_rfl)
noncomputable def Im:List bW:=Qc::Il
theorem yC:∀ e ∈ Im,ay Tryd.prog e:=aP OM yB
noncomputable def Qd:bW:=⟨18,[.agg (.G [.int .i64 10,.slcT none (.I .i64 [100,110,60,110,90,95,75,100,120,125,80,110,80,80,70,200]) 4 4 true,.slcT none (.I .i64 [3,1]) 2 1 true]),.int .i64 1],.tup [.agg (.I .i64 [0,1]),.int .i64 0]⟩
theorem ON:ay Tryd.prog Qd:=aS yC (H':=[⟨true,[]⟩]) (by kernel_rfl) (by kernel_rfl)
noncomputable def Io:List bW:=Qd::Im
theorem yD:∀ e ∈ Io,ay Tryd.prog e:=aP ON yC
end Go.Eng.Gall
end
section
namespace Go.Eng.Gall
open Go.Proofs
noncomputable def Qe:bW:=⟨18,[.agg (.G [.int .i64 10,.slcT none (.I .i64 [100,110,60,110,90,95,75,100,120,125,80,110,80,80,70,200]) 4 4 true,.slcT none (.I .i64 [3,1]) 2 1 true]),.int .i64 3],.tup [.agg (.I .i64 [0,1]),.int .i64 0]⟩
theorem OO:ay Tryd.prog Qe:=aS yD (H':=[⟨true,[]⟩]) (by kernel_rfl) (by kernel_rfl)
noncomputable def Ip:List bW:=Qe::Io
theorem yE:∀ e ∈ Ip,ay Tryd.prog e:=aP OO yD
noncomputable def Qf:bW:=⟨20,[.agg (.G [.int .i64 10,.slcT none (.I .i64 [100,110,60,110,90,95,75,100,120,125,80,110,80,80,70,200]) 4 4 true,.slcT none (.I .i64 [3,1]) 2 1 true]),.int .i64 3],.tup [.agg (.I .i64 [0,0]),.int .i64 0]⟩
theorem OP:ay Tryd.prog Qf:=aS yE (H':=[⟨true,[]⟩]) (by kernel_rfl) (by kernel_rfl)
noncomputable def Iq:List bW:=Qf::Ip
theorem yF:∀ e ∈ Iq,ay Tryd.prog e:=aP OP yE
noncomputable def Qg:bW:=⟨56,[.ptrT none (.G [.int .i64 10,.slcT none (.I .i64 [100,110,60,110,90,95,75,100,120,125,80,110,80,80,70,200]) 4 4 true,.slcT none (.I .i64 [3,1]) 2 1 true,.int .i64 0,.int .i64 3,.int .i64 0,.int .i64 1,.int .i64 2,.int .i64 3,.int .i64 0,.int .i64 1,.int .i64 0,.int .i64 0,.int .i64 0,.int .i64 0,.int .i64 0,.int .i64 0,.int .i64 0,.int .i64 0,.int .i64 0,.int .i64 0,.int .i64 0,.int .i64 0,.int .u64 4,.int .u64 8,.int .u64 0,.int .u64 0,.int .u64 0,.int .u64 0,.int .u64 0,.int .u64 0,.int .u64 0,.int .u64 0]) 0],.agg (.I .i64 [3,3,1,1,2,2,0,0,0,0,0,0,0,0,0,0,0,0,0,0])⟩
theorem OQ:ay Tryd.prog Qg:=aS yF (H':=[⟨true,[]⟩]) (by kernel_rfl) (by kernel_rfl)
noncomputable def Ir:List bW:=Qg::Iq
theorem yG:∀ e ∈ Ir,ay Tryd.prog e:=aP OQ yF
noncomputable def Qh:bW:=⟨65,[.ptrT none (.G [.int .i64 10,.slcT none (.I .i64 [100,110,60,110,90,95,75,100,120,125,80,110,80,80,70,200]) 4 4 true,.slcT none (.I .i64 [3,1]) 2 1 true,.int .i64 0,.int .i64 3,.int .i64 0,.int .i64 1,.int .i64 2,.int .i64 3,.int .i64 0,.int .i64 1,.int .i64 0,.int .i64 0,.int .i64 0,.int .i64 0,.int .i64 0,.int .i64 0,.int .i64 0,.int .i64 0,.int .i64 0,.int .i64 0,.int .i64 0,.int .i64 0,.int .u64 4,.int .u64 8,.int .u64 0,.int .u64 0,.int .u64 0,.int .u64 0,.int .u64 0,.int .u64 0,.int .u64 0,.int .u64 0]) 0],.tup [.agg (.G [.int .i64 0,.int .i64 0,.nils]),.bool false]⟩
theorem OR:ay Tryd.prog Qh:=aS yG (H':=[⟨true,[]⟩]) (by kernel_rfl) (by kernel_rfl)
noncomputable def Is:List bW:=Qh::Ir
theorem yH:∀ e ∈ Is,ay Tryd.prog e:=aP OR yG
end Go.Eng.Gall
end
section
namespace Go.Eng.Gall
open Go.Proofs
noncomputable def Qi:bW:=⟨32,[.agg (.G [.int .i64 10,.slcT none (.I .i64 [100,110,60,110,90,95,75,100,120,125,80,110,80,80,70,200]) 4 4 true,.slcT none (.I .i64 [3,1]) 2 1 true]),.int .i64 0,.int .i64 2],.tup [.bool false,.int .i64 0]⟩
theorem OS:ay Tryd.prog Qi:=aS yH (H':=[⟨true,[]⟩]) (by kernel_rfl) (by kernel_rfl)
noncomputable def It:List bW:=Qi::Is
theorem EU:∀ e ∈ It,ay Tryd.prog e:=aP OS yH
noncomputable def Qj:bW:=⟨73,[.ptrT none (.G [.int .i64 10,.slcT none (.I .i64 [100,110,90,110,90,95,75,100,120,125,80,110,80,80,70,200]) 4 4 true,.slcT none (.I .i64 [3,1]) 2 1 true,.int .i64 0,.int .i64 1,.int .i64 0,.int .i64 1,.int .i64 2,.int .i64 3,.int .i64 0,.int .i64 1,.int .i64 0,.int .i64 0,.int .i64 0,.int .i64 0,.int .i64 0,.int .i64 0,.int .i64 0,.int .i64 0,.int .i64 0,.int .i64 0,.int .i64 0,.int .i64 0,.int .u64 0,.int .u64 8,.int .u64 0,.int .u64 0,.int .u64 0,.int .u64 0,.int .u64 0,.int .u64 0,.int .u64 0,.int .u64 0]) 0],.int .i64 0⟩
theorem OT:ay Tryd.prog Qj:=Eh (dr:=10) (lc:=4) (zl:=[100,110,90,110,90,95,75,100,120,125,80,110,80,80,70,200]) (lb:=1) (bl:=[3,1]) (f1:=true) (f2:=true) (Wl:=[0,1,0,1,2,3,0,1,0,0,0,0,0,0,0,0,0,0,0,0]) (Bl:=[0,8,0,0,0,0,0,0,0,0]) (v:=0) rfl (by decide) rfl rfl rfl rfl (by kernel_rfl)
noncomputable def Iu:List bW:=Qj::It
theorem yI:∀ e ∈ Iu,ay Tryd.prog e:=aP OT EU
noncomputable def Qk:bW:=⟨34,[.agg (.G [.int .i64 10,.slcT none (.I .i64 [100,110,90,110,90,95,75,100,120,125,80,110,80,80,70,200]) 4 4 true,.slcT none (.I .i64 [3,1]) 2 1 true])],.tup [.int .i64 0,.int .i64 0]⟩
theorem OU:ay Tryd.prog Qk:=aS yI (H':=[⟨true,[]⟩]) (by kernel_rfl) (by kernel_rfl)
noncomputable def Iv:List bW:=Qk::Iu
theorem yJ:∀ e ∈ Iv,ay Tryd.prog e:=aP OU yI
noncomputable def Ql:bW:=⟨25,[.agg (.G [.int .i64 10,.slcT none (.I .i64 [100,110,60,110,90,95,75,100,120,125,80,110,80,80,70,200]) 4 4 true,.slcT none (.I .i64 [3,1]) 2 1 true])],.tup [.agg (.G [.int .i64 0,.int .i64 0,.nils]),.int .i64 5]⟩
theorem OV:ay Tryd.prog Ql:=aS yJ (H':=[⟨true,[]⟩]) (by kernel_rfl) (by kernel_rfl)
noncomputable def Iw:List bW:=Ql::Iv
theorem yK:∀ e ∈ Iw,ay Tryd.prog e:=aP OV yJ
end Go.Eng.Gall
end
section
namespace Go.Eng.Gall
open Go.Proofs
noncomputable def Qm:bW:=⟨30,[.agg (.G [.int .i64 10,.slcT none (.I .i64 [100,110,90,110,90,95,75,100,120,125,80,110,80,80,70,200]) 4 4 true,.slcT none (.I .i64 [3,1]) 2 1 true]),.int .i64 0],.tup [.nils,.int .i64 13]⟩
theorem OW:ay Tryd.prog Qm:=aS yK (H':=[⟨true,[]⟩]) (by kernel_rfl) (by kernel_rfl)
noncomputable def Ma:List bW:=Qm::Iw
theorem EV:∀ e ∈ Ma,ay Tryd.prog e:=aP OW yK
end Go.Eng.Gall
end
section
namespace Go.Eng.Gall
open Go.Proofs
noncomputable def EW:bW:=⟨15,[],.bool true⟩
theorem Lx:ay Tryd.prog EW:=aS EV (H':=[⟨true,[]⟩]) (by kernel_rfl) (by kernel_rfl)
end Go.Eng.Gall
end
section
namespace Go.Eng
open Go.Proofs Go.ChangeShapes Go.WideShapes Go.ChangeAt Go.RowKit
theorem QG {p:aB} {M:Mu} {k:IntKind} {z:Nat→Int} {N sz len:Nat} {full:Bool} {v:Value} (h:ai p M (.slcT none (.F (fun j=>.int k (z j)) N) sz len full) v):ai p M (.slcT none (.M [.arr k z N]) sz len full) v:=by
 cases h with
 | slcN=>exact .slcN
 | slcT vs h0 h1 hv hl hf hx =>
   have e:∀ j,j<(Row.M [aq.arr k z N]).len→j<N:=fun j hj=>by simpa[Row.len,av,aH] using hj
   refine .slcT vs (fun j hj=>h0 j (e j hj)) (fun j hj=>h1 j (e j hj)) (fun j hj=>?_) hl hf hx
   have:=hv j (e j hj)
   simp only[Row.get,getM,if_pos (e j hj)] at this ⊢
   exact this.bg _ _
theorem sv {P:Program} {w:World} {r:Reach} {base:Nat} {t e:TypeId} {v:Value} (ht:P.underlying t=some (.slice e)) (h:Cell.okWide P w r base t v):∀ a l c,v=.slice (some a) l c→a.spot=none:=by
 rintro a l c rfl
 simp only[Cell.okWide,ht,Cell.ok] at h
 exact h.2.2.2.1
theorem AD:tu Tryd.prog 2 1:=rv Tryd.underlying2
theorem K3:tu Tryd.prog 3 1:=rv Tryd.underlying3
theorem I1:tu Tryd.prog 29 2:=uZ Tryd.underlying29 AD AD rfl rfl (by kernel_rfl) (by kernel_rfl) (by kernel_rfl)
theorem u0 {P:Program} {k:IntKind} {t:TypeId} {f0 f1 f2:Field} {n0 n1 n2:Nat} (ht:P.underlying t=some (.struct #[f0,f1,f2])) (h0:jy k P f0.type n0) (h1:jy k P f1.type n1) (h2:jy k P f2.type n2) (o0:f0.offset=0) (o1:f1.offset=n0) (o2:f2.offset=n0+n1) (c0:P.cellsOf f0.type=n0) (c1:P.cellsOf f1.type=n1) (c2:P.cellsOf f2.type=n2) (c:P.cellsOf t=n0+n1+n2):jy k P t (n0+n1+n2):=by
 intro H enc w base sp held fuel cs x h
 obtain ⟨xs,m,_,_,hl,hxl,hf⟩:=DataW.trod_struct ht h
 match xs,hxl,hf with
 | [y0,y1,y2],_,hf =>
   have g0:=hf 0 f0 rfl
   have g1:=hf 1 f1 rfl
   have g2:=hf 2 f2 rfl
   obtain ⟨_,k0⟩:=h0 _ _ _ _ _ _ _ _ _ g0
   obtain ⟨_,k1⟩:=h1 _ _ _ _ _ _ _ _ _ g1
   obtain ⟨_,k2⟩:=h2 _ _ _ _ _ _ _ _ _ g2
   refine ⟨by rw[hl,c],fun j hj=>?_⟩
   by_cases p:j<n0
   · obtain ⟨z,hz,hw⟩:=k0 j p
     refine ⟨z,?_,hw⟩
     rw[o0,c0] at hz
     simpa[List.getElem?_take,p] using hz
   by_cases q:j<n0+n1
   · obtain ⟨z,hz,hw⟩:=k1 (j-n0) (by omega)
     refine ⟨z,?_,hw⟩
     rw[o1,c1] at hz
     have:j-n0<n1:=by omega
     simpa[List.getElem?_take,this,List.getElem?_drop,show n0+(j-n0)=j by omega] using hz
   · obtain ⟨z,hz,hw⟩:=k2 (j-(n0+n1)) (by omega)
     refine ⟨z,?_,hw⟩
     rw[o2,c2] at hz
     have:j-(n0+n1)<n2:=by omega
     simpa[List.getElem?_take,this,List.getElem?_drop,show n0+n1+(j-(n0+n1))=j by omega] using hz
theorem I2:tu Tryd.prog 56 4:=u0 Tryd.underlying56 I1 AD AD rfl rfl rfl (by kernel_rfl) (by kernel_rfl) (by kernel_rfl) (by kernel_rfl)
def qL (t:TypeId) (A:AV→Prop):Prop:=∀ (H:Type) (enc:TypeId×Value→H) (w:World) (r:Reach) (b0 base:Nat) (sp:Nat→Bool) (held:Bool) (v:Value) (d:DataW H) (ps:List MemPlace),kX w →
 Value.okWide Tryd.prog w r b0 t v→DataW.Trod enc Tryd.prog w base sp held t v d ps→∃ a,A a∧ai (Pw w) Mu.no a v
def yO:List (AV→Prop)→List AV→Prop
 | [],[]=>True
 | A::As,a::xs=>A a∧yO As xs
 | _,_=>False
theorem oP {A:AV→Prop} {As:List (AV→Prop)} {xs:List AV} (h:yO (A::As) xs):∃ a ys,xs=a::ys∧A a∧yO As ys:=by
 cases xs with
 | nil=>exact h.elim
 | cons a ys=>exact ⟨a,ys,rfl,h.1,h.2⟩
theorem CQ {xs:List AV} (h:yO [] xs):xs=[]:=by
 cases xs with
 | nil=>rfl
 | cons a ys=>exact h.elim
def Iy:List TypeId→List (AV→Prop)→Prop
 | [],[]=>True
 | t::ts,A::As=>qL t A∧Iy ts As
 | _,_=>False
theorem Aj {H:Type} {enc:TypeId×Value→H} {w:World} (hg:kX w) {r:Reach} {b0 base:Nat} {sp:Nat→Bool} {held:Bool}:∀ (ts:List TypeId) (As:List (AV→Prop)) (vs:List Value) (ds:List (DataW H)) (ps:List MemPlace),Iy ts As →
 (∀ (j:Nat) t v,ts[j]?=some t→vs[j]?=some v→Value.okWide Tryd.prog w r b0 t v)→DataW.TrodAll enc Tryd.prog w base sp held ts vs ds ps→∃ xs,yO As xs∧vs.length=xs.length∧∀ j,j<xs.length→ai (Pw w) Mu.no (xs.getD j .undef) (vs.getD j undef)
 | [],[],vs,ds,ps,_,_,h=>by
   obtain ⟨rfl,rfl,rfl⟩:=trodAll_nil h
   exact ⟨[],trivial,rfl,fun j hj=>by simp at hj⟩
 | t::ts,A::As,vs,ds,ps,hT,hv,h=>by
   obtain ⟨v,vs',d,ds',p,q,rfl,rfl,rfl,h1,h2⟩:=trodAll_cons h
   obtain ⟨a,ha,hr⟩:=hT.1 H enc w r b0 base sp held v d p hg (hv 0 t v rfl rfl) h1
   obtain ⟨xs,hA,hl,hR⟩:=Aj hg ts As vs' ds' q hT.2 (fun j t' v' e1 e2=>hv (j+1) t' v' (by simpa using e1) (by simpa using e2)) h2
   refine ⟨a::xs,⟨ha,hA⟩,by simp[hl],fun j hj=>?_⟩
   cases j with
   | zero=>exact hr
   | succ j=>simpa using hR j (by simpa using hj)
 | [],_::_,_,_,_,hT,_,_=>hT.elim
 | _::_,[],_,_,_,hT,_,_=>hT.elim
theorem uC {H:Type} {enc:TypeId×Value→H} {W W':World} {base:Nat} {sp':Nat→Bool} (hl:laidOutB Tryd.prog=true):∀ (ts:List TypeId) (vs:List Value) (ds:List (DataW H)) (ps:List MemPlace),(∀ t ∈ ts,Tryd.prog.readableRec t=true∧t<Tryd.prog.types.size) →
 DataW.TrodAll enc Tryd.prog W base (fun _=>true) true ts vs ds ps→(∀ p ∈ ps,W.sameAt W' p)→(∀ p ∈ ps,sp' p.block=true)→DataW.TrodAll enc Tryd.prog W' base sp' true ts vs ds ps
 | [],vs,ds,ps,_,h,_,_=>by
   obtain ⟨rfl,rfl,rfl⟩:=trodAll_nil h
   exact trodAll_mk0
 | t::ts,vs,ds,ps,ht,h,hs,hp=>by
   obtain ⟨v,vs',d,ds',p,q,rfl,rfl,rfl,h1,h2⟩:=trodAll_cons h
   obtain ⟨r1,r2⟩:=ht t (by simp)
   refine ⟨p,q,?_,uC hl ts vs' ds' q (fun t' h'=>ht t' (List.mem_cons_of_mem _ h')) h2 (fun x hx=>hs x (List.mem_append_right _ hx)) (fun x hx=>hp x (List.mem_append_right _ hx)),rfl⟩
   exact WideElems.Trod_stays hl r1 r2 h1 (fun x hx=>hs x (List.mem_append_left _ hx)) (fun x hx=>hp x (List.mem_append_left _ hx))
theorem Db (hN:dk Tryd.prog) (hm:Tryd.prog.follows .mixedOrders=true) (hW:ay Tryd.prog ⟨15,[],.bool true⟩) (n:Nat):bN Tryd.prog (cd n) :=
 lZ hN (oT hN hm) (vA hN (oT hN hm) hW) KtG.kt 100000 n
theorem Ca {f:FuncId} {ts:List TypeId} {As:List (AV→Prop)} (hT:Iy ts As) {n:Nat} (hlaw:∀ xs,yO As xs→∃ H',cd n (.fn f) xs [⟨true,[]⟩]=some (.bool true,H')) {H:Type} {enc:TypeId×Value→H} {w:World} (hg:kX w) {r:Reach} {b0 base:Nat} {sp:Nat→Bool} {held:Bool} {args:Array Value} {ds:List (DataW H)} {ps:List MemPlace}
 (hv:∀ (j:Nat) t v,ts[j]?=some t→args[j]?=some v→Value.okWide Tryd.prog w r b0 t v) (h:DataW.TrodAll enc Tryd.prog w base sp held ts args.toList ds ps) :
 Calls Tryd.prog f args w (fun e w'=>e=.returned (.bool true)∧Go.RowKit.Below w.heap.size w w'):=by
 obtain ⟨xs,hA,hl,hR⟩:=Aj hg ts As args.toList ds ps hT (fun j t v e1 e2=>hv j t v e1 (by simpa using e2)) h
 obtain ⟨H',hc⟩:=hlaw xs hA
 refine BN (Db Gall.named Gall.mixed Gall.Lx n) hc hg ⟨by simpa using hl,fun j hj=>?_⟩
 have:=hR j hj
 have e:args.toList.getD j undef=args.getD j undef:=by
  rw[Array.getD_eq_getD_getElem?,List.getD_eq_getElem?_getD,Array.getElem?_toList]
 rwa [e] at this
theorem Fx {t:TypeId} {k:IntKind} (ht:Tryd.prog.underlying t=some (.int k)):qL t (fun a=>∃ n:Int,a=.int k n∧(Lit.int k n).wf=true):=fun H enc w r b0 base sp held v d ps hg hv h=>by
 obtain ⟨fuel,hf⟩:=h
 obtain ⟨n,e,_,hw⟩:=DataW.trod_int ht hf
 obtain ⟨s,rfl⟩:=WideShapes.okWide_int ht hv
 have:s=n:=by simpa[Value.cells] using e
 subst this
 exact ⟨_,⟨s,rfl,hw⟩,.int _ _⟩
def MH (a:AV):Prop:=∃ n:Int,a=.int .u8 n∧0≤n∧n≤255
theorem Kt:qL 5 MH:=fun H enc w r b0 base sp held v d ps hg hv h=>by
 obtain ⟨a,⟨n,rfl,hw⟩,hr⟩:=Fx Tryd.underlying5 H enc w r b0 base sp held v d ps hg hv h
 simp[Lit.wf,IntKind.min,IntKind.max,IntKind.signed,IntKind.bits] at hw
 exact ⟨_,⟨n,rfl,by omega,by omega⟩,hr⟩
theorem laidOut:laidOutB Tryd.prog=true:=by kernel_rfl
theorem zh {P:Program} {k:IntKind} {t e:TypeId} {n m:Nat} (ht:P.underlying t=some (.array n e)) (he:jy k P e m) (hm:0<m) (hc:P.cellsOf e=m) (hct:P.cellsOf t=n*m):jy k P t (n*m):=by
 intro H enc w base sp held fuel cs x h
 obtain ⟨xs,f,_,_,hl,hxl,hel⟩:=DataW.trod_array ht h
 refine ⟨by rw[hl,hct],fun j hj=>?_⟩
 have hi:j / m<n:=by rw[Nat.div_lt_iff_lt_mul hm];exact hj
 have hm':=Nat.mod_lt j hm
 have g:=hel (j / m) hi
 have:j / m<xs.length:=by omega
 rw[List.getElem?_eq_getElem this] at g
 obtain ⟨_,k1⟩:=he _ _ _ _ _ _ _ _ _ g
 obtain ⟨z,hz,hw⟩:=k1 (j % m) hm'
 refine ⟨z,?_,hw⟩
 rw[hc,List.getElem?_take,if_pos hm',List.getElem?_drop] at hz
 have hd:=Nat.div_add_mod j m
 rw[Nat.mul_comm] at hd
 rwa [hd] at hz
theorem CX {t e n:Nat} {k:IntKind} (ht:Tryd.prog.underlying t=some (.slice e)) (he:jy k Tryd.prog e n) (hn:0<n) (hc:Tryd.prog.cellsOf e=n):qL t (fun a=>∃ (len:Nat) (z:Nat→Int),a=.slcT none (.M [.arr k z (len*n)]) n len false∧∀ j,(Lit.int k (z j)).wf=true):=fun H enc w r b0 base sp held v d ps hg hv h=>by
 simp only[Value.okWide,ht] at hv
 have hcell:v.cells.toList=[v]:=by
  simp only[Cell.okWide,ht] at hv
  cases v<;>simp_all [Cell.ok]<;>rfl
 obtain ⟨fuel,hf⟩:=h
 rw[hcell] at hf
 have h0:(Lit.int k 0).wf=true:=by cases k<;>rfl
 rcases su ht he hn hc hg (sv ht hv) hf with rfl | ⟨zs,len,h1,h2⟩
 · exact ⟨_,⟨0,fun _=>0,rfl,fun _=>h0⟩,.slcN⟩
 · refine ⟨_,⟨len,fun j=>if j<len*n then zs j else 0,rfl,fun j=>?_⟩,?_⟩
   · dsimp only
     split
     · exact h2 _ (by assumption)
     · exact h0
   · have h3:=QG h1
     cases h3 with
     | slcN=>exact .slcN
     | slcT vs a0 a1 hv' hl hf' hx =>
       refine .slcT vs a0 a1 (fun j hj=>?_) hl hf' hx
       have:=hv' j hj
       have hj':j<len*n:=by simpa[Row.len,av,aH] using hj
       simp only[Row.get,getM,if_pos hj'] at this ⊢
       exact this.bg _ _
def Ad (a:AV):Prop:=∃ (len:Nat) (z:Nat→Int),a=.slcT none (.M [.arr .i64 z len]) 1 len false∧∀ j,-9223372036854775808≤z j∧z j≤9223372036854775807
theorem Fw {t e:TypeId} (ht:Tryd.prog.underlying t=some (.slice e)) (he:Tryd.prog.underlying e=some (.int .i64)) (hc:Tryd.prog.cellsOf e=1):qL t Ad:=fun H enc w r b0 base sp held v d ps hg hv h=>by
 obtain ⟨a,⟨len,z,rfl,hz⟩,hr⟩:=CX ht (rv he) (by omega) hc H enc w r b0 base sp held v d ps hg hv h
 refine ⟨_,⟨len,z,by rw[Nat.mul_one],fun j=>?_⟩,hr⟩
 have:=hz j
 simp[Lit.wf,IntKind.min,IntKind.max,IntKind.signed,IntKind.bits] at this
 omega
theorem Kq:qL 36 Ad:=Fw Tryd.underlying36 Tryd.underlying3 (by kernel_rfl)
theorem I3:tu Tryd.prog 61 2:=zh Tryd.underlying61 K3 (by omega) (by kernel_rfl) (by kernel_rfl)
theorem ss {t e n:Nat} (ht:Tryd.prog.underlying t=some (.slice e)) (he:tu Tryd.prog e n) (hn:0<n) (hc:Tryd.prog.cellsOf e=n) {H:Type} {enc:TypeId×Value→H} {w:World} (hg:kX w) {r:Reach} {b0 base:Nat} {sp:Nat→Bool} {held:Bool} {fuel:Nat} {v:Value} {x:DataW H×List MemPlace}
 (hv:Cell.okWide Tryd.prog w r b0 t v) (h:DataW.trod enc Tryd.prog w base sp held fuel t [v]=some x):∃ (len:Nat) (z:Nat→Int),ai (Pw w) Mu.no (slA n len z) v∧v.oneCell'=true:=by
 rcases su ht he hn hc hg (sv ht hv) h with rfl | ⟨zs,len,h1,h2⟩
 · exact ⟨0,fun _=>0,.slcN,rfl⟩
 · refine ⟨len,zs,?_,?_⟩
   · unfold slA
     rw[ct]
     exact QG h1
   · cases h1<;>rfl
def MG (a:AV):Prop:=∃ (dr:Int) (lc:Nat) (zc:Nat→Int) (lb:Nat) (zb:Nat→Int),a=cM dr lc zc lb zb
theorem Kr:qL 25 MG:=fun H enc w r b0 base sp held v d ps hg hv h=>by
 have hts:Tryd.prog.cellTypes Tryd.prog.depth 25=some [2,22,23]:=by kernel_rfl
 have hc25:Tryd.prog.cellsOf 25=3:=by kernel_rfl
 have hc2:Tryd.prog.cellsOf 2=1:=by kernel_rfl
 have hc22:Tryd.prog.cellsOf 22=1:=by kernel_rfl
 have hc23:Tryd.prog.cellsOf 23=1:=by kernel_rfl
 have hc56:Tryd.prog.cellsOf 56=4:=by kernel_rfl
 have hc61:Tryd.prog.cellsOf 61=2:=by kernel_rfl
 simp only[Value.okWide,Tryd.underlying25] at hv
 obtain ⟨cs,rfl,hsz,ts,ht,_,hcell⟩:=hv
 rw[hts] at ht
 obtain rfl:=Option.some.inj ht
 rw[hc25] at hsz
 obtain ⟨fuel,hf⟩:=h
 obtain ⟨xs,n,_,_,_,hxl,hfield⟩:=DataW.trod_struct Tryd.underlying25 hf
 have e3:∃ c0 c1 c2,cs=#[c0,c1,c2]:=by
  refine ⟨cs[0],cs[1],cs[2],?_⟩
  apply Array.ext
  · simpa using hsz
  · intro i h1 h2
    simp at h2
    match i,h2 with
    | 0,_=>rfl
    | 1,_=>rfl
    | 2,_=>rfl
 obtain ⟨c0,c1,c2,rfl⟩:=e3
 have some_of:∀ i,i<3→∃ y,xs[i]?=some y:=fun i hi=>by
  have:i<xs.length:=by rw[hxl];simpa using hi
  exact ⟨xs[i],List.getElem?_eq_getElem this⟩
 obtain ⟨y0,hy0⟩:=some_of 0 (by omega)
 obtain ⟨y1,hy1⟩:=some_of 1 (by omega)
 obtain ⟨y2,hy2⟩:=some_of 2 (by omega)
 have f0:=hfield 0 _ rfl
 have f1:=hfield 1 _ rfl
 have f2:=hfield 2 _ rfl
 rw[hy0] at f0
 rw[hy1] at f1
 rw[hy2] at f2
 simp only[Value.cells] at f0 f1 f2
 have g0:DataW.trod enc Tryd.prog w base sp held n 2 [c0]=some y0:=by simpa[hc2] using f0
 have g1:DataW.trod enc Tryd.prog w base sp held n 22 [c1]=some y1:=by simpa[hc22] using f1
 have g2:DataW.trod enc Tryd.prog w base sp held n 23 [c2]=some y2:=by simpa[hc23] using f2
 obtain ⟨wd,e0,_,hw⟩:=DataW.trod_int Tryd.underlying2 g0
 simp only[List.cons.injEq,and_true] at e0
 subst e0
 obtain ⟨u1,hu1,k1⟩:=hcell 1 c1 rfl
 obtain ⟨u2,hu2,k2⟩:=hcell 2 c2 rfl
 simp at hu1 hu2
 subst hu1;subst hu2
 obtain ⟨lc,zc,r1,o1⟩:=ss Tryd.underlying22 I2 (by omega) hc56 hg k1 g1
 obtain ⟨lb,zb,r2,o2⟩:=ss Tryd.underlying23 I3 (by omega) hc61 hg k2 g2
 refine ⟨_,⟨wd,lc,zc,lb,zb,rfl⟩,?_⟩
 refine .agg rfl (fun j hj=>?_) (fun j hj=>?_)
 · have hj':j<3:=hj
   match j,hj' with
   | 0,_=>rfl
   | 1,_=>exact o1
   | 2,_=>exact o2
 · have hj':j<3:=hj
   match j,hj' with
   | 0,_=>exact .int _ _
   | 1,_=>exact r1
   | 2,_=>exact r2
end Go.Eng
end
