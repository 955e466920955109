/- Gall: closed calls. -/
import Derived.Test.YtgphpjdchnfjlaaDoorV3Ganx9
import Derived.Test.YtgphpjdchnfjlaaDoorV3GaKx6
import Derived.Test.YtgphpjdchnfjlaaDoorV3Gp2x6
import Derived.OpenShut
set_option maxRecDepth 100000
set_option linter.unusedVariables false
section
namespace Go.Eng.Gall
open Go.Proofs
noncomputable def OV:bV:=⟨65,[.ptrT none (.G [.int .i64 10,.slcT none (.I .i64 [100,110,60,110,90,95,75,100,120,125,80,110,80,80,70,200]) 4 4 true,.slcT none (.I .i64 [3,1]) 2 1 true,.int .i64 0,.int .i64 3,.int .i64 1,.int .i64 1,.int .i64 2,.int .i64 3,.int .i64 0,.int .i64 0,.int .i64 0,.int .i64 0,.int .i64 0,.int .i64 0,.int .i64 0,.int .i64 0,.int .i64 0,.int .i64 0,.int .i64 0,.int .i64 0,.int .i64 0,.int .i64 0,.int .u64 0,.int .u64 8,.int .u64 0,.int .u64 0,.int .u64 0,.int .u64 0,.int .u64 0,.int .u64 0,.int .u64 0,.int .u64 0]) 0],.tup [.agg (.G [.int .i64 0,.int .i64 0,.nils]),.bool false]⟩
theorem NI:ay Tryd.prog OV:=aO x9 (H':=[⟨true,[]⟩]) (by kernel_rfl) (by kernel_rfl)
noncomputable def Hr:List bV:=OV::Hq
theorem ya:∀ e ∈ Hr,ay Tryd.prog e:=aM NI x9
noncomputable def OW:bV:=⟨56,[.ptrT none (.G [.int .i64 10,.slcT none (.I .i64 [100,110,60,110,90,95,75,100,120,125,80,110,80,80,70,200]) 4 4 true,.slcT none (.I .i64 [3,1]) 2 1 true,.int .i64 2,.int .i64 2,.int .i64 1,.int .i64 1,.int .i64 2,.int .i64 3,.int .i64 0,.int .i64 0,.int .i64 0,.int .i64 0,.int .i64 0,.int .i64 0,.int .i64 0,.int .i64 0,.int .i64 0,.int .i64 0,.int .i64 0,.int .i64 0,.int .i64 0,.int .i64 0,.int .u64 0,.int .u64 8,.int .u64 0,.int .u64 0,.int .u64 0,.int .u64 0,.int .u64 0,.int .u64 0,.int .u64 0,.int .u64 0]) 0],.agg (.I .i64 [2,2,1,1,2,3,0,0,0,0,0,0,0,0,0,0,0,0,0,0])⟩
theorem NJ:ay Tryd.prog OW:=aO ya (H':=[⟨true,[]⟩]) (by kernel_rfl) (by kernel_rfl)
noncomputable def Hs:List bV:=OW::Hr
theorem yb:∀ e ∈ Hs,ay Tryd.prog e:=aM NJ ya
noncomputable def OX:bV:=⟨65,[.ptrT none (.G [.int .i64 10,.slcT none (.I .i64 [100,110,60,110,90,95,75,100,120,125,80,110,80,80,70,200]) 4 4 true,.slcT none (.I .i64 [3,1]) 2 1 true,.int .i64 2,.int .i64 2,.int .i64 1,.int .i64 1,.int .i64 2,.int .i64 3,.int .i64 0,.int .i64 0,.int .i64 0,.int .i64 0,.int .i64 0,.int .i64 0,.int .i64 0,.int .i64 0,.int .i64 0,.int .i64 0,.int .i64 0,.int .i64 0,.int .i64 0,.int .i64 0,.int .u64 0,.int .u64 8,.int .u64 0,.int .u64 0,.int .u64 0,.int .u64 0,.int .u64 0,.int .u64 0,.int .u64 0,.int .u64 0]) 0],.tup [.agg (.G [.int .i64 0,.int .i64 0,.nils]),.bool false]⟩
theorem NK:ay Tryd.prog OX:=aO yb (H':=[⟨true,[]⟩]) (by kernel_rfl) (by kernel_rfl)
noncomputable def Ht:List bV:=OX::Hs
theorem yc:∀ e ∈ Ht,ay Tryd.prog e:=aM NK yb
noncomputable def OY:bV:=⟨56,[.ptrT none (.G [.int .i64 10,.slcT none (.I .i64 [100,110,60,110,90,95,75,100,120,125,80,110,80,80,70,200]) 4 4 true,.slcT none (.I .i64 [3,1]) 2 1 true,.int .i64 2,.int .i64 2,.int .i64 1,.int .i64 1,.int .i64 3,.int .i64 3,.int .i64 0,.int .i64 0,.int .i64 0,.int .i64 0,.int .i64 0,.int .i64 0,.int .i64 0,.int .i64 0,.int .i64 0,.int .i64 0,.int .i64 0,.int .i64 0,.int .i64 0,.int .i64 0,.int .u64 0,.int .u64 8,.int .u64 0,.int .u64 0,.int .u64 0,.int .u64 0,.int .u64 0,.int .u64 0,.int .u64 0,.int .u64 0]) 0],.agg (.I .i64 [2,2,1,1,3,3,0,0,0,0,0,0,0,0,0,0,0,0,0,0])⟩
theorem NL:ay Tryd.prog OY:=aO yc (H':=[⟨true,[]⟩]) (by kernel_rfl) (by kernel_rfl)
noncomputable def Hu:List bV:=OY::Ht
theorem yd:∀ e ∈ Hu,ay Tryd.prog e:=aM NL yc
end Go.Eng.Gall
end
section
namespace Go.Eng.Gall
open Go.Proofs
noncomputable def OZ:bV:=⟨65,[.ptrT none (.G [.int .i64 10,.slcT none (.I .i64 [100,110,60,110,90,95,75,100,120,125,80,110,80,80,70,200]) 4 4 true,.slcT none (.I .i64 [3,1]) 2 1 true,.int .i64 2,.int .i64 2,.int .i64 1,.int .i64 1,.int .i64 3,.int .i64 3,.int .i64 0,.int .i64 0,.int .i64 0,.int .i64 0,.int .i64 0,.int .i64 0,.int .i64 0,.int .i64 0,.int .i64 0,.int .i64 0,.int .i64 0,.int .i64 0,.int .i64 0,.int .i64 0,.int .u64 0,.int .u64 8,.int .u64 0,.int .u64 0,.int .u64 0,.int .u64 0,.int .u64 0,.int .u64 0,.int .u64 0,.int .u64 0]) 0],.tup [.agg (.G [.int .i64 0,.int .i64 0,.nils]),.bool false]⟩
theorem NM:ay Tryd.prog OZ:=aO yd (H':=[⟨true,[]⟩]) (by kernel_rfl) (by kernel_rfl)
noncomputable def Hv:List bV:=OZ::Hu
theorem ye:∀ e ∈ Hv,ay Tryd.prog e:=aM NM yd
noncomputable def O0:bV:=⟨74,[.ptrT none (.G [.int .i64 10,.slcT none (.I .i64 [100,110,60,110,90,95,75,100,120,125,80,110,80,80,70,200]) 4 4 true,.slcT none (.I .i64 [3,1]) 2 1 true,.int .i64 0,.int .i64 3,.int .i64 0,.int .i64 1,.int .i64 2,.int .i64 3,.int .i64 0,.int .i64 1,.int .i64 0,.int .i64 0,.int .i64 0,.int .i64 0,.int .i64 0,.int .i64 0,.int .i64 0,.int .i64 0,.int .i64 0,.int .i64 0,.int .i64 0,.int .i64 0,.int .u64 0,.int .u64 8,.int .u64 0,.int .u64 0,.int .u64 0,.int .u64 0,.int .u64 0,.int .u64 0,.int .u64 0,.int .u64 0]) 0],.slcT none (.I .i64 [3,1,0,2]) 1 4 false⟩
theorem NN:ay Tryd.prog O0:=aO ye (H':=[⟨true,[]⟩]) (by kernel_rfl) (by kernel_rfl)
noncomputable def Hw:List bV:=O0::Hv
theorem yf:∀ e ∈ Hw,ay Tryd.prog e:=aM NN ye
noncomputable def O1:bV:=⟨38,[.agg (.G [.int .i64 10,.slcT none (.I .i64 [100,110,60,110,90,95,75,100,120,125,80,110,80,80,70,200]) 4 4 true,.slcT none (.I .i64 [3,1]) 2 1 true])],.tup [.slcT none (.I .i64 [3,1,0,2]) 1 4 true,.int .i64 0]⟩
theorem NO:ay Tryd.prog O1:=aO yf (H':=[⟨true,[]⟩]) (by kernel_rfl) (by kernel_rfl)
noncomputable def Hx:List bV:=O1::Hw
theorem yg:∀ e ∈ Hx,ay Tryd.prog e:=aM NO yf
noncomputable def O2:bV:=⟨22,[.agg (.G [.int .i64 10,.slcT none (.I .i64 [100,110,90,110,90,95,75,100,120,125,80,110,80,80,70,200]) 4 4 true,.slcT none (.I .i64 [3,1]) 2 1 true])],.int .i64 0⟩
theorem NP:ay Tryd.prog O2:=aO yg (H':=[⟨true,[]⟩]) (by kernel_rfl) (by kernel_rfl)
noncomputable def Hy:List bV:=O2::Hx
theorem yh:∀ e ∈ Hy,ay Tryd.prog e:=aM NP yg
end Go.Eng.Gall
end
section
namespace Go.Eng.Gall
open Go.Proofs
noncomputable def O3:bV:=⟨49,[.agg (.G [.int .i64 10,.slcT none (.I .i64 [100,110,90,110,90,95,75,100,120,125,80,110,80,80,70,200]) 4 4 true,.slcT none (.I .i64 [3,1]) 2 1 true]),.nils],.tup [.ptrT none (.G [.int .i64 10,.slcT none (.I .i64 [100,110,90,110,90,95,75,100,120,125,80,110,80,80,70,200]) 4 4 true,.slcT none (.I .i64 [3,1]) 2 1 true,.int .i64 0,.int .i64 1,.int .i64 0,.int .i64 1,.int .i64 2,.int .i64 3,.int .i64 0,.int .i64 1,.int .i64 0,.int .i64 0,.int .i64 0,.int .i64 0,.int .i64 0,.int .i64 0,.int .i64 0,.int .i64 0,.int .i64 0,.int .i64 0,.int .i64 0,.int .i64 0,.int .u64 0,.int .u64 8,.int .u64 0,.int .u64 0,.int .u64 0,.int .u64 0,.int .u64 0,.int .u64 0,.int .u64 0,.int .u64 0]) 0,.int .i64 0]⟩
theorem NQ:ay Tryd.prog O3:=aO yh (H':=[⟨true,[]⟩]) (by kernel_rfl) (by kernel_rfl)
noncomputable def Hz:List bV:=O3::Hy
theorem yi:∀ e ∈ Hz,ay Tryd.prog e:=aM NQ yh
noncomputable def O4:bV:=⟨56,[.ptrT none (.G [.int .i64 10,.slcT none (.I .i64 [100,110,90,110,90,95,75,100,120,125,80,110,80,80,70,200]) 4 4 true,.slcT none (.I .i64 [3,1]) 2 1 true,.int .i64 0,.int .i64 1,.int .i64 0,.int .i64 1,.int .i64 2,.int .i64 3,.int .i64 0,.int .i64 1,.int .i64 0,.int .i64 0,.int .i64 0,.int .i64 0,.int .i64 0,.int .i64 0,.int .i64 0,.int .i64 0,.int .i64 0,.int .i64 0,.int .i64 0,.int .i64 0,.int .u64 0,.int .u64 8,.int .u64 0,.int .u64 0,.int .u64 0,.int .u64 0,.int .u64 0,.int .u64 0,.int .u64 0,.int .u64 0]) 0],.agg (.I .i64 [0,1,1,1,2,3,0,0,0,0,0,0,0,0,0,0,0,0,0,0])⟩
theorem NR:ay Tryd.prog O4:=aO yi (H':=[⟨true,[]⟩]) (by kernel_rfl) (by kernel_rfl)
noncomputable def HD:List bV:=O4::Hz
theorem yj:∀ e ∈ HD,ay Tryd.prog e:=aM NR yi
noncomputable def O5:bV:=⟨65,[.ptrT none (.G [.int .i64 10,.slcT none (.I .i64 [100,110,90,110,90,95,75,100,120,125,80,110,80,80,70,200]) 4 4 true,.slcT none (.I .i64 [3,1]) 2 1 true,.int .i64 0,.int .i64 1,.int .i64 0,.int .i64 1,.int .i64 2,.int .i64 3,.int .i64 0,.int .i64 1,.int .i64 0,.int .i64 0,.int .i64 0,.int .i64 0,.int .i64 0,.int .i64 0,.int .i64 0,.int .i64 0,.int .i64 0,.int .i64 0,.int .i64 0,.int .i64 0,.int .u64 0,.int .u64 8,.int .u64 0,.int .u64 0,.int .u64 0,.int .u64 0,.int .u64 0,.int .u64 0,.int .u64 0,.int .u64 0]) 0],.tup [.agg (.G [.int .i64 0,.int .i64 1,.slcT none (.I .i64 [0,1,3]) 1 3 false]),.bool true]⟩
theorem NS:ay Tryd.prog O5:=aO yj (H':=[⟨true,[]⟩]) (by kernel_rfl) (by kernel_rfl)
noncomputable def HF:List bV:=O5::HD
theorem yk:∀ e ∈ HF,ay Tryd.prog e:=aM NS yj
noncomputable def O6:bV:=⟨74,[.ptrT none (.G [.int .i64 10,.slcT none (.I .i64 [100,110,90,110,90,95,75,100,120,125,80,110,80,80,70,200]) 4 4 true,.slcT none (.I .i64 [3,1]) 2 1 true,.int .i64 0,.int .i64 1,.int .i64 0,.int .i64 1,.int .i64 2,.int .i64 3,.int .i64 0,.int .i64 1,.int .i64 0,.int .i64 0,.int .i64 0,.int .i64 0,.int .i64 0,.int .i64 0,.int .i64 0,.int .i64 0,.int .i64 0,.int .i64 0,.int .i64 0,.int .i64 0,.int .u64 0,.int .u64 8,.int .u64 0,.int .u64 0,.int .u64 0,.int .u64 0,.int .u64 0,.int .u64 0,.int .u64 0,.int .u64 0]) 0],.nils⟩
theorem NT:ay Tryd.prog O6:=aO yk (H':=[⟨true,[]⟩]) (by kernel_rfl) (by kernel_rfl)
noncomputable def HG:List bV:=O6::HF
theorem yl:∀ e ∈ HG,ay Tryd.prog e:=aM NT yk
end Go.Eng.Gall
end
section
namespace Go.Eng.Gall
open Go.Proofs
noncomputable def O7:bV:=⟨38,[.agg (.G [.int .i64 10,.slcT none (.I .i64 [100,110,90,110,90,95,75,100,120,125,80,110,80,80,70,200]) 4 4 true,.slcT none (.I .i64 [3,1]) 2 1 true])],.tup [.nils,.int .i64 13]⟩
theorem NU:ay Tryd.prog O7:=aO yl (H':=[⟨true,[]⟩]) (by kernel_rfl) (by kernel_rfl)
noncomputable def HH:List bV:=O7::HG
theorem ym:∀ e ∈ HH,ay Tryd.prog e:=aM NU yl
noncomputable def O8:bV:=⟨25,[.agg (.G [.int .i64 10,.slcT none (.I .i64 [100,110,90,110,90,95,75,100,120,125,80,110,80,80,70,200]) 4 4 true,.slcT none (.I .i64 [3,1]) 2 1 true])],.tup [.agg (.G [.int .i64 0,.int .i64 1,.slcT none (.I .i64 [0,1,3]) 1 3 false]),.int .i64 0]⟩
theorem NV:ay Tryd.prog O8:=aO ym (H':=[⟨true,[]⟩]) (by kernel_rfl) (by kernel_rfl)
noncomputable def HI:List bV:=O8::HH
theorem yn:∀ e ∈ HI,ay Tryd.prog e:=aM NV ym
noncomputable def O9:bV:=⟨56,[.ptrT none (.G [.int .i64 10,.slcT none (.I .i64 [100,110,60,110,90,95,75,100,120,125,80,110,80,80,70,200]) 4 4 true,.slcT none (.I .i64 [3,1]) 2 1 true,.int .i64 1,.int .i64 1,.int .i64 0,.int .i64 1,.int .i64 2,.int .i64 3,.int .i64 0,.int .i64 1,.int .i64 0,.int .i64 0,.int .i64 0,.int .i64 0,.int .i64 0,.int .i64 0,.int .i64 0,.int .i64 0,.int .i64 0,.int .i64 0,.int .i64 0,.int .i64 0,.int .u64 0,.int .u64 8,.int .u64 0,.int .u64 0,.int .u64 0,.int .u64 0,.int .u64 0,.int .u64 0,.int .u64 0,.int .u64 0]) 0],.agg (.I .i64 [1,1,1,1,2,3,0,0,0,0,0,0,0,0,0,0,0,0,0,0])⟩
theorem NW:ay Tryd.prog O9:=aO yn (H':=[⟨true,[]⟩]) (by kernel_rfl) (by kernel_rfl)
noncomputable def HJ:List bV:=O9::HI
theorem yo:∀ e ∈ HJ,ay Tryd.prog e:=aM NW yn
noncomputable def Pa:bV:=⟨65,[.ptrT none (.G [.int .i64 10,.slcT none (.I .i64 [100,110,60,110,90,95,75,100,120,125,80,110,80,80,70,200]) 4 4 true,.slcT none (.I .i64 [3,1]) 2 1 true,.int .i64 1,.int .i64 1,.int .i64 0,.int .i64 1,.int .i64 2,.int .i64 3,.int .i64 0,.int .i64 1,.int .i64 0,.int .i64 0,.int .i64 0,.int .i64 0,.int .i64 0,.int .i64 0,.int .i64 0,.int .i64 0,.int .i64 0,.int .i64 0,.int .i64 0,.int .i64 0,.int .u64 0,.int .u64 8,.int .u64 0,.int .u64 0,.int .u64 0,.int .u64 0,.int .u64 0,.int .u64 0,.int .u64 0,.int .u64 0]) 0],.tup [.agg (.G [.int .i64 0,.int .i64 1,.slcT none (.I .i64 [0,1,3]) 1 3 false]),.bool true]⟩
theorem NX:ay Tryd.prog Pa:=aO yo (H':=[⟨true,[]⟩]) (by kernel_rfl) (by kernel_rfl)
noncomputable def HK:List bV:=Pa::HJ
theorem yp:∀ e ∈ HK,ay Tryd.prog e:=aM NX yo
end Go.Eng.Gall
end
section
namespace Go.Eng.Gall
open Go.Proofs
noncomputable def Pb:bV:=⟨56,[.ptrT none (.G [.int .i64 10,.slcT none (.I .i64 [100,110,60,110,90,95,75,100,120,125,80,110,80,80,70,200]) 4 4 true,.slcT none (.I .i64 [3,1]) 2 1 true,.int .i64 2,.int .i64 2,.int .i64 0,.int .i64 1,.int .i64 2,.int .i64 3,.int .i64 0,.int .i64 1,.int .i64 0,.int .i64 0,.int .i64 0,.int .i64 0,.int .i64 0,.int .i64 0,.int .i64 0,.int .i64 0,.int .i64 0,.int .i64 0,.int .i64 0,.int .i64 0,.int .u64 0,.int .u64 8,.int .u64 0,.int .u64 0,.int .u64 0,.int .u64 0,.int .u64 0,.int .u64 0,.int .u64 0,.int .u64 0]) 0],.agg (.I .i64 [2,2,1,1,2,3,0,0,0,0,0,0,0,0,0,0,0,0,0,0])⟩
theorem NY:ay Tryd.prog Pb:=aO yp (H':=[⟨true,[]⟩]) (by kernel_rfl) (by kernel_rfl)
noncomputable def HL:List bV:=Pb::HK
theorem yq:∀ e ∈ HL,ay Tryd.prog e:=aM NY yp
noncomputable def Pc:bV:=⟨65,[.ptrT none (.G [.int .i64 10,.slcT none (.I .i64 [100,110,60,110,90,95,75,100,120,125,80,110,80,80,70,200]) 4 4 true,.slcT none (.I .i64 [3,1]) 2 1 true,.int .i64 2,.int .i64 2,.int .i64 0,.int .i64 1,.int .i64 2,.int .i64 3,.int .i64 0,.int .i64 1,.int .i64 0,.int .i64 0,.int .i64 0,.int .i64 0,.int .i64 0,.int .i64 0,.int .i64 0,.int .i64 0,.int .i64 0,.int .i64 0,.int .i64 0,.int .i64 0,.int .u64 0,.int .u64 8,.int .u64 0,.int .u64 0,.int .u64 0,.int .u64 0,.int .u64 0,.int .u64 0,.int .u64 0,.int .u64 0]) 0],.tup [.agg (.G [.int .i64 0,.int .i64 0,.nils]),.bool false]⟩
theorem NZ:ay Tryd.prog Pc:=aO yq (H':=[⟨true,[]⟩]) (by kernel_rfl) (by kernel_rfl)
noncomputable def HM:List bV:=Pc::HL
theorem yr:∀ e ∈ HM,ay Tryd.prog e:=aM NZ yq
noncomputable def Pd:bV:=⟨56,[.ptrT none (.G [.int .i64 10,.slcT none (.I .i64 [100,110,60,110,90,95,75,100,120,125,80,110,80,80,70,200]) 4 4 true,.slcT none (.I .i64 [3,1]) 2 1 true,.int .i64 3,.int .i64 3,.int .i64 0,.int .i64 1,.int .i64 2,.int .i64 3,.int .i64 0,.int .i64 1,.int .i64 0,.int .i64 0,.int .i64 0,.int .i64 0,.int .i64 0,.int .i64 0,.int .i64 0,.int .i64 0,.int .i64 0,.int .i64 0,.int .i64 0,.int .i64 0,.int .u64 0,.int .u64 8,.int .u64 0,.int .u64 0,.int .u64 0,.int .u64 0,.int .u64 0,.int .u64 0,.int .u64 0,.int .u64 0]) 0],.agg (.I .i64 [3,3,1,1,2,3,0,0,0,0,0,0,0,0,0,0,0,0,0,0])⟩
theorem N0:ay Tryd.prog Pd:=aO yr (H':=[⟨true,[]⟩]) (by kernel_rfl) (by kernel_rfl)
noncomputable def HN:List bV:=Pd::HM
theorem yt:∀ e ∈ HN,ay Tryd.prog e:=aM N0 yr
noncomputable def Pe:bV:=⟨65,[.ptrT none (.G [.int .i64 10,.slcT none (.I .i64 [100,110,60,110,90,95,75,100,120,125,80,110,80,80,70,200]) 4 4 true,.slcT none (.I .i64 [3,1]) 2 1 true,.int .i64 3,.int .i64 3,.int .i64 0,.int .i64 1,.int .i64 2,.int .i64 3,.int .i64 0,.int .i64 1,.int .i64 0,.int .i64 0,.int .i64 0,.int .i64 0,.int .i64 0,.int .i64 0,.int .i64 0,.int .i64 0,.int .i64 0,.int .i64 0,.int .i64 0,.int .i64 0,.int .u64 0,.int .u64 8,.int .u64 0,.int .u64 0,.int .u64 0,.int .u64 0,.int .u64 0,.int .u64 0,.int .u64 0,.int .u64 0]) 0],.tup [.agg (.G [.int .i64 0,.int .i64 0,.nils]),.bool false]⟩
theorem N1:ay Tryd.prog Pe:=aO yt (H':=[⟨true,[]⟩]) (by kernel_rfl) (by kernel_rfl)
noncomputable def HO:List bV:=Pe::HN
theorem yu:∀ e ∈ HO,ay Tryd.prog e:=aM N1 yt
end Go.Eng.Gall
end
section
namespace Go.Eng.Gall
open Go.Proofs
noncomputable def Pf:bV:=⟨30,[.agg (.G [.int .i64 10,.slcT none (.I .i64 [100,110,60,110,90,95,75,100,120,125,80,110,80,80,70,200]) 4 4 true,.slcT none (.I .i64 [3,1]) 2 1 true]),.int .i64 0],.tup [.slcT none (.I .i64 [2,3]) 1 2 false,.int .i64 0]⟩
theorem N2:ay Tryd.prog Pf:=aO yu (H':=[⟨true,[]⟩]) (by kernel_rfl) (by kernel_rfl)
noncomputable def HP:List bV:=Pf::HO
theorem yv:∀ e ∈ HP,ay Tryd.prog e:=aM N2 yu
noncomputable def Pg:bV:=⟨56,[.ptrT none (.G [.int .i64 10,.slcT none (.I .i64 [100,110,60,110,90,95,75,100,120,125,80,110,80,80,70,200]) 4 4 true,.slcT none (.I .i64 [3,1]) 2 1 true,.int .i64 0,.int .i64 3,.int .i64 0,.int .i64 1,.int .i64 2,.int .i64 3,.int .i64 0,.int .i64 1,.int .i64 0,.int .i64 0,.int .i64 0,.int .i64 0,.int .i64 0,.int .i64 0,.int .i64 0,.int .i64 0,.int .i64 0,.int .i64 0,.int .i64 0,.int .i64 0,.int .u64 0,.int .u64 9,.int .u64 0,.int .u64 0,.int .u64 0,.int .u64 0,.int .u64 0,.int .u64 0,.int .u64 0,.int .u64 0]) 0],.agg (.I .i64 [0,0,1,1,2,3,0,0,0,0,0,0,0,0,0,0,0,0,0,0])⟩
theorem N3:ay Tryd.prog Pg:=aO yv (H':=[⟨true,[]⟩]) (by kernel_rfl) (by kernel_rfl)
noncomputable def HQ:List bV:=Pg::HP
theorem yw:∀ e ∈ HQ,ay Tryd.prog e:=aM N3 yv
noncomputable def Ph:bV:=⟨65,[.ptrT none (.G [.int .i64 10,.slcT none (.I .i64 [100,110,60,110,90,95,75,100,120,125,80,110,80,80,70,200]) 4 4 true,.slcT none (.I .i64 [3,1]) 2 1 true,.int .i64 0,.int .i64 3,.int .i64 0,.int .i64 1,.int .i64 2,.int .i64 3,.int .i64 0,.int .i64 1,.int .i64 0,.int .i64 0,.int .i64 0,.int .i64 0,.int .i64 0,.int .i64 0,.int .i64 0,.int .i64 0,.int .i64 0,.int .i64 0,.int .i64 0,.int .i64 0,.int .u64 0,.int .u64 9,.int .u64 0,.int .u64 0,.int .u64 0,.int .u64 0,.int .u64 0,.int .u64 0,.int .u64 0,.int .u64 0]) 0],.tup [.agg (.G [.int .i64 0,.int .i64 0,.slcT none (.I .i64 [0,3]) 1 2 false]),.bool true]⟩
theorem N4:ay Tryd.prog Ph:=aO yw (H':=[⟨true,[]⟩]) (by kernel_rfl) (by kernel_rfl)
noncomputable def HR:List bV:=Ph::HQ
theorem yx:∀ e ∈ HR,ay Tryd.prog e:=aM N4 yw
noncomputable def Pj:bV:=⟨32,[.agg (.G [.int .i64 10,.slcT none (.I .i64 [100,110,60,110,90,95,75,100,120,125,80,110,80,80,70,200]) 4 4 true,.slcT none (.I .i64 [3,1]) 2 1 true]),.int .i64 1,.int .i64 0],.tup [.bool true,.int .i64 0]⟩
theorem N5:ay Tryd.prog Pj:=aO yx (H':=[⟨true,[]⟩]) (by kernel_rfl) (by kernel_rfl)
noncomputable def HS:List bV:=Pj::HR
theorem EO:∀ e ∈ HS,ay Tryd.prog e:=aM N5 yx
end Go.Eng.Gall
end
section
namespace Go.Eng.Gall
open Go.Proofs
noncomputable def Pk:bV:=⟨73,[.ptrT none (.G [.int .i64 10,.slcT none (.I .i64 [100,110,60,110,90,95,75,100,120,125,80,110,80,80,70,200]) 4 4 true,.slcT none (.I .i64 [3,1]) 2 1 true,.int .i64 0,.int .i64 3,.int .i64 0,.int .i64 1,.int .i64 2,.int .i64 3,.int .i64 0,.int .i64 1,.int .i64 0,.int .i64 0,.int .i64 0,.int .i64 0,.int .i64 0,.int .i64 0,.int .i64 0,.int .i64 0,.int .i64 0,.int .i64 0,.int .i64 0,.int .i64 0,.int .u64 0,.int .u64 8,.int .u64 0,.int .u64 0,.int .u64 0,.int .u64 0,.int .u64 0,.int .u64 0,.int .u64 0,.int .u64 0]) 0],.int .i64 2⟩
theorem N6:ay Tryd.prog Pk:=Em (dr:=10) (lc:=4) (zl:=[100,110,60,110,90,95,75,100,120,125,80,110,80,80,70,200]) (lb:=1) (bl:=[3,1]) (f1:=true) (f2:=true) (Wl:=[0,3,0,1,2,3,0,1,0,0,0,0,0,0,0,0,0,0,0,0]) (Bl:=[0,8,0,0,0,0,0,0,0,0]) (v:=2) rfl (by decide) rfl rfl rfl rfl (by kernel_rfl)
noncomputable def HT:List bV:=Pk::HS
theorem yy:∀ e ∈ HT,ay Tryd.prog e:=aM N6 EO
noncomputable def Pl:bV:=⟨34,[.agg (.G [.int .i64 10,.slcT none (.I .i64 [100,110,60,110,90,95,75,100,120,125,80,110,80,80,70,200]) 4 4 true,.slcT none (.I .i64 [3,1]) 2 1 true])],.tup [.int .i64 2,.int .i64 0]⟩
theorem N7:ay Tryd.prog Pl:=aO yy (H':=[⟨true,[]⟩]) (by kernel_rfl) (by kernel_rfl)
noncomputable def HU:List bV:=Pl::HT
theorem yz:∀ e ∈ HU,ay Tryd.prog e:=aM N7 yy
noncomputable def Pm:bV:=⟨18,[.agg (.G [.int .i64 10,.slcT none (.I .i64 [100,110,60,110,90,95,75,100,120,125,80,110,80,80,70,200]) 4 4 true,.slcT none (.I .i64 [3,1]) 2 1 true]),.int .i64 0],.tup [.agg (.I .i64 [0,3]),.int .i64 0]⟩
theorem N8:ay Tryd.prog Pm:=aO yz (H':=[⟨true,[]⟩]) (by kernel_rfl) (by kernel_rfl)
noncomputable def HW:List bV:=Pm::HU
theorem yA:∀ e ∈ HW,ay Tryd.prog e:=aM N8 yz
noncomputable def Pn:bV:=⟨18,[.agg (.G [.int .i64 10,.slcT none (.I .i64 [100,110,60,110,90,95,75,100,120,125,80,110,80,80,70,200]) 4 4 true,.slcT none (.I .i64 [3,1]) 2 1 true]),.int .i64 1],.tup [.agg (.I .i64 [0,1]),.int .i64 0]⟩
theorem N9:ay Tryd.prog Pn:=aO yA (H':=[⟨true,[]⟩]) (by kernel_rfl) (by kernel_rfl)
noncomputable def H3:List bV:=Pn::HW
theorem yB:∀ e ∈ H3,ay Tryd.prog e:=aM N9 yA
end Go.Eng.Gall
end
section
namespace Go.Eng.Gall
open Go.Proofs
noncomputable def Po:bV:=⟨18,[.agg (.G [.int .i64 10,.slcT none (.I .i64 [100,110,60,110,90,95,75,100,120,125,80,110,80,80,70,200]) 4 4 true,.slcT none (.I .i64 [3,1]) 2 1 true]),.int .i64 3],.tup [.agg (.I .i64 [0,1]),.int .i64 0]⟩
theorem Oa:ay Tryd.prog Po:=aO yB (H':=[⟨true,[]⟩]) (by kernel_rfl) (by kernel_rfl)
noncomputable def H4:List bV:=Po::H3
theorem yC:∀ e ∈ H4,ay Tryd.prog e:=aM Oa yB
noncomputable def Pp:bV:=⟨20,[.agg (.G [.int .i64 10,.slcT none (.I .i64 [100,110,60,110,90,95,75,100,120,125,80,110,80,80,70,200]) 4 4 true,.slcT none (.I .i64 [3,1]) 2 1 true]),.int .i64 3],.tup [.agg (.I .i64 [0,0]),.int .i64 0]⟩
theorem Ob:ay Tryd.prog Pp:=aO yC (H':=[⟨true,[]⟩]) (by kernel_rfl) (by kernel_rfl)
noncomputable def H5:List bV:=Pp::H4
theorem yD:∀ e ∈ H5,ay Tryd.prog e:=aM Ob yC
noncomputable def Pq:bV:=⟨56,[.ptrT none (.G [.int .i64 10,.slcT none (.I .i64 [100,110,60,110,90,95,75,100,120,125,80,110,80,80,70,200]) 4 4 true,.slcT none (.I .i64 [3,1]) 2 1 true,.int .i64 0,.int .i64 3,.int .i64 0,.int .i64 1,.int .i64 2,.int .i64 3,.int .i64 0,.int .i64 1,.int .i64 0,.int .i64 0,.int .i64 0,.int .i64 0,.int .i64 0,.int .i64 0,.int .i64 0,.int .i64 0,.int .i64 0,.int .i64 0,.int .i64 0,.int .i64 0,.int .u64 4,.int .u64 8,.int .u64 0,.int .u64 0,.int .u64 0,.int .u64 0,.int .u64 0,.int .u64 0,.int .u64 0,.int .u64 0]) 0],.agg (.I .i64 [3,3,1,1,2,2,0,0,0,0,0,0,0,0,0,0,0,0,0,0])⟩
theorem Oc:ay Tryd.prog Pq:=aO yD (H':=[⟨true,[]⟩]) (by kernel_rfl) (by kernel_rfl)
noncomputable def H6:List bV:=Pq::H5
theorem yE:∀ e ∈ H6,ay Tryd.prog e:=aM Oc yD
noncomputable def Pr:bV:=⟨65,[.ptrT none (.G [.int .i64 10,.slcT none (.I .i64 [100,110,60,110,90,95,75,100,120,125,80,110,80,80,70,200]) 4 4 true,.slcT none (.I .i64 [3,1]) 2 1 true,.int .i64 0,.int .i64 3,.int .i64 0,.int .i64 1,.int .i64 2,.int .i64 3,.int .i64 0,.int .i64 1,.int .i64 0,.int .i64 0,.int .i64 0,.int .i64 0,.int .i64 0,.int .i64 0,.int .i64 0,.int .i64 0,.int .i64 0,.int .i64 0,.int .i64 0,.int .i64 0,.int .u64 4,.int .u64 8,.int .u64 0,.int .u64 0,.int .u64 0,.int .u64 0,.int .u64 0,.int .u64 0,.int .u64 0,.int .u64 0]) 0],.tup [.agg (.G [.int .i64 0,.int .i64 0,.nils]),.bool false]⟩
theorem Od:ay Tryd.prog Pr:=aO yE (H':=[⟨true,[]⟩]) (by kernel_rfl) (by kernel_rfl)
noncomputable def H7:List bV:=Pr::H6
theorem yF:∀ e ∈ H7,ay Tryd.prog e:=aM Od yE
end Go.Eng.Gall
end
section
namespace Go.Eng.Gall
open Go.Proofs
noncomputable def Ps:bV:=⟨32,[.agg (.G [.int .i64 10,.slcT none (.I .i64 [100,110,60,110,90,95,75,100,120,125,80,110,80,80,70,200]) 4 4 true,.slcT none (.I .i64 [3,1]) 2 1 true]),.int .i64 0,.int .i64 2],.tup [.bool false,.int .i64 0]⟩
theorem Oe:ay Tryd.prog Ps:=aO yF (H':=[⟨true,[]⟩]) (by kernel_rfl) (by kernel_rfl)
noncomputable def H8:List bV:=Ps::H7
theorem EP:∀ e ∈ H8,ay Tryd.prog e:=aM Oe yF
noncomputable def Pt:bV:=⟨73,[.ptrT none (.G [.int .i64 10,.slcT none (.I .i64 [100,110,90,110,90,95,75,100,120,125,80,110,80,80,70,200]) 4 4 true,.slcT none (.I .i64 [3,1]) 2 1 true,.int .i64 0,.int .i64 1,.int .i64 0,.int .i64 1,.int .i64 2,.int .i64 3,.int .i64 0,.int .i64 1,.int .i64 0,.int .i64 0,.int .i64 0,.int .i64 0,.int .i64 0,.int .i64 0,.int .i64 0,.int .i64 0,.int .i64 0,.int .i64 0,.int .i64 0,.int .i64 0,.int .u64 0,.int .u64 8,.int .u64 0,.int .u64 0,.int .u64 0,.int .u64 0,.int .u64 0,.int .u64 0,.int .u64 0,.int .u64 0]) 0],.int .i64 0⟩
theorem Of:ay Tryd.prog Pt:=Em (dr:=10) (lc:=4) (zl:=[100,110,90,110,90,95,75,100,120,125,80,110,80,80,70,200]) (lb:=1) (bl:=[3,1]) (f1:=true) (f2:=true) (Wl:=[0,1,0,1,2,3,0,1,0,0,0,0,0,0,0,0,0,0,0,0]) (Bl:=[0,8,0,0,0,0,0,0,0,0]) (v:=0) rfl (by decide) rfl rfl rfl rfl (by kernel_rfl)
noncomputable def H9:List bV:=Pt::H8
theorem yG:∀ e ∈ H9,ay Tryd.prog e:=aM Of EP
noncomputable def Pu:bV:=⟨34,[.agg (.G [.int .i64 10,.slcT none (.I .i64 [100,110,90,110,90,95,75,100,120,125,80,110,80,80,70,200]) 4 4 true,.slcT none (.I .i64 [3,1]) 2 1 true])],.tup [.int .i64 0,.int .i64 0]⟩
theorem Og:ay Tryd.prog Pu:=aO yG (H':=[⟨true,[]⟩]) (by kernel_rfl) (by kernel_rfl)
noncomputable def Ia:List bV:=Pu::H9
theorem yH:∀ e ∈ Ia,ay Tryd.prog e:=aM Og yG
noncomputable def Pv:bV:=⟨25,[.agg (.G [.int .i64 10,.slcT none (.I .i64 [100,110,60,110,90,95,75,100,120,125,80,110,80,80,70,200]) 4 4 true,.slcT none (.I .i64 [3,1]) 2 1 true])],.tup [.agg (.G [.int .i64 0,.int .i64 0,.nils]),.int .i64 5]⟩
theorem Oh:ay Tryd.prog Pv:=aO yH (H':=[⟨true,[]⟩]) (by kernel_rfl) (by kernel_rfl)
noncomputable def Ib:List bV:=Pv::Ia
theorem yI:∀ e ∈ Ib,ay Tryd.prog e:=aM Oh yH
end Go.Eng.Gall
end
section
namespace Go.Eng.Gall
open Go.Proofs
noncomputable def Px:bV:=⟨30,[.agg (.G [.int .i64 10,.slcT none (.I .i64 [100,110,90,110,90,95,75,100,120,125,80,110,80,80,70,200]) 4 4 true,.slcT none (.I .i64 [3,1]) 2 1 true]),.int .i64 0],.tup [.nils,.int .i64 13]⟩
theorem Oi:ay Tryd.prog Px:=aO yI (H':=[⟨true,[]⟩]) (by kernel_rfl) (by kernel_rfl)
noncomputable def LO:List bV:=Px::Ib
theorem ER:∀ e ∈ LO,ay Tryd.prog e:=aM Oi yI
end Go.Eng.Gall
end
section
namespace Go.Eng.Gall
open Go.Proofs
noncomputable def EW:bV:=⟨15,[],.bool true⟩
theorem Lj:ay Tryd.prog EW:=aO ER (H':=[⟨true,[]⟩]) (by kernel_rfl) (by kernel_rfl)
end Go.Eng.Gall
end
section
namespace Go.Eng
open Go.Proofs Go.ChangeShapes Go.WideShapes Go.ChangeAt Go.RowKit
theorem Sv {p:aB} {M:Mu} {k:IntKind} {z:Nat→Int} {N sz len:Nat} {full:Bool} {v:Value} (h:ai p M (.slcT none (.F (fun j=>.int k (z j)) N) sz len full) v):ai p M (.slcT none (.M [.arr k z N]) sz len full) v:=by
 cases h with
 | slcN=>exact .slcN
 | slcT vs h0 h1 hv hl hf hx =>
   have e:∀ j,j<(Row.M [aw.arr k z N]).len→j<N:=fun j hj=>by simpa[Row.len,au,aF] using hj
   refine .slcT vs (fun j hj=>h0 j (e j hj)) (fun j hj=>h1 j (e j hj)) (fun j hj=>?_) hl hf hx
   have:=hv j (e j hj)
   simp only[Row.get,getM,if_pos (e j hj)] at this ⊢
   exact this.a7 _ _
theorem z6 {P:Program} {w:World} {r:Reach} {base:Nat} {t e:TypeId} {v:Value} (ht:P.underlying t=some (.slice e)) (h:Cell.okWide P w r base t v):∀ a l c,v=.slice (some a) l c→a.spot=none:=by
 rintro a l c rfl
 simp only[Cell.okWide,ht,Cell.ok] at h
 exact h.2.2.2.1
theorem AM:tz Tryd.prog 2 1:=wE Tryd.underlying2
theorem KN:tz Tryd.prog 3 1:=wE Tryd.underlying3
theorem IK:tz Tryd.prog 29 2:=vc Tryd.underlying29 AM AM rfl rfl (by kernel_rfl) (by kernel_rfl) (by kernel_rfl)
theorem ve {P:Program} {k:IntKind} {t:TypeId} {f0 f1 f2:Field} {n0 n1 n2:Nat} (ht:P.underlying t=some (.struct #[f0,f1,f2])) (h0:kF k P f0.type n0) (h1:kF k P f1.type n1) (h2:kF k P f2.type n2) (o0:f0.offset=0) (o1:f1.offset=n0) (o2:f2.offset=n0+n1) (c0:P.cellsOf f0.type=n0) (c1:P.cellsOf f1.type=n1) (c2:P.cellsOf f2.type=n2) (c:P.cellsOf t=n0+n1+n2):kF k P t (n0+n1+n2):=by
 intro H enc w base sp held fuel cs x h
 obtain ⟨xs,m,_,_,hl,hxl,hf⟩:=DataW.trod_struct ht h
 match xs,hxl,hf with
 | [y0,y1,y2],_,hf =>
   have g0:=hf 0 f0 rfl
   have g1:=hf 1 f1 rfl
   have g2:=hf 2 f2 rfl
   obtain ⟨_,k0⟩:=h0 _ _ _ _ _ _ _ _ _ g0
   obtain ⟨_,k1⟩:=h1 _ _ _ _ _ _ _ _ _ g1
   obtain ⟨_,k2⟩:=h2 _ _ _ _ _ _ _ _ _ g2
   refine ⟨by rw[hl,c],fun j hj=>?_⟩
   by_cases p:j<n0
   · obtain ⟨z,hz,hw⟩:=k0 j p
     refine ⟨z,?_,hw⟩
     rw[o0,c0] at hz
     simpa[List.getElem?_take,p] using hz
   by_cases q:j<n0+n1
   · obtain ⟨z,hz,hw⟩:=k1 (j-n0) (by omega)
     refine ⟨z,?_,hw⟩
     rw[o1,c1] at hz
     have:j-n0<n1:=by omega
     simpa[List.getElem?_take,this,List.getElem?_drop,show n0+(j-n0)=j by omega] using hz
   · obtain ⟨z,hz,hw⟩:=k2 (j-(n0+n1)) (by omega)
     refine ⟨z,?_,hw⟩
     rw[o2,c2] at hz
     have:j-(n0+n1)<n2:=by omega
     simpa[List.getElem?_take,this,List.getElem?_drop,show n0+n1+(j-(n0+n1))=j by omega] using hz
theorem IL:tz Tryd.prog 56 4:=ve Tryd.underlying56 IK AM AM rfl rfl rfl (by kernel_rfl) (by kernel_rfl) (by kernel_rfl) (by kernel_rfl)
def CZ (t:TypeId) (A:AV→Prop):Prop:=∀ (H:Type) (enc:TypeId×Value→H) (w:World) (r:Reach) (b0 base:Nat) (sp:Nat→Bool) (held:Bool) (v:Value) (d:DataW H) (ps:List MemPlace),kQ w →
 Value.okWide Tryd.prog w r b0 t v→DataW.Trod enc Tryd.prog w base sp held t v d ps→∃ a,A a∧ai (Pw w) Mu.no a v
def yQ:List (AV→Prop)→List AV→Prop
 | [],[]=>True
 | A::As,a::xs=>A a∧yQ As xs
 | _,_=>False
theorem oK {A:AV→Prop} {As:List (AV→Prop)} {xs:List AV} (h:yQ (A::As) xs):∃ a ys,xs=a::ys∧A a∧yQ As ys:=by
 cases xs with
 | nil=>exact h.elim
 | cons a ys=>exact ⟨a,ys,rfl,h.1,h.2⟩
theorem C4 {xs:List AV} (h:yQ [] xs):xs=[]:=by
 cases xs with
 | nil=>rfl
 | cons a ys=>exact h.elim
def Ig:List TypeId→List (AV→Prop)→Prop
 | [],[]=>True
 | t::ts,A::As=>CZ t A∧Ig ts As
 | _,_=>False
theorem Ar {H:Type} {enc:TypeId×Value→H} {w:World} (hg:kQ w) {r:Reach} {b0 base:Nat} {sp:Nat→Bool} {held:Bool}:∀ (ts:List TypeId) (As:List (AV→Prop)) (vs:List Value) (ds:List (DataW H)) (ps:List MemPlace),Ig ts As →
 (∀ (j:Nat) t v,ts[j]?=some t→vs[j]?=some v→Value.okWide Tryd.prog w r b0 t v)→DataW.TrodAll enc Tryd.prog w base sp held ts vs ds ps→∃ xs,yQ As xs∧vs.length=xs.length∧∀ j,j<xs.length→ai (Pw w) Mu.no (xs.getD j .undef) (vs.getD j undef)
 | [],[],vs,ds,ps,_,_,h=>by
   obtain ⟨rfl,rfl,rfl⟩:=trodAll_nil h
   exact ⟨[],trivial,rfl,fun j hj=>by simp at hj⟩
 | t::ts,A::As,vs,ds,ps,hT,hv,h=>by
   obtain ⟨v,vs',d,ds',p,q,rfl,rfl,rfl,h1,h2⟩:=trodAll_cons h
   obtain ⟨a,ha,hr⟩:=hT.1 H enc w r b0 base sp held v d p hg (hv 0 t v rfl rfl) h1
   obtain ⟨xs,hA,hl,hR⟩:=Ar hg ts As vs' ds' q hT.2 (fun j t' v' e1 e2=>hv (j+1) t' v' (by simpa using e1) (by simpa using e2)) h2
   refine ⟨a::xs,⟨ha,hA⟩,by simp[hl],fun j hj=>?_⟩
   cases j with
   | zero=>exact hr
   | succ j=>simpa using hR j (by simpa using hj)
 | [],_::_,_,_,_,hT,_,_=>hT.elim
 | _::_,[],_,_,_,hT,_,_=>hT.elim
theorem uG {H:Type} {enc:TypeId×Value→H} {W W':World} {base:Nat} {sp':Nat→Bool} (hl:laidOutB Tryd.prog=true):∀ (ts:List TypeId) (vs:List Value) (ds:List (DataW H)) (ps:List MemPlace),(∀ t ∈ ts,Tryd.prog.readableRec t=true∧t<Tryd.prog.types.size) →
 DataW.TrodAll enc Tryd.prog W base (fun _=>true) true ts vs ds ps→(∀ p ∈ ps,W.sameAt W' p)→(∀ p ∈ ps,sp' p.block=true)→DataW.TrodAll enc Tryd.prog W' base sp' true ts vs ds ps
 | [],vs,ds,ps,_,h,_,_=>by
   obtain ⟨rfl,rfl,rfl⟩:=trodAll_nil h
   exact trodAll_mk0
 | t::ts,vs,ds,ps,ht,h,hs,hp=>by
   obtain ⟨v,vs',d,ds',p,q,rfl,rfl,rfl,h1,h2⟩:=trodAll_cons h
   obtain ⟨r1,r2⟩:=ht t (by simp)
   refine ⟨p,q,?_,uG hl ts vs' ds' q (fun t' h'=>ht t' (List.mem_cons_of_mem _ h')) h2 (fun x hx=>hs x (List.mem_append_right _ hx)) (fun x hx=>hp x (List.mem_append_right _ hx)),rfl⟩
   exact WideElems.Trod_stays hl r1 r2 h1 (fun x hx=>hs x (List.mem_append_left _ hx)) (fun x hx=>hp x (List.mem_append_left _ hx))
theorem Dl (hN:dc Tryd.prog) (hm:Tryd.prog.follows .mixedOrders=true) (hW:ay Tryd.prog ⟨15,[],.bool true⟩) (n:Nat):bM Tryd.prog (cd n) :=
 lZ hN (oP hN hm) (vB hN (oP hN hm) hW) KtG.kt 100000 n
theorem Cl {f:FuncId} {ts:List TypeId} {As:List (AV→Prop)} (hT:Ig ts As) {n:Nat} (hlaw:∀ xs,yQ As xs→∃ H',cd n (.fn f) xs [⟨true,[]⟩]=some (.bool true,H')) {H:Type} {enc:TypeId×Value→H} {w:World} (hg:kQ w) {r:Reach} {b0 base:Nat} {sp:Nat→Bool} {held:Bool} {args:Array Value} {ds:List (DataW H)} {ps:List MemPlace}
 (hv:∀ (j:Nat) t v,ts[j]?=some t→args[j]?=some v→Value.okWide Tryd.prog w r b0 t v) (h:DataW.TrodAll enc Tryd.prog w base sp held ts args.toList ds ps) :
 Calls Tryd.prog f args w (fun e w'=>e=.returned (.bool true)∧Go.RowKit.Below w.heap.size w w'):=by
 obtain ⟨xs,hA,hl,hR⟩:=Ar hg ts As args.toList ds ps hT (fun j t v e1 e2=>hv j t v e1 (by simpa using e2)) h
 obtain ⟨H',hc⟩:=hlaw xs hA
 refine BZ (Dl Gall.named Gall.mixed Gall.Lj n) hc hg ⟨by simpa using hl,fun j hj=>?_⟩
 have:=hR j hj
 have e:args.toList.getD j undef=args.getD j undef:=by
  rw[Array.getD_eq_getD_getElem?,List.getD_eq_getElem?_getD,Array.getElem?_toList]
 rwa [e] at this
def CX (a:AV):Prop:=∃ n:Int,a=.int .i64 n∧-9223372036854775808≤n∧n≤9223372036854775807
theorem C9:CZ 3 CX:=fun H enc w r b0 base sp held v d ps hg hv h=>by
 obtain ⟨fuel,hf⟩:=h
 obtain ⟨n,e,_,hw⟩:=DataW.trod_int Tryd.underlying3 hf
 have e3:Tryd.prog.cellsOf 3=1:=by kernel_rfl
 obtain ⟨s,rfl⟩:=WideShapes.okWide_int Tryd.underlying3 hv
 have:s=n:=by simpa[Value.cells] using e
 subst this
 refine ⟨_,⟨s,rfl,?_⟩,.int _ _⟩
 simp[Lit.wf,IntKind.min,IntKind.max,IntKind.signed,IntKind.bits] at hw
 omega
theorem laidOut:laidOutB Tryd.prog=true:=by kernel_rfl
theorem zq {P:Program} {k:IntKind} {t e:TypeId} {n m:Nat} (ht:P.underlying t=some (.array n e)) (he:kF k P e m) (hm:0<m) (hc:P.cellsOf e=m) (hct:P.cellsOf t=n*m):kF k P t (n*m):=by
 intro H enc w base sp held fuel cs x h
 obtain ⟨xs,f,_,_,hl,hxl,hel⟩:=DataW.trod_array ht h
 refine ⟨by rw[hl,hct],fun j hj=>?_⟩
 have hi:j / m<n:=by rw[Nat.div_lt_iff_lt_mul hm];exact hj
 have hm':=Nat.mod_lt j hm
 have g:=hel (j / m) hi
 have:j / m<xs.length:=by omega
 rw[List.getElem?_eq_getElem this] at g
 obtain ⟨_,k1⟩:=he _ _ _ _ _ _ _ _ _ g
 obtain ⟨z,hz,hw⟩:=k1 (j % m) hm'
 refine ⟨z,?_,hw⟩
 rw[hc,List.getElem?_take,if_pos hm',List.getElem?_drop] at hz
 have hd:=Nat.div_add_mod j m
 rw[Nat.mul_comm] at hd
 rwa [hd] at hz
theorem IM:tz Tryd.prog 61 2:=zq Tryd.underlying61 KN (by omega) (by kernel_rfl) (by kernel_rfl)
theorem sv {t e n:Nat} (ht:Tryd.prog.underlying t=some (.slice e)) (he:tz Tryd.prog e n) (hn:0<n) (hc:Tryd.prog.cellsOf e=n) {H:Type} {enc:TypeId×Value→H} {w:World} (hg:kQ w) {r:Reach} {b0 base:Nat} {sp:Nat→Bool} {held:Bool} {fuel:Nat} {v:Value} {x:DataW H×List MemPlace}
 (hv:Cell.okWide Tryd.prog w r b0 t v) (h:DataW.trod enc Tryd.prog w base sp held fuel t [v]=some x):∃ (len:Nat) (z:Nat→Int),ai (Pw w) Mu.no (slA n len z) v∧v.oneCell'=true:=by
 rcases zZ ht he hn hc hg (z6 ht hv) h with rfl | ⟨zs,len,h1,h2⟩
 · exact ⟨0,fun _=>0,.slcN,rfl⟩
 · refine ⟨len,zs,?_,?_⟩
   · unfold slA
     rw[cq]
     exact Sv h1
   · cases h1<;>rfl
def Mc (a:AV):Prop:=∃ (dr:Int) (lc:Nat) (zc:Nat→Int) (lb:Nat) (zb:Nat→Int),a=df dr lc zc lb zb
theorem Ka:CZ 25 Mc:=fun H enc w r b0 base sp held v d ps hg hv h=>by
 have hts:Tryd.prog.cellTypes Tryd.prog.depth 25=some [2,22,23]:=by kernel_rfl
 have hc25:Tryd.prog.cellsOf 25=3:=by kernel_rfl
 have hc2:Tryd.prog.cellsOf 2=1:=by kernel_rfl
 have hc22:Tryd.prog.cellsOf 22=1:=by kernel_rfl
 have hc23:Tryd.prog.cellsOf 23=1:=by kernel_rfl
 have hc56:Tryd.prog.cellsOf 56=4:=by kernel_rfl
 have hc61:Tryd.prog.cellsOf 61=2:=by kernel_rfl
 simp only[Value.okWide,Tryd.underlying25] at hv
 obtain ⟨cs,rfl,hsz,ts,ht,_,hcell⟩:=hv
 rw[hts] at ht
 obtain rfl:=Option.some.inj ht
 rw[hc25] at hsz
 obtain ⟨fuel,hf⟩:=h
 obtain ⟨xs,n,_,_,_,hxl,hfield⟩:=DataW.trod_struct Tryd.underlying25 hf
 have e3:∃ c0 c1 c2,cs=#[c0,c1,c2]:=by
  refine ⟨cs[0],cs[1],cs[2],?_⟩
  apply Array.ext
  · simpa using hsz
  · intro i h1 h2
    simp at h2
    match i,h2 with
    | 0,_=>rfl
    | 1,_=>rfl
    | 2,_=>rfl
 obtain ⟨c0,c1,c2,rfl⟩:=e3
 have some_of:∀ i,i<3→∃ y,xs[i]?=some y:=fun i hi=>by
  have:i<xs.length:=by rw[hxl];simpa using hi
  exact ⟨xs[i],List.getElem?_eq_getElem this⟩
 obtain ⟨y0,hy0⟩:=some_of 0 (by omega)
 obtain ⟨y1,hy1⟩:=some_of 1 (by omega)
 obtain ⟨y2,hy2⟩:=some_of 2 (by omega)
 have f0:=hfield 0 _ rfl
 have f1:=hfield 1 _ rfl
 have f2:=hfield 2 _ rfl
 rw[hy0] at f0
 rw[hy1] at f1
 rw[hy2] at f2
 simp only[Value.cells] at f0 f1 f2
 have g0:DataW.trod enc Tryd.prog w base sp held n 2 [c0]=some y0:=by simpa[hc2] using f0
 have g1:DataW.trod enc Tryd.prog w base sp held n 22 [c1]=some y1:=by simpa[hc22] using f1
 have g2:DataW.trod enc Tryd.prog w base sp held n 23 [c2]=some y2:=by simpa[hc23] using f2
 obtain ⟨wd,e0,_,hw⟩:=DataW.trod_int Tryd.underlying2 g0
 simp only[List.cons.injEq,and_true] at e0
 subst e0
 obtain ⟨u1,hu1,k1⟩:=hcell 1 c1 rfl
 obtain ⟨u2,hu2,k2⟩:=hcell 2 c2 rfl
 simp at hu1 hu2
 subst hu1;subst hu2
 obtain ⟨lc,zc,r1,o1⟩:=sv Tryd.underlying22 IL (by omega) hc56 hg k1 g1
 obtain ⟨lb,zb,r2,o2⟩:=sv Tryd.underlying23 IM (by omega) hc61 hg k2 g2
 refine ⟨_,⟨wd,lc,zc,lb,zb,rfl⟩,?_⟩
 refine .agg rfl (fun j hj=>?_) (fun j hj=>?_)
 · have hj':j<3:=hj
   match j,hj' with
   | 0,_=>rfl
   | 1,_=>exact o1
   | 2,_=>exact o2
 · have hj':j<3:=hj
   match j,hj' with
   | 0,_=>exact .int _ _
   | 1,_=>exact r1
   | 2,_=>exact r2
end Go.Eng
end
