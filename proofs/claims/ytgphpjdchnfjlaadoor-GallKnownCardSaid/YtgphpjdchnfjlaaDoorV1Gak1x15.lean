/- Gall: closed calls. -/
import Derived.Test.YtgphpjdchnfjlaaDoorV1Gq5x6
set_option maxRecDepth 100000
section
namespace Go.Eng.Gall
open Go.Proofs
def Gc:List a8:=[]
theorem xA:∀ e ∈ Gc,aj Tryd.prog e:=BZ
noncomputable def E1:a8:=⟨46,[],.agg (.G [.int .i64 10,.slcT none (.I .i64 [100,110,60,110,90,95,75,100,120,125,80,110,80,80,70,200]) 4 4 true,.slcT none (.I .i64 [3,1]) 2 1 true])⟩
theorem Ll:aj Tryd.prog E1:=az xA (H':=[⟨true,[]⟩]) (by kernel_rfl) (by kernel_rfl)
noncomputable def Ge:List a8:=E1::Gc
theorem xB:∀ e ∈ Ge,aj Tryd.prog e:=aw Ll xA
noncomputable def E2:a8:=⟨47,[],.agg (.G [.int .i64 10,.slcT none (.I .i64 [100,110,90,110,90,95,75,100,120,125,80,110,80,80,70,200]) 4 4 true,.slcT none (.I .i64 [3,1]) 2 1 true])⟩
theorem Lm:aj Tryd.prog E2:=az xB (H':=[⟨true,[]⟩]) (by kernel_rfl) (by kernel_rfl)
noncomputable def Gf:List a8:=E2::Ge
theorem xC:∀ e ∈ Gf,aj Tryd.prog e:=aw Lm xB
noncomputable def E3:a8:=⟨22,[.agg (.G [.int .i64 10,.slcT none (.I .i64 [100,110,60,110,90,95,75,100,120,125,80,110,80,80,70,200]) 4 4 true,.slcT none (.I .i64 [3,1]) 2 1 true])],.int .i64 0⟩
theorem Ln:aj Tryd.prog E3:=az xC (H':=[⟨true,[]⟩]) (by kernel_rfl) (by kernel_rfl)
noncomputable def Gg:List a8:=E3::Gf
theorem xD:∀ e ∈ Gg,aj Tryd.prog e:=aw Ln xC
noncomputable def E4:a8:=⟨16,[.agg (.G [.int .i64 10,.slcT none (.I .i64 [100,110,60,110,90,95,75,100,120,125,80,110,80,80,70,200]) 4 4 true,.slcT none (.I .i64 [3,1]) 2 1 true]),.int .i64 2,.int .i64 2],.tup [.agg (.I .i64 [100,105]),.int .i64 0]⟩
theorem Lo:aj Tryd.prog E4:=az xD (H':=[⟨true,[]⟩]) (by kernel_rfl) (by kernel_rfl)
noncomputable def Gh:List a8:=E4::Gg
theorem xE:∀ e ∈ Gh,aj Tryd.prog e:=aw Lo xD
end Go.Eng.Gall
end
section
namespace Go.Eng.Gall
open Go.Proofs
noncomputable def E5:a8:=⟨18,[.agg (.G [.int .i64 10,.slcT none (.I .i64 [100,110,60,110,90,95,75,100,120,125,80,110,80,80,70,200]) 4 4 true,.slcT none (.I .i64 [3,1]) 2 1 true]),.int .i64 2],.tup [.agg (.I .i64 [2,3]),.int .i64 0]⟩
theorem Lp:aj Tryd.prog E5:=az xE (H':=[⟨true,[]⟩]) (by kernel_rfl) (by kernel_rfl)
noncomputable def Gi:List a8:=E5::Gh
theorem xF:∀ e ∈ Gi,aj Tryd.prog e:=aw Lp xE
noncomputable def E6:a8:=⟨56,[.ptrT none (.G [.int .i64 10,.slcT none (.I .i64 [100,110,60,110,90,95,75,100,120,125,80,110,80,80,70,200]) 4 4 true,.slcT none (.I .i64 [3,1]) 2 1 true,.int .i64 0,.int .i64 3,.int .i64 0,.int .i64 1,.int .i64 2,.int .i64 3,.int .i64 0,.int .i64 1,.int .i64 0,.int .i64 0,.int .i64 0,.int .i64 0,.int .i64 0,.int .i64 0,.int .i64 0,.int .i64 0,.int .i64 0,.int .i64 0,.int .i64 0,.int .i64 0,.int .u64 0,.int .u64 8,.int .u64 0,.int .u64 0,.int .u64 0,.int .u64 0,.int .u64 0,.int .u64 0,.int .u64 0,.int .u64 0]) 0],.agg (.I .i64 [0,3,1,1,2,3,0,0,0,0,0,0,0,0,0,0,0,0,0,0])⟩
theorem Lq:aj Tryd.prog E6:=az xF (H':=[⟨true,[]⟩]) (by kernel_rfl) (by kernel_rfl)
noncomputable def Gj:List a8:=E6::Gi
theorem xG:∀ e ∈ Gj,aj Tryd.prog e:=aw Lq xF
noncomputable def E7:a8:=⟨20,[.agg (.G [.int .i64 10,.slcT none (.I .i64 [100,110,60,110,90,95,75,100,120,125,80,110,80,80,70,200]) 4 4 true,.slcT none (.I .i64 [3,1]) 2 1 true]),.int .i64 1],.tup [.agg (.I .i64 [1,1]),.int .i64 0]⟩
theorem Lr:aj Tryd.prog E7:=az xG (H':=[⟨true,[]⟩]) (by kernel_rfl) (by kernel_rfl)
noncomputable def Gl:List a8:=E7::Gj
theorem xH:∀ e ∈ Gl,aj Tryd.prog e:=aw Lr xG
noncomputable def E8:a8:=⟨49,[.agg (.G [.int .i64 10,.slcT none (.I .i64 [100,110,60,110,90,95,75,100,120,125,80,110,80,80,70,200]) 4 4 true,.slcT none (.I .i64 [3,1]) 2 1 true]),.nils],.tup [.ptrT none (.G [.int .i64 10,.slcT none (.I .i64 [100,110,60,110,90,95,75,100,120,125,80,110,80,80,70,200]) 4 4 true,.slcT none (.I .i64 [3,1]) 2 1 true,.int .i64 0,.int .i64 3,.int .i64 0,.int .i64 1,.int .i64 2,.int .i64 3,.int .i64 0,.int .i64 1,.int .i64 0,.int .i64 0,.int .i64 0,.int .i64 0,.int .i64 0,.int .i64 0,.int .i64 0,.int .i64 0,.int .i64 0,.int .i64 0,.int .i64 0,.int .i64 0,.int .u64 0,.int .u64 8,.int .u64 0,.int .u64 0,.int .u64 0,.int .u64 0,.int .u64 0,.int .u64 0,.int .u64 0,.int .u64 0]) 0,.int .i64 0]⟩
theorem Ls:aj Tryd.prog E8:=az xH (H':=[⟨true,[]⟩]) (by kernel_rfl) (by kernel_rfl)
noncomputable def Gm:List a8:=E8::Gl
theorem xI:∀ e ∈ Gm,aj Tryd.prog e:=aw Ls xH
end Go.Eng.Gall
end
section
namespace Go.Eng.Gall
open Go.Proofs
noncomputable def E9:a8:=⟨65,[.ptrT none (.G [.int .i64 10,.slcT none (.I .i64 [100,110,60,110,90,95,75,100,120,125,80,110,80,80,70,200]) 4 4 true,.slcT none (.I .i64 [3,1]) 2 1 true,.int .i64 0,.int .i64 3,.int .i64 0,.int .i64 1,.int .i64 2,.int .i64 3,.int .i64 0,.int .i64 1,.int .i64 0,.int .i64 0,.int .i64 0,.int .i64 0,.int .i64 0,.int .i64 0,.int .i64 0,.int .i64 0,.int .i64 0,.int .i64 0,.int .i64 0,.int .i64 0,.int .u64 0,.int .u64 8,.int .u64 0,.int .u64 0,.int .u64 0,.int .u64 0,.int .u64 0,.int .u64 0,.int .u64 0,.int .u64 0]) 0],.tup [.agg (.G [.int .i64 0,.int .i64 0,.nils]),.bool false]⟩
theorem Lt:aj Tryd.prog E9:=az xI (H':=[⟨true,[]⟩]) (by kernel_rfl) (by kernel_rfl)
noncomputable def Gn:List a8:=E9::Gm
theorem xJ:∀ e ∈ Gn,aj Tryd.prog e:=aw Lt xI
noncomputable def IJ:a8:=⟨56,[.ptrT none (.G [.int .i64 10,.slcT none (.I .i64 [100,110,60,110,90,95,75,100,120,125,80,110,80,80,70,200]) 4 4 true,.slcT none (.I .i64 [3,1]) 2 1 true,.int .i64 0,.int .i64 0,.int .i64 0,.int .i64 1,.int .i64 2,.int .i64 3,.int .i64 0,.int .i64 1,.int .i64 0,.int .i64 0,.int .i64 0,.int .i64 0,.int .i64 0,.int .i64 0,.int .i64 0,.int .i64 0,.int .i64 0,.int .i64 0,.int .i64 0,.int .i64 0,.int .u64 0,.int .u64 8,.int .u64 0,.int .u64 0,.int .u64 0,.int .u64 0,.int .u64 0,.int .u64 0,.int .u64 0,.int .u64 0]) 0],.agg (.I .i64 [0,0,1,1,2,3,0,0,0,0,0,0,0,0,0,0,0,0,0,0])⟩
theorem HD:aj Tryd.prog IJ:=az xJ (H':=[⟨true,[]⟩]) (by kernel_rfl) (by kernel_rfl)
noncomputable def CR:List a8:=IJ::Gn
theorem uo:∀ e ∈ CR,aj Tryd.prog e:=aw HD xJ
noncomputable def IK:a8:=⟨65,[.ptrT none (.G [.int .i64 10,.slcT none (.I .i64 [100,110,60,110,90,95,75,100,120,125,80,110,80,80,70,200]) 4 4 true,.slcT none (.I .i64 [3,1]) 2 1 true,.int .i64 0,.int .i64 0,.int .i64 0,.int .i64 1,.int .i64 2,.int .i64 3,.int .i64 0,.int .i64 1,.int .i64 0,.int .i64 0,.int .i64 0,.int .i64 0,.int .i64 0,.int .i64 0,.int .i64 0,.int .i64 0,.int .i64 0,.int .i64 0,.int .i64 0,.int .i64 0,.int .u64 0,.int .u64 8,.int .u64 0,.int .u64 0,.int .u64 0,.int .u64 0,.int .u64 0,.int .u64 0,.int .u64 0,.int .u64 0]) 0],.tup [.agg (.G [.int .i64 0,.int .i64 0,.slcT none (.I .i64 [0,3]) 1 2 false]),.bool true]⟩
theorem HF:aj Tryd.prog IK:=az uo (H':=[⟨true,[]⟩]) (by kernel_rfl) (by kernel_rfl)
noncomputable def CT:List a8:=IK::CR
theorem uq:∀ e ∈ CT,aj Tryd.prog e:=aw HF uo
noncomputable def IL:a8:=⟨56,[.ptrT none (.G [.int .i64 10,.slcT none (.I .i64 [100,110,60,110,90,95,75,100,120,125,80,110,80,80,70,200]) 4 4 true,.slcT none (.I .i64 [3,1]) 2 1 true,.int .i64 0,.int .i64 3,.int .i64 0,.int .i64 1,.int .i64 2,.int .i64 3,.int .i64 0,.int .i64 0,.int .i64 0,.int .i64 0,.int .i64 0,.int .i64 0,.int .i64 0,.int .i64 0,.int .i64 0,.int .i64 0,.int .i64 0,.int .i64 0,.int .i64 0,.int .i64 0,.int .u64 0,.int .u64 8,.int .u64 0,.int .u64 0,.int .u64 0,.int .u64 0,.int .u64 0,.int .u64 0,.int .u64 0,.int .u64 0]) 0],.agg (.I .i64 [0,3,1,1,2,3,0,0,0,0,0,0,0,0,0,0,0,0,0,0])⟩
theorem HG:aj Tryd.prog IL:=az uq (H':=[⟨true,[]⟩]) (by kernel_rfl) (by kernel_rfl)
noncomputable def CU:List a8:=IL::CT
theorem ur:∀ e ∈ CU,aj Tryd.prog e:=aw HG uq
end Go.Eng.Gall
end
section
namespace Go.Eng.Gall
open Go.Proofs
noncomputable def IM:a8:=⟨65,[.ptrT none (.G [.int .i64 10,.slcT none (.I .i64 [100,110,60,110,90,95,75,100,120,125,80,110,80,80,70,200]) 4 4 true,.slcT none (.I .i64 [3,1]) 2 1 true,.int .i64 0,.int .i64 3,.int .i64 0,.int .i64 1,.int .i64 2,.int .i64 3,.int .i64 0,.int .i64 0,.int .i64 0,.int .i64 0,.int .i64 0,.int .i64 0,.int .i64 0,.int .i64 0,.int .i64 0,.int .i64 0,.int .i64 0,.int .i64 0,.int .i64 0,.int .i64 0,.int .u64 0,.int .u64 8,.int .u64 0,.int .u64 0,.int .u64 0,.int .u64 0,.int .u64 0,.int .u64 0,.int .u64 0,.int .u64 0]) 0],.tup [.agg (.G [.int .i64 0,.int .i64 0,.nils]),.bool false]⟩
theorem HH:aj Tryd.prog IM:=az ur (H':=[⟨true,[]⟩]) (by kernel_rfl) (by kernel_rfl)
noncomputable def CV:List a8:=IM::CU
theorem uu:∀ e ∈ CV,aj Tryd.prog e:=aw HH ur
noncomputable def IN:a8:=⟨56,[.ptrT none (.G [.int .i64 10,.slcT none (.I .i64 [100,110,60,110,90,95,75,100,120,125,80,110,80,80,70,200]) 4 4 true,.slcT none (.I .i64 [3,1]) 2 1 true,.int .i64 1,.int .i64 1,.int .i64 0,.int .i64 1,.int .i64 2,.int .i64 3,.int .i64 0,.int .i64 0,.int .i64 0,.int .i64 0,.int .i64 0,.int .i64 0,.int .i64 0,.int .i64 0,.int .i64 0,.int .i64 0,.int .i64 0,.int .i64 0,.int .i64 0,.int .i64 0,.int .u64 0,.int .u64 8,.int .u64 0,.int .u64 0,.int .u64 0,.int .u64 0,.int .u64 0,.int .u64 0,.int .u64 0,.int .u64 0]) 0],.agg (.I .i64 [1,1,1,1,2,3,0,0,0,0,0,0,0,0,0,0,0,0,0,0])⟩
theorem HI:aj Tryd.prog IN:=az uu (H':=[⟨true,[]⟩]) (by kernel_rfl) (by kernel_rfl)
noncomputable def CW:List a8:=IN::CV
theorem uv:∀ e ∈ CW,aj Tryd.prog e:=aw HI uu
noncomputable def IP:a8:=⟨65,[.ptrT none (.G [.int .i64 10,.slcT none (.I .i64 [100,110,60,110,90,95,75,100,120,125,80,110,80,80,70,200]) 4 4 true,.slcT none (.I .i64 [3,1]) 2 1 true,.int .i64 1,.int .i64 1,.int .i64 0,.int .i64 1,.int .i64 2,.int .i64 3,.int .i64 0,.int .i64 0,.int .i64 0,.int .i64 0,.int .i64 0,.int .i64 0,.int .i64 0,.int .i64 0,.int .i64 0,.int .i64 0,.int .i64 0,.int .i64 0,.int .i64 0,.int .i64 0,.int .u64 0,.int .u64 8,.int .u64 0,.int .u64 0,.int .u64 0,.int .u64 0,.int .u64 0,.int .u64 0,.int .u64 0,.int .u64 0]) 0],.tup [.agg (.G [.int .i64 0,.int .i64 1,.slcT none (.I .i64 [0,1,3]) 1 3 false]),.bool true]⟩
theorem HJ:aj Tryd.prog IP:=az uv (H':=[⟨true,[]⟩]) (by kernel_rfl) (by kernel_rfl)
noncomputable def CX:List a8:=IP::CW
theorem uw:∀ e ∈ CX,aj Tryd.prog e:=aw HJ uv
noncomputable def IQ:a8:=⟨56,[.ptrT none (.G [.int .i64 10,.slcT none (.I .i64 [100,110,60,110,90,95,75,100,120,125,80,110,80,80,70,200]) 4 4 true,.slcT none (.I .i64 [3,1]) 2 1 true,.int .i64 0,.int .i64 3,.int .i64 1,.int .i64 1,.int .i64 2,.int .i64 3,.int .i64 0,.int .i64 0,.int .i64 0,.int .i64 0,.int .i64 0,.int .i64 0,.int .i64 0,.int .i64 0,.int .i64 0,.int .i64 0,.int .i64 0,.int .i64 0,.int .i64 0,.int .i64 0,.int .u64 0,.int .u64 8,.int .u64 0,.int .u64 0,.int .u64 0,.int .u64 0,.int .u64 0,.int .u64 0,.int .u64 0,.int .u64 0]) 0],.agg (.I .i64 [0,3,1,1,2,3,0,0,0,0,0,0,0,0,0,0,0,0,0,0])⟩
theorem HK:aj Tryd.prog IQ:=az uw (H':=[⟨true,[]⟩]) (by kernel_rfl) (by kernel_rfl)
noncomputable def CY:List a8:=IQ::CX
theorem ux:∀ e ∈ CY,aj Tryd.prog e:=aw HK uw
end Go.Eng.Gall
end
section
namespace Go.Eng.Gall
open Go.Proofs
noncomputable def IS:a8:=⟨65,[.ptrT none (.G [.int .i64 10,.slcT none (.I .i64 [100,110,60,110,90,95,75,100,120,125,80,110,80,80,70,200]) 4 4 true,.slcT none (.I .i64 [3,1]) 2 1 true,.int .i64 0,.int .i64 3,.int .i64 1,.int .i64 1,.int .i64 2,.int .i64 3,.int .i64 0,.int .i64 0,.int .i64 0,.int .i64 0,.int .i64 0,.int .i64 0,.int .i64 0,.int .i64 0,.int .i64 0,.int .i64 0,.int .i64 0,.int .i64 0,.int .i64 0,.int .i64 0,.int .u64 0,.int .u64 8,.int .u64 0,.int .u64 0,.int .u64 0,.int .u64 0,.int .u64 0,.int .u64 0,.int .u64 0,.int .u64 0]) 0],.tup [.agg (.G [.int .i64 0,.int .i64 0,.nils]),.bool false]⟩
theorem HL:aj Tryd.prog IS:=az ux (H':=[⟨true,[]⟩]) (by kernel_rfl) (by kernel_rfl)
noncomputable def CZ:List a8:=IS::CY
theorem uy:∀ e ∈ CZ,aj Tryd.prog e:=aw HL ux
noncomputable def IT:a8:=⟨56,[.ptrT none (.G [.int .i64 10,.slcT none (.I .i64 [100,110,60,110,90,95,75,100,120,125,80,110,80,80,70,200]) 4 4 true,.slcT none (.I .i64 [3,1]) 2 1 true,.int .i64 2,.int .i64 2,.int .i64 1,.int .i64 1,.int .i64 2,.int .i64 3,.int .i64 0,.int .i64 0,.int .i64 0,.int .i64 0,.int .i64 0,.int .i64 0,.int .i64 0,.int .i64 0,.int .i64 0,.int .i64 0,.int .i64 0,.int .i64 0,.int .i64 0,.int .i64 0,.int .u64 0,.int .u64 8,.int .u64 0,.int .u64 0,.int .u64 0,.int .u64 0,.int .u64 0,.int .u64 0,.int .u64 0,.int .u64 0]) 0],.agg (.I .i64 [2,2,1,1,2,3,0,0,0,0,0,0,0,0,0,0,0,0,0,0])⟩
theorem HM:aj Tryd.prog IT:=az uy (H':=[⟨true,[]⟩]) (by kernel_rfl) (by kernel_rfl)
noncomputable def C0:List a8:=IT::CZ
theorem uz:∀ e ∈ C0,aj Tryd.prog e:=aw HM uy
noncomputable def IU:a8:=⟨65,[.ptrT none (.G [.int .i64 10,.slcT none (.I .i64 [100,110,60,110,90,95,75,100,120,125,80,110,80,80,70,200]) 4 4 true,.slcT none (.I .i64 [3,1]) 2 1 true,.int .i64 2,.int .i64 2,.int .i64 1,.int .i64 1,.int .i64 2,.int .i64 3,.int .i64 0,.int .i64 0,.int .i64 0,.int .i64 0,.int .i64 0,.int .i64 0,.int .i64 0,.int .i64 0,.int .i64 0,.int .i64 0,.int .i64 0,.int .i64 0,.int .i64 0,.int .i64 0,.int .u64 0,.int .u64 8,.int .u64 0,.int .u64 0,.int .u64 0,.int .u64 0,.int .u64 0,.int .u64 0,.int .u64 0,.int .u64 0]) 0],.tup [.agg (.G [.int .i64 0,.int .i64 0,.nils]),.bool false]⟩
theorem HN:aj Tryd.prog IU:=az uz (H':=[⟨true,[]⟩]) (by kernel_rfl) (by kernel_rfl)
noncomputable def C3:List a8:=IU::C0
theorem uA:∀ e ∈ C3,aj Tryd.prog e:=aw HN uz
noncomputable def IV:a8:=⟨56,[.ptrT none (.G [.int .i64 10,.slcT none (.I .i64 [100,110,60,110,90,95,75,100,120,125,80,110,80,80,70,200]) 4 4 true,.slcT none (.I .i64 [3,1]) 2 1 true,.int .i64 2,.int .i64 2,.int .i64 1,.int .i64 1,.int .i64 3,.int .i64 3,.int .i64 0,.int .i64 0,.int .i64 0,.int .i64 0,.int .i64 0,.int .i64 0,.int .i64 0,.int .i64 0,.int .i64 0,.int .i64 0,.int .i64 0,.int .i64 0,.int .i64 0,.int .i64 0,.int .u64 0,.int .u64 8,.int .u64 0,.int .u64 0,.int .u64 0,.int .u64 0,.int .u64 0,.int .u64 0,.int .u64 0,.int .u64 0]) 0],.agg (.I .i64 [2,2,1,1,3,3,0,0,0,0,0,0,0,0,0,0,0,0,0,0])⟩
theorem HO:aj Tryd.prog IV:=az uA (H':=[⟨true,[]⟩]) (by kernel_rfl) (by kernel_rfl)
noncomputable def C4:List a8:=IV::C3
theorem uB:∀ e ∈ C4,aj Tryd.prog e:=aw HO uA
end Go.Eng.Gall
end
section
namespace Go.Eng.Gall
open Go.Proofs
noncomputable def IW:a8:=⟨65,[.ptrT none (.G [.int .i64 10,.slcT none (.I .i64 [100,110,60,110,90,95,75,100,120,125,80,110,80,80,70,200]) 4 4 true,.slcT none (.I .i64 [3,1]) 2 1 true,.int .i64 2,.int .i64 2,.int .i64 1,.int .i64 1,.int .i64 3,.int .i64 3,.int .i64 0,.int .i64 0,.int .i64 0,.int .i64 0,.int .i64 0,.int .i64 0,.int .i64 0,.int .i64 0,.int .i64 0,.int .i64 0,.int .i64 0,.int .i64 0,.int .i64 0,.int .i64 0,.int .u64 0,.int .u64 8,.int .u64 0,.int .u64 0,.int .u64 0,.int .u64 0,.int .u64 0,.int .u64 0,.int .u64 0,.int .u64 0]) 0],.tup [.agg (.G [.int .i64 0,.int .i64 0,.nils]),.bool false]⟩
theorem HP:aj Tryd.prog IW:=az uB (H':=[⟨true,[]⟩]) (by kernel_rfl) (by kernel_rfl)
noncomputable def C5:List a8:=IW::C4
theorem uC:∀ e ∈ C5,aj Tryd.prog e:=aw HP uB
noncomputable def IX:a8:=⟨74,[.ptrT none (.G [.int .i64 10,.slcT none (.I .i64 [100,110,60,110,90,95,75,100,120,125,80,110,80,80,70,200]) 4 4 true,.slcT none (.I .i64 [3,1]) 2 1 true,.int .i64 0,.int .i64 3,.int .i64 0,.int .i64 1,.int .i64 2,.int .i64 3,.int .i64 0,.int .i64 1,.int .i64 0,.int .i64 0,.int .i64 0,.int .i64 0,.int .i64 0,.int .i64 0,.int .i64 0,.int .i64 0,.int .i64 0,.int .i64 0,.int .i64 0,.int .i64 0,.int .u64 0,.int .u64 8,.int .u64 0,.int .u64 0,.int .u64 0,.int .u64 0,.int .u64 0,.int .u64 0,.int .u64 0,.int .u64 0]) 0],.slcT none (.I .i64 [3,1,0,2]) 1 4 false⟩
theorem HQ:aj Tryd.prog IX:=az uC (H':=[⟨true,[]⟩]) (by kernel_rfl) (by kernel_rfl)
noncomputable def C6:List a8:=IX::C5
theorem uD:∀ e ∈ C6,aj Tryd.prog e:=aw HQ uC
noncomputable def IY:a8:=⟨38,[.agg (.G [.int .i64 10,.slcT none (.I .i64 [100,110,60,110,90,95,75,100,120,125,80,110,80,80,70,200]) 4 4 true,.slcT none (.I .i64 [3,1]) 2 1 true])],.tup [.slcT none (.I .i64 [3,1,0,2]) 1 4 true,.int .i64 0]⟩
theorem HR:aj Tryd.prog IY:=az uD (H':=[⟨true,[]⟩]) (by kernel_rfl) (by kernel_rfl)
noncomputable def C7:List a8:=IY::C6
theorem uE:∀ e ∈ C7,aj Tryd.prog e:=aw HR uD
noncomputable def IZ:a8:=⟨22,[.agg (.G [.int .i64 10,.slcT none (.I .i64 [100,110,90,110,90,95,75,100,120,125,80,110,80,80,70,200]) 4 4 true,.slcT none (.I .i64 [3,1]) 2 1 true])],.int .i64 0⟩
theorem HS:aj Tryd.prog IZ:=az uE (H':=[⟨true,[]⟩]) (by kernel_rfl) (by kernel_rfl)
noncomputable def C8:List a8:=IZ::C7
theorem uF:∀ e ∈ C8,aj Tryd.prog e:=aw HS uE
end Go.Eng.Gall
end
section
namespace Go.Eng.Gall
open Go.Proofs
noncomputable def I0:a8:=⟨49,[.agg (.G [.int .i64 10,.slcT none (.I .i64 [100,110,90,110,90,95,75,100,120,125,80,110,80,80,70,200]) 4 4 true,.slcT none (.I .i64 [3,1]) 2 1 true]),.nils],.tup [.ptrT none (.G [.int .i64 10,.slcT none (.I .i64 [100,110,90,110,90,95,75,100,120,125,80,110,80,80,70,200]) 4 4 true,.slcT none (.I .i64 [3,1]) 2 1 true,.int .i64 0,.int .i64 1,.int .i64 0,.int .i64 1,.int .i64 2,.int .i64 3,.int .i64 0,.int .i64 1,.int .i64 0,.int .i64 0,.int .i64 0,.int .i64 0,.int .i64 0,.int .i64 0,.int .i64 0,.int .i64 0,.int .i64 0,.int .i64 0,.int .i64 0,.int .i64 0,.int .u64 0,.int .u64 8,.int .u64 0,.int .u64 0,.int .u64 0,.int .u64 0,.int .u64 0,.int .u64 0,.int .u64 0,.int .u64 0]) 0,.int .i64 0]⟩
theorem HT:aj Tryd.prog I0:=az uF (H':=[⟨true,[]⟩]) (by kernel_rfl) (by kernel_rfl)
noncomputable def C9:List a8:=I0::C8
theorem uG:∀ e ∈ C9,aj Tryd.prog e:=aw HT uF
noncomputable def I1:a8:=⟨56,[.ptrT none (.G [.int .i64 10,.slcT none (.I .i64 [100,110,90,110,90,95,75,100,120,125,80,110,80,80,70,200]) 4 4 true,.slcT none (.I .i64 [3,1]) 2 1 true,.int .i64 0,.int .i64 1,.int .i64 0,.int .i64 1,.int .i64 2,.int .i64 3,.int .i64 0,.int .i64 1,.int .i64 0,.int .i64 0,.int .i64 0,.int .i64 0,.int .i64 0,.int .i64 0,.int .i64 0,.int .i64 0,.int .i64 0,.int .i64 0,.int .i64 0,.int .i64 0,.int .u64 0,.int .u64 8,.int .u64 0,.int .u64 0,.int .u64 0,.int .u64 0,.int .u64 0,.int .u64 0,.int .u64 0,.int .u64 0]) 0],.agg (.I .i64 [0,1,1,1,2,3,0,0,0,0,0,0,0,0,0,0,0,0,0,0])⟩
theorem HU:aj Tryd.prog I1:=az uG (H':=[⟨true,[]⟩]) (by kernel_rfl) (by kernel_rfl)
noncomputable def Da:List a8:=I1::C9
theorem uH:∀ e ∈ Da,aj Tryd.prog e:=aw HU uG
noncomputable def I2:a8:=⟨65,[.ptrT none (.G [.int .i64 10,.slcT none (.I .i64 [100,110,90,110,90,95,75,100,120,125,80,110,80,80,70,200]) 4 4 true,.slcT none (.I .i64 [3,1]) 2 1 true,.int .i64 0,.int .i64 1,.int .i64 0,.int .i64 1,.int .i64 2,.int .i64 3,.int .i64 0,.int .i64 1,.int .i64 0,.int .i64 0,.int .i64 0,.int .i64 0,.int .i64 0,.int .i64 0,.int .i64 0,.int .i64 0,.int .i64 0,.int .i64 0,.int .i64 0,.int .i64 0,.int .u64 0,.int .u64 8,.int .u64 0,.int .u64 0,.int .u64 0,.int .u64 0,.int .u64 0,.int .u64 0,.int .u64 0,.int .u64 0]) 0],.tup [.agg (.G [.int .i64 0,.int .i64 1,.slcT none (.I .i64 [0,1,3]) 1 3 false]),.bool true]⟩
theorem HW:aj Tryd.prog I2:=az uH (H':=[⟨true,[]⟩]) (by kernel_rfl) (by kernel_rfl)
noncomputable def Db:List a8:=I2::Da
theorem uI:∀ e ∈ Db,aj Tryd.prog e:=aw HW uH
noncomputable def I3:a8:=⟨74,[.ptrT none (.G [.int .i64 10,.slcT none (.I .i64 [100,110,90,110,90,95,75,100,120,125,80,110,80,80,70,200]) 4 4 true,.slcT none (.I .i64 [3,1]) 2 1 true,.int .i64 0,.int .i64 1,.int .i64 0,.int .i64 1,.int .i64 2,.int .i64 3,.int .i64 0,.int .i64 1,.int .i64 0,.int .i64 0,.int .i64 0,.int .i64 0,.int .i64 0,.int .i64 0,.int .i64 0,.int .i64 0,.int .i64 0,.int .i64 0,.int .i64 0,.int .i64 0,.int .u64 0,.int .u64 8,.int .u64 0,.int .u64 0,.int .u64 0,.int .u64 0,.int .u64 0,.int .u64 0,.int .u64 0,.int .u64 0]) 0],.nils⟩
theorem H3:aj Tryd.prog I3:=az uI (H':=[⟨true,[]⟩]) (by kernel_rfl) (by kernel_rfl)
noncomputable def Dc:List a8:=I3::Db
theorem uJ:∀ e ∈ Dc,aj Tryd.prog e:=aw H3 uI
end Go.Eng.Gall
end
section
namespace Go.Eng.Gall
open Go.Proofs
noncomputable def I4:a8:=⟨38,[.agg (.G [.int .i64 10,.slcT none (.I .i64 [100,110,90,110,90,95,75,100,120,125,80,110,80,80,70,200]) 4 4 true,.slcT none (.I .i64 [3,1]) 2 1 true])],.tup [.nils,.int .i64 13]⟩
theorem H4:aj Tryd.prog I4:=az uJ (H':=[⟨true,[]⟩]) (by kernel_rfl) (by kernel_rfl)
noncomputable def Dd:List a8:=I4::Dc
theorem uK:∀ e ∈ Dd,aj Tryd.prog e:=aw H4 uJ
noncomputable def I5:a8:=⟨25,[.agg (.G [.int .i64 10,.slcT none (.I .i64 [100,110,90,110,90,95,75,100,120,125,80,110,80,80,70,200]) 4 4 true,.slcT none (.I .i64 [3,1]) 2 1 true])],.tup [.agg (.G [.int .i64 0,.int .i64 1,.slcT none (.I .i64 [0,1,3]) 1 3 false]),.int .i64 0]⟩
theorem H5:aj Tryd.prog I5:=az uK (H':=[⟨true,[]⟩]) (by kernel_rfl) (by kernel_rfl)
noncomputable def De:List a8:=I5::Dd
theorem uL:∀ e ∈ De,aj Tryd.prog e:=aw H5 uK
noncomputable def I6:a8:=⟨56,[.ptrT none (.G [.int .i64 10,.slcT none (.I .i64 [100,110,60,110,90,95,75,100,120,125,80,110,80,80,70,200]) 4 4 true,.slcT none (.I .i64 [3,1]) 2 1 true,.int .i64 1,.int .i64 1,.int .i64 0,.int .i64 1,.int .i64 2,.int .i64 3,.int .i64 0,.int .i64 1,.int .i64 0,.int .i64 0,.int .i64 0,.int .i64 0,.int .i64 0,.int .i64 0,.int .i64 0,.int .i64 0,.int .i64 0,.int .i64 0,.int .i64 0,.int .i64 0,.int .u64 0,.int .u64 8,.int .u64 0,.int .u64 0,.int .u64 0,.int .u64 0,.int .u64 0,.int .u64 0,.int .u64 0,.int .u64 0]) 0],.agg (.I .i64 [1,1,1,1,2,3,0,0,0,0,0,0,0,0,0,0,0,0,0,0])⟩
theorem H6:aj Tryd.prog I6:=az uL (H':=[⟨true,[]⟩]) (by kernel_rfl) (by kernel_rfl)
noncomputable def Df:List a8:=I6::De
theorem uM:∀ e ∈ Df,aj Tryd.prog e:=aw H6 uL
noncomputable def I7:a8:=⟨65,[.ptrT none (.G [.int .i64 10,.slcT none (.I .i64 [100,110,60,110,90,95,75,100,120,125,80,110,80,80,70,200]) 4 4 true,.slcT none (.I .i64 [3,1]) 2 1 true,.int .i64 1,.int .i64 1,.int .i64 0,.int .i64 1,.int .i64 2,.int .i64 3,.int .i64 0,.int .i64 1,.int .i64 0,.int .i64 0,.int .i64 0,.int .i64 0,.int .i64 0,.int .i64 0,.int .i64 0,.int .i64 0,.int .i64 0,.int .i64 0,.int .i64 0,.int .i64 0,.int .u64 0,.int .u64 8,.int .u64 0,.int .u64 0,.int .u64 0,.int .u64 0,.int .u64 0,.int .u64 0,.int .u64 0,.int .u64 0]) 0],.tup [.agg (.G [.int .i64 0,.int .i64 1,.slcT none (.I .i64 [0,1,3]) 1 3 false]),.bool true]⟩
theorem H7:aj Tryd.prog I7:=az uM (H':=[⟨true,[]⟩]) (by kernel_rfl) (by kernel_rfl)
noncomputable def Dg:List a8:=I7::Df
theorem uN:∀ e ∈ Dg,aj Tryd.prog e:=aw H7 uM
end Go.Eng.Gall
end
section
namespace Go.Eng.Gall
open Go.Proofs
noncomputable def I8:a8:=⟨56,[.ptrT none (.G [.int .i64 10,.slcT none (.I .i64 [100,110,60,110,90,95,75,100,120,125,80,110,80,80,70,200]) 4 4 true,.slcT none (.I .i64 [3,1]) 2 1 true,.int .i64 2,.int .i64 2,.int .i64 0,.int .i64 1,.int .i64 2,.int .i64 3,.int .i64 0,.int .i64 1,.int .i64 0,.int .i64 0,.int .i64 0,.int .i64 0,.int .i64 0,.int .i64 0,.int .i64 0,.int .i64 0,.int .i64 0,.int .i64 0,.int .i64 0,.int .i64 0,.int .u64 0,.int .u64 8,.int .u64 0,.int .u64 0,.int .u64 0,.int .u64 0,.int .u64 0,.int .u64 0,.int .u64 0,.int .u64 0]) 0],.agg (.I .i64 [2,2,1,1,2,3,0,0,0,0,0,0,0,0,0,0,0,0,0,0])⟩
theorem H8:aj Tryd.prog I8:=az uN (H':=[⟨true,[]⟩]) (by kernel_rfl) (by kernel_rfl)
noncomputable def Dh:List a8:=I8::Dg
theorem uO:∀ e ∈ Dh,aj Tryd.prog e:=aw H8 uN
noncomputable def I9:a8:=⟨65,[.ptrT none (.G [.int .i64 10,.slcT none (.I .i64 [100,110,60,110,90,95,75,100,120,125,80,110,80,80,70,200]) 4 4 true,.slcT none (.I .i64 [3,1]) 2 1 true,.int .i64 2,.int .i64 2,.int .i64 0,.int .i64 1,.int .i64 2,.int .i64 3,.int .i64 0,.int .i64 1,.int .i64 0,.int .i64 0,.int .i64 0,.int .i64 0,.int .i64 0,.int .i64 0,.int .i64 0,.int .i64 0,.int .i64 0,.int .i64 0,.int .i64 0,.int .i64 0,.int .u64 0,.int .u64 8,.int .u64 0,.int .u64 0,.int .u64 0,.int .u64 0,.int .u64 0,.int .u64 0,.int .u64 0,.int .u64 0]) 0],.tup [.agg (.G [.int .i64 0,.int .i64 0,.nils]),.bool false]⟩
theorem H9:aj Tryd.prog I9:=az uO (H':=[⟨true,[]⟩]) (by kernel_rfl) (by kernel_rfl)
noncomputable def Di:List a8:=I9::Dh
theorem uP:∀ e ∈ Di,aj Tryd.prog e:=aw H9 uO
noncomputable def Ja:a8:=⟨56,[.ptrT none (.G [.int .i64 10,.slcT none (.I .i64 [100,110,60,110,90,95,75,100,120,125,80,110,80,80,70,200]) 4 4 true,.slcT none (.I .i64 [3,1]) 2 1 true,.int .i64 3,.int .i64 3,.int .i64 0,.int .i64 1,.int .i64 2,.int .i64 3,.int .i64 0,.int .i64 1,.int .i64 0,.int .i64 0,.int .i64 0,.int .i64 0,.int .i64 0,.int .i64 0,.int .i64 0,.int .i64 0,.int .i64 0,.int .i64 0,.int .i64 0,.int .i64 0,.int .u64 0,.int .u64 8,.int .u64 0,.int .u64 0,.int .u64 0,.int .u64 0,.int .u64 0,.int .u64 0,.int .u64 0,.int .u64 0]) 0],.agg (.I .i64 [3,3,1,1,2,3,0,0,0,0,0,0,0,0,0,0,0,0,0,0])⟩
theorem Ia:aj Tryd.prog Ja:=az uP (H':=[⟨true,[]⟩]) (by kernel_rfl) (by kernel_rfl)
noncomputable def Dj:List a8:=Ja::Di
theorem uQ:∀ e ∈ Dj,aj Tryd.prog e:=aw Ia uP
noncomputable def Jb:a8:=⟨65,[.ptrT none (.G [.int .i64 10,.slcT none (.I .i64 [100,110,60,110,90,95,75,100,120,125,80,110,80,80,70,200]) 4 4 true,.slcT none (.I .i64 [3,1]) 2 1 true,.int .i64 3,.int .i64 3,.int .i64 0,.int .i64 1,.int .i64 2,.int .i64 3,.int .i64 0,.int .i64 1,.int .i64 0,.int .i64 0,.int .i64 0,.int .i64 0,.int .i64 0,.int .i64 0,.int .i64 0,.int .i64 0,.int .i64 0,.int .i64 0,.int .i64 0,.int .i64 0,.int .u64 0,.int .u64 8,.int .u64 0,.int .u64 0,.int .u64 0,.int .u64 0,.int .u64 0,.int .u64 0,.int .u64 0,.int .u64 0]) 0],.tup [.agg (.G [.int .i64 0,.int .i64 0,.nils]),.bool false]⟩
theorem Ib:aj Tryd.prog Jb:=az uQ (H':=[⟨true,[]⟩]) (by kernel_rfl) (by kernel_rfl)
noncomputable def Dk:List a8:=Jb::Dj
theorem uR:∀ e ∈ Dk,aj Tryd.prog e:=aw Ib uQ
end Go.Eng.Gall
end
section
namespace Go.Eng.Gall
open Go.Proofs
noncomputable def Jc:a8:=⟨30,[.agg (.G [.int .i64 10,.slcT none (.I .i64 [100,110,60,110,90,95,75,100,120,125,80,110,80,80,70,200]) 4 4 true,.slcT none (.I .i64 [3,1]) 2 1 true]),.int .i64 0],.tup [.slcT none (.I .i64 [2,3]) 1 2 false,.int .i64 0]⟩
theorem Ic:aj Tryd.prog Jc:=az uR (H':=[⟨true,[]⟩]) (by kernel_rfl) (by kernel_rfl)
noncomputable def Dl:List a8:=Jc::Dk
theorem uS:∀ e ∈ Dl,aj Tryd.prog e:=aw Ic uR
noncomputable def Jd:a8:=⟨56,[.ptrT none (.G [.int .i64 10,.slcT none (.I .i64 [100,110,60,110,90,95,75,100,120,125,80,110,80,80,70,200]) 4 4 true,.slcT none (.I .i64 [3,1]) 2 1 true,.int .i64 0,.int .i64 3,.int .i64 0,.int .i64 1,.int .i64 2,.int .i64 3,.int .i64 0,.int .i64 1,.int .i64 0,.int .i64 0,.int .i64 0,.int .i64 0,.int .i64 0,.int .i64 0,.int .i64 0,.int .i64 0,.int .i64 0,.int .i64 0,.int .i64 0,.int .i64 0,.int .u64 0,.int .u64 9,.int .u64 0,.int .u64 0,.int .u64 0,.int .u64 0,.int .u64 0,.int .u64 0,.int .u64 0,.int .u64 0]) 0],.agg (.I .i64 [0,0,1,1,2,3,0,0,0,0,0,0,0,0,0,0,0,0,0,0])⟩
theorem Ie:aj Tryd.prog Jd:=az uS (H':=[⟨true,[]⟩]) (by kernel_rfl) (by kernel_rfl)
noncomputable def Dm:List a8:=Jd::Dl
theorem uT:∀ e ∈ Dm,aj Tryd.prog e:=aw Ie uS
noncomputable def Je:a8:=⟨65,[.ptrT none (.G [.int .i64 10,.slcT none (.I .i64 [100,110,60,110,90,95,75,100,120,125,80,110,80,80,70,200]) 4 4 true,.slcT none (.I .i64 [3,1]) 2 1 true,.int .i64 0,.int .i64 3,.int .i64 0,.int .i64 1,.int .i64 2,.int .i64 3,.int .i64 0,.int .i64 1,.int .i64 0,.int .i64 0,.int .i64 0,.int .i64 0,.int .i64 0,.int .i64 0,.int .i64 0,.int .i64 0,.int .i64 0,.int .i64 0,.int .i64 0,.int .i64 0,.int .u64 0,.int .u64 9,.int .u64 0,.int .u64 0,.int .u64 0,.int .u64 0,.int .u64 0,.int .u64 0,.int .u64 0,.int .u64 0]) 0],.tup [.agg (.G [.int .i64 0,.int .i64 0,.slcT none (.I .i64 [0,3]) 1 2 false]),.bool true]⟩
theorem Ig:aj Tryd.prog Je:=az uT (H':=[⟨true,[]⟩]) (by kernel_rfl) (by kernel_rfl)
noncomputable def Dn:List a8:=Je::Dm
theorem uU:∀ e ∈ Dn,aj Tryd.prog e:=aw Ig uT
noncomputable def Jf:a8:=⟨32,[.agg (.G [.int .i64 10,.slcT none (.I .i64 [100,110,60,110,90,95,75,100,120,125,80,110,80,80,70,200]) 4 4 true,.slcT none (.I .i64 [3,1]) 2 1 true]),.int .i64 1,.int .i64 0],.tup [.bool true,.int .i64 0]⟩
theorem Ih:aj Tryd.prog Jf:=az uU (H':=[⟨true,[]⟩]) (by kernel_rfl) (by kernel_rfl)
noncomputable def Dp:List a8:=Jf::Dn
theorem AO:∀ e ∈ Dp,aj Tryd.prog e:=aw Ih uU
end Go.Eng.Gall
end
section
namespace Go.Eng.Gall
open Go.Proofs
noncomputable def Jg:a8:=⟨73,[.ptrT none (.G [.int .i64 10,.slcT none (.I .i64 [100,110,60,110,90,95,75,100,120,125,80,110,80,80,70,200]) 4 4 true,.slcT none (.I .i64 [3,1]) 2 1 true,.int .i64 0,.int .i64 3,.int .i64 0,.int .i64 1,.int .i64 2,.int .i64 3,.int .i64 0,.int .i64 1,.int .i64 0,.int .i64 0,.int .i64 0,.int .i64 0,.int .i64 0,.int .i64 0,.int .i64 0,.int .i64 0,.int .i64 0,.int .i64 0,.int .i64 0,.int .i64 0,.int .u64 0,.int .u64 8,.int .u64 0,.int .u64 0,.int .u64 0,.int .u64 0,.int .u64 0,.int .u64 0,.int .u64 0,.int .u64 0]) 0],.int .i64 2⟩
theorem Ii:aj Tryd.prog Jg:=Aj (dr:=10) (lc:=4) (zl:=[100,110,60,110,90,95,75,100,120,125,80,110,80,80,70,200]) (lb:=1) (bl:=[3,1]) (f1:=true) (f2:=true) (Wl:=[0,3,0,1,2,3,0,1,0,0,0,0,0,0,0,0,0,0,0,0]) (Bl:=[0,8,0,0,0,0,0,0,0,0]) (v:=2) rfl (by decide) rfl rfl rfl rfl (by kernel_rfl)
noncomputable def Dq:List a8:=Jg::Dp
theorem uV:∀ e ∈ Dq,aj Tryd.prog e:=aw Ii AO
noncomputable def Jh:a8:=⟨34,[.agg (.G [.int .i64 10,.slcT none (.I .i64 [100,110,60,110,90,95,75,100,120,125,80,110,80,80,70,200]) 4 4 true,.slcT none (.I .i64 [3,1]) 2 1 true])],.tup [.int .i64 2,.int .i64 0]⟩
theorem Ij:aj Tryd.prog Jh:=az uV (H':=[⟨true,[]⟩]) (by kernel_rfl) (by kernel_rfl)
noncomputable def Dr:List a8:=Jh::Dq
theorem uW:∀ e ∈ Dr,aj Tryd.prog e:=aw Ij uV
noncomputable def Ji:a8:=⟨18,[.agg (.G [.int .i64 10,.slcT none (.I .i64 [100,110,60,110,90,95,75,100,120,125,80,110,80,80,70,200]) 4 4 true,.slcT none (.I .i64 [3,1]) 2 1 true]),.int .i64 0],.tup [.agg (.I .i64 [0,3]),.int .i64 0]⟩
theorem Ik:aj Tryd.prog Ji:=az uW (H':=[⟨true,[]⟩]) (by kernel_rfl) (by kernel_rfl)
noncomputable def Ds:List a8:=Ji::Dr
theorem uX:∀ e ∈ Ds,aj Tryd.prog e:=aw Ik uW
noncomputable def Jj:a8:=⟨18,[.agg (.G [.int .i64 10,.slcT none (.I .i64 [100,110,60,110,90,95,75,100,120,125,80,110,80,80,70,200]) 4 4 true,.slcT none (.I .i64 [3,1]) 2 1 true]),.int .i64 1],.tup [.agg (.I .i64 [0,1]),.int .i64 0]⟩
theorem Il:aj Tryd.prog Jj:=az uX (H':=[⟨true,[]⟩]) (by kernel_rfl) (by kernel_rfl)
noncomputable def Dt:List a8:=Jj::Ds
theorem uY:∀ e ∈ Dt,aj Tryd.prog e:=aw Il uX
end Go.Eng.Gall
end
section
namespace Go.Eng.Gall
open Go.Proofs
noncomputable def Jk:a8:=⟨18,[.agg (.G [.int .i64 10,.slcT none (.I .i64 [100,110,60,110,90,95,75,100,120,125,80,110,80,80,70,200]) 4 4 true,.slcT none (.I .i64 [3,1]) 2 1 true]),.int .i64 3],.tup [.agg (.I .i64 [0,1]),.int .i64 0]⟩
theorem Im:aj Tryd.prog Jk:=az uY (H':=[⟨true,[]⟩]) (by kernel_rfl) (by kernel_rfl)
noncomputable def Du:List a8:=Jk::Dt
theorem uZ:∀ e ∈ Du,aj Tryd.prog e:=aw Im uY
noncomputable def Jl:a8:=⟨20,[.agg (.G [.int .i64 10,.slcT none (.I .i64 [100,110,60,110,90,95,75,100,120,125,80,110,80,80,70,200]) 4 4 true,.slcT none (.I .i64 [3,1]) 2 1 true]),.int .i64 3],.tup [.agg (.I .i64 [0,0]),.int .i64 0]⟩
theorem Io:aj Tryd.prog Jl:=az uZ (H':=[⟨true,[]⟩]) (by kernel_rfl) (by kernel_rfl)
noncomputable def Dv:List a8:=Jl::Du
theorem u0:∀ e ∈ Dv,aj Tryd.prog e:=aw Io uZ
noncomputable def Jm:a8:=⟨56,[.ptrT none (.G [.int .i64 10,.slcT none (.I .i64 [100,110,60,110,90,95,75,100,120,125,80,110,80,80,70,200]) 4 4 true,.slcT none (.I .i64 [3,1]) 2 1 true,.int .i64 0,.int .i64 3,.int .i64 0,.int .i64 1,.int .i64 2,.int .i64 3,.int .i64 0,.int .i64 1,.int .i64 0,.int .i64 0,.int .i64 0,.int .i64 0,.int .i64 0,.int .i64 0,.int .i64 0,.int .i64 0,.int .i64 0,.int .i64 0,.int .i64 0,.int .i64 0,.int .u64 4,.int .u64 8,.int .u64 0,.int .u64 0,.int .u64 0,.int .u64 0,.int .u64 0,.int .u64 0,.int .u64 0,.int .u64 0]) 0],.agg (.I .i64 [3,3,1,1,2,2,0,0,0,0,0,0,0,0,0,0,0,0,0,0])⟩
theorem Ip:aj Tryd.prog Jm:=az u0 (H':=[⟨true,[]⟩]) (by kernel_rfl) (by kernel_rfl)
noncomputable def Dw:List a8:=Jm::Dv
theorem u9:∀ e ∈ Dw,aj Tryd.prog e:=aw Ip u0
noncomputable def Jn:a8:=⟨65,[.ptrT none (.G [.int .i64 10,.slcT none (.I .i64 [100,110,60,110,90,95,75,100,120,125,80,110,80,80,70,200]) 4 4 true,.slcT none (.I .i64 [3,1]) 2 1 true,.int .i64 0,.int .i64 3,.int .i64 0,.int .i64 1,.int .i64 2,.int .i64 3,.int .i64 0,.int .i64 1,.int .i64 0,.int .i64 0,.int .i64 0,.int .i64 0,.int .i64 0,.int .i64 0,.int .i64 0,.int .i64 0,.int .i64 0,.int .i64 0,.int .i64 0,.int .i64 0,.int .u64 4,.int .u64 8,.int .u64 0,.int .u64 0,.int .u64 0,.int .u64 0,.int .u64 0,.int .u64 0,.int .u64 0,.int .u64 0]) 0],.tup [.agg (.G [.int .i64 0,.int .i64 0,.nils]),.bool false]⟩
theorem Iq:aj Tryd.prog Jn:=az u9 (H':=[⟨true,[]⟩]) (by kernel_rfl) (by kernel_rfl)
noncomputable def Dx:List a8:=Jn::Dw
theorem vc:∀ e ∈ Dx,aj Tryd.prog e:=aw Iq u9
end Go.Eng.Gall
end
section
namespace Go.Eng.Gall
open Go.Proofs
noncomputable def Jo:a8:=⟨32,[.agg (.G [.int .i64 10,.slcT none (.I .i64 [100,110,60,110,90,95,75,100,120,125,80,110,80,80,70,200]) 4 4 true,.slcT none (.I .i64 [3,1]) 2 1 true]),.int .i64 0,.int .i64 2],.tup [.bool false,.int .i64 0]⟩
theorem Ir:aj Tryd.prog Jo:=az vc (H':=[⟨true,[]⟩]) (by kernel_rfl) (by kernel_rfl)
noncomputable def Dy:List a8:=Jo::Dx
theorem AP:∀ e ∈ Dy,aj Tryd.prog e:=aw Ir vc
noncomputable def Jp:a8:=⟨73,[.ptrT none (.G [.int .i64 10,.slcT none (.I .i64 [100,110,90,110,90,95,75,100,120,125,80,110,80,80,70,200]) 4 4 true,.slcT none (.I .i64 [3,1]) 2 1 true,.int .i64 0,.int .i64 1,.int .i64 0,.int .i64 1,.int .i64 2,.int .i64 3,.int .i64 0,.int .i64 1,.int .i64 0,.int .i64 0,.int .i64 0,.int .i64 0,.int .i64 0,.int .i64 0,.int .i64 0,.int .i64 0,.int .i64 0,.int .i64 0,.int .i64 0,.int .i64 0,.int .u64 0,.int .u64 8,.int .u64 0,.int .u64 0,.int .u64 0,.int .u64 0,.int .u64 0,.int .u64 0,.int .u64 0,.int .u64 0]) 0],.int .i64 0⟩
theorem Is:aj Tryd.prog Jp:=Aj (dr:=10) (lc:=4) (zl:=[100,110,90,110,90,95,75,100,120,125,80,110,80,80,70,200]) (lb:=1) (bl:=[3,1]) (f1:=true) (f2:=true) (Wl:=[0,1,0,1,2,3,0,1,0,0,0,0,0,0,0,0,0,0,0,0]) (Bl:=[0,8,0,0,0,0,0,0,0,0]) (v:=0) rfl (by decide) rfl rfl rfl rfl (by kernel_rfl)
noncomputable def Dz:List a8:=Jp::Dy
theorem ve:∀ e ∈ Dz,aj Tryd.prog e:=aw Is AP
noncomputable def Jq:a8:=⟨34,[.agg (.G [.int .i64 10,.slcT none (.I .i64 [100,110,90,110,90,95,75,100,120,125,80,110,80,80,70,200]) 4 4 true,.slcT none (.I .i64 [3,1]) 2 1 true])],.tup [.int .i64 0,.int .i64 0]⟩
theorem It:aj Tryd.prog Jq:=az ve (H':=[⟨true,[]⟩]) (by kernel_rfl) (by kernel_rfl)
noncomputable def DA:List a8:=Jq::Dz
theorem vf:∀ e ∈ DA,aj Tryd.prog e:=aw It ve
noncomputable def Jr:a8:=⟨25,[.agg (.G [.int .i64 10,.slcT none (.I .i64 [100,110,60,110,90,95,75,100,120,125,80,110,80,80,70,200]) 4 4 true,.slcT none (.I .i64 [3,1]) 2 1 true])],.tup [.agg (.G [.int .i64 0,.int .i64 0,.nils]),.int .i64 5]⟩
theorem Iu:aj Tryd.prog Jr:=az vf (H':=[⟨true,[]⟩]) (by kernel_rfl) (by kernel_rfl)
noncomputable def DB:List a8:=Jr::DA
theorem vg:∀ e ∈ DB,aj Tryd.prog e:=aw Iu vf
end Go.Eng.Gall
end
section
namespace Go.Eng.Gall
open Go.Proofs
noncomputable def Js:a8:=⟨30,[.agg (.G [.int .i64 10,.slcT none (.I .i64 [100,110,90,110,90,95,75,100,120,125,80,110,80,80,70,200]) 4 4 true,.slcT none (.I .i64 [3,1]) 2 1 true]),.int .i64 0],.tup [.nils,.int .i64 13]⟩
theorem Iv:aj Tryd.prog Js:=az vg (H':=[⟨true,[]⟩]) (by kernel_rfl) (by kernel_rfl)
noncomputable def DC:List a8:=Js::DB
theorem vh:∀ e ∈ DC,aj Tryd.prog e:=aw Iv vg
end Go.Eng.Gall
end
section
namespace Go.Eng.Gall
open Go.Proofs
noncomputable def EW:a8:=⟨15,[],.bool true⟩
theorem F9:aj Tryd.prog EW:=az vh (H':=[⟨true,[]⟩]) (by kernel_rfl) (by kernel_rfl)
noncomputable def ID:List a8:=EW::DC
theorem CA:∀ e ∈ ID,aj Tryd.prog e:=aw F9 vh
theorem tb (w:World) (hg:qB w):Calls Tryd.prog 13 #[] w (fun e w'=>e=.returned (.bool true)∧Go.RowKit.Below w.heap.size w w'):=y9 CA (H':=[⟨true,[]⟩]) (by kernel_rfl) w hg
end Go.Eng.Gall
end
