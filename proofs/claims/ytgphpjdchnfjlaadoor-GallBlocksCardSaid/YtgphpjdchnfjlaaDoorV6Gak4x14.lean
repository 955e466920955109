/- Gall: closed calls. -/
import Derived.Test.YtgphpjdchnfjlaaDoorV6Gdux10
import Derived.Test.YtgphpjdchnfjlaaDoorV6GaKx6
import Derived.Test.YtgphpjdchnfjlaaDoorV6Gp2x6
import Derived.OpenShut
set_option maxRecDepth 100000
set_option linter.unusedVariables false
section
namespace Go.Eng.Gall
open Go.Proofs
noncomputable def Ti:cD:=⟨65,[.ptrT none (gR jE [3,1] [0,3,0,1,2,3,0,0,0,0,0,0,0,0,0,0,0,0,0,0] [0,8,0,0,0,0,0,0,0,0]) 0],.tup [.agg (.G [.int .i64 0,.int .i64 0,.nils]),.bool false]⟩
theorem RI:aB Tryd.prog Ti:=aY zD (H':=[⟨true,[]⟩]) (by kernel_rfl) (by kernel_rfl)
noncomputable def Kd:List cD:=Ti::Kc
theorem zE:∀ e ∈ Kd,aB Tryd.prog e:=aX RI zD
noncomputable def Tj:cD:=⟨56,[.ptrT none (gR jE [3,1] [1,1,0,1,2,3,0,0,0,0,0,0,0,0,0,0,0,0,0,0] [0,8,0,0,0,0,0,0,0,0]) 0],.agg (.I .i64 [1,1,1,1,2,3,0,0,0,0,0,0,0,0,0,0,0,0,0,0])⟩
theorem RJ:aB Tryd.prog Tj:=aY zE (H':=[⟨true,[]⟩]) (by kernel_rfl) (by kernel_rfl)
noncomputable def Ke:List cD:=Tj::Kd
theorem zF:∀ e ∈ Ke,aB Tryd.prog e:=aX RJ zE
noncomputable def Tk:cD:=⟨65,[.ptrT none (gR jE [3,1] [1,1,0,1,2,3,0,0,0,0,0,0,0,0,0,0,0,0,0,0] [0,8,0,0,0,0,0,0,0,0]) 0],.tup [.agg (.G [.int .i64 0,.int .i64 1,.slcT none (.I .i64 [0,1,3]) 1 3 false]),.bool true]⟩
theorem RK:aB Tryd.prog Tk:=aY zF (H':=[⟨true,[]⟩]) (by kernel_rfl) (by kernel_rfl)
noncomputable def Kf:List cD:=Tk::Ke
theorem zG:∀ e ∈ Kf,aB Tryd.prog e:=aX RK zF
noncomputable def Tl:cD:=⟨56,[.ptrT none (gR jE [3,1] [0,3,1,1,2,3,0,0,0,0,0,0,0,0,0,0,0,0,0,0] [0,8,0,0,0,0,0,0,0,0]) 0],.agg (.I .i64 [0,3,1,1,2,3,0,0,0,0,0,0,0,0,0,0,0,0,0,0])⟩
theorem RL:aB Tryd.prog Tl:=aY zG (H':=[⟨true,[]⟩]) (by kernel_rfl) (by kernel_rfl)
noncomputable def Kg:List cD:=Tl::Kf
theorem zH:∀ e ∈ Kg,aB Tryd.prog e:=aX RL zG
end Go.Eng.Gall
end
section
namespace Go.Eng.Gall
open Go.Proofs
noncomputable def Tm:cD:=⟨65,[.ptrT none (gR jE [3,1] [0,3,1,1,2,3,0,0,0,0,0,0,0,0,0,0,0,0,0,0] [0,8,0,0,0,0,0,0,0,0]) 0],.tup [.agg (.G [.int .i64 0,.int .i64 0,.nils]),.bool false]⟩
theorem RM:aB Tryd.prog Tm:=aY zH (H':=[⟨true,[]⟩]) (by kernel_rfl) (by kernel_rfl)
noncomputable def Kh:List cD:=Tm::Kg
theorem zJ:∀ e ∈ Kh,aB Tryd.prog e:=aX RM zH
noncomputable def Tn:cD:=⟨56,[.ptrT none (gR jE [3,1] [2,2,1,1,2,3,0,0,0,0,0,0,0,0,0,0,0,0,0,0] [0,8,0,0,0,0,0,0,0,0]) 0],.agg (.I .i64 [2,2,1,1,2,3,0,0,0,0,0,0,0,0,0,0,0,0,0,0])⟩
theorem RO:aB Tryd.prog Tn:=aY zJ (H':=[⟨true,[]⟩]) (by kernel_rfl) (by kernel_rfl)
noncomputable def Ki:List cD:=Tn::Kh
theorem zK:∀ e ∈ Ki,aB Tryd.prog e:=aX RO zJ
noncomputable def To:cD:=⟨65,[.ptrT none (gR jE [3,1] [2,2,1,1,2,3,0,0,0,0,0,0,0,0,0,0,0,0,0,0] [0,8,0,0,0,0,0,0,0,0]) 0],.tup [.agg (.G [.int .i64 0,.int .i64 0,.nils]),.bool false]⟩
theorem RP:aB Tryd.prog To:=aY zK (H':=[⟨true,[]⟩]) (by kernel_rfl) (by kernel_rfl)
noncomputable def Kj:List cD:=To::Ki
theorem zL:∀ e ∈ Kj,aB Tryd.prog e:=aX RP zK
noncomputable def Tp:cD:=⟨56,[.ptrT none (gR jE [3,1] [2,2,1,1,3,3,0,0,0,0,0,0,0,0,0,0,0,0,0,0] [0,8,0,0,0,0,0,0,0,0]) 0],.agg (.I .i64 [2,2,1,1,3,3,0,0,0,0,0,0,0,0,0,0,0,0,0,0])⟩
theorem RQ:aB Tryd.prog Tp:=aY zL (H':=[⟨true,[]⟩]) (by kernel_rfl) (by kernel_rfl)
noncomputable def Kk:List cD:=Tp::Kj
theorem zM:∀ e ∈ Kk,aB Tryd.prog e:=aX RQ zL
end Go.Eng.Gall
end
section
namespace Go.Eng.Gall
open Go.Proofs
noncomputable def Tq:cD:=⟨65,[.ptrT none (gR jE [3,1] [2,2,1,1,3,3,0,0,0,0,0,0,0,0,0,0,0,0,0,0] [0,8,0,0,0,0,0,0,0,0]) 0],.tup [.agg (.G [.int .i64 0,.int .i64 0,.nils]),.bool false]⟩
theorem RR:aB Tryd.prog Tq:=aY zM (H':=[⟨true,[]⟩]) (by kernel_rfl) (by kernel_rfl)
noncomputable def Kl:List cD:=Tq::Kk
theorem zN:∀ e ∈ Kl,aB Tryd.prog e:=aX RR zM
noncomputable def Ts:cD:=⟨74,[.ptrT none (gR jE [3,1] [0,3,0,1,2,3,0,1,0,0,0,0,0,0,0,0,0,0,0,0] [0,8,0,0,0,0,0,0,0,0]) 0],.slcT none (.I .i64 [3,1,0,2]) 1 4 false⟩
theorem RS:aB Tryd.prog Ts:=aY zN (H':=[⟨true,[]⟩]) (by kernel_rfl) (by kernel_rfl)
noncomputable def Km:List cD:=Ts::Kl
theorem zO:∀ e ∈ Km,aB Tryd.prog e:=aX RS zN
noncomputable def Tt:cD:=⟨38,[gA jE [3,1]],.tup [.slcT none (.I .i64 [3,1,0,2]) 1 4 true,.int .i64 0]⟩
theorem RT:aB Tryd.prog Tt:=aY zO (H':=[⟨true,[]⟩]) (by kernel_rfl) (by kernel_rfl)
noncomputable def Kn:List cD:=Tt::Km
theorem zP:∀ e ∈ Kn,aB Tryd.prog e:=aX RT zO
noncomputable def Tu:cD:=⟨22,[gA EK [3,1]],.int .i64 0⟩
theorem RU:aB Tryd.prog Tu:=aY zP (H':=[⟨true,[]⟩]) (by kernel_rfl) (by kernel_rfl)
noncomputable def Ko:List cD:=Tu::Kn
theorem zQ:∀ e ∈ Ko,aB Tryd.prog e:=aX RU zP
end Go.Eng.Gall
end
section
namespace Go.Eng.Gall
open Go.Proofs
noncomputable def Tv:cD:=⟨49,[gA EK [3,1],.nils],.tup [.ptrT none (gR EK [3,1] [0,1,0,1,2,3,0,1,0,0,0,0,0,0,0,0,0,0,0,0] [0,8,0,0,0,0,0,0,0,0]) 0,.int .i64 0]⟩
theorem RV:aB Tryd.prog Tv:=aY zQ (H':=[⟨true,[]⟩]) (by kernel_rfl) (by kernel_rfl)
noncomputable def Kp:List cD:=Tv::Ko
theorem zR:∀ e ∈ Kp,aB Tryd.prog e:=aX RV zQ
noncomputable def Hq:cD:=⟨56,[.ptrT none (gR EK [3,1] [0,1,0,1,2,3,0,1,0,0,0,0,0,0,0,0,0,0,0,0] [0,8,0,0,0,0,0,0,0,0]) 0],.agg (.I .i64 [0,1,1,1,2,3,0,0,0,0,0,0,0,0,0,0,0,0,0,0])⟩
theorem RW:aB Tryd.prog Hq:=aY zR (H':=[⟨true,[]⟩]) (by kernel_rfl) (by kernel_rfl)
noncomputable def Kq:List cD:=Hq::Kp
theorem zS:∀ e ∈ Kq,aB Tryd.prog e:=aX RW zR
noncomputable def Tw:cD:=⟨65,[.ptrT none (gR EK [3,1] [0,1,0,1,2,3,0,1,0,0,0,0,0,0,0,0,0,0,0,0] [0,8,0,0,0,0,0,0,0,0]) 0],.tup [.agg (.G [.int .i64 0,.int .i64 1,.slcT none (.I .i64 [0,1,3]) 1 3 false]),.bool true]⟩
theorem RX:aB Tryd.prog Tw:=aY zS (H':=[⟨true,[]⟩]) (by kernel_rfl) (by kernel_rfl)
noncomputable def Kr:List cD:=Tw::Kq
theorem zT:∀ e ∈ Kr,aB Tryd.prog e:=aX RX zS
noncomputable def Tx:cD:=⟨74,[.ptrT none (gR EK [3,1] [0,1,0,1,2,3,0,1,0,0,0,0,0,0,0,0,0,0,0,0] [0,8,0,0,0,0,0,0,0,0]) 0],.nils⟩
theorem RY:aB Tryd.prog Tx:=aY zT (H':=[⟨true,[]⟩]) (by kernel_rfl) (by kernel_rfl)
noncomputable def Kt:List cD:=Tx::Kr
theorem zU:∀ e ∈ Kt,aB Tryd.prog e:=aX RY zT
end Go.Eng.Gall
end
section
namespace Go.Eng.Gall
open Go.Proofs
noncomputable def Ty:cD:=⟨38,[gA EK [3,1]],.tup [.nils,.int .i64 13]⟩
theorem RZ:aB Tryd.prog Ty:=aY zU (H':=[⟨true,[]⟩]) (by kernel_rfl) (by kernel_rfl)
noncomputable def Ku:List cD:=Ty::Kt
theorem zV:∀ e ∈ Ku,aB Tryd.prog e:=aX RZ zU
noncomputable def Tz:cD:=⟨25,[gA EK [3,1]],.tup [.agg (.G [.int .i64 0,.int .i64 1,.slcT none (.I .i64 [0,1,3]) 1 3 false]),.int .i64 0]⟩
theorem OP:aB Tryd.prog Tz:=aY zV (H':=[⟨true,[]⟩]) (by kernel_rfl) (by kernel_rfl)
noncomputable def Kv:List cD:=Tz::Ku
theorem zX:∀ e ∈ Kv,aB Tryd.prog e:=aX OP zV
noncomputable def TA:cD:=⟨56,[.ptrT none (gR jE [3,1] [1,1,0,1,2,3,0,1,0,0,0,0,0,0,0,0,0,0,0,0] [0,8,0,0,0,0,0,0,0,0]) 0],.agg (.I .i64 [1,1,1,1,2,3,0,0,0,0,0,0,0,0,0,0,0,0,0,0])⟩
theorem R0:aB Tryd.prog TA:=aY zX (H':=[⟨true,[]⟩]) (by kernel_rfl) (by kernel_rfl)
noncomputable def Kw:List cD:=TA::Kv
theorem zY:∀ e ∈ Kw,aB Tryd.prog e:=aX R0 zX
noncomputable def TB:cD:=⟨65,[.ptrT none (gR jE [3,1] [1,1,0,1,2,3,0,1,0,0,0,0,0,0,0,0,0,0,0,0] [0,8,0,0,0,0,0,0,0,0]) 0],.tup [.agg (.G [.int .i64 0,.int .i64 1,.slcT none (.I .i64 [0,1,3]) 1 3 false]),.bool true]⟩
theorem R2:aB Tryd.prog TB:=aY zY (H':=[⟨true,[]⟩]) (by kernel_rfl) (by kernel_rfl)
noncomputable def Kx:List cD:=TB::Kw
theorem zZ:∀ e ∈ Kx,aB Tryd.prog e:=aX R2 zY
end Go.Eng.Gall
end
section
namespace Go.Eng.Gall
open Go.Proofs
noncomputable def TC:cD:=⟨56,[.ptrT none (gR jE [3,1] [2,2,0,1,2,3,0,1,0,0,0,0,0,0,0,0,0,0,0,0] [0,8,0,0,0,0,0,0,0,0]) 0],.agg (.I .i64 [2,2,1,1,2,3,0,0,0,0,0,0,0,0,0,0,0,0,0,0])⟩
theorem R3:aB Tryd.prog TC:=aY zZ (H':=[⟨true,[]⟩]) (by kernel_rfl) (by kernel_rfl)
noncomputable def Ky:List cD:=TC::Kx
theorem z6:∀ e ∈ Ky,aB Tryd.prog e:=aX R3 zZ
noncomputable def TD:cD:=⟨65,[.ptrT none (gR jE [3,1] [2,2,0,1,2,3,0,1,0,0,0,0,0,0,0,0,0,0,0,0] [0,8,0,0,0,0,0,0,0,0]) 0],.tup [.agg (.G [.int .i64 0,.int .i64 0,.nils]),.bool false]⟩
theorem R4:aB Tryd.prog TD:=aY z6 (H':=[⟨true,[]⟩]) (by kernel_rfl) (by kernel_rfl)
noncomputable def Kz:List cD:=TD::Ky
theorem z7:∀ e ∈ Kz,aB Tryd.prog e:=aX R4 z6
noncomputable def TE:cD:=⟨56,[.ptrT none (gR jE [3,1] [3,3,0,1,2,3,0,1,0,0,0,0,0,0,0,0,0,0,0,0] [0,8,0,0,0,0,0,0,0,0]) 0],.agg (.I .i64 [3,3,1,1,2,3,0,0,0,0,0,0,0,0,0,0,0,0,0,0])⟩
theorem R5:aB Tryd.prog TE:=aY z7 (H':=[⟨true,[]⟩]) (by kernel_rfl) (by kernel_rfl)
noncomputable def KA:List cD:=TE::Kz
theorem z8:∀ e ∈ KA,aB Tryd.prog e:=aX R5 z7
noncomputable def TF:cD:=⟨65,[.ptrT none (gR jE [3,1] [3,3,0,1,2,3,0,1,0,0,0,0,0,0,0,0,0,0,0,0] [0,8,0,0,0,0,0,0,0,0]) 0],.tup [.agg (.G [.int .i64 0,.int .i64 0,.nils]),.bool false]⟩
theorem R6:aB Tryd.prog TF:=aY z8 (H':=[⟨true,[]⟩]) (by kernel_rfl) (by kernel_rfl)
noncomputable def KB:List cD:=TF::KA
theorem Aa:∀ e ∈ KB,aB Tryd.prog e:=aX R6 z8
end Go.Eng.Gall
end
section
namespace Go.Eng.Gall
open Go.Proofs
noncomputable def TG:cD:=⟨30,[gA jE [3,1],.int .i64 0],.tup [.slcT none (.I .i64 [2,3]) 1 2 false,.int .i64 0]⟩
theorem R7:aB Tryd.prog TG:=aY Aa (H':=[⟨true,[]⟩]) (by kernel_rfl) (by kernel_rfl)
noncomputable def KC:List cD:=TG::KB
theorem Ab:∀ e ∈ KC,aB Tryd.prog e:=aX R7 Aa
noncomputable def TH:cD:=⟨56,[.ptrT none (gR jE [3,1] [0,3,0,1,2,3,0,1,0,0,0,0,0,0,0,0,0,0,0,0] [0,9,0,0,0,0,0,0,0,0]) 0],.agg (.I .i64 [0,0,1,1,2,3,0,0,0,0,0,0,0,0,0,0,0,0,0,0])⟩
theorem R8:aB Tryd.prog TH:=aY Ab (H':=[⟨true,[]⟩]) (by kernel_rfl) (by kernel_rfl)
noncomputable def KD:List cD:=TH::KC
theorem Ac:∀ e ∈ KD,aB Tryd.prog e:=aX R8 Ab
noncomputable def TI:cD:=⟨65,[.ptrT none (gR jE [3,1] [0,3,0,1,2,3,0,1,0,0,0,0,0,0,0,0,0,0,0,0] [0,9,0,0,0,0,0,0,0,0]) 0],.tup [.agg (.G [.int .i64 0,.int .i64 0,.slcT none (.I .i64 [0,3]) 1 2 false]),.bool true]⟩
theorem R9:aB Tryd.prog TI:=aY Ac (H':=[⟨true,[]⟩]) (by kernel_rfl) (by kernel_rfl)
noncomputable def KE:List cD:=TI::KD
theorem Ad:∀ e ∈ KE,aB Tryd.prog e:=aX R9 Ac
noncomputable def TJ:cD:=⟨32,[gA jE [3,1],.int .i64 1,.int .i64 0],.tup [.bool true,.int .i64 0]⟩
theorem Sa:aB Tryd.prog TJ:=aY Ad (H':=[⟨true,[]⟩]) (by kernel_rfl) (by kernel_rfl)
noncomputable def KF:List cD:=TJ::KE
theorem G8:∀ e ∈ KF,aB Tryd.prog e:=aX Sa Ad
end Go.Eng.Gall
end
section
namespace Go.Eng.Gall
open Go.Proofs
noncomputable def TK:cD:=⟨73,[.ptrT none (gR jE [3,1] [0,3,0,1,2,3,0,1,0,0,0,0,0,0,0,0,0,0,0,0] [0,8,0,0,0,0,0,0,0,0]) 0],.int .i64 2⟩
theorem Sb:aB Tryd.prog TK:=Gt (O:=10) (U:=4) (zl:=[100,110,60,110,90,95,75,100,120,125,80,110,80,80,70,200]) (V:=1) (bl:=[3,1]) (f1:=true) (f2:=true) (Wl:=[0,3,0,1,2,3,0,1,0,0,0,0,0,0,0,0,0,0,0,0]) (Bl:=[0,8,0,0,0,0,0,0,0,0]) (v:=2) rfl (by decide) rfl rfl rfl rfl (by kernel_rfl)
noncomputable def KG:List cD:=TK::KF
theorem Ae:∀ e ∈ KG,aB Tryd.prog e:=aX Sb G8
noncomputable def TL:cD:=⟨34,[gA jE [3,1]],.tup [.int .i64 2,.int .i64 0]⟩
theorem Sc:aB Tryd.prog TL:=aY Ae (H':=[⟨true,[]⟩]) (by kernel_rfl) (by kernel_rfl)
noncomputable def KH:List cD:=TL::KG
theorem Af:∀ e ∈ KH,aB Tryd.prog e:=aX Sc Ae
noncomputable def TM:cD:=⟨18,[gA jE [3,1],.int .i64 0],.tup [.agg (.I .i64 [0,3]),.int .i64 0]⟩
theorem Sd:aB Tryd.prog TM:=aY Af (H':=[⟨true,[]⟩]) (by kernel_rfl) (by kernel_rfl)
noncomputable def KI:List cD:=TM::KH
theorem Ag:∀ e ∈ KI,aB Tryd.prog e:=aX Sd Af
noncomputable def TN:cD:=⟨18,[gA jE [3,1],.int .i64 1],.tup [.agg (.I .i64 [0,1]),.int .i64 0]⟩
theorem Se:aB Tryd.prog TN:=aY Ag (H':=[⟨true,[]⟩]) (by kernel_rfl) (by kernel_rfl)
noncomputable def KJ:List cD:=TN::KI
theorem Ah:∀ e ∈ KJ,aB Tryd.prog e:=aX Se Ag
end Go.Eng.Gall
end
section
namespace Go.Eng.Gall
open Go.Proofs
noncomputable def TO:cD:=⟨18,[gA jE [3,1],.int .i64 3],.tup [.agg (.I .i64 [0,1]),.int .i64 0]⟩
theorem Sf:aB Tryd.prog TO:=aY Ah (H':=[⟨true,[]⟩]) (by kernel_rfl) (by kernel_rfl)
noncomputable def KL:List cD:=TO::KJ
theorem Ai:∀ e ∈ KL,aB Tryd.prog e:=aX Sf Ah
noncomputable def TP:cD:=⟨20,[gA jE [3,1],.int .i64 3],.tup [.agg (.I .i64 [0,0]),.int .i64 0]⟩
theorem Sg:aB Tryd.prog TP:=aY Ai (H':=[⟨true,[]⟩]) (by kernel_rfl) (by kernel_rfl)
noncomputable def KM:List cD:=TP::KL
theorem Aj:∀ e ∈ KM,aB Tryd.prog e:=aX Sg Ai
noncomputable def TQ:cD:=⟨56,[.ptrT none (gR jE [3,1] [0,3,0,1,2,3,0,1,0,0,0,0,0,0,0,0,0,0,0,0] [4,8,0,0,0,0,0,0,0,0]) 0],.agg (.I .i64 [3,3,1,1,2,2,0,0,0,0,0,0,0,0,0,0,0,0,0,0])⟩
theorem Sh:aB Tryd.prog TQ:=aY Aj (H':=[⟨true,[]⟩]) (by kernel_rfl) (by kernel_rfl)
noncomputable def KN:List cD:=TQ::KM
theorem Ak:∀ e ∈ KN,aB Tryd.prog e:=aX Sh Aj
noncomputable def TR:cD:=⟨65,[.ptrT none (gR jE [3,1] [0,3,0,1,2,3,0,1,0,0,0,0,0,0,0,0,0,0,0,0] [4,8,0,0,0,0,0,0,0,0]) 0],.tup [.agg (.G [.int .i64 0,.int .i64 0,.nils]),.bool false]⟩
theorem Si:aB Tryd.prog TR:=aY Ak (H':=[⟨true,[]⟩]) (by kernel_rfl) (by kernel_rfl)
noncomputable def KO:List cD:=TR::KN
theorem Al:∀ e ∈ KO,aB Tryd.prog e:=aX Si Ak
end Go.Eng.Gall
end
section
namespace Go.Eng.Gall
open Go.Proofs
noncomputable def TS:cD:=⟨32,[gA jE [3,1],.int .i64 0,.int .i64 2],.tup [.bool false,.int .i64 0]⟩
theorem Sj:aB Tryd.prog TS:=aY Al (H':=[⟨true,[]⟩]) (by kernel_rfl) (by kernel_rfl)
noncomputable def KP:List cD:=TS::KO
theorem G9:∀ e ∈ KP,aB Tryd.prog e:=aX Sj Al
noncomputable def TT:cD:=⟨73,[.ptrT none (gR EK [3,1] [0,1,0,1,2,3,0,1,0,0,0,0,0,0,0,0,0,0,0,0] [0,8,0,0,0,0,0,0,0,0]) 0],.int .i64 0⟩
theorem Sk:aB Tryd.prog TT:=Gt (O:=10) (U:=4) (zl:=[100,110,90,110,90,95,75,100,120,125,80,110,80,80,70,200]) (V:=1) (bl:=[3,1]) (f1:=true) (f2:=true) (Wl:=[0,1,0,1,2,3,0,1,0,0,0,0,0,0,0,0,0,0,0,0]) (Bl:=[0,8,0,0,0,0,0,0,0,0]) (v:=0) rfl (by decide) rfl rfl rfl rfl (by kernel_rfl)
noncomputable def KQ:List cD:=TT::KP
theorem Am:∀ e ∈ KQ,aB Tryd.prog e:=aX Sk G9
noncomputable def TU:cD:=⟨34,[gA EK [3,1]],.tup [.int .i64 0,.int .i64 0]⟩
theorem Sl:aB Tryd.prog TU:=aY Am (H':=[⟨true,[]⟩]) (by kernel_rfl) (by kernel_rfl)
noncomputable def KR:List cD:=TU::KQ
theorem An:∀ e ∈ KR,aB Tryd.prog e:=aX Sl Am
noncomputable def TV:cD:=⟨25,[gA jE [3,1]],.tup [.agg (.G [.int .i64 0,.int .i64 0,.nils]),.int .i64 5]⟩
theorem Sm:aB Tryd.prog TV:=aY An (H':=[⟨true,[]⟩]) (by kernel_rfl) (by kernel_rfl)
noncomputable def KS:List cD:=TV::KR
theorem Ao:∀ e ∈ KS,aB Tryd.prog e:=aX Sm An
end Go.Eng.Gall
end
section
namespace Go.Eng.Gall
open Go.Proofs
noncomputable def TW:cD:=⟨30,[gA EK [3,1],.int .i64 0],.tup [.nils,.int .i64 13]⟩
theorem Sn:aB Tryd.prog TW:=aY Ao (H':=[⟨true,[]⟩]) (by kernel_rfl) (by kernel_rfl)
noncomputable def Pz:List cD:=TW::KS
theorem Ha:∀ e ∈ Pz,aB Tryd.prog e:=aX Sn Ao
end Go.Eng.Gall
end
section
namespace Go.Eng.Gall
open Go.Proofs
noncomputable def EW:cD:=⟨15,[],.bool true⟩
theorem OQ:aB Tryd.prog EW:=aY Ha (H':=[⟨true,[]⟩]) (by kernel_rfl) (by kernel_rfl)
end Go.Eng.Gall
end
section
namespace Go.Eng
open Go.Proofs Go.ChangeShapes Go.WideShapes Go.ChangeAt Go.RowKit
theorem W7 {p:aF} {M:Mu} {k:IntKind} {z:Nat→Int} {N sz len:Nat} {full:Bool} {v:Value} (h:al p M (.slcT none (.F (fun j=>.int k (z j)) N) sz len full) v):al p M (.slcT none (.M [.arr k z N]) sz len full) v:=by
 cases h with
 | slcN=>exact .slcN
 | slcT vs h0 h1 hv hl hf hx =>
   have e:∀ j,j<(Row.M [db.arr k z N]).len→j<N:=fun j hj=>by simpa[Row.len,ay,aP] using hj
   refine .slcT vs (fun j hj=>h0 j (e j hj)) (fun j hj=>h1 j (e j hj)) (fun j hj=>?_) hl hf hx;have:=hv j (e j hj);simp only[Row.get,getM,if_pos (e j hj)] at this ⊢;exact this.bp _ _
theorem BG {P:Program} {w:World} {r:Reach} {base:Nat} {t e:TypeId} {v:Value} (ht:P.underlying t=some (.slice e)) (h:Cell.okWide P w r base t v):∀ a l c,v=.slice (some a) l c→a.spot=none:=by
 rintro a l c rfl;simp only[Cell.okWide,ht,Cell.ok] at h;exact h.2.2.2.1
theorem Cp:uU Tryd.prog 2 1:=x5 Tryd.underlying2
theorem JK:uU Tryd.prog 3 1:=x5 Tryd.underlying3
theorem Lz:uU Tryd.prog 29 2:=wm Tryd.underlying29 Cp Cp rfl rfl (by kernel_rfl) (by kernel_rfl) (by kernel_rfl)
theorem wo {P:Program} {k:IntKind} {t:TypeId} {f0 f1 f2:Field} {n0 n1 n2:Nat} (ht:P.underlying t=some (.struct #[f0,f1,f2])) (h0:kY k P f0.type n0) (h1:kY k P f1.type n1) (h2:kY k P f2.type n2) (o0:f0.offset=0) (o1:f1.offset=n0) (o2:f2.offset=n0+n1) (c0:P.cellsOf f0.type=n0) (c1:P.cellsOf f1.type=n1) (c2:P.cellsOf f2.type=n2) (c:P.cellsOf t=n0+n1+n2):kY k P t (n0+n1+n2):=by
 intro H enc w base sp held fuel cs x h;obtain ⟨xs,m,_,_,hl,hxl,hf⟩:=DataW.trod_struct ht h;match xs,hxl,hf with
 | [y0,y1,y2],_,hf =>
   have g0:=hf 0 f0 rfl;have g1:=hf 1 f1 rfl;have g2:=hf 2 f2 rfl;obtain ⟨_,k0⟩:=h0 _ _ _ _ _ _ _ _ _ g0;obtain ⟨_,k1⟩:=h1 _ _ _ _ _ _ _ _ _ g1;obtain ⟨_,k2⟩:=h2 _ _ _ _ _ _ _ _ _ g2;refine ⟨by rw[hl,c],fun j hj=>?_⟩;by_cases p:j<n0
   · obtain ⟨z,hz,hw⟩:=k0 j p;refine ⟨z,?_,hw⟩;rw[o0,c0] at hz;simpa[List.getElem?_take,p] using hz
   by_cases q:j<n0+n1
   · obtain ⟨z,hz,hw⟩:=k1 (j-n0) wO;refine ⟨z,?_,hw⟩;rw[o1,c1] at hz;have:j-n0<n1:=by omega
     simpa[List.getElem?_take,this,List.getElem?_drop,show n0+(j-n0)=j by omega] using hz
   · obtain ⟨z,hz,hw⟩:=k2 (j-(n0+n1)) wO;refine ⟨z,?_,hw⟩;rw[o2,c2] at hz;have:j-(n0+n1)<n2:=by omega
     simpa[List.getElem?_take,this,List.getElem?_drop,show n0+n1+(j-(n0+n1))=j by omega] using hz
theorem LA:uU Tryd.prog 56 4:=wo Tryd.underlying56 Lz Cp Cp rfl rfl rfl (by kernel_rfl) (by kernel_rfl) (by kernel_rfl) (by kernel_rfl)
def EO (t:TypeId) (A:AV→Prop):Prop:=∀ (H:Type) (enc:TypeId×Value→H) (w:World) (r:Reach) (b0 base:Nat) (sp:Nat→Bool) (held:Bool) (v:Value) (d:DataW H) (ps:List MemPlace),ly w →
 Value.okWide Tryd.prog w r b0 t v→DataW.Trod enc Tryd.prog w base sp held t v d ps→∃ a,A a∧al (Pw w) Mu.no a v
def AD:List (AV→Prop)→List AV→Prop
 | [],[]=>True
 | A::As,a::xs=>A a∧AD As xs
 | _,_=>False
theorem uW {A:AV→Prop} {As:List (AV→Prop)} {xs:List AV} (h:AD (A::As) xs):∃ a ys,xs=a::ys∧A a∧AD As ys:=by
 cases xs with
 | nil=>exact h.elim
 | cons a ys=>exact ⟨a,ys,rfl,h.1,h.2⟩
theorem ER {xs:List AV} (h:AD [] xs):xs=[]:=by
 cases xs with
 | nil=>rfl
 | cons a ys=>exact h.elim
def KX:List TypeId→List (AV→Prop)→Prop
 | [],[]=>True
 | t::ts,A::As=>EO t A∧KX ts As
 | _,_=>False
theorem B0 {H:Type} {enc:TypeId×Value→H} {w:World} (hg:ly w) {r:Reach} {b0 base:Nat} {sp:Nat→Bool} {held:Bool}:∀ (ts:List TypeId) (As:List (AV→Prop)) (vs:List Value) (ds:List (DataW H)) (ps:List MemPlace),KX ts As →
 (∀ (j:Nat) t v,ts[j]?=some t→vs[j]?=some v→Value.okWide Tryd.prog w r b0 t v)→DataW.TrodAll enc Tryd.prog w base sp held ts vs ds ps→∃ xs,AD As xs∧vs.length=xs.length∧∀ j,j<xs.length→al (Pw w) Mu.no (xs.getD j .undef) (vs.getD j undef)
 | [],[],vs,ds,ps,_,_,h=>by
   obtain ⟨rfl,rfl,rfl⟩:=trodAll_nil h;exact ⟨[],trivial,rfl,fun j hj=>by simp at hj⟩
 | t::ts,A::As,vs,ds,ps,hT,hv,h=>by
   obtain ⟨v,vs',d,ds',p,q,rfl,rfl,rfl,h1,h2⟩:=trodAll_cons h;obtain ⟨a,ha,hr⟩:=hT.1 H enc w r b0 base sp held v d p hg (hv 0 t v rfl rfl) h1;obtain ⟨xs,hA,hl,hR⟩:=B0 hg ts As vs' ds' q hT.2 (fun j t' v' e1 e2=>hv (j+1) t' v' (by simpa using e1) (by simpa using e2)) h2;refine ⟨a::xs,⟨ha,hA⟩,by simp[hl],fun j hj=>?_⟩;cases j with
   | zero=>exact hr
   | succ j=>simpa using hR j (by simpa using hj)
 | [],_::_,_,_,_,hT,_,_=>hT.elim
 | _::_,[],_,_,_,hT,_,_=>hT.elim
theorem vU {H:Type} {enc:TypeId×Value→H} {W W':World} {base:Nat} {sp':Nat→Bool} (hl:laidOutB Tryd.prog=true):∀ (ts:List TypeId) (vs:List Value) (ds:List (DataW H)) (ps:List MemPlace),(∀ t ∈ ts,Tryd.prog.readableRec t=true∧t<Tryd.prog.types.size) →
 DataW.TrodAll enc Tryd.prog W base (fun _=>true) true ts vs ds ps→(∀ p ∈ ps,W.sameAt W' p)→(∀ p ∈ ps,sp' p.block=true)→DataW.TrodAll enc Tryd.prog W' base sp' true ts vs ds ps
 | [],vs,ds,ps,_,h,_,_=>by
   obtain ⟨rfl,rfl,rfl⟩:=trodAll_nil h;exact trodAll_mk0
 | t::ts,vs,ds,ps,ht,h,hs,hp=>by
   obtain ⟨v,vs',d,ds',p,q,rfl,rfl,rfl,h1,h2⟩:=trodAll_cons h;obtain ⟨r1,r2⟩:=ht t (by simp);refine ⟨p,q,?_,vU hl ts vs' ds' q (fun t' h'=>ht t' (List.mem_cons_of_mem _ h')) h2 (fun x hx=>hs x (List.mem_append_right _ hx)) (fun x hx=>hp x (List.mem_append_right _ hx)),rfl⟩;exact WideElems.Trod_stays hl r1 r2 h1 (fun x hx=>hs x (List.mem_append_left _ hx)) (fun x hx=>hp x (List.mem_append_left _ hx))
theorem Fo (hN:dG Tryd.prog) (hm:Tryd.prog.follows .mixedOrders=true) (hW:aB Tryd.prog ⟨15,[],.bool true⟩) (n:Nat):b9 Tryd.prog (cd n) :=
 mA hN (pJ hN hm) (wY hN (pJ hN hm) hW) KtG.kt 100000 n
theorem D8 {f:FuncId} {ts:List TypeId} {As:List (AV→Prop)} (hT:KX ts As) {n:Nat} (hlaw:∀ xs,AD As xs→∃ H',cd n (.fn f) xs [⟨true,[]⟩]=some (.bool true,H')) {H:Type} {enc:TypeId×Value→H} {w:World} (hg:ly w) {r:Reach} {b0 base:Nat} {sp:Nat→Bool} {held:Bool} {args:Array Value} {ds:List (DataW H)} {ps:List MemPlace}
 (hv:∀ (j:Nat) t v,ts[j]?=some t→args[j]?=some v→Value.okWide Tryd.prog w r b0 t v) (h:DataW.TrodAll enc Tryd.prog w base sp held ts args.toList ds ps) :
 Calls Tryd.prog f args w (fun e w'=>e=.returned (.bool true)∧Go.RowKit.Below w.heap.size w w'):=by
 obtain ⟨xs,hA,hl,hR⟩:=B0 hg ts As args.toList ds ps hT (fun j t v e1 e2=>hv j t v e1 (by simpa using e2)) h
 obtain ⟨H',hc⟩:=hlaw xs hA
 refine DN (Fo Gall.named Gall.mixed Gall.OQ n) hc hg ⟨by simpa using hl,fun j hj=>?_⟩
 have:=hR j hj
 have e:args.toList.getD j undef=args.getD j undef:=by
  rw[Array.getD_eq_getD_getElem?,List.getD_eq_getElem?_getD,Array.getElem?_toList]
 rwa [e] at this
theorem laidOut:laidOutB Tryd.prog=true:=by kernel_rfl
theorem A0 {P:Program} {k:IntKind} {t e:TypeId} {n m:Nat} (ht:P.underlying t=some (.array n e)) (he:kY k P e m) (hm:0<m) (hc:P.cellsOf e=m) (hct:P.cellsOf t=n*m):kY k P t (n*m):=by
 intro H enc w base sp held fuel cs x h;obtain ⟨xs,f,_,_,hl,hxl,hel⟩:=DataW.trod_array ht h;refine ⟨by rw[hl,hct],fun j hj=>?_⟩;have hi:j / m<n:=by rw[Nat.div_lt_iff_lt_mul hm];exact hj
 have hm':=Nat.mod_lt j hm;have g:=hel (j / m) hi;have:j / m<xs.length:=by omega
 rw[List.getElem?_eq_getElem this] at g;obtain ⟨_,k1⟩:=he _ _ _ _ _ _ _ _ _ g;obtain ⟨z,hz,hw⟩:=k1 (j % m) hm';refine ⟨z,?_,hw⟩;rw[hc,List.getElem?_take,if_pos hm',List.getElem?_drop] at hz;have hd:=Nat.div_add_mod j m;rw[Nat.mul_comm] at hd;rwa [hd] at hz
theorem LB:uU Tryd.prog 61 2:=A0 Tryd.underlying61 JK wO (by kernel_rfl) (by kernel_rfl)
theorem oh {t e n:Nat} (ht:Tryd.prog.underlying t=some (.slice e)) (he:uU Tryd.prog e n) (hn:0<n) (hc:Tryd.prog.cellsOf e=n) {H:Type} {enc:TypeId×Value→H} {w:World} (hg:ly w) {r:Reach} {b0 base:Nat} {sp:Nat→Bool} {held:Bool} {fuel:Nat} {v:Value} {x:DataW H×List MemPlace}
 (hv:Cell.okWide Tryd.prog w r b0 t v) (h:DataW.trod enc Tryd.prog w base sp held fuel t [v]=some x):∃ (len:Nat) (z:Nat→Int),al (Pw w) Mu.no (slA n len z) v∧v.oneCell'=true:=by
 rcases BF ht he hn hc hg (BG ht hv) h with rfl | ⟨zs,len,h1,h2⟩
 · exact ⟨0,fun _=>0,.slcN,rfl⟩
 · refine ⟨len,zs,?_,?_⟩
   · unfold slA
     rw[cJ]
     exact W7 h1
   · cases h1<;>rfl
def P0 (a:AV):Prop:=∃ (O:Int) (U:Nat) (Z:Nat→Int) (V:Nat) (J:Nat→Int),a=bk O U Z V J
theorem Nk:EO 25 P0:=fun H enc w r b0 base sp held v d ps hg hv h=>by
 have hts:Tryd.prog.cellTypes Tryd.prog.depth 25=some [2,22,23]:=by kernel_rfl
 have hc25:Tryd.prog.cellsOf 25=3:=by kernel_rfl
 have hc2:Tryd.prog.cellsOf 2=1:=by kernel_rfl
 have hc22:Tryd.prog.cellsOf 22=1:=by kernel_rfl
 have hc23:Tryd.prog.cellsOf 23=1:=by kernel_rfl
 have hc56:Tryd.prog.cellsOf 56=4:=by kernel_rfl
 have hc61:Tryd.prog.cellsOf 61=2:=by kernel_rfl
 simp only[Value.okWide,Tryd.underlying25] at hv;obtain ⟨cs,rfl,hsz,ts,ht,_,hcell⟩:=hv;rw[hts] at ht;obtain rfl:=Option.some.inj ht;rw[hc25] at hsz;obtain ⟨fuel,hf⟩:=h;obtain ⟨xs,n,_,_,_,hxl,hfield⟩:=DataW.trod_struct Tryd.underlying25 hf;have e3:∃ c0 c1 c2,cs=#[c0,c1,c2]:=by
  refine ⟨cs[0],cs[1],cs[2],?_⟩;apply Array.ext
  · simpa using hsz
  · intro i h1 h2;simp at h2;match i,h2 with
    | 0,_=>rfl
    | 1,_=>rfl
    | 2,_=>rfl
 obtain ⟨c0,c1,c2,rfl⟩:=e3;have some_of:∀ i,i<3→∃ y,xs[i]?=some y:=fun i hi=>by
  have:i<xs.length:=by rw[hxl];simpa using hi
  exact ⟨xs[i],List.getElem?_eq_getElem this⟩
 obtain ⟨y0,hy0⟩:=some_of 0 wO;obtain ⟨y1,hy1⟩:=some_of 1 wO;obtain ⟨y2,hy2⟩:=some_of 2 wO;have f0:=hfield 0 _ rfl;have f1:=hfield 1 _ rfl;have f2:=hfield 2 _ rfl;rw[hy0] at f0;rw[hy1] at f1;rw[hy2] at f2;simp only[Value.cells] at f0 f1 f2;have g0:DataW.trod enc Tryd.prog w base sp held n 2 [c0]=some y0:=by simpa[hc2] using f0
 have g1:DataW.trod enc Tryd.prog w base sp held n 22 [c1]=some y1:=by simpa[hc22] using f1
 have g2:DataW.trod enc Tryd.prog w base sp held n 23 [c2]=some y2:=by simpa[hc23] using f2
 obtain ⟨wd,e0,_,hw⟩:=DataW.trod_int Tryd.underlying2 g0;simp only[List.cons.injEq,and_true] at e0;subst e0;obtain ⟨u1,hu1,k1⟩:=hcell 1 c1 rfl;obtain ⟨u2,hu2,k2⟩:=hcell 2 c2 rfl;simp at hu1 hu2;subst hu1;subst hu2;obtain ⟨U,Z,r1,o1⟩:=oh Tryd.underlying22 LA wO hc56 hg k1 g1;obtain ⟨V,J,r2,o2⟩:=oh Tryd.underlying23 LB wO hc61 hg k2 g2;refine ⟨_,⟨wd,U,Z,V,J,rfl⟩,?_⟩;refine .agg rfl (fun j hj=>?_) (fun j hj=>?_)
 · have hj':j<3:=hj;match j,hj' with
   | 0,_=>rfl
   | 1,_=>exact o1
   | 2,_=>exact o2
 · have hj':j<3:=hj;match j,hj' with
   | 0,_=>exact .int _ _
   | 1,_=>exact r1
   | 2,_=>exact r2
end Go.Eng
end
section
namespace Go.Eng
open Go.Proofs Go.ChangeShapes Go.WideShapes Go.ChangeAt Go.RowKit
theorem O2 (m:Nat) (z:Nat→Int):slA 1 m z=bG m z false:=by unfold slA bG;rw[cJ,Nat.mul_one]
def PZ (a:AV):Prop:=∃ (f t:Int) (m:Nat) (z:Nat→Int),a=.agg (.G [.int .i64 f,.int .i64 t,bG m z false])
theorem Nj:EO 38 PZ:=fun H enc w r b0 base sp held v d ps hg hv h=>by
 have hts:Tryd.prog.cellTypes Tryd.prog.depth 38=some [2,2,36]:=by kernel_rfl
 have hc38:Tryd.prog.cellsOf 38=3:=by kernel_rfl
 have hc2:Tryd.prog.cellsOf 2=1:=by kernel_rfl
 have hc3:Tryd.prog.cellsOf 3=1:=by kernel_rfl
 have hc36:Tryd.prog.cellsOf 36=1:=by kernel_rfl
 simp only[Value.okWide,Tryd.underlying38] at hv;obtain ⟨cs,rfl,hsz,ts,ht,_,hcell⟩:=hv;rw[hts] at ht;obtain rfl:=Option.some.inj ht;rw[hc38] at hsz;obtain ⟨fuel,hf⟩:=h;obtain ⟨xs,n,_,_,_,hxl,hfield⟩:=DataW.trod_struct Tryd.underlying38 hf;have e3:∃ c0 c1 c2,cs=#[c0,c1,c2]:=by
  refine ⟨cs[0],cs[1],cs[2],?_⟩;apply Array.ext
  · simpa using hsz
  · intro i h1 h2;simp at h2;match i,h2 with
    | 0,_=>rfl
    | 1,_=>rfl
    | 2,_=>rfl
 obtain ⟨c0,c1,c2,rfl⟩:=e3;have some_of:∀ i,i<3→∃ y,xs[i]?=some y:=fun i hi=>by
  have:i<xs.length:=by rw[hxl];simpa using hi
  exact ⟨xs[i],List.getElem?_eq_getElem this⟩
 obtain ⟨y0,hy0⟩:=some_of 0 wO;obtain ⟨y1,hy1⟩:=some_of 1 wO;obtain ⟨y2,hy2⟩:=some_of 2 wO;have f0:=hfield 0 _ rfl;have f1:=hfield 1 _ rfl;have f2:=hfield 2 _ rfl;rw[hy0] at f0;rw[hy1] at f1;rw[hy2] at f2;simp only[Value.cells] at f0 f1 f2;have g0:DataW.trod enc Tryd.prog w base sp held n 2 [c0]=some y0:=by simpa[hc2] using f0
 have g1:DataW.trod enc Tryd.prog w base sp held n 2 [c1]=some y1:=by simpa[hc2] using f1
 have g2:DataW.trod enc Tryd.prog w base sp held n 36 [c2]=some y2:=by simpa[hc36] using f2
 obtain ⟨wd,e0,_,hw⟩:=DataW.trod_int Tryd.underlying2 g0;simp only[List.cons.injEq,and_true] at e0;subst e0;obtain ⟨wt,e1,_,hw1⟩:=DataW.trod_int Tryd.underlying2 g1;simp only[List.cons.injEq,and_true] at e1;subst e1;obtain ⟨u2,hu2,k2⟩:=hcell 2 c2 rfl;simp at hu2;subst hu2;obtain ⟨m,z,r2,o2⟩:=oh Tryd.underlying36 JK wO hc3 hg k2 g2;rw[O2] at r2;refine ⟨_,⟨wd,wt,m,z,rfl⟩,?_⟩;refine .agg rfl (fun j hj=>?_) (fun j hj=>?_)
 · have hj':j<3:=hj;match j,hj' with
   | 0,_=>rfl
   | 1,_=>rfl
   | 2,_=>exact o2
 · have hj':j<3:=hj;match j,hj' with
   | 0,_=>exact .int _ _
   | 1,_=>exact .int _ _
   | 2,_=>exact r2
end Go.Eng
end
