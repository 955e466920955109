/- Closed calls of the seat: what they lean on. -/
import Derived.Test.YtoomemfhcbajoaaV6EngRnLx7
import Derived.Test.YtoomemfhcbajoaaV6EngKtL
import Derived.Test.YtoomemfhcbajoaaProg
import Derived.KernelRfl
import Derived.Test.YtoomemfhcbajoaaChecked
import Derived.Test.YtoomemfhcbajoaaV6LaRfx7
import Derived.Test.YtoomemfhcbajoaaV6Lb22x2
import Derived.Test.YtoomemfhcbajoaaV6EngRnFx5
import Derived.Test.YtoomemfhcbajoaaRows
import Derived.ProofKit
import Derived.OpenShut
set_option maxRecDepth 100000
set_option linter.unusedVariables false
section
namespace Go.Proofs.Ytoomemfhcbajoaa.Known
open Go.Eng Go.Proofs
theorem named:df Try.prog:=by
 have h:(Try.prog.funcs.toList.all fun fn=>fn.body.isNone || !(fn.name == "runtime.NumGoroutine"))=true:=by kernel_rfl
 intro f fn hf hb
 have:=List.all_eq_true.1 h fn (by simpa using Array.mem_of_getElem? hf)
 rw[hb] at this
 simpa using this
theorem mixed:Try.prog.follows .mixedOrders=true:=by kernel_rfl
theorem It:∀ e ∈ ([]:List gp),bz Try.prog e:=fun e h=>by cases h
theorem cB {e:gp} {t:List gp} (h:bz Try.prog e) (k:∀ x ∈ t,bz Try.prog x):∀ x ∈ e::t,bz Try.prog x:=fun x hx=>by
 rcases List.mem_cons.1 hx with rfl | hx
 · exact h
 · exact k x hx
def NZ:List gp:=[]
theorem C9:∀ e ∈ NZ,bz Try.prog e:=It
def cR:List Nat→Code→Code
 | [],c=>c
 | x :: p,c=>match c with
   | .seq a b=>match x with
     | 0=>cR p a
     | _=>cR p b
   | .cond _ a b=>match x with
     | 0=>cR p a
     | _=>cR p b
   | .block _ b=>cR p b
   | .loop b=>cR p b
   | .scope b=>cR p b
   | .rangeFunc _ _ a b=>match x with
     | 0=>cR p a
     | _=>cR p b
   | c=>c
def lD:Code→Array Oper
 | .region _ ops _=>ops
 | _=>#[]
noncomputable def eR:Code:=Try.f90.body.getD .skip
def Ky (l:List Oper):Oper:=l.headD { dst:=none,op:=.move (.tmp 0),type:=0,pos := "",after:=#[],guard:=none }
noncomputable def da:cN:={ id0:=3,ops0:=lD (cR [1,1,1,0,0] eR),pre:=(lD (cR [1,1,1,0,0] eR)).toList.take 1,ro:=Ky ((lD (cR [1,1,1,0,0] eR)).toList.drop 1),m:=9,ty:=95 }
noncomputable def bD:bu:={ out:=0,iS:=4,id2:=5,nxt:=1,ops1:=lD (cR [1,1,1,0,1,0,0,0] eR),ops2:=lD (cR [1,1,1,0,1,0,0,1,1,0,0] eR),no:=Ky (lD (cR [1,1,1,0,1,0,0,0] eR)).toList,eo:=Ky (lD (cR [1,1,1,0,1,0,0,1,1,0,0] eR)).toList,t1:=(lD (cR [1,1,1,0,1,0,0,0] eR)).toList.tail,t2:=(lD (cR [1,1,1,0,1,0,0,1,1,0,0] eR)).toList.tail,it:=10,nx:=11,mo:=12,en:=13,rest:=cR [1,1,1,0,1,0,0,1,1,0,1] eR,km:=16775424 }
noncomputable def pick:oD:={ f:=90,pre:=[cR [0] eR,cR [1,0] eR,cR [1,1,0] eR],S:=da,L:=bD,suf:=cR [1,1,1,1] eR }
theorem Bz:Try.f90.body=some (assemble pick.pre (da.code bD) pick.suf):=by kernel_rfl
theorem xD:da.ops0.toList=da.pre++[da.ro]:=by kernel_rfl
theorem xG:da.ro.op=.range da.ty (.tmp da.m):=by kernel_rfl
theorem xx:da.ro.dst=some bD.it:=by kernel_rfl
theorem xA:da.ro.guard=none:=by kernel_rfl
theorem xE:bD.ops1.toList=bD.no::bD.t1:=by kernel_rfl
theorem xH:bD.no.op=.next (.tmp bD.it) false:=by kernel_rfl
theorem xy:bD.no.dst=some bD.nx:=by kernel_rfl
theorem xB:bD.no.guard=none:=by kernel_rfl
theorem xF:bD.ops2.toList=bD.eo::bD.t2:=by kernel_rfl
theorem xI:bD.eo.op=.entry (.tmp bD.it):=by kernel_rfl
theorem xz:bD.eo.dst=some bD.en:=by kernel_rfl
theorem xC:bD.eo.guard=none:=by kernel_rfl
theorem xJ:pick.Ok Try.prog:=⟨⟨Try.f90,Try.func90,Bz⟩,⟨xD,xG,xx,xA,⟨_,_,Try.underlying95⟩⟩,⟨xE,xH,xy,xB,xF,xI,xz,xC⟩⟩
noncomputable def rs:List oD:=[pick]
theorem fb:∀ r ∈ rs,r.Ok Try.prog:=fun r h=>by
 rcases List.mem_cons.1 h with rfl | h
 · exact xJ
 · cases h
end Go.Proofs.Ytoomemfhcbajoaa.Known
end
section
namespace Go.Proofs.Ytoomemfhcbajoaa.Known
open Go.Eng Go.Proofs
noncomputable def E1:gp:=⟨50,[.int .i64 5],.agg (.G [.slcT none (.I .i64 [2,2,6,5,5,6,-1]) 1 7 true,.slcT none (.I .i64 [5,5,5,5,5,5,5]) 1 7 true])⟩
theorem UD:bz Try.prog E1:=ct named mixed C9 fb [54,95] KtL.kt 100000 40 (H':=[⟨true,[]⟩]) (by kernel_rfl) (by kernel_rfl)
noncomputable def N0:List gp:=E1::NZ
theorem Da:∀ e ∈ N0,bz Try.prog e:=cB UD C9
noncomputable def E2:gp:=⟨50,[.int .i64 4],.agg (.G [.slcT none (.I .i64 [2,2,6,5,5,6,-1]) 1 7 true,.slcT none (.I .i64 [4,4,4,4,4,4,4]) 1 7 true])⟩
theorem UE:bz Try.prog E2:=ct named mixed Da fb [54,95] KtL.kt 100000 40 (H':=[⟨true,[]⟩]) (by kernel_rfl) (by kernel_rfl)
noncomputable def N1:List gp:=E2::N0
theorem Db:∀ e ∈ N1,bz Try.prog e:=cB UE Da
end Go.Proofs.Ytoomemfhcbajoaa.Known
end
section
namespace Go.Proofs.Ytoomemfhcbajoaa.Known
open Go.Eng Go.Proofs
noncomputable def E3:gp:=⟨50,[.int .i64 3],.agg (.G [.slcT none (.I .i64 [2,2,6,5,5,6,-1]) 1 7 true,.slcT none (.I .i64 [3,3,3,3,3,3,3]) 1 7 true])⟩
theorem UF:bz Try.prog E3:=ct named mixed Db fb [54,95] KtL.kt 100000 40 (H':=[⟨true,[]⟩]) (by kernel_rfl) (by kernel_rfl)
noncomputable def N3:List gp:=E3::N1
theorem Dc:∀ e ∈ N3,bz Try.prog e:=cB UF Db
noncomputable def E4:gp:=⟨21,[.agg (.G [.slcT none (.I .i64 [2,2,6,5,5,6,-1]) 1 7 true,.slcT none (.I .i64 [5,5,5,5,5,5,5]) 1 7 true])],.int .i64 0⟩
theorem UG:bz Try.prog E4:=ct named mixed Dc fb [54,95] KtL.kt 100000 40 (H':=[⟨true,[]⟩]) (by kernel_rfl) (by kernel_rfl)
noncomputable def N4:List gp:=E4::N3
theorem Dd:∀ e ∈ N4,bz Try.prog e:=cB UG Dc
end Go.Proofs.Ytoomemfhcbajoaa.Known
end
section
namespace Go.Proofs.Ytoomemfhcbajoaa.Known
open Go.Eng Go.Proofs
noncomputable def E5:gp:=⟨17,[.agg (.G [.slcT none (.I .i64 [2,2,6,5,5,6,-1]) 1 7 true,.slcT none (.I .i64 [5,5,5,5,5,5,5]) 1 7 true])],.tup [.slcT none (.I .i64 [3,3,2,3,3,2,1]) 1 7 false,.int .i64 0]⟩
theorem UH:bz Try.prog E5:=ct named mixed Dd fb [54,95] KtL.kt 100000 40 (H':=[⟨true,[]⟩]) (by kernel_rfl) (by kernel_rfl)
noncomputable def N5:List gp:=E5::N4
theorem De:∀ e ∈ N5,bz Try.prog e:=cB UH Dd
noncomputable def E6:gp:=⟨19,[.agg (.G [.slcT none (.I .i64 [2,2,6,5,5,6,-1]) 1 7 true,.slcT none (.I .i64 [5,5,5,5,5,5,5]) 1 7 true])],.tup [.slcT none (.I .i64 [3,3,4,3,3,4,5]) 1 7 false,.int .i64 0]⟩
theorem UI:bz Try.prog E6:=ct named mixed De fb [54,95] KtL.kt 100000 40 (H':=[⟨true,[]⟩]) (by kernel_rfl) (by kernel_rfl)
noncomputable def N6:List gp:=E6::N5
theorem Df:∀ e ∈ N6,bz Try.prog e:=cB UI De
end Go.Proofs.Ytoomemfhcbajoaa.Known
end
section
namespace Go.Proofs.Ytoomemfhcbajoaa.Known
open Go.Eng Go.Proofs
noncomputable def E7:gp:=⟨21,[.agg (.G [.slcT none (.I .i64 [2,2,6,5,5,6,-1]) 1 7 true,.slcT none (.I .i64 [4,4,4,4,4,4,4]) 1 7 true])],.int .i64 0⟩
theorem UJ:bz Try.prog E7:=ct named mixed Df fb [54,95] KtL.kt 100000 40 (H':=[⟨true,[]⟩]) (by kernel_rfl) (by kernel_rfl)
noncomputable def N7:List gp:=E7::N6
theorem Dg:∀ e ∈ N7,bz Try.prog e:=cB UJ Df
noncomputable def E8:gp:=⟨21,[.agg (.G [.slcT none (.I .i64 [2,2,6,5,5,6,-1]) 1 7 true,.slcT none (.I .i64 [3,3,3,3,3,3,3]) 1 7 true])],.int .i64 0⟩
theorem UK:bz Try.prog E8:=ct named mixed Dg fb [54,95] KtL.kt 100000 40 (H':=[⟨true,[]⟩]) (by kernel_rfl) (by kernel_rfl)
noncomputable def N8:List gp:=E8::N7
theorem Dh:∀ e ∈ N8,bz Try.prog e:=cB UK Dg
end Go.Proofs.Ytoomemfhcbajoaa.Known
end
section
namespace Go.Proofs.Ytoomemfhcbajoaa.Known
open Go.Eng Go.Proofs
noncomputable def E9:gp:=⟨32,[.agg (.G [.slcT none (.I .i64 [2,2,6,5,5,6,-1]) 1 7 true,.slcT none (.I .i64 [3,3,3,3,3,3,3]) 1 7 true]),.int .i64 2],.tup [.int .i64 1,.int .i64 0]⟩
theorem UL:bz Try.prog E9:=ct named mixed Dh fb [54,95] KtL.kt 100000 40 (H':=[⟨true,[]⟩]) (by kernel_rfl) (by kernel_rfl)
noncomputable def N9:List gp:=E9::N8
theorem Di:∀ e ∈ N9,bz Try.prog e:=cB UL Dh
noncomputable def Rw:gp:=⟨32,[.agg (.G [.slcT none (.I .i64 [2,2,6,5,5,6,-1]) 1 7 true,.slcT none (.I .i64 [4,4,4,4,4,4,4]) 1 7 true]),.int .i64 2],.tup [.int .i64 0,.int .i64 5]⟩
theorem Qd:bz Try.prog Rw:=ct named mixed Di fb [54,95] KtL.kt 100000 40 (H':=[⟨true,[]⟩]) (by kernel_rfl) (by kernel_rfl)
noncomputable def JO:List gp:=Rw::N9
theorem Aw:∀ e ∈ JO,bz Try.prog e:=cB Qd Di
end Go.Proofs.Ytoomemfhcbajoaa.Known
end
section
namespace Go.Proofs.Ytoomemfhcbajoaa.Known
open Go.Eng Go.Proofs
noncomputable def Rx:gp:=⟨34,[.agg (.G [.slcT none (.I .i64 [2,2,6,5,5,6,-1]) 1 7 true,.slcT none (.I .i64 [3,3,3,3,3,3,3]) 1 7 true])],.tup [.int .i64 4,.int .i64 0]⟩
theorem Qe:bz Try.prog Rx:=ct named mixed Aw fb [54,95] KtL.kt 100000 40 (H':=[⟨true,[]⟩]) (by kernel_rfl) (by kernel_rfl)
noncomputable def JP:List gp:=Rx::JO
theorem Ax:∀ e ∈ JP,bz Try.prog e:=cB Qe Aw
noncomputable def Ry:gp:=⟨36,[.agg (.G [.slcT none (.I .i64 [2,2,6,5,5,6,-1]) 1 7 true,.slcT none (.I .i64 [5,5,5,5,5,5,5]) 1 7 true]),.int .i64 4],.tup [.int .i64 3,.int .i64 0]⟩
theorem Qf:bz Try.prog Ry:=ct named mixed Ax fb [54,95] KtL.kt 100000 40 (H':=[⟨true,[]⟩]) (by kernel_rfl) (by kernel_rfl)
noncomputable def JQ:List gp:=Ry::JP
theorem Ay:∀ e ∈ JQ,bz Try.prog e:=cB Qf Ax
end Go.Proofs.Ytoomemfhcbajoaa.Known
end
section
namespace Go.Proofs.Ytoomemfhcbajoaa.Known
open Go.Eng Go.Proofs
noncomputable def Rz:gp:=⟨39,[.agg (.G [.slcT none (.I .i64 [2,2,6,5,5,6,-1]) 1 7 true,.slcT none (.I .i64 [4,4,4,4,4,4,4]) 1 7 true]),.int .i64 2,.int .i64 5],.tup [.int .i64 3,.int .i64 0]⟩
theorem Qg:bz Try.prog Rz:=ct named mixed Ay fb [54,95] KtL.kt 100000 40 (H':=[⟨true,[]⟩]) (by kernel_rfl) (by kernel_rfl)
noncomputable def JR:List gp:=Rz::JQ
theorem Az:∀ e ∈ JR,bz Try.prog e:=cB Qg Ay
noncomputable def RA:gp:=⟨41,[.agg (.G [.slcT none (.I .i64 [2,2,6,5,5,6,-1]) 1 7 true,.slcT none (.I .i64 [5,5,5,5,5,5,5]) 1 7 true]),.int .i64 2],.tup [.slcT none (.I .i64 [1,2,3,4,5]) 1 5 false,.int .i64 0]⟩
theorem Qh:bz Try.prog RA:=ct named mixed Az fb [54,95] KtL.kt 100000 40 (H':=[⟨true,[]⟩]) (by kernel_rfl) (by kernel_rfl)
noncomputable def JS:List gp:=RA::JR
theorem AA:∀ e ∈ JS,bz Try.prog e:=cB Qh Az
end Go.Proofs.Ytoomemfhcbajoaa.Known
end
section
namespace Go.Proofs.Ytoomemfhcbajoaa.Known
open Go.Eng Go.Proofs
noncomputable def RB:gp:=⟨37,[.agg (.G [.slcT none (.I .i64 [2,2,6,5,5,6,-1]) 1 7 true,.slcT none (.I .i64 [3,3,3,3,3,3,3]) 1 7 true]),.int .i64 2,.int .i64 1],.int .i64 0⟩
theorem Qi:bz Try.prog RB:=ct named mixed AA fb [54,95] KtL.kt 100000 40 (H':=[⟨true,[]⟩]) (by kernel_rfl) (by kernel_rfl)
noncomputable def JT:List gp:=RB::JS
theorem AB:∀ e ∈ JT,bz Try.prog e:=cB Qi AA
noncomputable def RC:gp:=⟨37,[.agg (.G [.slcT none (.I .i64 [2,2,6,5,5,6,-1]) 1 7 true,.slcT none (.I .i64 [4,4,4,4,4,4,4]) 1 7 true]),.int .i64 2,.int .i64 1],.int .i64 14⟩
theorem Qj:bz Try.prog RC:=ct named mixed AB fb [54,95] KtL.kt 100000 40 (H':=[⟨true,[]⟩]) (by kernel_rfl) (by kernel_rfl)
noncomputable def JU:List gp:=RC::JT
theorem AD:∀ e ∈ JU,bz Try.prog e:=cB Qj AB
end Go.Proofs.Ytoomemfhcbajoaa.Known
end
section
namespace Go.Proofs.Ytoomemfhcbajoaa.Known
open Go.Eng Go.Proofs
noncomputable def RD:gp:=⟨34,[.agg (.G [.slcT none (.I .i64 [2,2,6,5,5,6,-1]) 1 7 true,.slcT none (.I .i64 [5,5,5,5,5,5,5]) 1 7 true])],.tup [.int .i64 2,.int .i64 0]⟩
theorem Qk:bz Try.prog RD:=ct named mixed AD fb [54,95] KtL.kt 100000 40 (H':=[⟨true,[]⟩]) (by kernel_rfl) (by kernel_rfl)
noncomputable def JV:List gp:=RD::JU
theorem AE:∀ e ∈ JV,bz Try.prog e:=cB Qk AD
noncomputable def RF:gp:=⟨34,[.agg (.G [.slcT none (.I .i64 [2,2,6,5,5,6,-1]) 1 7 true,.slcT none (.I .i64 [4,4,4,4,4,4,4]) 1 7 true])],.tup [.int .i64 2,.int .i64 0]⟩
theorem Ql:bz Try.prog RF:=ct named mixed AE fb [54,95] KtL.kt 100000 40 (H':=[⟨true,[]⟩]) (by kernel_rfl) (by kernel_rfl)
noncomputable def JW:List gp:=RF::JV
theorem AF:∀ e ∈ JW,bz Try.prog e:=cB Ql AE
end Go.Proofs.Ytoomemfhcbajoaa.Known
end
section
namespace Go.Proofs.Ytoomemfhcbajoaa.Known
open Go.Eng Go.Proofs
noncomputable def RG:gp:=⟨36,[.agg (.G [.slcT none (.I .i64 [2,2,6,5,5,6,-1]) 1 7 true,.slcT none (.I .i64 [5,5,5,5,5,5,5]) 1 7 true]),.int .i64 2],.tup [.int .i64 4,.int .i64 0]⟩
theorem Qm:bz Try.prog RG:=ct named mixed AF fb [54,95] KtL.kt 100000 40 (H':=[⟨true,[]⟩]) (by kernel_rfl) (by kernel_rfl)
noncomputable def JX:List gp:=RG::JW
theorem AG:∀ e ∈ JX,bz Try.prog e:=cB Qm AF
noncomputable def RH:gp:=⟨36,[.agg (.G [.slcT none (.I .i64 [2,2,6,5,5,6,-1]) 1 7 true,.slcT none (.I .i64 [5,5,5,5,5,5,5]) 1 7 true]),.int .i64 3],.tup [.int .i64 4,.int .i64 0]⟩
theorem Qn:bz Try.prog RH:=ct named mixed AG fb [54,95] KtL.kt 100000 40 (H':=[⟨true,[]⟩]) (by kernel_rfl) (by kernel_rfl)
noncomputable def JY:List gp:=RH::JX
theorem AH:∀ e ∈ JY,bz Try.prog e:=cB Qn AG
end Go.Proofs.Ytoomemfhcbajoaa.Known
end
section
namespace Go.Proofs.Ytoomemfhcbajoaa.Known
open Go.Eng Go.Proofs
noncomputable def RI:gp:=⟨39,[.agg (.G [.slcT none (.I .i64 [2,2,6,5,5,6,-1]) 1 7 true,.slcT none (.I .i64 [5,5,5,5,5,5,5]) 1 7 true]),.int .i64 2,.int .i64 5],.tup [.int .i64 2,.int .i64 0]⟩
theorem Qo:bz Try.prog RI:=ct named mixed AH fb [54,95] KtL.kt 100000 40 (H':=[⟨true,[]⟩]) (by kernel_rfl) (by kernel_rfl)
noncomputable def JZ:List gp:=RI::JY
theorem AI:∀ e ∈ JZ,bz Try.prog e:=cB Qo AH
noncomputable def RJ:gp:=⟨41,[.agg (.G [.slcT none (.I .i64 [2,2,6,5,5,6,-1]) 1 7 true,.slcT none (.I .i64 [4,4,4,4,4,4,4]) 1 7 true]),.int .i64 2],.tup [.nils,.int .i64 0]⟩
theorem Qp:bz Try.prog RJ:=ct named mixed AI fb [54,95] KtL.kt 100000 40 (H':=[⟨true,[]⟩]) (by kernel_rfl) (by kernel_rfl)
noncomputable def N2:List gp:=RJ::JZ
theorem GX:∀ e ∈ N2,bz Try.prog e:=cB Qp AI
end Go.Proofs.Ytoomemfhcbajoaa.Known
end
section
namespace Go.Proofs.Ytoomemfhcbajoaa.Known
open Go.Eng Go.Proofs
noncomputable def EW:gp:=⟨16,[],.bool true⟩
theorem okW:bz Try.prog EW:=ct named mixed GX fb [54,95] KtL.kt 100000 40 (H':=[⟨true,[]⟩]) (by kernel_rfl) (by kernel_rfl)
end Go.Proofs.Ytoomemfhcbajoaa.Known
end
section
namespace Go.Eng
open Go.Proofs Go.ChangeShapes Go.WideShapes Go.ChangeAt Go.RowKit
theorem R4 {p:aK} {M:Mu} {k:IntKind} {z:Nat→Int} {N sz len:Nat} {full:Bool} {v:Value} (h:aj p M (.slcT none (.F (fun j=>.int k (z j)) N) sz len full) v):aj p M (.slcT none (.M [.arr k z N]) sz len full) v:=by
 cases h with
 | slcN=>exact .slcN
 | slcT vs h0 h1 hv hl hf hx =>
   have e:∀ j,j<(Row.M [ah.arr k z N]).len→j<N:=fun j hj=>by simpa[Row.len,az,aQ] using hj
   refine .slcT vs (fun j hj=>h0 j (e j hj)) (fun j hj=>h1 j (e j hj)) (fun j hj=>?_) hl hf hx
   have:=hv j (e j hj)
   simp only[Row.get,getM,if_pos (e j hj)] at this ⊢
   exact this.bF _ _
theorem uj {P:Program} {w:World} {r:Reach} {base:Nat} {t e:TypeId} {v:Value} (ht:P.underlying t=some (.slice e)) (h:Cell.okWide P w r base t v):∀ a l c,v=.slice (some a) l c→a.spot=none:=by
 rintro a l c rfl
 simp only[Cell.okWide,ht,Cell.ok] at h
 exact h.2.2.2.1
theorem FI:Jb Try.prog 3 1:=FJ Try.underlying3
def yk (t:TypeId) (A:AV→Prop):Prop:=∀ (H:Type) (enc:TypeId×Value→H) (w:World) (r:Reach) (b0 base:Nat) (sp:Nat→Bool) (hsp:∀ b,sp b=true) (held:Bool) (v:Value) (d:DataW H) (ps:List MemPlace),
 Value.okWide Try.prog w r b0 t v→DataW.Trod enc Try.prog w base sp held t v d ps→∃ a,A a∧aj (Pw w) Mu.no a v
def AQ:List (AV→Prop)→List AV→Prop
 | [],[]=>True
 | A::As,a::xs=>A a∧AQ As xs
 | _,_=>False
theorem mT {A:AV→Prop} {As:List (AV→Prop)} {xs:List AV} (h:AQ (A::As) xs):∃ a ys,xs=a::ys∧A a∧AQ As ys:=by
 cases xs with
 | nil=>exact h.elim
 | cons a ys=>exact ⟨a,ys,rfl,h.1,h.2⟩
theorem EM {xs:List AV} (h:AQ [] xs):xs=[]:=by
 cases xs with
 | nil=>rfl
 | cons a ys=>exact h.elim
def J3:List TypeId→List (AV→Prop)→Prop
 | [],[]=>True
 | t::ts,A::As=>yk t A∧J3 ts As
 | _,_=>False
theorem BZ {H:Type} {enc:TypeId×Value→H} {w:World} {r:Reach} {b0 base:Nat} {sp:Nat→Bool} (hsp:∀ b,sp b=true) {held:Bool}:∀ (ts:List TypeId) (As:List (AV→Prop)) (vs:List Value) (ds:List (DataW H)) (ps:List MemPlace),J3 ts As →
 (∀ (j:Nat) t v,ts[j]?=some t→vs[j]?=some v→Value.okWide Try.prog w r b0 t v)→DataW.TrodAll enc Try.prog w base sp held ts vs ds ps→∃ xs,AQ As xs∧vs.length=xs.length∧∀ j,j<xs.length→aj (Pw w) Mu.no (xs.getD j .undef) (vs.getD j undef)
 | [],[],vs,ds,ps,_,_,h=>by
   obtain ⟨rfl,rfl,rfl⟩:=trodAll_nil h
   exact ⟨[],trivial,rfl,fun j hj=>by simp at hj⟩
 | t::ts,A::As,vs,ds,ps,hT,hv,h=>by
   obtain ⟨v,vs',d,ds',p,q,rfl,rfl,rfl,h1,h2⟩:=trodAll_cons h
   obtain ⟨a,ha,hr⟩:=hT.1 H enc w r b0 base sp hsp held v d p (hv 0 t v rfl rfl) h1
   obtain ⟨xs,hA,hl,hR⟩:=BZ hsp ts As vs' ds' q hT.2 (fun j t' v' e1 e2=>hv (j+1) t' v' (by simpa using e1) (by simpa using e2)) h2
   refine ⟨a::xs,⟨ha,hA⟩,by simp[hl],fun j hj=>?_⟩
   cases j with
   | zero=>exact hr
   | succ j=>simpa using hR j (by simpa using hj)
 | [],_::_,_,_,_,hT,_,_=>hT.elim
 | _::_,[],_,_,_,hT,_,_=>hT.elim
theorem wA {H:Type} {enc:TypeId×Value→H} {W W':World} {base:Nat} {sp':Nat→Bool} (hl:laidOutB Try.prog=true):∀ (ts:List TypeId) (vs:List Value) (ds:List (DataW H)) (ps:List MemPlace),(∀ t ∈ ts,Try.prog.readableRec t=true∧t<Try.prog.types.size) →
 DataW.TrodAll enc Try.prog W base (fun _=>true) true ts vs ds ps→(∀ p ∈ ps,W.sameAt W' p)→(∀ p ∈ ps,sp' p.block=true)→DataW.TrodAll enc Try.prog W' base sp' true ts vs ds ps
 | [],vs,ds,ps,_,h,_,_=>by
   obtain ⟨rfl,rfl,rfl⟩:=trodAll_nil h
   exact trodAll_mk0
 | t::ts,vs,ds,ps,ht,h,hs,hp=>by
   obtain ⟨v,vs',d,ds',p,q,rfl,rfl,rfl,h1,h2⟩:=trodAll_cons h
   obtain ⟨r1,r2⟩:=ht t (by simp)
   refine ⟨p,q,?_,wA hl ts vs' ds' q (fun t' h'=>ht t' (List.mem_cons_of_mem _ h')) h2 (fun x hx=>hs x (List.mem_append_right _ hx)) (fun x hx=>hp x (List.mem_append_right _ hx)),rfl⟩
   exact WideElems.Trod_stays hl r1 r2 h1 (fun x hx=>hs x (List.mem_append_left _ hx)) (fun x hx=>hp x (List.mem_append_left _ hx))
theorem Mi (hN:df Try.prog) (hm:Try.prog.follows .mixedOrders=true) (hW:bz Try.prog ⟨16,[],.bool true⟩) (n:Nat):cw Try.prog (cd n) :=
 p7 hN (wU hN hm) (Iw hN (wU hN hm) hW) KtL.kt 100000 n
theorem D1 {f:FuncId} {ts:List TypeId} {As:List (AV→Prop)} (hT:J3 ts As) {n:Nat} (hlaw:∀ xs,AQ As xs→∃ H',cd n (.fn f) xs [⟨true,[]⟩]=some (.bool true,H')) {H:Type} {enc:TypeId×Value→H} {w:World} {r:Reach} {b0 base:Nat} {sp:Nat→Bool} {held:Bool} {args:Array Value} {ds:List (DataW H)} {ps:List MemPlace} (hsp:∀ b,sp b=true)
 (hv:∀ (j:Nat) t v,ts[j]?=some t→args[j]?=some v→Value.okWide Try.prog w r b0 t v) (h:DataW.TrodAll enc Try.prog w base sp held ts args.toList ds ps) :
 Calls Try.prog f args w (fun e w'=>e=.returned (.bool true)∧Go.RowKit.Below w.heap.size w w'):=by
 obtain ⟨xs,hA,hl,hR⟩:=BZ hsp ts As args.toList ds ps hT (fun j t v e1 e2=>hv j t v e1 (by simpa using e2)) h
 obtain ⟨H',hc⟩:=hlaw xs hA
 refine DD (Mi Ytoomemfhcbajoaa.Known.named Ytoomemfhcbajoaa.Known.mixed Ytoomemfhcbajoaa.Known.okW n) hc ⟨by simpa using hl,fun j hj=>?_⟩
 have:=hR j hj
 have e:args.toList.getD j undef=args.getD j undef:=by
  rw[Array.getD_eq_getD_getElem?,List.getD_eq_getElem?_getD,Array.getElem?_toList]
 rwa [e] at this
theorem Hs {t:TypeId} {k:IntKind} (ht:Try.prog.underlying t=some (.int k)):yk t (fun a=>∃ n:Int,a=.int k n∧(Lit.int k n).wf=true):=fun H enc w r b0 base sp hsp held v d ps hv h=>by
 obtain ⟨fuel,hf⟩:=h
 obtain ⟨n,e,_,hw⟩:=DataW.trod_int ht hf
 obtain ⟨s,rfl⟩:=WideShapes.okWide_int ht hv
 have:s=n:=by simpa[Value.cells] using e
 subst this
 exact ⟨_,⟨s,rfl,hw⟩,.int _ _⟩
def LN (a:AV):Prop:=∃ n:Int,a=.int .u8 n∧0≤n∧n≤255
theorem Jd:yk 5 LN:=fun H enc w r b0 base sp hsp held v d ps hv h=>by
 obtain ⟨a,⟨n,rfl,hw⟩,hr⟩:=Hs Try.underlying5 H enc w r b0 base sp hsp held v d ps hv h
 simp[Lit.wf,IntKind.min,IntKind.max,IntKind.signed,IntKind.bits] at hw
 exact ⟨_,⟨n,rfl,by omega,by omega⟩,hr⟩
theorem own:ownKnob Try.prog.godebug=none:=by kernel_rfl
theorem laidOut:laidOutB Try.prog=true:=by kernel_rfl
theorem wx {t e n:Nat} (ht:Try.prog.underlying t=some (.slice e)) (he:Jb Try.prog e n) (hn:0<n) (hc:Try.prog.cellsOf e=n) {H:Type} {enc:TypeId×Value→H} {w:World} {r:Reach} {b0 base:Nat} {sp:Nat→Bool} {held:Bool} {fuel:Nat} {v:Value} {x:DataW H×List MemPlace}
 (hv:Cell.okWide Try.prog w r b0 t v) (h:DataW.trod enc Try.prog w base sp held fuel t [v]=some x):∃ len z,aj (Pw w) Mu.no (Oy n len z) v∧v.oneCell'=true:=by
 rcases ui ht he hn hc (uj ht hv) h with rfl | ⟨zs,len,h1,h2⟩
 · exact ⟨0,fun _=>0,.slcN,rfl⟩
 · refine ⟨len,zs,?_,?_⟩
   · unfold Oy
     rw[cC]
     exact R4 h1
   · cases h1<;>rfl
def AP (a:AV):Prop:=∃ (l:Nat) (t:Nat→Int) (k:Nat) (d:Nat→Int),a=b5 l t k d
theorem Nx (l:Nat) (z:Nat→Int):Oy 1 l z=b6 l z false:=by unfold Oy b6;rw[cC,Nat.mul_one]
theorem EU:yk 24 AP:=fun H enc w r b0 base sp hsp held v d ps hv h=>by
 have hts:Try.prog.cellTypes Try.prog.depth 24=some [22,22]:=by kernel_rfl
 have hc24:Try.prog.cellsOf 24=2:=by kernel_rfl
 have hc22:Try.prog.cellsOf 22=1:=by kernel_rfl
 have hc3:Try.prog.cellsOf 3=1:=by kernel_rfl
 simp only[Value.okWide,Try.underlying24] at hv
 obtain ⟨cs,rfl,hsz,ts,ht,_,hcell⟩:=hv
 rw[hts] at ht
 obtain rfl:=Option.some.inj ht
 rw[hc24] at hsz
 obtain ⟨fuel,hf⟩:=h
 obtain ⟨xs,n,_,_,_,hxl,hfield⟩:=DataW.trod_struct Try.underlying24 hf
 have e3:∃ c0 c1,cs=#[c0,c1]:=by
  refine ⟨cs[0],cs[1],?_⟩
  apply Array.ext
  · simpa using hsz
  · intro i h1 h2
    simp at h2
    match i,h2 with
    | 0,_=>rfl
    | 1,_=>rfl
 obtain ⟨c0,c1,rfl⟩:=e3
 have some_of:∀ i,i<2→∃ y,xs[i]?=some y:=fun i hi=>by
  have:i<xs.length:=by rw[hxl];simpa using hi
  exact ⟨xs[i],List.getElem?_eq_getElem this⟩
 obtain ⟨y0,hy0⟩:=some_of 0 (by omega)
 obtain ⟨y1,hy1⟩:=some_of 1 (by omega)
 have f0:=hfield 0 _ rfl
 have f1:=hfield 1 _ rfl
 rw[hy0] at f0
 rw[hy1] at f1
 simp only[Value.cells] at f0 f1
 have g0:DataW.trod enc Try.prog w base sp held n 22 [c0]=some y0:=by simpa[hc22] using f0
 have g1:DataW.trod enc Try.prog w base sp held n 22 [c1]=some y1:=by simpa[hc22] using f1
 obtain ⟨u0,hu0,k0⟩:=hcell 0 c0 rfl
 obtain ⟨u1,hu1,k1⟩:=hcell 1 c1 rfl
 simp at hu0 hu1
 subst hu0;subst hu1
 obtain ⟨l,z0,r0,o0⟩:=wx Try.underlying22 FI (by omega) hc3 k0 g0
 obtain ⟨k,z1,r1,o1⟩:=wx Try.underlying22 FI (by omega) hc3 k1 g1
 rw[Nx] at r0 r1
 refine ⟨_,⟨l,z0,k,z1,rfl⟩,?_⟩
 refine .agg rfl (fun j hj=>?_) (fun j hj=>?_)
 · have hj':j<2:=hj
   match j,hj' with
   | 0,_=>exact o0
   | 1,_=>exact o1
 · have hj':j<2:=hj
   match j,hj' with
   | 0,_=>exact r0
   | 1,_=>exact r1
def OB (a:AV):Prop:=∃ (m:Nat) (f:Nat→Nat→Int) (g:Nat→Nat),a=dA m f g∧∀ i j,-9223372036854775808≤f i j∧f i j≤9223372036854775807
theorem EL {a:Addr} (h:a.spot=none) (i:Nat):a.add i=⟨a.block,a.off+i,none⟩:=by
 obtain ⟨b,o,s⟩:=a
 dsimp only at h
 subst h
 unfold Addr.add
 split
 · rename_i h0;subst h0;rfl
 · rfl
theorem p9 {w:World} {base:Nat} {a:Addr} {cs:List Value} (h:w.cells? base a 1=some cs):∃ c,cs=[c]∧w.cell? a=some c:=by
 unfold World.cells? at h
 split at h
 · cases hc:w.cell? (a.add 0) with
   | none=>simp[List.range_succ,hc] at h
   | some c =>
     simp[List.range_succ,hc] at h
     exact ⟨c,h.symm,hc⟩
 · cases h
theorem vA {w:World} {a:Addr} {v:Value} (h:w.cell? a=some v):a.spot=none:=by
 unfold World.cell? at h
 split at h
 · split at h
   · cases h
   · rename_i hs
     cases ha:a.spot with
     | none=>rfl
     | some x=>rw[ha] at hs;exact absurd rfl hs
 · cases h
theorem pT:(-9223372036854775808:Int)≤0∧(0:Int)≤9223372036854775807:=by decide
theorem Bm {H:Type} {enc:TypeId×Value→H} {w:World} {base:Nat} {sp:Nat→Bool} (hsp:∀ b,sp b=true) {held:Bool} {fuel:Nat} {v:Value} {x:DataW H×List MemPlace} (h:DataW.trod enc Try.prog w base sp held fuel 22 [v]=some x) :
 ∃ (q:Nat) (z:Nat→Int),aj (Pw w) Mu.no (b6 q z false) v∧v.oneCell'=true∧∀ j,-9223372036854775808≤z j∧z j≤9223372036854775807:=by
 have hc3:Try.prog.cellsOf 3=1:=by kernel_rfl
 rcases DataW.trod_slice Try.underlying22 h with ⟨h0,_⟩ | ⟨a,len,cap,elems,rest,m,_,hcs,_,_,hl,_,hlen,hel,hs,_⟩
 · have h0:v=.slice none 0 0:=by simpa using h0
   subst h0
   exact ⟨0,fun _=>0,.slcN,rfl,fun _=>pT⟩
 · simp only[List.cons.injEq,and_true] at hcs
   subst hcs
   by_cases hz:cap=0
   · have hl0:len=0:=by omega
     subst hz;subst hl0
     exact ⟨0,fun _=>0,.slcN,rfl,fun _=>pT⟩
   · have hspot:a.spot=none:=by
      by_cases h1:len=0
      · subst h1
        obtain ⟨r1,r2⟩:=hs (hsp _)
        have:=r2 0 (by omega)
        rw[hc3] at this
        have hne:rest[0]?≠none:=fun h=>by
         have:=List.getElem?_eq_none_iff.1 h;omega
        rw[← this] at hne
        cases hcl:w.cells? base (a.add ((0+0)*1)) 1 with
        | none=>rw[hcl] at hne;simp at hne
        | some cs =>
          obtain ⟨c,_,hc⟩:=p9 hcl
          exact vA hc
      · have:=hel 0 (by omega)
        rw[hc3] at this
        have hne:elems[0]?≠none:=fun h=>by
         have:=List.getElem?_eq_none_iff.1 h;omega
        rw[← this] at hne
        cases hcl:w.cells? base (a.add (0*1)) 1 with
        | none=>rw[hcl] at hne;simp at hne
        | some cs =>
          obtain ⟨c,_,hc⟩:=p9 hcl
          exact vA hc
     rcases ui Try.underlying22 FI (by omega) hc3 (fun b l' c' e=>by injection e with e1 _ _;injection e1 with e1;rw[← e1];exact hspot) h with e | ⟨zs,len',h1,h2⟩
     · cases e
     · refine ⟨len',fun j=>if j<len'*1 then zs j else 0,?_,rfl,fun j=>?_⟩
       · unfold b6
         have h3:=R4 h1
         generalize hv:Value.slice (some a) len cap=v' at h3
         rw[Nat.mul_one] at h3
         cases h3 with
         | slcN=>exact .slcN
         | slcT vs a0 a1 hv' hl hf' hx =>
           refine .slcT vs a0 a1 (fun j hj=>?_) hl hf' hx
           have:=hv' j hj
           have hj':j<len':=by simpa[Row.len,az,aQ] using hj
           simp only[Row.get,getM,if_pos hj',Nat.mul_one] at this ⊢
           exact this.bF _ _
       · dsimp only
         split
         · have:=h2 j (by assumption)
           simp[Lit.wf,IntKind.min,IntKind.max,IntKind.signed,IntKind.bits] at this
           omega
         · exact pT
theorem LP:yk 32 OB:=fun H enc w r b0 base sp hsp held v d ps hv h=>by
 have hc22:Try.prog.cellsOf 22=1:=by kernel_rfl
 simp only[Value.okWide,Try.underlying32] at hv
 have hcell:v.cells.toList=[v]:=by
  simp only[Cell.okWide,Try.underlying32] at hv
  cases v<;>simp_all [Cell.ok]<;>rfl
 obtain ⟨fuel,hf⟩:=h
 rw[hcell] at hf
 have hspot:=uj Try.underlying32 hv
 rcases DataW.trod_slice Try.underlying32 hf with ⟨h0,_⟩ | ⟨a,len,cap,elems,rest,m,_,hcs,_,_,hl,_,hlen,hel,hs,_⟩
 · have h0:v=.slice none 0 0:=by simpa using h0
   subst h0
   exact ⟨_,⟨0,fun _ _=>0,fun _=>0,rfl,fun _ _=>pT⟩,.slcN⟩
 · simp only[List.cons.injEq,and_true] at hcs
   have hsp0:=hspot a len cap hcs
   have cell:∀ j,j<len→∃ c,w.cell? ⟨a.block,a.off+j,none⟩=some c∧c.oneCell'=true∧∃ (q:Nat) (z:Nat→Int),aj (Pw w) Mu.no (b6 q z false) c∧∀ j,-9223372036854775808≤z j∧z j≤9223372036854775807:=fun j hj=>by
    have:=hel j hj
    rw[hc22,Nat.mul_one,EL hsp0] at this
    have hne:elems[j]?≠none:=fun h=>by
     have:=List.getElem?_eq_none_iff.1 h;omega
    rw[← this] at hne
    cases hcl:w.cells? base ⟨a.block,a.off+j,none⟩ 1 with
    | none=>rw[hcl] at hne;simp at hne
    | some cs =>
      obtain ⟨c,rfl,hc⟩:=p9 hcl
      rw[hcl] at hne
      cases ht:DataW.trod enc Try.prog w base sp held m 22 [c] with
      | none=>simp[ht] at hne
      | some y =>
        obtain ⟨q,z,h1,h2,h3⟩:=Bm hsp ht
        exact ⟨c,hc,h2,q,z,h1,h3⟩
   obtain ⟨cs,hcs2⟩:∃ cs:Nat→Value,∀ j,j<len→w.cell? ⟨a.block,a.off+j,none⟩=some (cs j)∧(cs j).oneCell'=true∧∃ (q:Nat) (z:Nat→Int),aj (Pw w) Mu.no (b6 q z false) (cs j)∧∀ j,-9223372036854775808≤z j∧z j≤9223372036854775807 :=
    ⟨fun j=>if h:j<len then Classical.choose (cell j h) else undef,fun j hj=>by
      have:=Classical.choose_spec (cell j hj)
      simp only[dif_pos hj];exact this⟩
   obtain ⟨g,hg⟩:∃ g:Nat→Nat,∀ j,j<len→∃ (z:Nat→Int),aj (Pw w) Mu.no (b6 (g j) z false) (cs j)∧∀ j,-9223372036854775808≤z j∧z j≤9223372036854775807 :=
    ⟨fun j=>if h:j<len then Classical.choose (hcs2 j h).2.2 else 0,fun j hj=>by
      have:=Classical.choose_spec (hcs2 j hj).2.2
      simp only[dif_pos hj];exact this⟩
   obtain ⟨f,hf2⟩:∃ f:Nat→Nat→Int,∀ i,(i<len→aj (Pw w) Mu.no (b6 (g i) (f i) false) (cs i))∧∀ j,-9223372036854775808≤f i j∧f i j≤9223372036854775807 :=
    ⟨fun i=>if h:i<len then Classical.choose (hg i h) else fun _=>0,fun i=>by
      dsimp only
      split
      · rename_i hi
        obtain ⟨z1,z2⟩:=Classical.choose_spec (hg i hi)
        exact ⟨fun _=>z1,z2⟩
      · rename_i hi
        exact ⟨fun h=>absurd h hi,fun _=>pT⟩⟩
   refine ⟨_,⟨len,f,g,rfl,fun i j=>(hf2 i).2 j⟩,?_⟩
   obtain ⟨b,o,s⟩:=a
   dsimp only at hsp0
   subst hsp0
   rw[hcs]
   unfold dA
   exact .slcT (o:=o) cs (fun j hj=>(hcs2 j hj).1) (fun j hj=>(hcs2 j hj).2.1) (fun j hj=>(hf2 j).1 hj) hl (fun h=>by cases h) (.inr rfl)
end Go.Eng
end
