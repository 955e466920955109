/- Closed calls of the seat: what they lean on. -/
import Derived.Test.YtigmfpmabgekoaaGreatV12EngRnLx4
import Derived.Test.YtigmfpmabgekoaaGreatV12EngKtBx4
import Derived.Test.YtigmfpmabgekoaaGreatProg
import Derived.KernelRfl
import Derived.Test.YtigmfpmabgekoaaGreatChecked
import Derived.Test.YtigmfpmabgekoaaGreatV12EngSox7
import Derived.Shelf.SortM.Plain
import Derived.Test.YtigmfpmabgekoaaGreatV12EngThx4
import Derived.Test.YtigmfpmabgekoaaGreatV12EngRnFx3
set_option maxRecDepth 100000
set_option linter.unusedVariables false
set_option linter.unusedSimpArgs false
section
namespace Go.Proofs.YtigmfpmabgekoaaGreat.Known
open Go.Eng Go.Proofs
theorem named:cw Tryz.prog:=by
 have h:(Tryz.prog.funcs.toList.all fun fn=>fn.body.isNone || !(fn.name == "runtime.NumGoroutine"))=true:=by kernel_rfl
 intro f fn hf hb
 have:=List.all_eq_true.1 h fn (by simpa using Array.mem_of_getElem? hf)
 rw[hb] at this
 simpa using this
theorem mixed:Tryz.prog.follows .mixedOrders=true:=by kernel_rfl
theorem Ia:∀ e ∈ ([]:List jK),bV Tryz.prog e:=fun e h=>by cases h
theorem eH {e:jK} {t:List jK} (h:bV Tryz.prog e) (k:∀ x ∈ t,bV Tryz.prog x):∀ x ∈ e::t,bV Tryz.prog x:=fun x hx=>by
 rcases List.mem_cons.1 hx with rfl | hx
 · exact h
 · exact k x hx
def NG:List jK:=[]
theorem CU:∀ e ∈ NG,bV Tryz.prog e:=Ia
def navB:List Nat→Code→Code
 | [],c=>c
 | x :: p,c=>match c with
   | .seq a b=>match x with
     | 0=>navB p a
     | _=>navB p b
   | .cond _ a b=>match x with
     | 0=>navB p a
     | _=>navB p b
   | .block _ b=>navB p b
   | .loop b=>navB p b
   | .scope b=>navB p b
   | .rangeFunc _ _ a b=>match x with
     | 0=>navB p a
     | _=>navB p b
   | c=>c
def xH:Code→Array Oper
 | .region _ ops _=>ops
 | _=>#[]
noncomputable def bd79:Code:=Tryz.f79.body.getD .skip
def OX (l:List Oper):Oper:=l.headD { dst:=none,op:=.move (.tmp 0),type:=0,pos := "",after:=#[],guard:=none }
noncomputable def mostS:bC:={ id0:=24,ops0:=xH (navB [1,1,1,1,1,1,0,0] bd79),pre:=(xH (navB [1,1,1,1,1,1,0,0] bd79)).toList.take 1,ro:=OX ((xH (navB [1,1,1,1,1,1,0,0] bd79)).toList.drop 1),m:=90,ty:=122 }
noncomputable def mostL:bk:={ out:=6,Hr:=25,id2:=26,nxt:=7,ops1:=xH (navB [1,1,1,1,1,1,0,1,0,0,0] bd79),ops2:=xH (navB [1,1,1,1,1,1,0,1,0,0,1,1,0,0] bd79),no:=OX (xH (navB [1,1,1,1,1,1,0,1,0,0,0] bd79)).toList,eo:=OX (xH (navB [1,1,1,1,1,1,0,1,0,0,1,1,0,0] bd79)).toList,t1:=(xH (navB [1,1,1,1,1,1,0,1,0,0,0] bd79)).toList.tail,t2:=(xH (navB [1,1,1,1,1,1,0,1,0,0,1,1,0,0] bd79)).toList.tail,it:=91,nx:=92,mo:=93,en:=94,rest:=navB [1,1,1,1,1,1,0,1,0,0,1,1,0,1] bd79,km:=1361129467678802093696356908627478183936 }
noncomputable def most:qe:={ f:=79,pre:=[navB [0] bd79,navB [1,0] bd79,navB [1,1,0] bd79,navB [1,1,1,0] bd79,navB [1,1,1,1,0] bd79,navB [1,1,1,1,1,0] bd79],S:=mostS,L:=mostL,suf:=navB [1,1,1,1,1,1,1] bd79 }
theorem KB:Tryz.f79.body=some (assemble most.pre (mostS.code mostL) most.suf):=by kernel_rfl
theorem HR:mostS.ops0.toList=mostS.pre++[mostS.ro]:=by kernel_rfl
theorem HU:mostS.ro.op=.range mostS.ty (.tmp mostS.m):=by kernel_rfl
theorem HL:mostS.ro.dst=some mostL.it:=by kernel_rfl
theorem HO:mostS.ro.guard=none:=by kernel_rfl
theorem HS:mostL.ops1.toList=mostL.no::mostL.t1:=by kernel_rfl
theorem HW:mostL.no.op=.next (.tmp mostL.it) false:=by kernel_rfl
theorem HM:mostL.no.dst=some mostL.nx:=by kernel_rfl
theorem HP:mostL.no.guard=none:=by kernel_rfl
theorem HT:mostL.ops2.toList=mostL.eo::mostL.t2:=by kernel_rfl
theorem HY:mostL.eo.op=.entry (.tmp mostL.it):=by kernel_rfl
theorem HN:mostL.eo.dst=some mostL.en:=by kernel_rfl
theorem HQ:mostL.eo.guard=none:=by kernel_rfl
theorem Ct:most.Ok Tryz.prog:=⟨⟨Tryz.f79,Tryz.func79,KB⟩,⟨HR,HU,HL,HO,⟨_,_,Tryz.underlying122⟩⟩,⟨HS,HW,HM,HP,HT,HY,HN,HQ⟩⟩
noncomputable def rs:List qe:=[most]
theorem jA:∀ r ∈ rs,r.Ok Tryz.prog:=fun r h=>by
 rcases List.mem_cons.1 h with rfl | h
 · exact Ct
 · cases h
end Go.Proofs.YtigmfpmabgekoaaGreat.Known
end
section
namespace Go.Proofs
open Go.Shelf
def Tryz.Ec:Go.Shelf.Ren:=⟨fun | 5=>74 | 8=>91 | 7=>90 | 19=>108 | 20=>109 | 10=>99 | 11=>100 | 12=>101 | 13=>102 | 14=>103 | 15=>104 | 16=>105 | 17=>106 | 18=>107 | 30=>113 | 31=>114 | 32=>115 | 33=>116 | 34=>117 | 35=>118 | 40=>128 | n=>n,fun | 23=>30 | 25=>3 | 3=>3 | 32=>118 | 22=>30 | 0=>0 | 44=>138 | 46=>140 | 4=>4 | 36=>131 | 35=>130 | 41=>62 | 5=>5 | 9=>9 | 53=>143 | 57=>147 | 63=>155 | 64=>156 | n=>n,fun | n=>n⟩
theorem Tryz.Nj:Go.Proofs.SlLaysM.n5 Tryz.prog Tryz.Ec:={
 mixed:=by kernel_rfl
 f5:=⟨Tryz.f74.name,by decide,Tryz.func74.trans (congrArg some (by kernel_rfl))⟩
 f7:=⟨Tryz.f90.name,by decide,Tryz.func90.trans (congrArg some (by kernel_rfl))⟩
 f8:=Tryz.func91.trans (congrArg some (by kernel_rfl))
 f10:=⟨Tryz.f99.name,by decide,Tryz.func99.trans (congrArg some (by kernel_rfl))⟩
 f11:=⟨Tryz.f100.name,by decide,Tryz.func100.trans (congrArg some (by kernel_rfl))⟩
 f12:=⟨Tryz.f101.name,by decide,Tryz.func101.trans (congrArg some (by kernel_rfl))⟩
 f13:=⟨Tryz.f102.name,by decide,Tryz.func102.trans (congrArg some (by kernel_rfl))⟩
 f14:=⟨Tryz.f103.name,by decide,Tryz.func103.trans (congrArg some (by kernel_rfl))⟩
 f15:=⟨Tryz.f104.name,by decide,Tryz.func104.trans (congrArg some (by kernel_rfl))⟩
 f16:=⟨Tryz.f105.name,by decide,Tryz.func105.trans (congrArg some (by kernel_rfl))⟩
 f17:=⟨Tryz.f106.name,by decide,Tryz.func106.trans (congrArg some (by kernel_rfl))⟩
 f18:=⟨Tryz.f107.name,by decide,Tryz.func107.trans (congrArg some (by kernel_rfl))⟩
 f19:=Tryz.func108.trans (congrArg some (by kernel_rfl))
 f20:=Tryz.func109.trans (congrArg some (by kernel_rfl))
 f30:=⟨Tryz.f113.name,by decide,Tryz.func113.trans (congrArg some (by kernel_rfl))⟩
 f31:=Tryz.func114.trans (congrArg some (by kernel_rfl))
 f32:=Tryz.func115.trans (congrArg some (by kernel_rfl))
 f33:=⟨Tryz.f116.name,by decide,Tryz.func116.trans (congrArg some (by kernel_rfl))⟩
 f34:=⟨Tryz.f117.name,by decide,Tryz.func117.trans (congrArg some (by kernel_rfl))⟩
 f35:=⟨Tryz.f118.name,by decide,Tryz.func118.trans (congrArg some (by kernel_rfl))⟩
 f40:=⟨Tryz.f128.name,by decide,Tryz.func128.trans (congrArg some (by kernel_rfl))⟩
 t0:=Tryz.underlying0
 a0:=Tryz.isAgg0
 z0:=Tryz.sizeOf0
 v0:=Tryz.zeroValue0
 t3:=Tryz.underlying3
 a3:=Tryz.isAgg3
 z3:=Tryz.sizeOf3
 v3:=Tryz.zeroValue3
 t4:=Tryz.underlying4
 a4:=Tryz.isAgg4
 z4:=Tryz.sizeOf4
 v4:=Tryz.zeroValue4
 t5:=Tryz.underlying5
 a5:=Tryz.isAgg5
 z5:=Tryz.sizeOf5
 v5:=Tryz.zeroValue5
 t9:=Tryz.underlying9
 a9:=Tryz.isAgg9
 z9:=Tryz.sizeOf9
 v9:=Tryz.zeroValue9
 t22:=Tryz.underlying30
 a22:=Tryz.isAgg30
 z22:=Tryz.sizeOf30
 v22:=Tryz.zeroValue30
 t23:=Tryz.underlying30
 a23:=Tryz.isAgg30
 z23:=Tryz.sizeOf30
 v23:=Tryz.zeroValue30
 t25:=Tryz.underlying3
 a25:=Tryz.isAgg3
 z25:=Tryz.sizeOf3
 v25:=Tryz.zeroValue3
 t32:=Tryz.underlying118
 a32:=Tryz.isAgg118
 z32:=Tryz.sizeOf118
 v32:=Tryz.zeroValue118
 t35:=Tryz.underlying130
 a35:=Tryz.isAgg130
 z35:=Tryz.sizeOf130
 v35:=Tryz.zeroValue130
 t36:=Tryz.underlying131
 a36:=Tryz.isAgg131
 z36:=Tryz.sizeOf131
 v36:=Tryz.zeroValue131
 t41:=Tryz.underlying62
 a41:=Tryz.isAgg62
 z41:=Tryz.sizeOf62
 v41:=Tryz.zeroValue62
 t44:=Tryz.underlying138
 a44:=Tryz.isAgg138
 z44:=Tryz.sizeOf138
 v44:=Tryz.zeroValue138
 t46:=Tryz.underlying140
 a46:=Tryz.isAgg140
 z46:=Tryz.sizeOf140
 v46:=Tryz.zeroValue140
 t53:=Tryz.underlying143
 a53:=Tryz.isAgg143
 z53:=Tryz.sizeOf143
 v53:=Tryz.zeroValue143
 t57:=Tryz.underlying147
 a57:=Tryz.isAgg147
 z57:=Tryz.sizeOf147
 v57:=Tryz.zeroValue147
 t63:=Tryz.underlying155
 a63:=Tryz.isAgg155
 z63:=Tryz.sizeOf155
 v63:=Tryz.zeroValue155
 t64:=Tryz.underlying156
 a64:=Tryz.isAgg156
 z64:=Tryz.sizeOf156
 v64:=Tryz.zeroValue156 }
def Tryz.Ed:Go.Shelf.Ren:=⟨fun | 5=>96 | 8=>91 | 7=>111 | 19=>108 | 20=>109 | 10=>119 | 11=>120 | 12=>121 | 13=>122 | 14=>123 | 15=>124 | 16=>125 | 17=>126 | 18=>127 | 30=>129 | 31=>114 | 32=>115 | 33=>130 | 34=>131 | 35=>132 | 40=>133 | n=>n,fun | 23=>36 | 25=>2 | 3=>3 | 32=>118 | 22=>36 | 0=>0 | 44=>138 | 46=>140 | 4=>4 | 36=>131 | 35=>130 | 41=>62 | 5=>5 | 9=>9 | 53=>143 | 57=>147 | 63=>155 | 64=>156 | n=>n,fun | n=>n⟩
theorem Tryz.Nk:Go.Proofs.SlLaysM.n5 Tryz.prog Tryz.Ed:={
 mixed:=by kernel_rfl
 f5:=⟨Tryz.f96.name,by decide,Tryz.func96.trans (congrArg some (by kernel_rfl))⟩
 f7:=⟨Tryz.f111.name,by decide,Tryz.func111.trans (congrArg some (by kernel_rfl))⟩
 f8:=Tryz.func91.trans (congrArg some (by kernel_rfl))
 f10:=⟨Tryz.f119.name,by decide,Tryz.func119.trans (congrArg some (by kernel_rfl))⟩
 f11:=⟨Tryz.f120.name,by decide,Tryz.func120.trans (congrArg some (by kernel_rfl))⟩
 f12:=⟨Tryz.f121.name,by decide,Tryz.func121.trans (congrArg some (by kernel_rfl))⟩
 f13:=⟨Tryz.f122.name,by decide,Tryz.func122.trans (congrArg some (by kernel_rfl))⟩
 f14:=⟨Tryz.f123.name,by decide,Tryz.func123.trans (congrArg some (by kernel_rfl))⟩
 f15:=⟨Tryz.f124.name,by decide,Tryz.func124.trans (congrArg some (by kernel_rfl))⟩
 f16:=⟨Tryz.f125.name,by decide,Tryz.func125.trans (congrArg some (by kernel_rfl))⟩
 f17:=⟨Tryz.f126.name,by decide,Tryz.func126.trans (congrArg some (by kernel_rfl))⟩
 f18:=⟨Tryz.f127.name,by decide,Tryz.func127.trans (congrArg some (by kernel_rfl))⟩
 f19:=Tryz.func108.trans (congrArg some (by kernel_rfl))
 f20:=Tryz.func109.trans (congrArg some (by kernel_rfl))
 f30:=⟨Tryz.f129.name,by decide,Tryz.func129.trans (congrArg some (by kernel_rfl))⟩
 f31:=Tryz.func114.trans (congrArg some (by kernel_rfl))
 f32:=Tryz.func115.trans (congrArg some (by kernel_rfl))
 f33:=⟨Tryz.f130.name,by decide,Tryz.func130.trans (congrArg some (by kernel_rfl))⟩
 f34:=⟨Tryz.f131.name,by decide,Tryz.func131.trans (congrArg some (by kernel_rfl))⟩
 f35:=⟨Tryz.f132.name,by decide,Tryz.func132.trans (congrArg some (by kernel_rfl))⟩
 f40:=⟨Tryz.f133.name,by decide,Tryz.func133.trans (congrArg some (by kernel_rfl))⟩
 t0:=Tryz.underlying0
 a0:=Tryz.isAgg0
 z0:=Tryz.sizeOf0
 v0:=Tryz.zeroValue0
 t3:=Tryz.underlying3
 a3:=Tryz.isAgg3
 z3:=Tryz.sizeOf3
 v3:=Tryz.zeroValue3
 t4:=Tryz.underlying4
 a4:=Tryz.isAgg4
 z4:=Tryz.sizeOf4
 v4:=Tryz.zeroValue4
 t5:=Tryz.underlying5
 a5:=Tryz.isAgg5
 z5:=Tryz.sizeOf5
 v5:=Tryz.zeroValue5
 t9:=Tryz.underlying9
 a9:=Tryz.isAgg9
 z9:=Tryz.sizeOf9
 v9:=Tryz.zeroValue9
 t22:=Tryz.underlying36
 a22:=Tryz.isAgg36
 z22:=Tryz.sizeOf36
 v22:=Tryz.zeroValue36
 t23:=Tryz.underlying36
 a23:=Tryz.isAgg36
 z23:=Tryz.sizeOf36
 v23:=Tryz.zeroValue36
 t25:=Tryz.underlying2
 a25:=Tryz.isAgg2
 z25:=Tryz.sizeOf2
 v25:=Tryz.zeroValue2
 t32:=Tryz.underlying118
 a32:=Tryz.isAgg118
 z32:=Tryz.sizeOf118
 v32:=Tryz.zeroValue118
 t35:=Tryz.underlying130
 a35:=Tryz.isAgg130
 z35:=Tryz.sizeOf130
 v35:=Tryz.zeroValue130
 t36:=Tryz.underlying131
 a36:=Tryz.isAgg131
 z36:=Tryz.sizeOf131
 v36:=Tryz.zeroValue131
 t41:=Tryz.underlying62
 a41:=Tryz.isAgg62
 z41:=Tryz.sizeOf62
 v41:=Tryz.zeroValue62
 t44:=Tryz.underlying138
 a44:=Tryz.isAgg138
 z44:=Tryz.sizeOf138
 v44:=Tryz.zeroValue138
 t46:=Tryz.underlying140
 a46:=Tryz.isAgg140
 z46:=Tryz.sizeOf140
 v46:=Tryz.zeroValue140
 t53:=Tryz.underlying143
 a53:=Tryz.isAgg143
 z53:=Tryz.sizeOf143
 v53:=Tryz.zeroValue143
 t57:=Tryz.underlying147
 a57:=Tryz.isAgg147
 z57:=Tryz.sizeOf147
 v57:=Tryz.zeroValue147
 t63:=Tryz.underlying155
 a63:=Tryz.isAgg155
 z63:=Tryz.sizeOf155
 v63:=Tryz.zeroValue155
 t64:=Tryz.underlying156
 a64:=Tryz.isAgg156
 z64:=Tryz.sizeOf156
 v64:=Tryz.zeroValue156 }
end Go.Proofs
namespace Go.Eng
open Go.Proofs Go.Sort
def g8 (L:List Int):List Int:=L.mergeSort fun x y=>decide (x≤y)
theorem K3:Eo Tryz.prog 74 g8 :=
 ⟨⟨_,Tryz.func74,by kernel_rfl⟩,fun L=>List.length_mergeSort L,fun blk off cap zs w h1 h2 h3=>AnyM.slices_Sort_int Tryz.Nj blk off cap zs w h1 h2 h3⟩
theorem K4:Eo Tryz.prog 96 g8 :=
 ⟨⟨_,Tryz.func96,by kernel_rfl⟩,fun L=>List.length_mergeSort L,fun blk off cap zs w h1 h2 h3=>AnyM.slices_Sort_int Tryz.Nk blk off cap zs w h1 h2 h3⟩
end Go.Eng
end
section
namespace Go.Eng
open Go.Proofs Go.ChangeShapes

noncomputable def aG (n len:Nat) (z:Nat→Int):AV:=.slcT none (.M [.arr .i64 z (jx len n)]) n len false
noncomputable def mg:aS→FuncId→List AV→aa→Option (AV×aa):=fun call f args H=>cond (Nat.beq f 68) (wb Tryz.prog KtB.kt 100000 68 call args H) (cond (Nat.beq f 74) (D5 g8 args H) (cond (Nat.beq f 96) (D5 g8 args H) (cond (Nat.beq f 79) (ue Tryz.prog KtB.kt 100000 YtigmfpmabgekoaaGreat.Known.most call args H) (cond (Nat.beq f 32) (KW Tryz.prog KtB.kt 100000 32 (BD Tryz.prog KtB.kt 100000 63 call) args H) (Ii [⟨15,[],.bool true⟩] call f args H)))))
def KF (f:FuncId):Bool:=Nat.beq f 15 || Nat.beq f 1000000 || Nat.beq f 68 || Nat.beq f 74 || Nat.beq f 96 || Nat.beq f 32 || Nat.beq f 79
noncomputable def cd (n:Nat):aS:=cH Tryz.prog mg KtB.kt 100000 n
noncomputable def il (tab:me) (n k:Nat):bF:=DO Tryz.prog mg KtB.kt 100000 KF tab n k
noncomputable def bp (n:Nat) (f nt:Nat):Cx:=⟨Tryz.prog,cd n,100000,f,nt,KtB.kt f,none⟩

def GR:List Nat→Code→Code
 | [],c=>c
 | x :: p,c=>match c with
   | .seq a b=>match x with
     | 0=>GR p a
     | _=>GR p b
   | .cond _ a b=>match x with
     | 0=>GR p a
     | _=>GR p b
   | .block _ b=>GR p b
   | .loop b=>GR p b
   | .scope b=>GR p b
   | .rangeFunc _ _ a b=>match x with
     | 0=>GR p a
     | _=>GR p b
   | c=>c
noncomputable def part (f:Func) (p:List Nat):Code:=GR p (bZ f)
theorem A9 (g:FuncId) (h:KF g=false) (c:aS) (args:List AV) (H:aa):mg c g args H=none:=by
 unfold KF at h
 rw[Bool.or_eq_false_iff,Bool.or_eq_false_iff,Bool.or_eq_false_iff,Bool.or_eq_false_iff,Bool.or_eq_false_iff,Bool.or_eq_false_iff] at h
 obtain ⟨⟨⟨⟨⟨⟨h0,h1⟩,h2⟩,h3⟩,h4⟩,h5⟩,h6⟩:=h
 unfold mg Ii
 rw[h2,h3,h4,h6,h5,h1,cond_false,cond_false,cond_false,cond_false,cond_false,cond_false]
 simp only[Bg]
 have:Nat.beq 15 g=false:=by
  cases hb:Nat.beq 15 g with
  | false=>rfl
  | true=>have:=Nat.eq_of_beq_eq_true hb;subst this;simp at h0
 rw[this];rfl
theorem we (n:Nat):∃ x,cH Tryz.prog mg KtB.kt 100000 n .mode [] []=some x:=by
 cases n<;>exact ⟨_,rfl⟩
theorem Ie (hN:cw Tryz.prog) (hD:iC Tryz.prog) (hW:bV Tryz.prog ⟨15,[],.bool true⟩):vm Tryz.prog mg :=
 fun call hC f args H v H' h hne p M w cargs hH hA=>by
  unfold mg at h
  cases hb:Nat.beq f 68 with
  | true =>
    rw[hb,cond_true] at h
    have:=Nat.eq_of_beq_eq_true hb
    subst this
    exact zG hN hD KtB.kt 100000 hC h hH hA
  | false =>
    rw[hb,cond_false] at h
    cases h74:Nat.beq f 74 with
    | true =>
      rw[h74,cond_true] at h
      have:=Nat.eq_of_beq_eq_true h74
      subst this
      exact CK K3 h hne hH hA
    | false =>
      rw[h74,cond_false] at h
      cases h96:Nat.beq f 96 with
      | true =>
        rw[h96,cond_true] at h
        have:=Nat.eq_of_beq_eq_true h96
        subst this
        exact CK K4 h hne hH hA
      | false =>
        rw[h96,cond_false] at h
        cases h79:Nat.beq f 79 with
        | true =>
          rw[h79,cond_true] at h
          have:=Nat.eq_of_beq_eq_true h79
          subst this
          exact DZ hN hD YtigmfpmabgekoaaGreat.Known.Ct KtB.kt 100000 hC h hH hA
        | false =>
        rw[h79,cond_false] at h
        cases h32:Nat.beq f 32 with
        | true =>
          rw[h32,cond_true] at h
          have:=Nat.eq_of_beq_eq_true h32
          subst this
          exact It hN hD KtB.kt 100000 (Ej hN hD KtB.kt 100000 63 hC) h hH hA
        | false =>
          rw[h32,cond_false] at h
          exact Ij _ (fun e he=>by
           simp only[List.mem_singleton] at he
           subst he
           exact hW) call hC f args H v H' h hne p M w cargs hH hA
theorem cP (tab:me) (n k:Nat) (ht:∀ k,tab.Ok (cd (n+k))):(il tab n k).Ok (cd (n+k)):=Cj _ _ _ _ _ _ _ A9 (fun k=>we _) ht k
theorem dO (n k:Nat):(il aR n k).Ok (cd (n+k)):=cP _ _ _ (fun k=>aO _)
theorem aI (n:Nat):(il aR n 0).Ok (cd n):=dO n 0
theorem L4 {f:FuncId} {fn:Func} {n:Nat} (hf:Tryz.prog.funcs[f]?=some fn) (hb:fn.body.isSome=true) (hn:KF f=false) {args:List HV} (hle:Nat.ble args.length fn.ntmps=true) {H:aa} {callR:bF} (hC:callR.Ok (cd n)) {bl:ie} (hB:bl.Ok (bp n f fn.ntmps) (bZ fn)) {rg:sF} (hR:rg.Ok (bp n f fn.ntmps) (bZ fn)) {y:HV×aa}
 (h:(bu Tryz.prog (cd n) 100000 f fn (KtB.kt f) callR bl rg args H).run=some y):cd (n+1) (.fn f) (rU args) H=some (y.1.1,y.2) :=
 yn hf hb (A9 f hn _ _ _) hle hC hB hR h
theorem L3 {f:FuncId} {fn:Func} {n:Nat} (hf:Tryz.prog.funcs[f]?=some fn) (hb:fn.body.isSome=true) (hn:KF f=false) {args:List HV} (hle:Nat.ble args.length fn.ntmps=true) {H:aa} {callR:bF} {bl:ie} {rg:sF} {T:Tr (HV×aa)}
 (e:bu Tryz.prog (cd n) 100000 f fn (KtB.kt f) callR bl rg args H=T) (hC:callR.Ok (cd n)) (hB:bl.Ok (bp n f fn.ntmps) (bZ fn)) (hR:rg.Ok (bp n f fn.ntmps) (bZ fn)) {y:HV×aa} (hr:T.run=some y):cd (n+1) (.fn f) (rU args) H=some (y.1.1,y.2) :=
 L4 hf hb hn hle hC hB hR (by rw[e];exact hr)
theorem LZ {n f nt:Nat} {c:Code} {callR:bF} (hC:callR.Ok (cd n)) {bl:ie} (hB:bl.Ok (bp n f nt) c) {rg:sF} (hR:rg.Ok (bp n f nt) c) {fr:ay} {H:aa} {x:gi} (h:(aN (bp n f nt) callR bl rg c (hints fr) H).run=some x):exec (bp n f nt) c fr H=some x.st:=by
 have:=mG hC c hB hR _ _ _ h
 rw[aP] at this
 exact this

def pZ (bl:ie) (id0:Nat):ie:=fun id fr H=>cond (Nat.beq id id0) (some .bad) (bl id fr H)
theorem iv {bl:ie} {cx:Cx} {c:Code} (h:bl.Ok cx c) (id0:Nat):(pZ bl id0).Ok cx c:=by
 intro id b hm fr H t y ht hy
 unfold pZ at ht
 cases hb:Nat.beq id id0 with
 | true =>
   rw[hb,cond_true,Option.some.injEq] at ht
   subst ht
   exact (Tr.ae hy).elim
 | false =>
   rw[hb,cond_false] at ht
   exact h id b hm fr H t y ht hy
theorem LY {n f nt:Nat} {c:Code} {callR:bF} {bl:ie} {rg:sF} {fr:ay} {H:aa} {T:Tr gi} (e:aN (bp n f nt) callR bl rg c (hints fr) H=T) (hC:callR.Ok (cd n)) (hB:bl.Ok (bp n f nt) c) (hR:rg.Ok (bp n f nt) c) {x:gi} (hr:T.run=some x):exec (bp n f nt) c fr H=some x.st :=
 LZ hC hB hR (by rw[e];exact hr)
section
variable {n f nt:Nat} {c:Code} {callR:bF} {bl:ie} {rg:sF}
end
def iA (p:Nat→Bool) (N:Nat):Bool:=decide (fN p N 0<N)
theorem kH {p:Nat→Bool} {N:Nat} (h:iA p N=true):fN p N 0<N:=by simpa[iA] using h
theorem qo {p:Nat→Bool} {N:Nat} (h:iA p N=false):fN p N 0=N:=by
 have h1:=(iP p N 0).2.1
 have:¬ fN p N 0<N:=by simpa[iA] using h
 omega
theorem eI (p:Nat→Bool) (N:Nat):iA p N=true↔∃ i,i<N∧p i=true:=by
 obtain ⟨h1,h2,h3,h4⟩:=iP p N 0
 constructor
 · intro h
   have:=kH h
   exact ⟨_,this,h4 (by omega)⟩
 · rintro ⟨i,hi,hp⟩
   unfold iA
   rw[decide_eq_true_eq]
   apply Nat.lt_of_not_le
   intro hc
   have:=h3 i (by omega) (by omega)
   rw[this] at hp;cases hp
end Go.Eng
end
section
namespace Go.Eng
open Go.Proofs
theorem ba {f:FuncId} {fn:Func} {n:Nat} (hf:Tryz.prog.funcs[f]?=some fn) (hb:fn.body.isSome=true) (hn:KF f=false) {args:List HV} (hle:Nat.ble args.length fn.ntmps=true) {H:aa} {callR:bF} {bl:ie} {rg:sF} {T:Tr (HV×aa)}
 (e:bu Tryz.prog (cd n) 100000 f fn (KtB.kt f) callR bl rg args H=T) (hC:callR.Ok (cd n)) (hB:bl.Ok (bp n f fn.ntmps) (bZ fn)) (hR:rg.Ok (bp n f fn.ntmps) (bZ fn)) {v:AV} {H':aa} (h:T.all fun y=>y.1.1=v∧y.2=H'):cd (n+1) (.fn f) (rU args) H=some (v,H'):=by
 obtain ⟨y,h1,h2,h3⟩:=h
 have:=L3 hf hb hn hle e hC hB hR h1
 rw[this,h2,h3]
theorem aD {n f nt:Nat} {c:Code} {callR:bF} {bl:ie} {rg:sF} {fr:ay} {H:aa} {T:Tr gi} (e:aN (bp n f nt) callR bl rg c (hints fr) H=T) (hC:callR.Ok (cd n)) (hB:bl.Ok (bp n f nt) c) (hR:rg.Ok (bp n f nt) c) {Q:Ex×ay×aa→Prop} (h:T.all fun x=>Q x.st):∃ x,exec (bp n f nt) c fr H=some x∧Q x:=by
 obtain ⟨x,h1,h2⟩:=h
 exact ⟨_,LY e hC hB hR h1,h2⟩
section
variable {n f nt:Nat} {c:Code} {callR:bF} {bl:ie} {rg:sF}
theorem Ml (id:Nat) (I:Nat→ay→aa→Prop) (Q:ay×aa→Prop) (N:Nat) (hN:N<99999) {fr0:ay} {H0:aa} (h0:I 0 fr0 H0)
 (hr:∀ j fr H,I j fr H→∃ x,exec (bp n f nt) c fr H=some x∧((x.1=.normal∧j<N∧I (j+1) (tidy (ao H0) x.2.1 x.2.2).1 (tidy (ao H0) x.2.1 x.2.2).2)∨(x.1=.exit id∧Q x.2))) :
 ∃ y,exec (bp n f nt) (.block id (.loop c)) fr0 H0=some (.normal,y)∧Q y:=by
 obtain ⟨x,h1,h2⟩:=za (body:=exec (bp n f nt) c) (n:=ao H0) I (fun x=>x.1=.exit id∧Q x.2) N (fun j fr H h=>by
  obtain ⟨x,h1,h2⟩:=hr j fr H h
  obtain ⟨e,f1,g1⟩:=x
  refine ⟨e,f1,g1,h1,?_⟩
  rcases h2 with h2 | ⟨h2,h3⟩
  · exact .inl h2
  · exact .inr ⟨by dsimp only at h2;rw[h2];simp,h2,h3⟩) 100000 0 fr0 H0 h0 (by omega)
 obtain ⟨e,f1,g1⟩:=x
 obtain ⟨h2,h3⟩:=h2
 dsimp only at h2 h3
 subst h2
 exact ⟨(f1,g1),l7 h1,h3⟩
theorem yC (id:Nat) (F:Nat→ay) (G:Nat→aa) (N:Nat) (p:Nat→Bool) (X:Nat→ay×aa) (Y:ay×aa) (hN:N<99999)
 (hs:∀ j,j<N→∃ x,exec (bp n f nt) c (F j) (G j)=some x∧if p j=true then x=(.ret,X j) else x.1=.normal∧tidy (ao (G 0)) x.2.1 x.2.2=(F (j+1),G (j+1)))
 (he:exec (bp n f nt) c (F N) (G N)=some (.exit id,Y)):exec (bp n f nt) (.block id (.loop c)) (F 0) (G 0)=some (cond (iA p N) (.ret,X (fN p N 0)) (.normal,Y)):=by
 have key:=qE (body:=exec (bp n f nt) c) (n:=ao (G 0)) F G N p (fun j=>if j<N then (.ret,X j) else (.exit id,Y))
  (fun j hj hp=>by
    obtain ⟨x,h1,h2⟩:=hs j hj
    rw[if_neg (by rw[hp];simp)] at h2
    obtain ⟨e,f1,g1⟩:=x
    obtain ⟨rfl,h3⟩:=h2
    exact ⟨_,_,h1,h3⟩)
  (fun j hj hp=>by
    obtain ⟨x,h1,h2⟩:=hs j hj
    rw[if_pos hp] at h2
    subst h2
    rw[if_pos hj]
    exact ⟨h1,by simp⟩)
  (by
    rw[if_neg (by omega)]
    exact ⟨he,by simp⟩) N 0 100000 (by omega) (by omega)
 cases hc:iA p N with
 | true =>
   have:=kH hc
   rw[if_pos this] at key
   exact gM (fun id' h=>by cases h) key
 | false =>
   have:=qo hc
   rw[if_neg (by omega)] at key
   exact l7 key
end
theorem j9 {n f nt:Nat} {c:Code} (id:Nat) (F:Nat→ay) (G:Nat→aa) (N:Nat) (Y:ay×aa) (hN:N<99999)
 (hs:∀ j,j<N→∃ x,exec (bp n f nt) c (F j) (G j)=some x∧(x.1=.normal∧tidy (ao (G 0)) x.2.1 x.2.2=(F (j+1),G (j+1))))
 (he:exec (bp n f nt) c (F N) (G N)=some (.exit id,Y)):exec (bp n f nt) (.block id (.loop c)) (F 0) (G 0)=some (.normal,Y):=by
 have:=yC id F G N (fun _=>false) (fun _=>Y) Y hN (fun j hj=>by
  obtain ⟨x,h1,h2⟩:=hs j hj
  exact ⟨x,h1,by rw[if_neg (by simp)];exact h2⟩) he
 have h0:iA (fun _=>false) N=false:=by
  cases h:iA (fun _=>false) N with
  | false=>rfl
  | true=>obtain ⟨i,_,h2⟩:=(eI _ _).1 h;cases h2
 rw[h0] at this
 exact this
end Go.Eng
end
section
namespace Go.Eng
open Go.Proofs
noncomputable def aC:bm:=⟨false,[]⟩
noncomputable def DI (l:Nat) (z:Nat→Int) (j:Int):ay:=[(0,aG 5 l z),(1,.fn (.func 58) [] []),(7,.int .i64 (Int.ofNat l)),(8,.int .i64 j)]
noncomputable def RM (L:AV) (i:Int):List AV→Option (Prop×AV)
 | [a,.fn (.func 58) [] []]=>some (a=L,.int .i64 i)
 | _=>none
noncomputable def RO (L:AV) (b:Bool):List AV→Option (Prop×AV)
 | [a,.fn (.func 58) [] []]=>some (a=L,.bool b)
 | _=>none
theorem t84 (n:Nat) (l:Nat) (z:Nat→Int) (H:aa) (j:Int):aN (bp (n+6) 84 19) (il aR (n+1) 5) aW aX (part Tryz.f84 [1,0,1,0,0]) (hints (DI l z j)) (aC::H) =
 Tr.ite (df j (Int.ofNat l)) (Tr.req (dR j l) (Tr.req (bx (au 0 j 5) (aq l 5)) (Tr.req (bx (ah (au 0 j 5) 1) (aq l 5)) (Tr.req (bx (ah (au 0 j 5) 2) (aq l 5)) (Tr.req (bx (ah (au 0 j 5) 3) (aq l 5)) (Tr.req (bx (ah (au 0 j 5) 4) (aq l 5)) (Tr.req (dR (Int.ofNat 0) 4) (Tr.ite (df (z (au 0 j 5)) (Int.ofNat 0)) (Tr.ok (Ex.ret,[(4,AV.int .i64 j,none)],aC::H)) (Tr.ite (df (Int.ofNat 10000) (z (au 0 j 5))) (Tr.ok (Ex.ret,[(4,AV.int .i64 j,none)],aC::H)) (Tr.req (dR (Int.ofNat 1) 4) (Tr.ite (df (z (ah (au 0 j 5) 1)) (Int.ofNat 0)) (Tr.ok (Ex.ret,[(4,AV.int .i64 j,none)],aC::H)) (Tr.ite (df (Int.ofNat 10000) (z (ah (au 0 j 5) 1))) (Tr.ok (Ex.ret,[(4,AV.int .i64 j,none)],aC::H)) (Tr.req (dR (Int.ofNat 2) 4) (Tr.ite (df (z (ah (au 0 j 5) 2)) (Int.ofNat 0)) (Tr.ok (Ex.ret,[(4,AV.int .i64 j,none)],aC::H)) (Tr.ite (df (Int.ofNat 10000) (z (ah (au 0 j 5) 2))) (Tr.ok (Ex.ret,[(4,AV.int .i64 j,none)],aC::H)) (Tr.req (dR (Int.ofNat 3) 4) (Tr.ite (df (z (ah (au 0 j 5) 3)) (Int.ofNat 0)) (Tr.ok (Ex.ret,[(4,AV.int .i64 j,none)],aC::H)) (Tr.ite (df (Int.ofNat 10000) (z (ah (au 0 j 5) 3))) (Tr.ok (Ex.ret,[(4,AV.int .i64 j,none)],aC::H)) (Tr.ite (df (z (ah (au 0 j 5) 1)) (z (au 0 j 5))) (Tr.ok (Ex.ret,[(4,AV.int .i64 j,none)],aC::H)) (Tr.ite (df (z (ah (au 0 j 5) 3)) (z (ah (au 0 j 5) 2))) (Tr.ok (Ex.ret,[(4,AV.int .i64 j,none)],aC::H)) (Tr.req (dR (Int.ofNat 0) 1) (Tr.ite (df (z (ah (au 0 j 5) 4)) (Int.ofNat 0)) (Tr.ok (Ex.ret,[(4,AV.int .i64 j,none)],aC::H)) (Tr.ite (df (Int.ofNat 100000) (z (ah (au 0 j 5) 4))) (Tr.ok (Ex.ret,[(4,AV.int .i64 j,none)],aC::H)) (Tr.ok (Ex.normal,[(0,aG 5 l z,none),(1,AV.fn (Fn.func 58) [] [],none),(7,AV.int .i64 (Int.ofNat l),none),(8,AV.int .i64 (aK .i64 j (Int.ofNat 1)),none)],aC::H))))))))))))))))))))))))) (Tr.ok (Ex.exit 0,[(0,aG 5 l z,none),(1,AV.fn (Fn.func 58) [] [],none),(7,AV.int .i64 (Int.ofNat l),none),(8,AV.int .i64 j,none),(9,AV.bool false,some 1)],aC::H)):=by kernel_rfl
theorem Uv (n:Nat) (l:Nat) (z:Nat→Int) (H:aa) (i:Int) (e:Bool):bu Tryz.prog (cd (n+6)) 100000 84 Tryz.f84 (KtB.kt 84) (il aR (n+6) 0) (eP aW 0 (DI l z 0) (aC::H) (.ite e (.ok (.ret,[(4,.int .i64 i,none)],aC::H)) (.ok (.normal,hints (DI l z (Int.ofNat l)++[(9,.bool false)]),aC::H)))) aX [(aG 5 l z,none),(.fn (.func 58) [] [],none)] H =
 (fun (Z0:ay)=>Tr.reqP (Z0=Z0∧aC::H=aC::H) (Tr.ite e (Tr.ok ((AV.int .i64 i,none),H)) (Tr.ok ((AV.int .i64 (Int.negSucc 0),some 1),H)))) [(0,aG 5 l z),(1,AV.fn (Fn.func 58) [] []),(7,AV.int .i64 (Int.ofNat l)),(8,AV.int .i64 (Int.ofNat 0))]:=by kernel_rfl
theorem Us (n:Nat) (l:Nat) (z:Nat→Int) (H:aa) (i:Int):bu Tryz.prog (cd (n+7)) 100000 60 Tryz.f60 (KtB.kt 60) (il (iz aR 84 (RM (aG 5 l z) i)) (n+7) 0) aW aX [(aG 5 l z,none),(.fn (.func 58) [] [],none)] H =
 Tr.reqP (aG 5 l z=aG 5 l z) (Tr.ok ((AV.bool (nM (Int.ofNat 0) i),none),H)):=by kernel_rfl
theorem Uk (n:Nat) (l:Nat) (z:Nat→Int) (H:aa) (b:Bool):bu Tryz.prog (cd (n+8)) 100000 20 Tryz.f20 (KtB.kt 20) (il (iz aR 60 (RO (aG 5 l z) b)) (n+8) 0) aW aX [(aG 5 l z,none)] H =
 Tr.ite (dD (Int.ofNat l) (Int.ofNat 0)) (Tr.ok ((AV.int .i64 (Int.ofNat 6),some 1),H)) (Tr.ite (df (Int.ofNat 14) (Int.ofNat l)) (Tr.ok ((AV.int .i64 (Int.ofNat 6),some 1),H)) (Tr.reqP (aG 5 l z=aG 5 l z) (Tr.ite b (Tr.ok ((AV.int .i64 (Int.ofNat 3),some 1),H)) (Tr.ok ((AV.int .i64 (Int.ofNat 0),some 1),H))))):=by kernel_rfl
theorem QY (n:Nat) (l:Nat) (z:Nat→Int) (H:aa):bu Tryz.prog (cd (n+8)) 100000 20 Tryz.f20 (KtB.kt 20) (il (iz aR 60 (fun _=>none)) (n+8) 0) aW aX [(aG 5 l z,none)] H =
 Tr.ite (dD (Int.ofNat l) (Int.ofNat 0)) (Tr.ok ((AV.int .i64 (Int.ofNat 6),some 1),H)) (Tr.ite (df (Int.ofNat 14) (Int.ofNat l)) (Tr.ok ((AV.int .i64 (Int.ofNat 6),some 1),H)) Tr.bad):=by kernel_rfl
def iW (z:Nat→Int) (j:Nat):Bool:=!(decide (0≤z (j*5)) && (decide (z (j*5)≤z (j*5+1)) && (decide (z (j*5+1)≤10000) && (decide (0≤z (j*5+2)) && (decide (z (j*5+2)≤z (j*5+3)) && (decide (z (j*5+3)≤10000) && (decide (0≤z (j*5+4)) && decide (z (j*5+4)≤100000))))))))
def bh (l:Nat) (z:Nat→Int):Int:=if l=0∨14<l then 6 else if iA (iW z) l=true then 3 else 0
theorem RY:∀ b,(0,b) ∈ bc (bZ Tryz.f84)→b=.loop (part Tryz.f84 [1,0,1,0,0]):=jj (by kernel_rfl)
section
variable (n:Nat) (l:Nat) (z:Nat→Int) (H:aa)
theorem Sj (hl:l≤1000):cd (n+7) (.fn 84) [aG 5 l z,.fn (.func 58) [] []] H=some (.int .i64 (cond (iA (iW z) l) ((fN (iW z) l 0:Nat):Int) (-1)),H):=by
 have lp:=yC (n:=n+6) (f:=84) (nt:=19) (c:=part Tryz.f84 [1,0,1,0,0]) 0 (fun j=>DI l z (j:Int)) (fun _=>aC::H) l (iW z) (fun j=>([(4,.int .i64 (j:Int))],aC::H)) (DI l z (Int.ofNat l)++[(9,.bool false)],aC::H) (by omega) (fun j hj=>?_) ?_
 · refine ba (n:=n+6) Tryz.func84 rfl rfl rfl (Uv n l z H ((fN (iW z) l 0:Nat):Int) (iA (iW z) l)) (dO (n+6) 0) (bz (af _ _) RY (fun x hx=>?_)) (ag _ _) ?_
   · refine Eq.trans lp ?_
     rcases Tr.gz hx with ⟨hc,hx⟩ | ⟨hc,hx⟩
     · rw[← Tr.ab hx,hc];rfl
     · rw[← Tr.ab hx,hc];simp only[gi.st,aP];rfl
   · repeat' first | (refine Tr.al (fun hc=>?_) (fun hc=>?_)<;>(try simp (disch:=omega) only[nV,nW] at hc)<;>try omega) | (refine Tr.a8 ?_ ?_;· (try simp (disch:=omega) only[nV,nW]);try omega) | (refine Tr.aw ?_ ?_;· first | exact trivial | rfl | exact ⟨rfl,rfl⟩ | exact ⟨rfl,rfl,rfl⟩ | (simp (disch:=omega) only[nV,nW];done) | ((try simp (disch:=omega) only[nV,nW]);omega)) | fail
     all_goals refine Tr.av ⟨?_,rfl⟩
     all_goals rw[hc];rfl
 · have ej:aK .i64 (j:Int) (Int.ofNat 1)=((j+1:Nat):Int):=by rw[bH,show Int.ofNat 1=1 from rfl];exact cr (by omega) (by omega)
   have ei:au 0 (j:Int) 5=j*5:=by rw[bB];omega
   have hs:iW z j=!(decide (0≤z (j*5)) && (decide (z (j*5)≤z (j*5+1)) && (decide (z (j*5+1)≤10000) && (decide (0≤z (j*5+2)) && (decide (z (j*5+2)≤z (j*5+3)) && (decide (z (j*5+3)≤10000) && (decide (0≤z (j*5+4)) && decide (z (j*5+4)≤100000)))))))):=rfl
   refine aD (t84 n l z H (j:Int)) (dO (n+1) 5) (af _ _) (ag _ _) ?_
   repeat' first | (refine Tr.al (fun hc=>?_) (fun hc=>?_)<;>(try simp (disch:=omega) only[nV,nW,ei] at hc)<;>try omega) | (refine Tr.a8 ?_ ?_;· (try simp (disch:=omega) only[nV,nW,ei]);try omega) | (refine Tr.aw ?_ ?_;· first | exact trivial | rfl | exact ⟨rfl,rfl⟩ | exact ⟨rfl,rfl,rfl⟩ | (simp (disch:=omega) only[nV,nW,ei];done) | ((try simp (disch:=omega) only[nV,nW,ei]);omega)) | fail
   all_goals refine Tr.av ?_
   all_goals first
    | (rw[if_pos (by rw[hs];simp;omega)];rfl)
    | (rw[if_neg (by rw[hs];simp;omega)];exact ⟨rfl,by rw[ej];rfl⟩)
    | fail
 · obtain ⟨x,h1,rfl⟩:=aD (Q:=fun x=>x=(.exit 0,DI l z (Int.ofNat l)++[(9,.bool false)],aC::H)) (t84 n l z H (Int.ofNat l)) (dO (n+1) 5) (af _ _) (ag _ _) (by
    exact wF)
   exact h1
theorem Sc (hl:l≤1000):cd (n+8) (.fn 60) [aG 5 l z,.fn (.func 58) [] []] H=some (.bool (iA (iW z) l),H):=by
 refine ba (n:=n+7) Tryz.func60 rfl rfl rfl (Us n l z H (cond (iA (iW z) l) ((fN (iW z) l 0:Nat):Int) (-1))) (cP _ (n+7) 0 (fun k=>dQ (aO _) (fun args p v hg hp H=>?_))) (af _ _) (ag _ _) ?_
 · unfold RM at hg
   split at hg
   · simp only[nP] at hg
     obtain ⟨rfl,rfl⟩:=hg
     subst hp
     rw[show n+7+k=n+k+7 by omega]
     exact Sj _ l z H hl
   · cases hg
 · repeat' first | (refine Tr.al (fun hc=>?_) (fun hc=>?_)<;>(try simp (disch:=omega) only[nV,nW] at hc)<;>try omega) | (refine Tr.a8 ?_ ?_;· (try simp (disch:=omega) only[nV,nW]);try omega) | (refine Tr.aw ?_ ?_;· first | exact trivial | rfl | exact ⟨rfl,rfl⟩ | exact ⟨rfl,rfl,rfl⟩ | (simp (disch:=omega) only[nV,nW];done) | ((try simp (disch:=omega) only[nV,nW]);omega)) | fail
   all_goals refine Tr.av ⟨?_,rfl⟩
   rw[iG]
   cases iA (iW z) l
   · rfl
   · simp
theorem RG:cd (n+9) (.fn 20) [aG 5 l z] H=some (.int .i64 (bh l z),H):=by
 unfold bh
 by_cases hl:l=0∨14<l
 · rw[if_pos hl]
   refine ba (n:=n+8) Tryz.func20 rfl rfl rfl (QY n l z H) (cP _ (n+8) 0 (fun k=>dQ (aO _) (fun args p v hg hp H=>by cases hg))) (af _ _) (ag _ _) ?_
   exact wF
 · rw[if_neg hl]
   refine ba (n:=n+8) Tryz.func20 rfl rfl rfl (Uk n l z H (iA (iW z) l)) (cP _ (n+8) 0 (fun k=>dQ (aO _) (fun args p v hg hp H=>?_))) (af _ _) (ag _ _) ?_
   · unfold RO at hg
     split at hg
     · simp only[nP] at hg
       obtain ⟨rfl,rfl⟩:=hg
       subst hp
       rw[show n+8+k=n+k+8 by omega]
       exact Sc _ l z H (by omega)
     · cases hg
   · cases hx:iA (iW z) l
     · repeat' first | (refine Tr.al (fun hc=>?_) (fun hc=>?_)<;>(try simp (disch:=omega) only[nV,nW,hx] at hc)<;>try omega) | (refine Tr.a8 ?_ ?_;· (try simp (disch:=omega) only[nV,nW,hx]);try omega) | (refine Tr.aw ?_ ?_;· first | exact trivial | rfl | exact ⟨rfl,rfl⟩ | exact ⟨rfl,rfl,rfl⟩ | (simp (disch:=omega) only[nV,nW,hx];done) | ((try simp (disch:=omega) only[nV,nW,hx]);omega)) | fail
       all_goals first
        | exact Tr.av ⟨rfl,rfl⟩
        | fail
     · repeat' first | (refine Tr.al (fun hc=>?_) (fun hc=>?_)<;>(try simp (disch:=omega) only[nV,nW,hx] at hc)<;>try omega) | (refine Tr.a8 ?_ ?_;· (try simp (disch:=omega) only[nV,nW,hx]);try omega) | (refine Tr.aw ?_ ?_;· first | exact trivial | rfl | exact ⟨rfl,rfl⟩ | exact ⟨rfl,rfl,rfl⟩ | (simp (disch:=omega) only[nV,nW,hx];done) | ((try simp (disch:=omega) only[nV,nW,hx]);omega)) | fail
       all_goals first
        | exact Tr.av ⟨rfl,rfl⟩
        | fail
end
end Go.Eng
end
section
namespace Go.Eng
open Go.Proofs
noncomputable def DG (l:Nat) (z:Nat→Int) (j:Int):ay:=[(0,aG 5 l z),(3,.int .i64 j)]
noncomputable def Oa (L:AV) (e:Int):List AV→Option (Prop×AV)
 | [a]=>some (a=L,.int .i64 e)
 | _=>none
theorem t21 (n:Nat) (l:Nat) (z:Nat→Int) (H:aa) (j:Int):aN (bp (n+2) 21 50) (il aR (n+1) 1) aW aX (part Tryz.f21 [1,1,0,1,0,0]) (hints (DG l z j)) (aC::H) =
 (fun (Z0:aT)=>Tr.ite (df j (Int.ofNat l)) (Tr.req (dR j l) (Tr.req (bx (au 0 j 5) (aq l 5)) (Tr.req (bx (ah (au 0 j 5) 1) (aq l 5)) (Tr.ite (nM (Int.ofNat 0) (z (au 0 j 5))) (Tr.ite (nM (z (au 0 j 5)) (z (ah (au 0 j 5) 1))) (Tr.ite (bG (nM (z (ah (au 0 j 5) 1)) (Int.ofNat 10000))) (Tr.ok (Ex.ret,Z0,aC::H)) (Tr.req (dR j l) (Tr.req (bx (ah (au 0 j 5) 2) (aq l 5)) (Tr.req (bx (ah (ah (au 0 j 5) 2) 1) (aq l 5)) (Tr.ite (nM (Int.ofNat 0) (z (ah (au 0 j 5) 2))) (Tr.ite (nM (z (ah (au 0 j 5) 2)) (z (ah (ah (au 0 j 5) 2) 1))) (Tr.ite (bG (nM (z (ah (ah (au 0 j 5) 2) 1)) (Int.ofNat 10000))) (Tr.ok (Ex.ret,Z0,aC::H)) (Tr.req (dR j l) (Tr.req (bx (ah (au 0 j 5) 4) (aq l 5)) (Tr.ite (df (z (ah (au 0 j 5) 4)) (Int.ofNat 0)) (Tr.ok (Ex.ret,Z0,aC::H)) (Tr.req (dR j l) (Tr.req (bx (ah (au 0 j 5) 4) (aq l 5)) (Tr.ite (df (Int.ofNat 100000) (z (ah (au 0 j 5) 4))) (Tr.ok (Ex.ret,Z0,aC::H)) (Tr.ok (Ex.normal,[(0,aG 5 l z,none),(3,AV.int .i64 (aK .i64 j (Int.ofNat 1)),none)],aC::H))))))))) (Tr.ok (Ex.ret,Z0,aC::H))) (Tr.ok (Ex.ret,Z0,aC::H))))))) (Tr.ok (Ex.ret,Z0,aC::H))) (Tr.ok (Ex.ret,Z0,aC::H)))))) (Tr.ok (Ex.exit 0,[(0,aG 5 l z,none),(3,AV.int .i64 j,none),(15,AV.bool false,some 1)],aC::H))) [(2,AV.int .i64 (Int.ofNat 3),some 1)]:=by kernel_rfl
theorem Ul (n:Nat) (l:Nat) (z:Nat→Int) (H:aa) (e:Bool):bu Tryz.prog (cd (n+2)) 100000 21 Tryz.f21 (KtB.kt 21) (il aR (n+2) 0) (eP aW 0 (DG l z 0) (aC::H) (.ite e (.ok (.ret,[(2,.int .i64 3,none)],aC::H)) (.ok (.normal,hints (DG l z (Int.ofNat l)++[(15,.bool false)]),aC::H)))) aX [(aG 5 l z,none)] H =
 Tr.ite (df (Int.ofNat l) (Int.ofNat 1)) (Tr.ok ((AV.int .i64 (Int.ofNat 6),some 1),H)) (Tr.ite (df (Int.ofNat 14) (Int.ofNat l)) (Tr.ok ((AV.int .i64 (Int.ofNat 6),some 1),H)) (Tr.reqP ([(0,aG 5 l z),(3,AV.int .i64 (Int.ofNat 0))]=[(0,aG 5 l z),(3,AV.int .i64 (Int.ofNat 0))]∧aC::H=aC::H) (Tr.ite e (Tr.ok ((AV.int .i64 (Int.ofNat 3),none),H)) (Tr.ok ((AV.int .i64 (Int.ofNat 0),some 1),H))))):=by kernel_rfl
theorem QZ (n:Nat) (l:Nat) (z:Nat→Int) (H:aa):bu Tryz.prog (cd (n+2)) 100000 21 Tryz.f21 (KtB.kt 21) (il aR (n+2) 0) (pZ aW 0) aX [(aG 5 l z,none)] H =
 Tr.ite (df (Int.ofNat l) (Int.ofNat 1)) (Tr.ok ((AV.int .i64 (Int.ofNat 6),some 1),H)) (Tr.ite (df (Int.ofNat 14) (Int.ofNat l)) (Tr.ok ((AV.int .i64 (Int.ofNat 6),some 1),H)) Tr.bad):=by kernel_rfl
def cq (z:Nat→Int) (j:Nat):Int:=z (j*5+1)-z (j*5+3)
def bE (z:Nat→Int) (j:Nat):Int:=z (j*5)-z (j*5+2)
def JT (l:Nat) (z:Nat→Int) (q:Int):AV :=
 if bh l z≠0 then .tup [.agg (.I .i64 [0,0]),.int .i64 (bh l z)]
 else if ¬ (0≤q∧q<l) then .tup [.agg (.I .i64 [0,0]),.int .i64 2]
 else if bE z q.toNat<cq z q.toNat then .tup [.agg (.I .i64 [0,0]),.int .i64 22]
 else .tup [.agg (.I .i64 [cq z q.toNat,bE z q.toNat]),.int .i64 0]
theorem RT:∀ b,(0,b) ∈ bc (bZ Tryz.f21)→b=.loop (part Tryz.f21 [1,1,0,1,0,0]):=jj (by kernel_rfl)
theorem bM {l:Nat} {z:Nat→Int} (h:bh l z=0):(1≤l∧l≤14)∧∀ j,j<l→0≤z (j*5)∧z (j*5)≤z (j*5+1)∧z (j*5+1)≤10000∧0≤z (j*5+2)∧z (j*5+2)≤z (j*5+3)∧z (j*5+3)≤10000∧0≤z (j*5+4)∧z (j*5+4)≤100000:=by
 unfold bh at h
 by_cases hl:l=0∨14<l
 · rw[if_pos hl] at h;exact absurd h (by decide)
 rw[if_neg hl] at h
 cases he:iA (iW z) l with
 | true=>rw[he,if_pos rfl] at h;exact absurd h (by decide)
 | false =>
   refine ⟨by omega,fun j hj=>?_⟩
   have:iW z j=false:=by
    cases e:iW z j with
    | false=>rfl
    | true=>rw[(eI _ _).2 ⟨j,hj,e⟩] at he;cases he
   simpa[iW] using this
section
variable (n:Nat) (l:Nat) (z:Nat→Int) (H:aa) (q:Int)
theorem R8:cd (n+3) (.fn 21) [aG 5 l z] H=some (.int .i64 (bh l z),H):=by
 unfold bh
 by_cases hl:l=0∨14<l
 · rw[if_pos hl]
   refine ba (n:=n+2) Tryz.func21 rfl rfl rfl (QZ n l z H) (dO (n+2) 0) (iv (af _ _) 0) (ag _ _) ?_
   exact wF
 rw[if_neg hl]
 have lp:=yC (n:=n+2) (f:=21) (nt:=50) (c:=part Tryz.f21 [1,1,0,1,0,0]) 0 (fun j=>DG l z (j:Int)) (fun _=>aC::H) l (iW z) (fun j=>([(2,.int .i64 3)],aC::H)) (DG l z (Int.ofNat l)++[(15,.bool false)],aC::H) (by omega) (fun j hj=>?_) ?_
 · refine ba (n:=n+2) Tryz.func21 rfl rfl rfl (Ul n l z H (iA (iW z) l)) (dO (n+2) 0) (bz (af _ _) RT (fun x hx=>?_)) (ag _ _) ?_
   · refine Eq.trans lp ?_
     rcases Tr.gz hx with ⟨hc,hx⟩ | ⟨hc,hx⟩
     · rw[← Tr.ab hx,hc];rfl
     · rw[← Tr.ab hx,hc];simp only[gi.st,aP];rfl
   · cases hx:iA (iW z) l
     · repeat' first | (refine Tr.al (fun hc=>?_) (fun hc=>?_)<;>(try simp (disch:=omega) only[nV,nW,hx] at hc)<;>try omega) | (refine Tr.a8 ?_ ?_;· (try simp (disch:=omega) only[nV,nW,hx]);try omega) | (refine Tr.aw ?_ ?_;· first | exact trivial | rfl | exact ⟨rfl,rfl⟩ | exact ⟨rfl,rfl,rfl⟩ | (simp (disch:=omega) only[nV,nW,hx];done) | ((try simp (disch:=omega) only[nV,nW,hx]);omega)) | fail
       all_goals first
        | exact Tr.av ⟨rfl,rfl⟩
        | fail
     · repeat' first | (refine Tr.al (fun hc=>?_) (fun hc=>?_)<;>(try simp (disch:=omega) only[nV,nW,hx] at hc)<;>try omega) | (refine Tr.a8 ?_ ?_;· (try simp (disch:=omega) only[nV,nW,hx]);try omega) | (refine Tr.aw ?_ ?_;· first | exact trivial | rfl | exact ⟨rfl,rfl⟩ | exact ⟨rfl,rfl,rfl⟩ | (simp (disch:=omega) only[nV,nW,hx];done) | ((try simp (disch:=omega) only[nV,nW,hx]);omega)) | fail
       all_goals first
        | exact Tr.av ⟨rfl,rfl⟩
        | fail
 · have ej:aK .i64 (j:Int) (Int.ofNat 1)=((j+1:Nat):Int):=by rw[bH,show Int.ofNat 1=1 from rfl];exact cr (by omega) (by omega)
   have ei:au 0 (j:Int) 5=j*5:=by rw[bB];omega
   have hs:iW z j=!(decide (0≤z (j*5)) && (decide (z (j*5)≤z (j*5+1)) && (decide (z (j*5+1)≤10000) && (decide (0≤z (j*5+2)) && (decide (z (j*5+2)≤z (j*5+3)) && (decide (z (j*5+3)≤10000) && (decide (0≤z (j*5+4)) && decide (z (j*5+4)≤100000)))))))):=rfl
   refine aD (t21 n l z H (j:Int)) (dO (n+1) 1) (af _ _) (ag _ _) ?_
   have e31:j*5+2+1=j*5+3:=rfl
   repeat' first | (refine Tr.al (fun hc=>?_) (fun hc=>?_)<;>(try simp (disch:=omega) only[nV,nW,ei,e31] at hc)<;>try omega) | (refine Tr.a8 ?_ ?_;· (try simp (disch:=omega) only[nV,nW,ei,e31]);try omega) | (refine Tr.aw ?_ ?_;· first | exact trivial | rfl | exact ⟨rfl,rfl⟩ | exact ⟨rfl,rfl,rfl⟩ | (simp (disch:=omega) only[nV,nW,ei,e31];done) | ((try simp (disch:=omega) only[nV,nW,ei,e31]);omega)) | fail
   all_goals refine Tr.av ?_
   all_goals first
    | (rw[if_pos (by rw[hs];simp;omega)];rfl)
    | (rw[if_neg (by rw[hs];simp;omega)];exact ⟨rfl,by rw[ej];rfl⟩)
    | fail
 · obtain ⟨x,h1,rfl⟩:=aD (Q:=fun x=>x=(.exit 0,DG l z (Int.ofNat l)++[(15,.bool false)],aC::H)) (t21 n l z H (Int.ofNat l)) (dO (n+1) 1) (af _ _) (ag _ _) (by
    exact wF)
   exact h1
theorem RK {f k:Nat} {t:me} {e:Int} (ht:t.Ok (cd k)) (h:∀ H,cd k (.fn f) [aG 5 l z] H=some (.int .i64 e,H)):(iz t f (Oa (aG 5 l z) e)).Ok (cd k):=by
 refine dQ ht (fun args p v hg hp H=>?_)
 unfold Oa at hg
 split at hg
 · simp only[nP] at hg
   obtain ⟨rfl,rfl⟩:=hg
   subst hp
   exact h H
 · cases hg
end
end Go.Eng
end
