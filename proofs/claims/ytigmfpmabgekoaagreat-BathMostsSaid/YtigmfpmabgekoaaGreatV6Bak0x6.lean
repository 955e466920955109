/- Closed calls of the seat: what they lean on. -/
import Derived.Test.YtigmfpmabgekoaaGreatV6EngRnLx4
import Derived.Test.YtigmfpmabgekoaaGreatV6EngKtBx6
import Derived.Test.YtigmfpmabgekoaaGreatProg
import Derived.KernelRfl
import Derived.Test.YtigmfpmabgekoaaGreatChecked
import Derived.Shelf.SortM.Plain
import Derived.Test.YtigmfpmabgekoaaGreatV6EngThx4
import Derived.Test.YtigmfpmabgekoaaGreatV6EngRnFx3
import Derived.Test.YtigmfpmabgekoaaGreatV6EngArgx7
set_option maxRecDepth 100000
set_option linter.unusedVariables false
set_option linter.unusedSimpArgs false
section
namespace Go.Proofs.YtigmfpmabgekoaaGreat.Known
open Go.Eng Go.Proofs
theorem named:b8 Tryz.prog:=by
 have h:(Tryz.prog.funcs.toList.all fun fn=>fn.body.isNone || !(fn.name == "runtime.NumGoroutine"))=true:=by kernel_rfl
 intro f fn hf hb
 have:=List.all_eq_true.1 h fn (by simpa using Array.mem_of_getElem? hf)
 rw[hb] at this
 simpa using this
theorem mixed:Tryz.prog.follows .mixedOrders=true:=by kernel_rfl
theorem Gd:∀ e ∈ ([]:List iQ),bM Tryz.prog e:=fun e h=>by cases h
theorem dS {e:iQ} {t:List iQ} (h:bM Tryz.prog e) (k:∀ x ∈ t,bM Tryz.prog x):∀ x ∈ e::t,bM Tryz.prog x:=fun x hx=>by
 rcases List.mem_cons.1 hx with rfl | hx
 · exact h
 · exact k x hx
def KH:List iQ:=[]
theorem Be:∀ e ∈ KH,bM Tryz.prog e:=Gd
def navB:List Nat→Code→Code
 | [],c=>c
 | x :: p,c=>match c with
   | .seq a b=>match x with
     | 0=>navB p a
     | _=>navB p b
   | .cond _ a b=>match x with
     | 0=>navB p a
     | _=>navB p b
   | .block _ b=>navB p b
   | .loop b=>navB p b
   | .scope b=>navB p b
   | .rangeFunc _ _ a b=>match x with
     | 0=>navB p a
     | _=>navB p b
   | c=>c
def vT:Code→Array Oper
 | .region _ ops _=>ops
 | _=>#[]
noncomputable def bd79:Code:=Tryz.f79.body.getD .skip
def LL (l:List Oper):Oper:=l.headD { dst:=none,op:=.move (.tmp 0),type:=0,pos := "",after:=#[],guard:=none }
noncomputable def mostS:bx:={ id0:=24,ops0:=vT (navB [1,1,1,1,1,1,0,0] bd79),pre:=(vT (navB [1,1,1,1,1,1,0,0] bd79)).toList.take 1,ro:=LL ((vT (navB [1,1,1,1,1,1,0,0] bd79)).toList.drop 1),m:=90,ty:=122 }
noncomputable def mostL:a8:={ out:=6,Dx:=25,id2:=26,nxt:=7,ops1:=vT (navB [1,1,1,1,1,1,0,1,0,0,0] bd79),ops2:=vT (navB [1,1,1,1,1,1,0,1,0,0,1,1,0,0] bd79),no:=LL (vT (navB [1,1,1,1,1,1,0,1,0,0,0] bd79)).toList,eo:=LL (vT (navB [1,1,1,1,1,1,0,1,0,0,1,1,0,0] bd79)).toList,t1:=(vT (navB [1,1,1,1,1,1,0,1,0,0,0] bd79)).toList.tail,t2:=(vT (navB [1,1,1,1,1,1,0,1,0,0,1,1,0,0] bd79)).toList.tail,it:=91,nx:=92,mo:=93,en:=94,rest:=navB [1,1,1,1,1,1,0,1,0,0,1,1,0,1] bd79,km:=1361129467678802093696356908627478183936 }
noncomputable def most:pe:={ f:=79,pre:=[navB [0] bd79,navB [1,0] bd79,navB [1,1,0] bd79,navB [1,1,1,0] bd79,navB [1,1,1,1,0] bd79,navB [1,1,1,1,1,0] bd79],S:=mostS,L:=mostL,suf:=navB [1,1,1,1,1,1,1] bd79 }
theorem Iv:Tryz.f79.body=some (assemble most.pre (mostS.code mostL) most.suf):=by kernel_rfl
theorem FZ:mostS.ops0.toList=mostS.pre++[mostS.ro]:=by kernel_rfl
theorem F2:mostS.ro.op=.range mostS.ty (.tmp mostS.m):=by kernel_rfl
theorem FT:mostS.ro.dst=some mostL.it:=by kernel_rfl
theorem FW:mostS.ro.guard=none:=by kernel_rfl
theorem F0:mostL.ops1.toList=mostL.no::mostL.t1:=by kernel_rfl
theorem F3:mostL.no.op=.next (.tmp mostL.it) false:=by kernel_rfl
theorem FU:mostL.no.dst=some mostL.nx:=by kernel_rfl
theorem FX:mostL.no.guard=none:=by kernel_rfl
theorem F1:mostL.ops2.toList=mostL.eo::mostL.t2:=by kernel_rfl
theorem F4:mostL.eo.op=.entry (.tmp mostL.it):=by kernel_rfl
theorem FV:mostL.eo.dst=some mostL.en:=by kernel_rfl
theorem FY:mostL.eo.guard=none:=by kernel_rfl
theorem AR:most.Ok Tryz.prog:=⟨⟨Tryz.f79,Tryz.func79,Iv⟩,⟨FZ,F2,FT,FW,⟨_,_,Tryz.underlying122⟩⟩,⟨F0,F3,FU,FX,F1,F4,FV,FY⟩⟩
noncomputable def rs:List pe:=[most]
theorem iH:∀ r ∈ rs,r.Ok Tryz.prog:=fun r h=>by
 rcases List.mem_cons.1 h with rfl | h
 · exact AR
 · cases h
end Go.Proofs.YtigmfpmabgekoaaGreat.Known
end
section
namespace Go.Proofs
open Go.Shelf
def Tryz.Cs:Go.Shelf.Ren:=⟨fun | 5=>74 | 8=>91 | 7=>90 | 19=>108 | 20=>109 | 10=>99 | 11=>100 | 12=>101 | 13=>102 | 14=>103 | 15=>104 | 16=>105 | 17=>106 | 18=>107 | 30=>113 | 31=>114 | 32=>115 | 33=>116 | 34=>117 | 35=>118 | 40=>128 | n=>n,fun | 23=>30 | 25=>3 | 3=>3 | 32=>118 | 22=>30 | 0=>0 | 44=>138 | 46=>140 | 4=>4 | 36=>131 | 35=>130 | 41=>62 | 5=>5 | 9=>9 | 53=>143 | 57=>147 | 63=>155 | 64=>156 | n=>n,fun | n=>n⟩
theorem Tryz.Kh:Go.Proofs.SlLaysM.n5 Tryz.prog Tryz.Cs:={
 mixed:=by kernel_rfl
 f5:=⟨Tryz.f74.name,by decide,Tryz.func74.trans (congrArg some (by kernel_rfl))⟩
 f7:=⟨Tryz.f90.name,by decide,Tryz.func90.trans (congrArg some (by kernel_rfl))⟩
 f8:=Tryz.func91.trans (congrArg some (by kernel_rfl))
 f10:=⟨Tryz.f99.name,by decide,Tryz.func99.trans (congrArg some (by kernel_rfl))⟩
 f11:=⟨Tryz.f100.name,by decide,Tryz.func100.trans (congrArg some (by kernel_rfl))⟩
 f12:=⟨Tryz.f101.name,by decide,Tryz.func101.trans (congrArg some (by kernel_rfl))⟩
 f13:=⟨Tryz.f102.name,by decide,Tryz.func102.trans (congrArg some (by kernel_rfl))⟩
 f14:=⟨Tryz.f103.name,by decide,Tryz.func103.trans (congrArg some (by kernel_rfl))⟩
 f15:=⟨Tryz.f104.name,by decide,Tryz.func104.trans (congrArg some (by kernel_rfl))⟩
 f16:=⟨Tryz.f105.name,by decide,Tryz.func105.trans (congrArg some (by kernel_rfl))⟩
 f17:=⟨Tryz.f106.name,by decide,Tryz.func106.trans (congrArg some (by kernel_rfl))⟩
 f18:=⟨Tryz.f107.name,by decide,Tryz.func107.trans (congrArg some (by kernel_rfl))⟩
 f19:=Tryz.func108.trans (congrArg some (by kernel_rfl))
 f20:=Tryz.func109.trans (congrArg some (by kernel_rfl))
 f30:=⟨Tryz.f113.name,by decide,Tryz.func113.trans (congrArg some (by kernel_rfl))⟩
 f31:=Tryz.func114.trans (congrArg some (by kernel_rfl))
 f32:=Tryz.func115.trans (congrArg some (by kernel_rfl))
 f33:=⟨Tryz.f116.name,by decide,Tryz.func116.trans (congrArg some (by kernel_rfl))⟩
 f34:=⟨Tryz.f117.name,by decide,Tryz.func117.trans (congrArg some (by kernel_rfl))⟩
 f35:=⟨Tryz.f118.name,by decide,Tryz.func118.trans (congrArg some (by kernel_rfl))⟩
 f40:=⟨Tryz.f128.name,by decide,Tryz.func128.trans (congrArg some (by kernel_rfl))⟩
 t0:=Tryz.underlying0
 a0:=Tryz.isAgg0
 z0:=Tryz.sizeOf0
 v0:=Tryz.zeroValue0
 t3:=Tryz.underlying3
 a3:=Tryz.isAgg3
 z3:=Tryz.sizeOf3
 v3:=Tryz.zeroValue3
 t4:=Tryz.underlying4
 a4:=Tryz.isAgg4
 z4:=Tryz.sizeOf4
 v4:=Tryz.zeroValue4
 t5:=Tryz.underlying5
 a5:=Tryz.isAgg5
 z5:=Tryz.sizeOf5
 v5:=Tryz.zeroValue5
 t9:=Tryz.underlying9
 a9:=Tryz.isAgg9
 z9:=Tryz.sizeOf9
 v9:=Tryz.zeroValue9
 t22:=Tryz.underlying30
 a22:=Tryz.isAgg30
 z22:=Tryz.sizeOf30
 v22:=Tryz.zeroValue30
 t23:=Tryz.underlying30
 a23:=Tryz.isAgg30
 z23:=Tryz.sizeOf30
 v23:=Tryz.zeroValue30
 t25:=Tryz.underlying3
 a25:=Tryz.isAgg3
 z25:=Tryz.sizeOf3
 v25:=Tryz.zeroValue3
 t32:=Tryz.underlying118
 a32:=Tryz.isAgg118
 z32:=Tryz.sizeOf118
 v32:=Tryz.zeroValue118
 t35:=Tryz.underlying130
 a35:=Tryz.isAgg130
 z35:=Tryz.sizeOf130
 v35:=Tryz.zeroValue130
 t36:=Tryz.underlying131
 a36:=Tryz.isAgg131
 z36:=Tryz.sizeOf131
 v36:=Tryz.zeroValue131
 t41:=Tryz.underlying62
 a41:=Tryz.isAgg62
 z41:=Tryz.sizeOf62
 v41:=Tryz.zeroValue62
 t44:=Tryz.underlying138
 a44:=Tryz.isAgg138
 z44:=Tryz.sizeOf138
 v44:=Tryz.zeroValue138
 t46:=Tryz.underlying140
 a46:=Tryz.isAgg140
 z46:=Tryz.sizeOf140
 v46:=Tryz.zeroValue140
 t53:=Tryz.underlying143
 a53:=Tryz.isAgg143
 z53:=Tryz.sizeOf143
 v53:=Tryz.zeroValue143
 t57:=Tryz.underlying147
 a57:=Tryz.isAgg147
 z57:=Tryz.sizeOf147
 v57:=Tryz.zeroValue147
 t63:=Tryz.underlying155
 a63:=Tryz.isAgg155
 z63:=Tryz.sizeOf155
 v63:=Tryz.zeroValue155
 t64:=Tryz.underlying156
 a64:=Tryz.isAgg156
 z64:=Tryz.sizeOf156
 v64:=Tryz.zeroValue156 }
def Tryz.Ct:Go.Shelf.Ren:=⟨fun | 5=>96 | 8=>91 | 7=>111 | 19=>108 | 20=>109 | 10=>119 | 11=>120 | 12=>121 | 13=>122 | 14=>123 | 15=>124 | 16=>125 | 17=>126 | 18=>127 | 30=>129 | 31=>114 | 32=>115 | 33=>130 | 34=>131 | 35=>132 | 40=>133 | n=>n,fun | 23=>36 | 25=>2 | 3=>3 | 32=>118 | 22=>36 | 0=>0 | 44=>138 | 46=>140 | 4=>4 | 36=>131 | 35=>130 | 41=>62 | 5=>5 | 9=>9 | 53=>143 | 57=>147 | 63=>155 | 64=>156 | n=>n,fun | n=>n⟩
theorem Tryz.Ki:Go.Proofs.SlLaysM.n5 Tryz.prog Tryz.Ct:={
 mixed:=by kernel_rfl
 f5:=⟨Tryz.f96.name,by decide,Tryz.func96.trans (congrArg some (by kernel_rfl))⟩
 f7:=⟨Tryz.f111.name,by decide,Tryz.func111.trans (congrArg some (by kernel_rfl))⟩
 f8:=Tryz.func91.trans (congrArg some (by kernel_rfl))
 f10:=⟨Tryz.f119.name,by decide,Tryz.func119.trans (congrArg some (by kernel_rfl))⟩
 f11:=⟨Tryz.f120.name,by decide,Tryz.func120.trans (congrArg some (by kernel_rfl))⟩
 f12:=⟨Tryz.f121.name,by decide,Tryz.func121.trans (congrArg some (by kernel_rfl))⟩
 f13:=⟨Tryz.f122.name,by decide,Tryz.func122.trans (congrArg some (by kernel_rfl))⟩
 f14:=⟨Tryz.f123.name,by decide,Tryz.func123.trans (congrArg some (by kernel_rfl))⟩
 f15:=⟨Tryz.f124.name,by decide,Tryz.func124.trans (congrArg some (by kernel_rfl))⟩
 f16:=⟨Tryz.f125.name,by decide,Tryz.func125.trans (congrArg some (by kernel_rfl))⟩
 f17:=⟨Tryz.f126.name,by decide,Tryz.func126.trans (congrArg some (by kernel_rfl))⟩
 f18:=⟨Tryz.f127.name,by decide,Tryz.func127.trans (congrArg some (by kernel_rfl))⟩
 f19:=Tryz.func108.trans (congrArg some (by kernel_rfl))
 f20:=Tryz.func109.trans (congrArg some (by kernel_rfl))
 f30:=⟨Tryz.f129.name,by decide,Tryz.func129.trans (congrArg some (by kernel_rfl))⟩
 f31:=Tryz.func114.trans (congrArg some (by kernel_rfl))
 f32:=Tryz.func115.trans (congrArg some (by kernel_rfl))
 f33:=⟨Tryz.f130.name,by decide,Tryz.func130.trans (congrArg some (by kernel_rfl))⟩
 f34:=⟨Tryz.f131.name,by decide,Tryz.func131.trans (congrArg some (by kernel_rfl))⟩
 f35:=⟨Tryz.f132.name,by decide,Tryz.func132.trans (congrArg some (by kernel_rfl))⟩
 f40:=⟨Tryz.f133.name,by decide,Tryz.func133.trans (congrArg some (by kernel_rfl))⟩
 t0:=Tryz.underlying0
 a0:=Tryz.isAgg0
 z0:=Tryz.sizeOf0
 v0:=Tryz.zeroValue0
 t3:=Tryz.underlying3
 a3:=Tryz.isAgg3
 z3:=Tryz.sizeOf3
 v3:=Tryz.zeroValue3
 t4:=Tryz.underlying4
 a4:=Tryz.isAgg4
 z4:=Tryz.sizeOf4
 v4:=Tryz.zeroValue4
 t5:=Tryz.underlying5
 a5:=Tryz.isAgg5
 z5:=Tryz.sizeOf5
 v5:=Tryz.zeroValue5
 t9:=Tryz.underlying9
 a9:=Tryz.isAgg9
 z9:=Tryz.sizeOf9
 v9:=Tryz.zeroValue9
 t22:=Tryz.underlying36
 a22:=Tryz.isAgg36
 z22:=Tryz.sizeOf36
 v22:=Tryz.zeroValue36
 t23:=Tryz.underlying36
 a23:=Tryz.isAgg36
 z23:=Tryz.sizeOf36
 v23:=Tryz.zeroValue36
 t25:=Tryz.underlying2
 a25:=Tryz.isAgg2
 z25:=Tryz.sizeOf2
 v25:=Tryz.zeroValue2
 t32:=Tryz.underlying118
 a32:=Tryz.isAgg118
 z32:=Tryz.sizeOf118
 v32:=Tryz.zeroValue118
 t35:=Tryz.underlying130
 a35:=Tryz.isAgg130
 z35:=Tryz.sizeOf130
 v35:=Tryz.zeroValue130
 t36:=Tryz.underlying131
 a36:=Tryz.isAgg131
 z36:=Tryz.sizeOf131
 v36:=Tryz.zeroValue131
 t41:=Tryz.underlying62
 a41:=Tryz.isAgg62
 z41:=Tryz.sizeOf62
 v41:=Tryz.zeroValue62
 t44:=Tryz.underlying138
 a44:=Tryz.isAgg138
 z44:=Tryz.sizeOf138
 v44:=Tryz.zeroValue138
 t46:=Tryz.underlying140
 a46:=Tryz.isAgg140
 z46:=Tryz.sizeOf140
 v46:=Tryz.zeroValue140
 t53:=Tryz.underlying143
 a53:=Tryz.isAgg143
 z53:=Tryz.sizeOf143
 v53:=Tryz.zeroValue143
 t57:=Tryz.underlying147
 a57:=Tryz.isAgg147
 z57:=Tryz.sizeOf147
 v57:=Tryz.zeroValue147
 t63:=Tryz.underlying155
 a63:=Tryz.isAgg155
 z63:=Tryz.sizeOf155
 v63:=Tryz.zeroValue155
 t64:=Tryz.underlying156
 a64:=Tryz.isAgg156
 z64:=Tryz.sizeOf156
 v64:=Tryz.zeroValue156 }
end Go.Proofs
namespace Go.Eng
open Go.Proofs Go.Sort
def iL (L:List Int):List Int:=L.mergeSort fun x y=>decide (x≤y)
theorem IV:CF Tryz.prog 74 iL :=
 ⟨⟨_,Tryz.func74,by kernel_rfl⟩,fun L=>List.length_mergeSort L,fun blk off cap zs w h1 h2 h3=>AnyM.slices_Sort_int Tryz.Kh blk off cap zs w h1 h2 h3⟩
theorem IW:CF Tryz.prog 96 iL :=
 ⟨⟨_,Tryz.func96,by kernel_rfl⟩,fun L=>List.length_mergeSort L,fun blk off cap zs w h1 h2 h3=>AnyM.slices_Sort_int Tryz.Ki blk off cap zs w h1 h2 h3⟩
end Go.Eng
end
section
namespace Go.Eng
open Go.Proofs Go.ChangeShapes

noncomputable def aO (n len:Nat) (z:Nat→Int):AV:=.slcT none (.M [.arr .i64 z (iE len n)]) n len false
noncomputable def nv:aJ→FuncId→List AV→aa→Option (AV×aa):=fun call f args H=>cond (Nat.beq f 68) (AX Tryz.prog KtB.kt 100000 68 call args H) (cond (Nat.beq f 74) (Cm iL args H) (cond (Nat.beq f 96) (Cm iL args H) (cond (Nat.beq f 79) (sR Tryz.prog KtB.kt 100000 YtigmfpmabgekoaaGreat.Known.most call args H) (cond (Nat.beq f 32) (IN Tryz.prog KtB.kt 100000 32 (z8 Tryz.prog KtB.kt 100000 63 call) args H) (Gj [⟨15,[],.bool true⟩] call f args H)))))
def Iy (f:FuncId):Bool:=Nat.beq f 15 || Nat.beq f 1000000 || Nat.beq f 68 || Nat.beq f 74 || Nat.beq f 96 || Nat.beq f 32 || Nat.beq f 79
noncomputable def cd (n:Nat):aJ:=cC Tryz.prog nv KtB.kt 100000 n
noncomputable def il (tab:nI) (n k:Nat):bz:=B4 Tryz.prog nv KtB.kt 100000 Iy tab n k
noncomputable def bt (n:Nat) (f nt:Nat):Cx:=⟨Tryz.prog,cd n,100000,f,nt,KtB.kt f,none⟩

def EO:List Nat→Code→Code
 | [],c=>c
 | x :: p,c=>match c with
   | .seq a b=>match x with
     | 0=>EO p a
     | _=>EO p b
   | .cond _ a b=>match x with
     | 0=>EO p a
     | _=>EO p b
   | .block _ b=>EO p b
   | .loop b=>EO p b
   | .scope b=>EO p b
   | .rangeFunc _ _ a b=>match x with
     | 0=>EO p a
     | _=>EO p b
   | c=>c
noncomputable def part (f:Func) (p:List Nat):Code:=EO p (bQ f)
theorem zA (g:FuncId) (h:Iy g=false) (c:aJ) (args:List AV) (H:aa):nv c g args H=none:=by
 unfold Iy at h
 rw[Bool.or_eq_false_iff,Bool.or_eq_false_iff,Bool.or_eq_false_iff,Bool.or_eq_false_iff,Bool.or_eq_false_iff,Bool.or_eq_false_iff] at h
 obtain ⟨⟨⟨⟨⟨⟨h0,h1⟩,h2⟩,h3⟩,h4⟩,h5⟩,h6⟩:=h
 unfold nv Gj
 rw[h2,h3,h4,h6,h5,h1,cond_false,cond_false,cond_false,cond_false,cond_false,cond_false]
 simp only[zI]
 have:Nat.beq 15 g=false:=by
  cases hb:Nat.beq 15 g with
  | false=>rfl
  | true=>have:=Nat.eq_of_beq_eq_true hb;subst this;simp at h0
 rw[this];rfl
theorem uO (n:Nat):∃ x,cC Tryz.prog nv KtB.kt 100000 n .mode [] []=some x:=by
 cases n<;>exact ⟨_,rfl⟩
theorem Gg (hN:b8 Tryz.prog) (hD:gL Tryz.prog) (hW:bM Tryz.prog ⟨15,[],.bool true⟩):tS Tryz.prog nv :=
 fun call hC f args H v H' h hne p M w cargs hH hA=>by
  unfold nv at h
  cases hb:Nat.beq f 68 with
  | true =>
    rw[hb,cond_true] at h
    have:=Nat.eq_of_beq_eq_true hb
    subst this
    exact x9 hN hD KtB.kt 100000 hC h hH hA
  | false =>
    rw[hb,cond_false] at h
    cases h74:Nat.beq f 74 with
    | true =>
      rw[h74,cond_true] at h
      have:=Nat.eq_of_beq_eq_true h74
      subst this
      exact A5 IV h hne hH hA
    | false =>
      rw[h74,cond_false] at h
      cases h96:Nat.beq f 96 with
      | true =>
        rw[h96,cond_true] at h
        have:=Nat.eq_of_beq_eq_true h96
        subst this
        exact A5 IW h hne hH hA
      | false =>
        rw[h96,cond_false] at h
        cases h79:Nat.beq f 79 with
        | true =>
          rw[h79,cond_true] at h
          have:=Nat.eq_of_beq_eq_true h79
          subst this
          exact Cg hN hD YtigmfpmabgekoaaGreat.Known.AR KtB.kt 100000 hC h hH hA
        | false =>
        rw[h79,cond_false] at h
        cases h32:Nat.beq f 32 with
        | true =>
          rw[h32,cond_true] at h
          have:=Nat.eq_of_beq_eq_true h32
          subst this
          exact Gv hN hD KtB.kt 100000 (Cz hN hD KtB.kt 100000 63 hC) h hH hA
        | false =>
          rw[h32,cond_false] at h
          exact Gk _ (fun e he=>by
           simp only[List.mem_singleton] at he
           subst he
           exact hW) call hC f args H v H' h hne p M w cargs hH hA
theorem iA (tab:nI) (n k:Nat) (ht:∀ k,tab.Ok (cd (n+k))):(il tab n k).Ok (cd (n+k)):=AI _ _ _ _ _ _ _ zA (fun k=>uO _) ht k
theorem fJ (n k:Nat):(il aT n k).Ok (cd (n+k)):=iA _ _ _ (fun k=>bp _)
theorem aB (n:Nat):(il aT n 0).Ok (cd n):=fJ n 0
theorem Jz {f:FuncId} {fn:Func} {n:Nat} (hf:Tryz.prog.funcs[f]?=some fn) (hb:fn.body.isSome=true) (hn:Iy f=false) {args:List HV} (hle:Nat.ble args.length fn.ntmps=true) {H:aa} {callR:bz} (hC:callR.Ok (cd n)) {bl:gz} (hB:bl.Ok (bt n f fn.ntmps) (bQ fn)) {rg:rz} (hR:rg.Ok (bt n f fn.ntmps) (bQ fn)) {y:HV×aa}
 (h:(bK Tryz.prog (cd n) 100000 f fn (KtB.kt f) callR bl rg args H).run=some y):cd (n+1) (.fn f) (qV args) H=some (y.1.1,y.2) :=
 wI hf hb (zA f hn _ _ _) hle hC hB hR h
theorem Jy {f:FuncId} {fn:Func} {n:Nat} (hf:Tryz.prog.funcs[f]?=some fn) (hb:fn.body.isSome=true) (hn:Iy f=false) {args:List HV} (hle:Nat.ble args.length fn.ntmps=true) {H:aa} {callR:bz} {bl:gz} {rg:rz} {T:Tr (HV×aa)}
 (e:bK Tryz.prog (cd n) 100000 f fn (KtB.kt f) callR bl rg args H=T) (hC:callR.Ok (cd n)) (hB:bl.Ok (bt n f fn.ntmps) (bQ fn)) (hR:rg.Ok (bt n f fn.ntmps) (bQ fn)) {y:HV×aa} (hr:T.run=some y):cd (n+1) (.fn f) (qV args) H=some (y.1.1,y.2) :=
 Jz hf hb hn hle hC hB hR (by rw[e];exact hr)
theorem Jx {n f nt:Nat} {c:Code} {callR:bz} (hC:callR.Ok (cd n)) {bl:gz} (hB:bl.Ok (bt n f nt) c) {rg:rz} (hR:rg.Ok (bt n f nt) c) {fr:au} {H:aa} {x:fz} (h:(aP (bt n f nt) callR bl rg c (hints fr) H).run=some x):exec (bt n f nt) c fr H=some x.st:=by
 have:=lC hC c hB hR _ _ _ h
 rw[aN] at this
 exact this

def mT (bl:gz) (id0:Nat):gz:=fun id fr H=>cond (Nat.beq id id0) (some .bad) (bl id fr H)
theorem fP {bl:gz} {cx:Cx} {c:Code} (h:bl.Ok cx c) (id0:Nat):(mT bl id0).Ok cx c:=by
 intro id b hm fr H t y ht hy
 unfold mT at ht
 cases hb:Nat.beq id id0 with
 | true =>
   rw[hb,cond_true,Option.some.injEq] at ht
   subst ht
   exact (Tr.ae hy).elim
 | false =>
   rw[hb,cond_false] at ht
   exact h id b hm fr H t y ht hy
theorem Jw {n f nt:Nat} {c:Code} {callR:bz} {bl:gz} {rg:rz} {fr:au} {H:aa} {T:Tr fz} (e:aP (bt n f nt) callR bl rg c (hints fr) H=T) (hC:callR.Ok (cd n)) (hB:bl.Ok (bt n f nt) c) (hR:rg.Ok (bt n f nt) c) {x:fz} (hr:T.run=some x):exec (bt n f nt) c fr H=some x.st :=
 Jx hC hB hR (by rw[e];exact hr)
section
variable {n f nt:Nat} {c:Code} {callR:bz} {bl:gz} {rg:rz}
end
def lB (p:Nat→Bool) (N:Nat):Bool:=decide (fN p N 0<N)
theorem oi {p:Nat→Bool} {N:Nat} (h:lB p N=true):fN p N 0<N:=by simpa[lB] using h
theorem BO {p:Nat→Bool} {N:Nat} (h:lB p N=false):fN p N 0=N:=by
 have h1:=(oj p N 0).2.1
 have:¬ fN p N 0<N:=by simpa[lB] using h
 omega
theorem ko (p:Nat→Bool) (N:Nat):lB p N=true↔∃ i,i<N∧p i=true:=by
 obtain ⟨h1,h2,h3,h4⟩:=oj p N 0
 constructor
 · intro h
   have:=oi h
   exact ⟨_,this,h4 (by omega)⟩
 · rintro ⟨i,hi,hp⟩
   unfold lB
   rw[decide_eq_true_eq]
   apply Nat.lt_of_not_le
   intro hc
   have:=h3 i (by omega) (by omega)
   rw[this] at hp;cases hp
end Go.Eng
end
section
namespace Go.Eng
open Go.Proofs
theorem bw {f:FuncId} {fn:Func} {n:Nat} (hf:Tryz.prog.funcs[f]?=some fn) (hb:fn.body.isSome=true) (hn:Iy f=false) {args:List HV} (hle:Nat.ble args.length fn.ntmps=true) {H:aa} {callR:bz} {bl:gz} {rg:rz} {T:Tr (HV×aa)}
 (e:bK Tryz.prog (cd n) 100000 f fn (KtB.kt f) callR bl rg args H=T) (hC:callR.Ok (cd n)) (hB:bl.Ok (bt n f fn.ntmps) (bQ fn)) (hR:rg.Ok (bt n f fn.ntmps) (bQ fn)) {v:AV} {H':aa} (h:T.all fun y=>y.1.1=v∧y.2=H'):cd (n+1) (.fn f) (qV args) H=some (v,H'):=by
 obtain ⟨y,h1,h2,h3⟩:=h
 have:=Jy hf hb hn hle e hC hB hR h1
 rw[this,h2,h3]
theorem az {n f nt:Nat} {c:Code} {callR:bz} {bl:gz} {rg:rz} {fr:au} {H:aa} {T:Tr fz} (e:aP (bt n f nt) callR bl rg c (hints fr) H=T) (hC:callR.Ok (cd n)) (hB:bl.Ok (bt n f nt) c) (hR:rg.Ok (bt n f nt) c) {Q:Ex×au×aa→Prop} (h:T.all fun x=>Q x.st):∃ x,exec (bt n f nt) c fr H=some x∧Q x:=by
 obtain ⟨x,h1,h2⟩:=h
 exact ⟨_,Jw e hC hB hR h1,h2⟩
section
variable {n f nt:Nat} {c:Code} {callR:bz} {bl:gz} {rg:rz}
theorem wW (id:Nat) (F:Nat→au) (G:Nat→aa) (N:Nat) (p:Nat→Bool) (X:Nat→au×aa) (Y:au×aa) (hN:N<99999)
 (hs:∀ j,j<N→∃ x,exec (bt n f nt) c (F j) (G j)=some x∧if p j=true then x=(.ret,X j) else x.1=.normal∧tidy (an (G 0)) x.2.1 x.2.2=(F (j+1),G (j+1)))
 (he:exec (bt n f nt) c (F N) (G N)=some (.exit id,Y)):exec (bt n f nt) (.block id (.loop c)) (F 0) (G 0)=some (cond (lB p N) (.ret,X (fN p N 0)) (.normal,Y)):=by
 have key:=pJ (body:=exec (bt n f nt) c) (n:=an (G 0)) F G N p (fun j=>if j<N then (.ret,X j) else (.exit id,Y))
  (fun j hj hp=>by
    obtain ⟨x,h1,h2⟩:=hs j hj
    rw[if_neg (by rw[hp];simp)] at h2
    obtain ⟨e,f1,g1⟩:=x
    obtain ⟨rfl,h3⟩:=h2
    exact ⟨_,_,h1,h3⟩)
  (fun j hj hp=>by
    obtain ⟨x,h1,h2⟩:=hs j hj
    rw[if_pos hp] at h2
    subst h2
    rw[if_pos hj]
    exact ⟨h1,by simp⟩)
  (by
    rw[if_neg (by omega)]
    exact ⟨he,by simp⟩) N 0 100000 (by omega) (by omega)
 cases hc:lB p N with
 | true =>
   have:=oi hc
   rw[if_pos this] at key
   exact fX (fun id' h=>by cases h) key
 | false =>
   have:=BO hc
   rw[if_neg (by omega)] at key
   exact qO key
end
theorem iR {n f nt:Nat} {c:Code} (id:Nat) (F:Nat→au) (G:Nat→aa) (N:Nat) (Y:au×aa) (hN:N<99999)
 (hs:∀ j,j<N→∃ x,exec (bt n f nt) c (F j) (G j)=some x∧(x.1=.normal∧tidy (an (G 0)) x.2.1 x.2.2=(F (j+1),G (j+1))))
 (he:exec (bt n f nt) c (F N) (G N)=some (.exit id,Y)):exec (bt n f nt) (.block id (.loop c)) (F 0) (G 0)=some (.normal,Y):=by
 have:=wW id F G N (fun _=>false) (fun _=>Y) Y hN (fun j hj=>by
  obtain ⟨x,h1,h2⟩:=hs j hj
  exact ⟨x,h1,by rw[if_neg (by simp)];exact h2⟩) he
 have h0:lB (fun _=>false) N=false:=by
  cases h:lB (fun _=>false) N with
  | false=>rfl
  | true=>obtain ⟨i,_,h2⟩:=(ko _ _).1 h;cases h2
 rw[h0] at this
 exact this
end Go.Eng
end
section
namespace Go.Eng
open Go.Proofs
noncomputable def aH:bo:=⟨false,[]⟩
noncomputable def BU (l:Nat) (z:Nat→Int) (j:Int):au:=[(0,aO 5 l z),(1,.fn (.func 58) [] []),(7,.int .i64 (Int.ofNat l)),(8,.int .i64 j)]
noncomputable def Oc (L:AV) (i:Int):List AV→Option (Prop×AV)
 | [a,.fn (.func 58) [] []]=>some (a=L,.int .i64 i)
 | _=>none
noncomputable def Od (L:AV) (b:Bool):List AV→Option (Prop×AV)
 | [a,.fn (.func 58) [] []]=>some (a=L,.bool b)
 | _=>none
theorem t84 (n:Nat) (l:Nat) (z:Nat→Int) (H:aa) (j:Int):aP (bt (n+6) 84 19) (il aT (n+1) 5) a6 a7 (part Tryz.f84 [1,0,1,0,0]) (hints (BU l z j)) (aH::H) =
 Tr.ite (cP j (Int.ofNat l)) (Tr.req (dY j l) (Tr.req (bX (aD 0 j 5) (bg l 5)) (Tr.req (bX (aq (aD 0 j 5) 1) (bg l 5)) (Tr.req (bX (aq (aD 0 j 5) 2) (bg l 5)) (Tr.req (bX (aq (aD 0 j 5) 3) (bg l 5)) (Tr.req (bX (aq (aD 0 j 5) 4) (bg l 5)) (Tr.req (dY (Int.ofNat 0) 4) (Tr.ite (cP (z (aD 0 j 5)) (Int.ofNat 0)) (Tr.ok (Ex.ret,[(4,AV.int .i64 j,none)],aH::H)) (Tr.ite (cP (Int.ofNat 10000) (z (aD 0 j 5))) (Tr.ok (Ex.ret,[(4,AV.int .i64 j,none)],aH::H)) (Tr.req (dY (Int.ofNat 1) 4) (Tr.ite (cP (z (aq (aD 0 j 5) 1)) (Int.ofNat 0)) (Tr.ok (Ex.ret,[(4,AV.int .i64 j,none)],aH::H)) (Tr.ite (cP (Int.ofNat 10000) (z (aq (aD 0 j 5) 1))) (Tr.ok (Ex.ret,[(4,AV.int .i64 j,none)],aH::H)) (Tr.req (dY (Int.ofNat 2) 4) (Tr.ite (cP (z (aq (aD 0 j 5) 2)) (Int.ofNat 0)) (Tr.ok (Ex.ret,[(4,AV.int .i64 j,none)],aH::H)) (Tr.ite (cP (Int.ofNat 10000) (z (aq (aD 0 j 5) 2))) (Tr.ok (Ex.ret,[(4,AV.int .i64 j,none)],aH::H)) (Tr.req (dY (Int.ofNat 3) 4) (Tr.ite (cP (z (aq (aD 0 j 5) 3)) (Int.ofNat 0)) (Tr.ok (Ex.ret,[(4,AV.int .i64 j,none)],aH::H)) (Tr.ite (cP (Int.ofNat 10000) (z (aq (aD 0 j 5) 3))) (Tr.ok (Ex.ret,[(4,AV.int .i64 j,none)],aH::H)) (Tr.ite (cP (z (aq (aD 0 j 5) 1)) (z (aD 0 j 5))) (Tr.ok (Ex.ret,[(4,AV.int .i64 j,none)],aH::H)) (Tr.ite (cP (z (aq (aD 0 j 5) 3)) (z (aq (aD 0 j 5) 2))) (Tr.ok (Ex.ret,[(4,AV.int .i64 j,none)],aH::H)) (Tr.req (dY (Int.ofNat 0) 1) (Tr.ite (cP (z (aq (aD 0 j 5) 4)) (Int.ofNat 0)) (Tr.ok (Ex.ret,[(4,AV.int .i64 j,none)],aH::H)) (Tr.ite (cP (Int.ofNat 100000) (z (aq (aD 0 j 5) 4))) (Tr.ok (Ex.ret,[(4,AV.int .i64 j,none)],aH::H)) (Tr.ok (Ex.normal,[(0,aO 5 l z,none),(1,AV.fn (Fn.func 58) [] [],none),(7,AV.int .i64 (Int.ofNat l),none),(8,AV.int .i64 (bk .i64 j (Int.ofNat 1)),none)],aH::H))))))))))))))))))))))))) (Tr.ok (Ex.exit 0,[(0,aO 5 l z,none),(1,AV.fn (Fn.func 58) [] [],none),(7,AV.int .i64 (Int.ofNat l),none),(8,AV.int .i64 j,none),(9,AV.bool false,some 1)],aH::H)):=by kernel_rfl
theorem QT (n:Nat) (l:Nat) (z:Nat→Int) (H:aa) (i:Int) (e:Bool):bK Tryz.prog (cd (n+6)) 100000 84 Tryz.f84 (KtB.kt 84) (il aT (n+6) 0) (eT a6 0 (BU l z 0) (aH::H) (.ite e (.ok (.ret,[(4,.int .i64 i,none)],aH::H)) (.ok (.normal,hints (BU l z (Int.ofNat l)++[(9,.bool false)]),aH::H)))) a7 [(aO 5 l z,none),(.fn (.func 58) [] [],none)] H =
 (fun (Z0:au)=>Tr.reqP (Z0=Z0∧aH::H=aH::H) (Tr.ite e (Tr.ok ((AV.int .i64 i,none),H)) (Tr.ok ((AV.int .i64 (Int.negSucc 0),some 1),H)))) [(0,aO 5 l z),(1,AV.fn (Fn.func 58) [] []),(7,AV.int .i64 (Int.ofNat l)),(8,AV.int .i64 (Int.ofNat 0))]:=by kernel_rfl
theorem QQ (n:Nat) (l:Nat) (z:Nat→Int) (H:aa) (i:Int):bK Tryz.prog (cd (n+7)) 100000 60 Tryz.f60 (KtB.kt 60) (il (ly aT 84 (Oc (aO 5 l z) i)) (n+7) 0) a6 a7 [(aO 5 l z,none),(.fn (.func 58) [] [],none)] H =
 Tr.reqP (aO 5 l z=aO 5 l z) (Tr.ok ((AV.bool (mK (Int.ofNat 0) i),none),H)):=by kernel_rfl
theorem QJ (n:Nat) (l:Nat) (z:Nat→Int) (H:aa) (b:Bool):bK Tryz.prog (cd (n+8)) 100000 20 Tryz.f20 (KtB.kt 20) (il (ly aT 60 (Od (aO 5 l z) b)) (n+8) 0) a6 a7 [(aO 5 l z,none)] H =
 Tr.ite (eU (Int.ofNat l) (Int.ofNat 0)) (Tr.ok ((AV.int .i64 (Int.ofNat 6),some 1),H)) (Tr.ite (cP (Int.ofNat 14) (Int.ofNat l)) (Tr.ok ((AV.int .i64 (Int.ofNat 6),some 1),H)) (Tr.reqP (aO 5 l z=aO 5 l z) (Tr.ite b (Tr.ok ((AV.int .i64 (Int.ofNat 3),some 1),H)) (Tr.ok ((AV.int .i64 (Int.ofNat 0),some 1),H))))):=by kernel_rfl
theorem Ny (n:Nat) (l:Nat) (z:Nat→Int) (H:aa):bK Tryz.prog (cd (n+8)) 100000 20 Tryz.f20 (KtB.kt 20) (il (ly aT 60 (fun _=>none)) (n+8) 0) a6 a7 [(aO 5 l z,none)] H =
 Tr.ite (eU (Int.ofNat l) (Int.ofNat 0)) (Tr.ok ((AV.int .i64 (Int.ofNat 6),some 1),H)) (Tr.ite (cP (Int.ofNat 14) (Int.ofNat l)) (Tr.ok ((AV.int .i64 (Int.ofNat 6),some 1),H)) Tr.bad):=by kernel_rfl
def jo (z:Nat→Int) (j:Nat):Bool:=!(decide (0≤z (j*5)) && (decide (z (j*5)≤z (j*5+1)) && (decide (z (j*5+1)≤10000) && (decide (0≤z (j*5+2)) && (decide (z (j*5+2)≤z (j*5+3)) && (decide (z (j*5+3)≤10000) && (decide (0≤z (j*5+4)) && decide (z (j*5+4)≤100000))))))))
def bY (l:Nat) (z:Nat→Int):Int:=if l=0∨14<l then 6 else if lB (jo z) l=true then 3 else 0
theorem Ot:∀ b,(0,b) ∈ aV (bQ Tryz.f84)→b=.loop (part Tryz.f84 [1,0,1,0,0]):=gM (by kernel_rfl)
section
variable (n:Nat) (l:Nat) (z:Nat→Int) (H:aa)
theorem OF (hl:l≤1000):cd (n+7) (.fn 84) [aO 5 l z,.fn (.func 58) [] []] H=some (.int .i64 (cond (lB (jo z) l) ((fN (jo z) l 0:Nat):Int) (-1)),H):=by
 have lp:=wW (n:=n+6) (f:=84) (nt:=19) (c:=part Tryz.f84 [1,0,1,0,0]) 0 (fun j=>BU l z (j:Int)) (fun _=>aH::H) l (jo z) (fun j=>([(4,.int .i64 (j:Int))],aH::H)) (BU l z (Int.ofNat l)++[(9,.bool false)],aH::H) (by omega) (fun j hj=>?_) ?_
 · refine bw (n:=n+6) Tryz.func84 rfl rfl rfl (QT n l z H ((fN (jo z) l 0:Nat):Int) (lB (jo z) l)) (fJ (n+6) 0) (bu (af _ _) Ot (fun x hx=>?_)) (ag _ _) ?_
   · refine Eq.trans lp ?_
     rcases Tr.fK hx with ⟨hc,hx⟩ | ⟨hc,hx⟩
     · rw[← Tr.ab hx,hc];rfl
     · rw[← Tr.ab hx,hc];simp only[fz.st,aN];rfl
   · repeat' first | (refine Tr.aj (fun hc=>?_) (fun hc=>?_)<;>(try simp (disch:=omega) only[nV,nW] at hc)<;>try omega) | (refine Tr.bm ?_ ?_;· (try simp (disch:=omega) only[nV,nW]);try omega) | (refine Tr.aF ?_ ?_;· first | exact trivial | rfl | exact ⟨rfl,rfl⟩ | exact ⟨rfl,rfl,rfl⟩ | (simp (disch:=omega) only[nV,nW];done) | ((try simp (disch:=omega) only[nV,nW]);omega)) | fail
     all_goals refine Tr.ar ⟨?_,rfl⟩
     all_goals rw[hc];rfl
 · have ej:bk .i64 (j:Int) (Int.ofNat 1)=((j+1:Nat):Int):=by rw[dB,show Int.ofNat 1=1 from rfl];exact dv (by omega) (by omega)
   have ei:aD 0 (j:Int) 5=j*5:=by rw[bS];omega
   have hs:jo z j=!(decide (0≤z (j*5)) && (decide (z (j*5)≤z (j*5+1)) && (decide (z (j*5+1)≤10000) && (decide (0≤z (j*5+2)) && (decide (z (j*5+2)≤z (j*5+3)) && (decide (z (j*5+3)≤10000) && (decide (0≤z (j*5+4)) && decide (z (j*5+4)≤100000)))))))):=rfl
   refine az (t84 n l z H (j:Int)) (fJ (n+1) 5) (af _ _) (ag _ _) ?_
   repeat' first | (refine Tr.aj (fun hc=>?_) (fun hc=>?_)<;>(try simp (disch:=omega) only[nV,nW,ei] at hc)<;>try omega) | (refine Tr.bm ?_ ?_;· (try simp (disch:=omega) only[nV,nW,ei]);try omega) | (refine Tr.aF ?_ ?_;· first | exact trivial | rfl | exact ⟨rfl,rfl⟩ | exact ⟨rfl,rfl,rfl⟩ | (simp (disch:=omega) only[nV,nW,ei];done) | ((try simp (disch:=omega) only[nV,nW,ei]);omega)) | fail
   all_goals refine Tr.ar ?_
   all_goals first
    | (rw[if_pos (by rw[hs];simp;omega)];rfl)
    | (rw[if_neg (by rw[hs];simp;omega)];exact ⟨rfl,by rw[ej];rfl⟩)
    | fail
 · obtain ⟨x,h1,rfl⟩:=az (Q:=fun x=>x=(.exit 0,BU l z (Int.ofNat l)++[(9,.bool false)],aH::H)) (t84 n l z H (Int.ofNat l)) (fJ (n+1) 5) (af _ _) (ag _ _) (by
    exact wF)
   exact h1
theorem OB (hl:l≤1000):cd (n+8) (.fn 60) [aO 5 l z,.fn (.func 58) [] []] H=some (.bool (lB (jo z) l),H):=by
 refine bw (n:=n+7) Tryz.func60 rfl rfl rfl (QQ n l z H (cond (lB (jo z) l) ((fN (jo z) l 0:Nat):Int) (-1))) (iA _ (n+7) 0 (fun k=>fD (bp _) (fun args p v hg hp H=>?_))) (af _ _) (ag _ _) ?_
 · unfold Oc at hg
   split at hg
   · simp only[nP] at hg
     obtain ⟨rfl,rfl⟩:=hg
     subst hp
     rw[show n+7+k=n+k+7 by omega]
     exact OF _ l z H hl
   · cases hg
 · repeat' first | (refine Tr.aj (fun hc=>?_) (fun hc=>?_)<;>(try simp (disch:=omega) only[nV,nW] at hc)<;>try omega) | (refine Tr.bm ?_ ?_;· (try simp (disch:=omega) only[nV,nW]);try omega) | (refine Tr.aF ?_ ?_;· first | exact trivial | rfl | exact ⟨rfl,rfl⟩ | exact ⟨rfl,rfl,rfl⟩ | (simp (disch:=omega) only[nV,nW];done) | ((try simp (disch:=omega) only[nV,nW]);omega)) | fail
   all_goals refine Tr.ar ⟨?_,rfl⟩
   rw[lR]
   cases lB (jo z) l
   · rfl
   · simp
theorem N6:cd (n+9) (.fn 20) [aO 5 l z] H=some (.int .i64 (bY l z),H):=by
 unfold bY
 by_cases hl:l=0∨14<l
 · rw[if_pos hl]
   refine bw (n:=n+8) Tryz.func20 rfl rfl rfl (Ny n l z H) (iA _ (n+8) 0 (fun k=>fD (bp _) (fun args p v hg hp H=>by cases hg))) (af _ _) (ag _ _) ?_
   exact wF
 · rw[if_neg hl]
   refine bw (n:=n+8) Tryz.func20 rfl rfl rfl (QJ n l z H (lB (jo z) l)) (iA _ (n+8) 0 (fun k=>fD (bp _) (fun args p v hg hp H=>?_))) (af _ _) (ag _ _) ?_
   · unfold Od at hg
     split at hg
     · simp only[nP] at hg
       obtain ⟨rfl,rfl⟩:=hg
       subst hp
       rw[show n+8+k=n+k+8 by omega]
       exact OB _ l z H (by omega)
     · cases hg
   · cases hx:lB (jo z) l
     · repeat' first | (refine Tr.aj (fun hc=>?_) (fun hc=>?_)<;>(try simp (disch:=omega) only[nV,nW,hx] at hc)<;>try omega) | (refine Tr.bm ?_ ?_;· (try simp (disch:=omega) only[nV,nW,hx]);try omega) | (refine Tr.aF ?_ ?_;· first | exact trivial | rfl | exact ⟨rfl,rfl⟩ | exact ⟨rfl,rfl,rfl⟩ | (simp (disch:=omega) only[nV,nW,hx];done) | ((try simp (disch:=omega) only[nV,nW,hx]);omega)) | fail
       all_goals first
        | exact Tr.ar ⟨rfl,rfl⟩
        | fail
     · repeat' first | (refine Tr.aj (fun hc=>?_) (fun hc=>?_)<;>(try simp (disch:=omega) only[nV,nW,hx] at hc)<;>try omega) | (refine Tr.bm ?_ ?_;· (try simp (disch:=omega) only[nV,nW,hx]);try omega) | (refine Tr.aF ?_ ?_;· first | exact trivial | rfl | exact ⟨rfl,rfl⟩ | exact ⟨rfl,rfl,rfl⟩ | (simp (disch:=omega) only[nV,nW,hx];done) | ((try simp (disch:=omega) only[nV,nW,hx]);omega)) | fail
       all_goals first
        | exact Tr.ar ⟨rfl,rfl⟩
        | fail
end
end Go.Eng
end
section
namespace Go.Eng
open Go.Proofs
noncomputable def BS (l:Nat) (z:Nat→Int) (j:Int):au:=[(0,aO 5 l z),(3,.int .i64 j)]
noncomputable def K6 (L:AV) (e:Int):List AV→Option (Prop×AV)
 | [a]=>some (a=L,.int .i64 e)
 | _=>none
theorem t21 (n:Nat) (l:Nat) (z:Nat→Int) (H:aa) (j:Int):aP (bt (n+2) 21 50) (il aT (n+1) 1) a6 a7 (part Tryz.f21 [1,1,0,1,0,0]) (hints (BS l z j)) (aH::H) =
 (fun (Z0:aK)=>Tr.ite (cP j (Int.ofNat l)) (Tr.req (dY j l) (Tr.req (bX (aD 0 j 5) (bg l 5)) (Tr.req (bX (aq (aD 0 j 5) 1) (bg l 5)) (Tr.ite (mK (Int.ofNat 0) (z (aD 0 j 5))) (Tr.ite (mK (z (aD 0 j 5)) (z (aq (aD 0 j 5) 1))) (Tr.ite (dQ (mK (z (aq (aD 0 j 5) 1)) (Int.ofNat 10000))) (Tr.ok (Ex.ret,Z0,aH::H)) (Tr.req (dY j l) (Tr.req (bX (aq (aD 0 j 5) 2) (bg l 5)) (Tr.req (bX (aq (aq (aD 0 j 5) 2) 1) (bg l 5)) (Tr.ite (mK (Int.ofNat 0) (z (aq (aD 0 j 5) 2))) (Tr.ite (mK (z (aq (aD 0 j 5) 2)) (z (aq (aq (aD 0 j 5) 2) 1))) (Tr.ite (dQ (mK (z (aq (aq (aD 0 j 5) 2) 1)) (Int.ofNat 10000))) (Tr.ok (Ex.ret,Z0,aH::H)) (Tr.req (dY j l) (Tr.req (bX (aq (aD 0 j 5) 4) (bg l 5)) (Tr.ite (cP (z (aq (aD 0 j 5) 4)) (Int.ofNat 0)) (Tr.ok (Ex.ret,Z0,aH::H)) (Tr.req (dY j l) (Tr.req (bX (aq (aD 0 j 5) 4) (bg l 5)) (Tr.ite (cP (Int.ofNat 100000) (z (aq (aD 0 j 5) 4))) (Tr.ok (Ex.ret,Z0,aH::H)) (Tr.ok (Ex.normal,[(0,aO 5 l z,none),(3,AV.int .i64 (bk .i64 j (Int.ofNat 1)),none)],aH::H))))))))) (Tr.ok (Ex.ret,Z0,aH::H))) (Tr.ok (Ex.ret,Z0,aH::H))))))) (Tr.ok (Ex.ret,Z0,aH::H))) (Tr.ok (Ex.ret,Z0,aH::H)))))) (Tr.ok (Ex.exit 0,[(0,aO 5 l z,none),(3,AV.int .i64 j,none),(15,AV.bool false,some 1)],aH::H))) [(2,AV.int .i64 (Int.ofNat 3),some 1)]:=by kernel_rfl
theorem QK (n:Nat) (l:Nat) (z:Nat→Int) (H:aa) (e:Bool):bK Tryz.prog (cd (n+2)) 100000 21 Tryz.f21 (KtB.kt 21) (il aT (n+2) 0) (eT a6 0 (BS l z 0) (aH::H) (.ite e (.ok (.ret,[(2,.int .i64 3,none)],aH::H)) (.ok (.normal,hints (BS l z (Int.ofNat l)++[(15,.bool false)]),aH::H)))) a7 [(aO 5 l z,none)] H =
 Tr.ite (cP (Int.ofNat l) (Int.ofNat 1)) (Tr.ok ((AV.int .i64 (Int.ofNat 6),some 1),H)) (Tr.ite (cP (Int.ofNat 14) (Int.ofNat l)) (Tr.ok ((AV.int .i64 (Int.ofNat 6),some 1),H)) (Tr.reqP ([(0,aO 5 l z),(3,AV.int .i64 (Int.ofNat 0))]=[(0,aO 5 l z),(3,AV.int .i64 (Int.ofNat 0))]∧aH::H=aH::H) (Tr.ite e (Tr.ok ((AV.int .i64 (Int.ofNat 3),none),H)) (Tr.ok ((AV.int .i64 (Int.ofNat 0),some 1),H))))):=by kernel_rfl
theorem Nz (n:Nat) (l:Nat) (z:Nat→Int) (H:aa):bK Tryz.prog (cd (n+2)) 100000 21 Tryz.f21 (KtB.kt 21) (il aT (n+2) 0) (mT a6 0) a7 [(aO 5 l z,none)] H =
 Tr.ite (cP (Int.ofNat l) (Int.ofNat 1)) (Tr.ok ((AV.int .i64 (Int.ofNat 6),some 1),H)) (Tr.ite (cP (Int.ofNat 14) (Int.ofNat l)) (Tr.ok ((AV.int .i64 (Int.ofNat 6),some 1),H)) Tr.bad):=by kernel_rfl
def c5 (z:Nat→Int) (j:Nat):Int:=z (j*5+1)-z (j*5+3)
def cB (z:Nat→Int) (j:Nat):Int:=z (j*5)-z (j*5+2)
theorem Oi:∀ b,(0,b) ∈ aV (bQ Tryz.f21)→b=.loop (part Tryz.f21 [1,1,0,1,0,0]):=gM (by kernel_rfl)
theorem cM {l:Nat} {z:Nat→Int} (h:bY l z=0):(1≤l∧l≤14)∧∀ j,j<l→0≤z (j*5)∧z (j*5)≤z (j*5+1)∧z (j*5+1)≤10000∧0≤z (j*5+2)∧z (j*5+2)≤z (j*5+3)∧z (j*5+3)≤10000∧0≤z (j*5+4)∧z (j*5+4)≤100000:=by
 unfold bY at h
 by_cases hl:l=0∨14<l
 · rw[if_pos hl] at h;exact absurd h (by decide)
 rw[if_neg hl] at h
 cases he:lB (jo z) l with
 | true=>rw[he,if_pos rfl] at h;exact absurd h (by decide)
 | false =>
   refine ⟨by omega,fun j hj=>?_⟩
   have:jo z j=false:=by
    cases e:jo z j with
    | false=>rfl
    | true=>rw[(ko _ _).2 ⟨j,hj,e⟩] at he;cases he
   simpa[jo] using this
section
variable (n:Nat) (l:Nat) (z:Nat→Int) (H:aa) (q:Int)
theorem N7:cd (n+3) (.fn 21) [aO 5 l z] H=some (.int .i64 (bY l z),H):=by
 unfold bY
 by_cases hl:l=0∨14<l
 · rw[if_pos hl]
   refine bw (n:=n+2) Tryz.func21 rfl rfl rfl (Nz n l z H) (fJ (n+2) 0) (fP (af _ _) 0) (ag _ _) ?_
   exact wF
 rw[if_neg hl]
 have lp:=wW (n:=n+2) (f:=21) (nt:=50) (c:=part Tryz.f21 [1,1,0,1,0,0]) 0 (fun j=>BS l z (j:Int)) (fun _=>aH::H) l (jo z) (fun j=>([(2,.int .i64 3)],aH::H)) (BS l z (Int.ofNat l)++[(15,.bool false)],aH::H) (by omega) (fun j hj=>?_) ?_
 · refine bw (n:=n+2) Tryz.func21 rfl rfl rfl (QK n l z H (lB (jo z) l)) (fJ (n+2) 0) (bu (af _ _) Oi (fun x hx=>?_)) (ag _ _) ?_
   · refine Eq.trans lp ?_
     rcases Tr.fK hx with ⟨hc,hx⟩ | ⟨hc,hx⟩
     · rw[← Tr.ab hx,hc];rfl
     · rw[← Tr.ab hx,hc];simp only[fz.st,aN];rfl
   · cases hx:lB (jo z) l
     · repeat' first | (refine Tr.aj (fun hc=>?_) (fun hc=>?_)<;>(try simp (disch:=omega) only[nV,nW,hx] at hc)<;>try omega) | (refine Tr.bm ?_ ?_;· (try simp (disch:=omega) only[nV,nW,hx]);try omega) | (refine Tr.aF ?_ ?_;· first | exact trivial | rfl | exact ⟨rfl,rfl⟩ | exact ⟨rfl,rfl,rfl⟩ | (simp (disch:=omega) only[nV,nW,hx];done) | ((try simp (disch:=omega) only[nV,nW,hx]);omega)) | fail
       all_goals first
        | exact Tr.ar ⟨rfl,rfl⟩
        | fail
     · repeat' first | (refine Tr.aj (fun hc=>?_) (fun hc=>?_)<;>(try simp (disch:=omega) only[nV,nW,hx] at hc)<;>try omega) | (refine Tr.bm ?_ ?_;· (try simp (disch:=omega) only[nV,nW,hx]);try omega) | (refine Tr.aF ?_ ?_;· first | exact trivial | rfl | exact ⟨rfl,rfl⟩ | exact ⟨rfl,rfl,rfl⟩ | (simp (disch:=omega) only[nV,nW,hx];done) | ((try simp (disch:=omega) only[nV,nW,hx]);omega)) | fail
       all_goals first
        | exact Tr.ar ⟨rfl,rfl⟩
        | fail
 · have ej:bk .i64 (j:Int) (Int.ofNat 1)=((j+1:Nat):Int):=by rw[dB,show Int.ofNat 1=1 from rfl];exact dv (by omega) (by omega)
   have ei:aD 0 (j:Int) 5=j*5:=by rw[bS];omega
   have hs:jo z j=!(decide (0≤z (j*5)) && (decide (z (j*5)≤z (j*5+1)) && (decide (z (j*5+1)≤10000) && (decide (0≤z (j*5+2)) && (decide (z (j*5+2)≤z (j*5+3)) && (decide (z (j*5+3)≤10000) && (decide (0≤z (j*5+4)) && decide (z (j*5+4)≤100000)))))))):=rfl
   refine az (t21 n l z H (j:Int)) (fJ (n+1) 1) (af _ _) (ag _ _) ?_
   have e31:j*5+2+1=j*5+3:=rfl
   repeat' first | (refine Tr.aj (fun hc=>?_) (fun hc=>?_)<;>(try simp (disch:=omega) only[nV,nW,ei,e31] at hc)<;>try omega) | (refine Tr.bm ?_ ?_;· (try simp (disch:=omega) only[nV,nW,ei,e31]);try omega) | (refine Tr.aF ?_ ?_;· first | exact trivial | rfl | exact ⟨rfl,rfl⟩ | exact ⟨rfl,rfl,rfl⟩ | (simp (disch:=omega) only[nV,nW,ei,e31];done) | ((try simp (disch:=omega) only[nV,nW,ei,e31]);omega)) | fail
   all_goals refine Tr.ar ?_
   all_goals first
    | (rw[if_pos (by rw[hs];simp;omega)];rfl)
    | (rw[if_neg (by rw[hs];simp;omega)];exact ⟨rfl,by rw[ej];rfl⟩)
    | fail
 · obtain ⟨x,h1,rfl⟩:=az (Q:=fun x=>x=(.exit 0,BS l z (Int.ofNat l)++[(15,.bool false)],aH::H)) (t21 n l z H (Int.ofNat l)) (fJ (n+1) 1) (af _ _) (ag _ _) (by
    exact wF)
   exact h1
theorem Oa {f k:Nat} {t:nI} {e:Int} (ht:t.Ok (cd k)) (h:∀ H,cd k (.fn f) [aO 5 l z] H=some (.int .i64 e,H)):(ly t f (K6 (aO 5 l z) e)).Ok (cd k):=by
 refine fD ht (fun args p v hg hp H=>?_)
 unfold K6 at hg
 split at hg
 · simp only[nP] at hg
   obtain ⟨rfl,rfl⟩:=hg
   subst hp
   exact h H
 · cases hg
end
end Go.Eng
end
