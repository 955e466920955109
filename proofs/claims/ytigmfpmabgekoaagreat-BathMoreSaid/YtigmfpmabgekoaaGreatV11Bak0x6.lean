/- Closed calls of the seat: what they lean on. -/
import Derived.Test.YtigmfpmabgekoaaGreatV11EngRnLx4
import Derived.Test.YtigmfpmabgekoaaGreatV11EngKtBx5
import Derived.Test.YtigmfpmabgekoaaGreatProg
import Derived.KernelRfl
import Derived.Test.YtigmfpmabgekoaaGreatChecked
import Derived.Shelf.SortM.Plain
import Derived.Test.YtigmfpmabgekoaaGreatV11EngThx4
import Derived.Test.YtigmfpmabgekoaaGreatV11EngRnFx3
import Derived.Test.YtigmfpmabgekoaaGreatV11EngPostx9
set_option maxRecDepth 100000
set_option linter.unusedVariables false
set_option linter.unusedSimpArgs false
section
namespace Go.Proofs.YtigmfpmabgekoaaGreat.Known
open Go.Eng Go.Proofs
theorem named:cB Tryz.prog:=by
 have h:(Tryz.prog.funcs.toList.all fun fn=>fn.body.isNone || !(fn.name == "runtime.NumGoroutine"))=true:=by kernel_rfl
 intro f fn hf hb
 have:=List.all_eq_true.1 h fn (by simpa using Array.mem_of_getElem? hf)
 rw[hb] at this
 simpa using this
theorem mixed:Tryz.prog.follows .mixedOrders=true:=by kernel_rfl
theorem Hy:∀ e ∈ ([]:List jC),bY Tryz.prog e:=fun e h=>by cases h
theorem eH {e:jC} {t:List jC} (h:bY Tryz.prog e) (k:∀ x ∈ t,bY Tryz.prog x):∀ x ∈ e::t,bY Tryz.prog x:=fun x hx=>by
 rcases List.mem_cons.1 hx with rfl | hx
 · exact h
 · exact k x hx
def MH:List jC:=[]
theorem Cw:∀ e ∈ MH,bY Tryz.prog e:=Hy
def navB:List Nat→Code→Code
 | [],c=>c
 | x :: p,c=>match c with
   | .seq a b=>match x with
     | 0=>navB p a
     | _=>navB p b
   | .cond _ a b=>match x with
     | 0=>navB p a
     | _=>navB p b
   | .block _ b=>navB p b
   | .loop b=>navB p b
   | .scope b=>navB p b
   | .rangeFunc _ _ a b=>match x with
     | 0=>navB p a
     | _=>navB p b
   | c=>c
def xi:Code→Array Oper
 | .region _ ops _=>ops
 | _=>#[]
noncomputable def bd79:Code:=Tryz.f79.body.getD .skip
def Oa (l:List Oper):Oper:=l.headD { dst:=none,op:=.move (.tmp 0),type:=0,pos := "",after:=#[],guard:=none }
noncomputable def mostS:bD:={ id0:=24,ops0:=xi (navB [1,1,1,1,1,1,0,0] bd79),pre:=(xi (navB [1,1,1,1,1,1,0,0] bd79)).toList.take 1,ro:=Oa ((xi (navB [1,1,1,1,1,1,0,0] bd79)).toList.drop 1),m:=90,ty:=122 }
noncomputable def mostL:bj:={ out:=6,GV:=25,id2:=26,nxt:=7,ops1:=xi (navB [1,1,1,1,1,1,0,1,0,0,0] bd79),ops2:=xi (navB [1,1,1,1,1,1,0,1,0,0,1,1,0,0] bd79),no:=Oa (xi (navB [1,1,1,1,1,1,0,1,0,0,0] bd79)).toList,eo:=Oa (xi (navB [1,1,1,1,1,1,0,1,0,0,1,1,0,0] bd79)).toList,t1:=(xi (navB [1,1,1,1,1,1,0,1,0,0,0] bd79)).toList.tail,t2:=(xi (navB [1,1,1,1,1,1,0,1,0,0,1,1,0,0] bd79)).toList.tail,it:=91,nx:=92,mo:=93,en:=94,rest:=navB [1,1,1,1,1,1,0,1,0,0,1,1,0,1] bd79,km:=1361129467678802093696356908627478183936 }
noncomputable def most:pX:={ f:=79,pre:=[navB [0] bd79,navB [1,0] bd79,navB [1,1,0] bd79,navB [1,1,1,0] bd79,navB [1,1,1,1,0] bd79,navB [1,1,1,1,1,0] bd79],S:=mostS,L:=mostL,suf:=navB [1,1,1,1,1,1,1] bd79 }
theorem J2:Tryz.f79.body=some (assemble most.pre (mostS.code mostL) most.suf):=by kernel_rfl
theorem Hj:mostS.ops0.toList=mostS.pre++[mostS.ro]:=by kernel_rfl
theorem Hm:mostS.ro.op=.range mostS.ty (.tmp mostS.m):=by kernel_rfl
theorem Hd:mostS.ro.dst=some mostL.it:=by kernel_rfl
theorem Hg:mostS.ro.guard=none:=by kernel_rfl
theorem Hk:mostL.ops1.toList=mostL.no::mostL.t1:=by kernel_rfl
theorem Hn:mostL.no.op=.next (.tmp mostL.it) false:=by kernel_rfl
theorem He:mostL.no.dst=some mostL.nx:=by kernel_rfl
theorem Hh:mostL.no.guard=none:=by kernel_rfl
theorem Hl:mostL.ops2.toList=mostL.eo::mostL.t2:=by kernel_rfl
theorem Ho:mostL.eo.op=.entry (.tmp mostL.it):=by kernel_rfl
theorem Hf:mostL.eo.dst=some mostL.en:=by kernel_rfl
theorem Hi:mostL.eo.guard=none:=by kernel_rfl
theorem B6:most.Ok Tryz.prog:=⟨⟨Tryz.f79,Tryz.func79,J2⟩,⟨Hj,Hm,Hd,Hg,⟨_,_,Tryz.underlying122⟩⟩,⟨Hk,Hn,He,Hh,Hl,Ho,Hf,Hi⟩⟩
noncomputable def rs:List pX:=[most]
theorem jr:∀ r ∈ rs,r.Ok Tryz.prog:=fun r h=>by
 rcases List.mem_cons.1 h with rfl | h
 · exact B6
 · cases h
end Go.Proofs.YtigmfpmabgekoaaGreat.Known
end
section
namespace Go.Proofs
open Go.Shelf
def Tryz.DI:Go.Shelf.Ren:=⟨fun | 5=>74 | 8=>91 | 7=>90 | 19=>108 | 20=>109 | 10=>99 | 11=>100 | 12=>101 | 13=>102 | 14=>103 | 15=>104 | 16=>105 | 17=>106 | 18=>107 | 30=>113 | 31=>114 | 32=>115 | 33=>116 | 34=>117 | 35=>118 | 40=>128 | n=>n,fun | 23=>30 | 25=>3 | 3=>3 | 32=>118 | 22=>30 | 0=>0 | 44=>138 | 46=>140 | 4=>4 | 36=>131 | 35=>130 | 41=>62 | 5=>5 | 9=>9 | 53=>143 | 57=>147 | 63=>155 | 64=>156 | n=>n,fun | n=>n⟩
theorem Tryz.Mk:Go.Proofs.SlLaysM.n5 Tryz.prog Tryz.DI:={
 mixed:=by kernel_rfl
 f5:=⟨Tryz.f74.name,by decide,Tryz.func74.trans (congrArg some (by kernel_rfl))⟩
 f7:=⟨Tryz.f90.name,by decide,Tryz.func90.trans (congrArg some (by kernel_rfl))⟩
 f8:=Tryz.func91.trans (congrArg some (by kernel_rfl))
 f10:=⟨Tryz.f99.name,by decide,Tryz.func99.trans (congrArg some (by kernel_rfl))⟩
 f11:=⟨Tryz.f100.name,by decide,Tryz.func100.trans (congrArg some (by kernel_rfl))⟩
 f12:=⟨Tryz.f101.name,by decide,Tryz.func101.trans (congrArg some (by kernel_rfl))⟩
 f13:=⟨Tryz.f102.name,by decide,Tryz.func102.trans (congrArg some (by kernel_rfl))⟩
 f14:=⟨Tryz.f103.name,by decide,Tryz.func103.trans (congrArg some (by kernel_rfl))⟩
 f15:=⟨Tryz.f104.name,by decide,Tryz.func104.trans (congrArg some (by kernel_rfl))⟩
 f16:=⟨Tryz.f105.name,by decide,Tryz.func105.trans (congrArg some (by kernel_rfl))⟩
 f17:=⟨Tryz.f106.name,by decide,Tryz.func106.trans (congrArg some (by kernel_rfl))⟩
 f18:=⟨Tryz.f107.name,by decide,Tryz.func107.trans (congrArg some (by kernel_rfl))⟩
 f19:=Tryz.func108.trans (congrArg some (by kernel_rfl))
 f20:=Tryz.func109.trans (congrArg some (by kernel_rfl))
 f30:=⟨Tryz.f113.name,by decide,Tryz.func113.trans (congrArg some (by kernel_rfl))⟩
 f31:=Tryz.func114.trans (congrArg some (by kernel_rfl))
 f32:=Tryz.func115.trans (congrArg some (by kernel_rfl))
 f33:=⟨Tryz.f116.name,by decide,Tryz.func116.trans (congrArg some (by kernel_rfl))⟩
 f34:=⟨Tryz.f117.name,by decide,Tryz.func117.trans (congrArg some (by kernel_rfl))⟩
 f35:=⟨Tryz.f118.name,by decide,Tryz.func118.trans (congrArg some (by kernel_rfl))⟩
 f40:=⟨Tryz.f128.name,by decide,Tryz.func128.trans (congrArg some (by kernel_rfl))⟩
 t0:=Tryz.underlying0
 a0:=Tryz.isAgg0
 z0:=Tryz.sizeOf0
 v0:=Tryz.zeroValue0
 t3:=Tryz.underlying3
 a3:=Tryz.isAgg3
 z3:=Tryz.sizeOf3
 v3:=Tryz.zeroValue3
 t4:=Tryz.underlying4
 a4:=Tryz.isAgg4
 z4:=Tryz.sizeOf4
 v4:=Tryz.zeroValue4
 t5:=Tryz.underlying5
 a5:=Tryz.isAgg5
 z5:=Tryz.sizeOf5
 v5:=Tryz.zeroValue5
 t9:=Tryz.underlying9
 a9:=Tryz.isAgg9
 z9:=Tryz.sizeOf9
 v9:=Tryz.zeroValue9
 t22:=Tryz.underlying30
 a22:=Tryz.isAgg30
 z22:=Tryz.sizeOf30
 v22:=Tryz.zeroValue30
 t23:=Tryz.underlying30
 a23:=Tryz.isAgg30
 z23:=Tryz.sizeOf30
 v23:=Tryz.zeroValue30
 t25:=Tryz.underlying3
 a25:=Tryz.isAgg3
 z25:=Tryz.sizeOf3
 v25:=Tryz.zeroValue3
 t32:=Tryz.underlying118
 a32:=Tryz.isAgg118
 z32:=Tryz.sizeOf118
 v32:=Tryz.zeroValue118
 t35:=Tryz.underlying130
 a35:=Tryz.isAgg130
 z35:=Tryz.sizeOf130
 v35:=Tryz.zeroValue130
 t36:=Tryz.underlying131
 a36:=Tryz.isAgg131
 z36:=Tryz.sizeOf131
 v36:=Tryz.zeroValue131
 t41:=Tryz.underlying62
 a41:=Tryz.isAgg62
 z41:=Tryz.sizeOf62
 v41:=Tryz.zeroValue62
 t44:=Tryz.underlying138
 a44:=Tryz.isAgg138
 z44:=Tryz.sizeOf138
 v44:=Tryz.zeroValue138
 t46:=Tryz.underlying140
 a46:=Tryz.isAgg140
 z46:=Tryz.sizeOf140
 v46:=Tryz.zeroValue140
 t53:=Tryz.underlying143
 a53:=Tryz.isAgg143
 z53:=Tryz.sizeOf143
 v53:=Tryz.zeroValue143
 t57:=Tryz.underlying147
 a57:=Tryz.isAgg147
 z57:=Tryz.sizeOf147
 v57:=Tryz.zeroValue147
 t63:=Tryz.underlying155
 a63:=Tryz.isAgg155
 z63:=Tryz.sizeOf155
 v63:=Tryz.zeroValue155
 t64:=Tryz.underlying156
 a64:=Tryz.isAgg156
 z64:=Tryz.sizeOf156
 v64:=Tryz.zeroValue156 }
def Tryz.DJ:Go.Shelf.Ren:=⟨fun | 5=>96 | 8=>91 | 7=>111 | 19=>108 | 20=>109 | 10=>119 | 11=>120 | 12=>121 | 13=>122 | 14=>123 | 15=>124 | 16=>125 | 17=>126 | 18=>127 | 30=>129 | 31=>114 | 32=>115 | 33=>130 | 34=>131 | 35=>132 | 40=>133 | n=>n,fun | 23=>36 | 25=>2 | 3=>3 | 32=>118 | 22=>36 | 0=>0 | 44=>138 | 46=>140 | 4=>4 | 36=>131 | 35=>130 | 41=>62 | 5=>5 | 9=>9 | 53=>143 | 57=>147 | 63=>155 | 64=>156 | n=>n,fun | n=>n⟩
theorem Tryz.Ml:Go.Proofs.SlLaysM.n5 Tryz.prog Tryz.DJ:={
 mixed:=by kernel_rfl
 f5:=⟨Tryz.f96.name,by decide,Tryz.func96.trans (congrArg some (by kernel_rfl))⟩
 f7:=⟨Tryz.f111.name,by decide,Tryz.func111.trans (congrArg some (by kernel_rfl))⟩
 f8:=Tryz.func91.trans (congrArg some (by kernel_rfl))
 f10:=⟨Tryz.f119.name,by decide,Tryz.func119.trans (congrArg some (by kernel_rfl))⟩
 f11:=⟨Tryz.f120.name,by decide,Tryz.func120.trans (congrArg some (by kernel_rfl))⟩
 f12:=⟨Tryz.f121.name,by decide,Tryz.func121.trans (congrArg some (by kernel_rfl))⟩
 f13:=⟨Tryz.f122.name,by decide,Tryz.func122.trans (congrArg some (by kernel_rfl))⟩
 f14:=⟨Tryz.f123.name,by decide,Tryz.func123.trans (congrArg some (by kernel_rfl))⟩
 f15:=⟨Tryz.f124.name,by decide,Tryz.func124.trans (congrArg some (by kernel_rfl))⟩
 f16:=⟨Tryz.f125.name,by decide,Tryz.func125.trans (congrArg some (by kernel_rfl))⟩
 f17:=⟨Tryz.f126.name,by decide,Tryz.func126.trans (congrArg some (by kernel_rfl))⟩
 f18:=⟨Tryz.f127.name,by decide,Tryz.func127.trans (congrArg some (by kernel_rfl))⟩
 f19:=Tryz.func108.trans (congrArg some (by kernel_rfl))
 f20:=Tryz.func109.trans (congrArg some (by kernel_rfl))
 f30:=⟨Tryz.f129.name,by decide,Tryz.func129.trans (congrArg some (by kernel_rfl))⟩
 f31:=Tryz.func114.trans (congrArg some (by kernel_rfl))
 f32:=Tryz.func115.trans (congrArg some (by kernel_rfl))
 f33:=⟨Tryz.f130.name,by decide,Tryz.func130.trans (congrArg some (by kernel_rfl))⟩
 f34:=⟨Tryz.f131.name,by decide,Tryz.func131.trans (congrArg some (by kernel_rfl))⟩
 f35:=⟨Tryz.f132.name,by decide,Tryz.func132.trans (congrArg some (by kernel_rfl))⟩
 f40:=⟨Tryz.f133.name,by decide,Tryz.func133.trans (congrArg some (by kernel_rfl))⟩
 t0:=Tryz.underlying0
 a0:=Tryz.isAgg0
 z0:=Tryz.sizeOf0
 v0:=Tryz.zeroValue0
 t3:=Tryz.underlying3
 a3:=Tryz.isAgg3
 z3:=Tryz.sizeOf3
 v3:=Tryz.zeroValue3
 t4:=Tryz.underlying4
 a4:=Tryz.isAgg4
 z4:=Tryz.sizeOf4
 v4:=Tryz.zeroValue4
 t5:=Tryz.underlying5
 a5:=Tryz.isAgg5
 z5:=Tryz.sizeOf5
 v5:=Tryz.zeroValue5
 t9:=Tryz.underlying9
 a9:=Tryz.isAgg9
 z9:=Tryz.sizeOf9
 v9:=Tryz.zeroValue9
 t22:=Tryz.underlying36
 a22:=Tryz.isAgg36
 z22:=Tryz.sizeOf36
 v22:=Tryz.zeroValue36
 t23:=Tryz.underlying36
 a23:=Tryz.isAgg36
 z23:=Tryz.sizeOf36
 v23:=Tryz.zeroValue36
 t25:=Tryz.underlying2
 a25:=Tryz.isAgg2
 z25:=Tryz.sizeOf2
 v25:=Tryz.zeroValue2
 t32:=Tryz.underlying118
 a32:=Tryz.isAgg118
 z32:=Tryz.sizeOf118
 v32:=Tryz.zeroValue118
 t35:=Tryz.underlying130
 a35:=Tryz.isAgg130
 z35:=Tryz.sizeOf130
 v35:=Tryz.zeroValue130
 t36:=Tryz.underlying131
 a36:=Tryz.isAgg131
 z36:=Tryz.sizeOf131
 v36:=Tryz.zeroValue131
 t41:=Tryz.underlying62
 a41:=Tryz.isAgg62
 z41:=Tryz.sizeOf62
 v41:=Tryz.zeroValue62
 t44:=Tryz.underlying138
 a44:=Tryz.isAgg138
 z44:=Tryz.sizeOf138
 v44:=Tryz.zeroValue138
 t46:=Tryz.underlying140
 a46:=Tryz.isAgg140
 z46:=Tryz.sizeOf140
 v46:=Tryz.zeroValue140
 t53:=Tryz.underlying143
 a53:=Tryz.isAgg143
 z53:=Tryz.sizeOf143
 v53:=Tryz.zeroValue143
 t57:=Tryz.underlying147
 a57:=Tryz.isAgg147
 z57:=Tryz.sizeOf147
 v57:=Tryz.zeroValue147
 t63:=Tryz.underlying155
 a63:=Tryz.isAgg155
 z63:=Tryz.sizeOf155
 v63:=Tryz.zeroValue155
 t64:=Tryz.underlying156
 a64:=Tryz.isAgg156
 z64:=Tryz.sizeOf156
 v64:=Tryz.zeroValue156 }
end Go.Proofs
namespace Go.Eng
open Go.Proofs Go.Sort
def gV (L:List Int):List Int:=L.mergeSort fun x y=>decide (x≤y)
theorem Kr:DT Tryz.prog 74 gV :=
 ⟨⟨_,Tryz.func74,by kernel_rfl⟩,fun L=>List.length_mergeSort L,fun blk off cap zs w h1 h2 h3=>AnyM.slices_Sort_int Tryz.Mk blk off cap zs w h1 h2 h3⟩
theorem Ks:DT Tryz.prog 96 gV :=
 ⟨⟨_,Tryz.func96,by kernel_rfl⟩,fun L=>List.length_mergeSort L,fun blk off cap zs w h1 h2 h3=>AnyM.slices_Sort_int Tryz.Ml blk off cap zs w h1 h2 h3⟩
end Go.Eng
end
section
namespace Go.Eng
open Go.Proofs Go.ChangeShapes

noncomputable def aJ (n len:Nat) (z:Nat→Int):AV:=.slcT none (.M [.arr .i64 z (jn len n)]) n len false
noncomputable def l7:aL→FuncId→List AV→aa→Option (AV×aa):=fun call f args H=>cond (Nat.beq f 68) (vI Tryz.prog KtB.kt 100000 68 call args H) (cond (Nat.beq f 74) (DC gV args H) (cond (Nat.beq f 96) (DC gV args H) (cond (Nat.beq f 79) (tK Tryz.prog KtB.kt 100000 YtigmfpmabgekoaaGreat.Known.most call args H) (cond (Nat.beq f 32) (Kk Tryz.prog KtB.kt 100000 32 (Bh Tryz.prog KtB.kt 100000 63 call) args H) (HI [⟨15,[],.bool true⟩] call f args H)))))
def J5 (f:FuncId):Bool:=Nat.beq f 15 || Nat.beq f 1000000 || Nat.beq f 68 || Nat.beq f 74 || Nat.beq f 96 || Nat.beq f 32 || Nat.beq f 79
noncomputable def cd (n:Nat):aL:=cJ Tryz.prog l7 KtB.kt 100000 n
noncomputable def il (tab:mb) (n k:Nat):bE:=Dk Tryz.prog l7 KtB.kt 100000 J5 tab n k
noncomputable def bz (n:Nat) (f nt:Nat):Cx:=⟨Tryz.prog,cd n,100000,f,nt,KtB.kt f,none⟩

def Gi:List Nat→Code→Code
 | [],c=>c
 | x :: p,c=>match c with
   | .seq a b=>match x with
     | 0=>Gi p a
     | _=>Gi p b
   | .cond _ a b=>match x with
     | 0=>Gi p a
     | _=>Gi p b
   | .block _ b=>Gi p b
   | .loop b=>Gi p b
   | .scope b=>Gi p b
   | .rangeFunc _ _ a b=>match x with
     | 0=>Gi p a
     | _=>Gi p b
   | c=>c
noncomputable def part (f:Func) (p:List Nat):Code:=Gi p (ct f)
theorem AQ (g:FuncId) (h:J5 g=false) (c:aL) (args:List AV) (H:aa):l7 c g args H=none:=by
 unfold J5 at h
 rw[Bool.or_eq_false_iff,Bool.or_eq_false_iff,Bool.or_eq_false_iff,Bool.or_eq_false_iff,Bool.or_eq_false_iff,Bool.or_eq_false_iff] at h
 obtain ⟨⟨⟨⟨⟨⟨h0,h1⟩,h2⟩,h3⟩,h4⟩,h5⟩,h6⟩:=h
 unfold l7 HI
 rw[h2,h3,h4,h6,h5,h1,cond_false,cond_false,cond_false,cond_false,cond_false,cond_false]
 simp only[AY]
 have:Nat.beq 15 g=false:=by
  cases hb:Nat.beq 15 g with
  | false=>rfl
  | true=>have:=Nat.eq_of_beq_eq_true hb;subst this;simp at h0
 rw[this];rfl
theorem vK (n:Nat):∃ x,cJ Tryz.prog l7 KtB.kt 100000 n .mode [] []=some x:=by
 cases n<;>exact ⟨_,rfl⟩
theorem HF (hN:cB Tryz.prog) (hD:iw Tryz.prog) (hW:bY Tryz.prog ⟨15,[],.bool true⟩):uP Tryz.prog l7 :=
 fun call hC f args H v H' h hne p M w cargs hH hA=>by
  unfold l7 at h
  cases hb:Nat.beq f 68 with
  | true =>
    rw[hb,cond_true] at h
    have:=Nat.eq_of_beq_eq_true hb
    subst this
    exact zl hN hD KtB.kt 100000 hC h hH hA
  | false =>
    rw[hb,cond_false] at h
    cases h74:Nat.beq f 74 with
    | true =>
      rw[h74,cond_true] at h
      have:=Nat.eq_of_beq_eq_true h74
      subst this
      exact Cn Kr h hne hH hA
    | false =>
      rw[h74,cond_false] at h
      cases h96:Nat.beq f 96 with
      | true =>
        rw[h96,cond_true] at h
        have:=Nat.eq_of_beq_eq_true h96
        subst this
        exact Cn Ks h hne hH hA
      | false =>
        rw[h96,cond_false] at h
        cases h79:Nat.beq f 79 with
        | true =>
          rw[h79,cond_true] at h
          have:=Nat.eq_of_beq_eq_true h79
          subst this
          exact Dw hN hD YtigmfpmabgekoaaGreat.Known.B6 KtB.kt 100000 hC h hH hA
        | false =>
        rw[h79,cond_false] at h
        cases h32:Nat.beq f 32 with
        | true =>
          rw[h32,cond_true] at h
          have:=Nat.eq_of_beq_eq_true h32
          subst this
          exact HS hN hD KtB.kt 100000 (DO hN hD KtB.kt 100000 63 hC) h hH hA
        | false =>
          rw[h32,cond_false] at h
          exact HJ _ (fun e he=>by
           simp only[List.mem_singleton] at he
           subst he
           exact hW) call hC f args H v H' h hne p M w cargs hH hA
theorem cS (tab:mb) (n k:Nat) (ht:∀ k,tab.Ok (cd (n+k))):(il tab n k).Ok (cd (n+k)):=BT _ _ _ _ _ _ _ AQ (fun k=>vK _) ht k
theorem dS (n k:Nat):(il aU n k).Ok (cd (n+k)):=cS _ _ _ (fun k=>aT _)
theorem aO (n:Nat):(il aU n 0).Ok (cd n):=dS n 0
theorem Lo {f:FuncId} {fn:Func} {n:Nat} (hf:Tryz.prog.funcs[f]?=some fn) (hb:fn.body.isSome=true) (hn:J5 f=false) {args:List HV} (hle:Nat.ble args.length fn.ntmps=true) {H:aa} {callR:bE} (hC:callR.Ok (cd n)) {bl:g9} (hB:bl.Ok (bz n f fn.ntmps) (ct fn)) {rg:sk} (hR:rg.Ok (bz n f fn.ntmps) (ct fn)) {y:HV×aa}
 (h:(bw Tryz.prog (cd n) 100000 f fn (KtB.kt f) callR bl rg args H).run=some y):cd (n+1) (.fn f) (rH args) H=some (y.1.1,y.2) :=
 xU hf hb (AQ f hn _ _ _) hle hC hB hR h
theorem Ln {f:FuncId} {fn:Func} {n:Nat} (hf:Tryz.prog.funcs[f]?=some fn) (hb:fn.body.isSome=true) (hn:J5 f=false) {args:List HV} (hle:Nat.ble args.length fn.ntmps=true) {H:aa} {callR:bE} {bl:g9} {rg:sk} {T:Tr (HV×aa)}
 (e:bw Tryz.prog (cd n) 100000 f fn (KtB.kt f) callR bl rg args H=T) (hC:callR.Ok (cd n)) (hB:bl.Ok (bz n f fn.ntmps) (ct fn)) (hR:rg.Ok (bz n f fn.ntmps) (ct fn)) {y:HV×aa} (hr:T.run=some y):cd (n+1) (.fn f) (rH args) H=some (y.1.1,y.2) :=
 Lo hf hb hn hle hC hB hR (by rw[e];exact hr)
theorem Lm {n f nt:Nat} {c:Code} {callR:bE} (hC:callR.Ok (cd n)) {bl:g9} (hB:bl.Ok (bz n f nt) c) {rg:sk} (hR:rg.Ok (bz n f nt) c) {fr:av} {H:aa} {x:gY} (h:(aX (bz n f nt) callR bl rg c (hints fr) H).run=some x):exec (bz n f nt) c fr H=some x.st:=by
 have:=my hC c hB hR _ _ _ h
 rw[aY] at this
 exact this

def pN (bl:g9) (id0:Nat):g9:=fun id fr H=>cond (Nat.beq id id0) (some .bad) (bl id fr H)
theorem iq {bl:g9} {cx:Cx} {c:Code} (h:bl.Ok cx c) (id0:Nat):(pN bl id0).Ok cx c:=by
 intro id b hm fr H t y ht hy
 unfold pN at ht
 cases hb:Nat.beq id id0 with
 | true =>
   rw[hb,cond_true,Option.some.injEq] at ht
   subst ht
   exact (Tr.ae hy).elim
 | false =>
   rw[hb,cond_false] at ht
   exact h id b hm fr H t y ht hy
theorem Ll {n f nt:Nat} {c:Code} {callR:bE} {bl:g9} {rg:sk} {fr:av} {H:aa} {T:Tr gY} (e:aX (bz n f nt) callR bl rg c (hints fr) H=T) (hC:callR.Ok (cd n)) (hB:bl.Ok (bz n f nt) c) (hR:rg.Ok (bz n f nt) c) {x:gY} (hr:T.run=some x):exec (bz n f nt) c fr H=some x.st :=
 Lm hC hB hR (by rw[e];exact hr)
section
variable {n f nt:Nat} {c:Code} {callR:bE} {bl:g9} {rg:sk}
end
def iu (p:Nat→Bool) (N:Nat):Bool:=decide (fN p N 0<N)
theorem ky {p:Nat→Bool} {N:Nat} (h:iu p N=true):fN p N 0<N:=by simpa[iu] using h
theorem qa {p:Nat→Bool} {N:Nat} (h:iu p N=false):fN p N 0=N:=by
 have h1:=(iK p N 0).2.1
 have:¬ fN p N 0<N:=by simpa[iu] using h
 omega
theorem eI (p:Nat→Bool) (N:Nat):iu p N=true↔∃ i,i<N∧p i=true:=by
 obtain ⟨h1,h2,h3,h4⟩:=iK p N 0
 constructor
 · intro h
   have:=ky h
   exact ⟨_,this,h4 (by omega)⟩
 · rintro ⟨i,hi,hp⟩
   unfold iu
   rw[decide_eq_true_eq]
   apply Nat.lt_of_not_le
   intro hc
   have:=h3 i (by omega) (by omega)
   rw[this] at hp;cases hp
end Go.Eng
end
section
namespace Go.Eng
open Go.Proofs
theorem ba {f:FuncId} {fn:Func} {n:Nat} (hf:Tryz.prog.funcs[f]?=some fn) (hb:fn.body.isSome=true) (hn:J5 f=false) {args:List HV} (hle:Nat.ble args.length fn.ntmps=true) {H:aa} {callR:bE} {bl:g9} {rg:sk} {T:Tr (HV×aa)}
 (e:bw Tryz.prog (cd n) 100000 f fn (KtB.kt f) callR bl rg args H=T) (hC:callR.Ok (cd n)) (hB:bl.Ok (bz n f fn.ntmps) (ct fn)) (hR:rg.Ok (bz n f fn.ntmps) (ct fn)) {v:AV} {H':aa} (h:T.all fun y=>y.1.1=v∧y.2=H'):cd (n+1) (.fn f) (rH args) H=some (v,H'):=by
 obtain ⟨y,h1,h2,h3⟩:=h
 have:=Ln hf hb hn hle e hC hB hR h1
 rw[this,h2,h3]
theorem aG {n f nt:Nat} {c:Code} {callR:bE} {bl:g9} {rg:sk} {fr:av} {H:aa} {T:Tr gY} (e:aX (bz n f nt) callR bl rg c (hints fr) H=T) (hC:callR.Ok (cd n)) (hB:bl.Ok (bz n f nt) c) (hR:rg.Ok (bz n f nt) c) {Q:Ex×av×aa→Prop} (h:T.all fun x=>Q x.st):∃ x,exec (bz n f nt) c fr H=some x∧Q x:=by
 obtain ⟨x,h1,h2⟩:=h
 exact ⟨_,Ll e hC hB hR h1,h2⟩
section
variable {n f nt:Nat} {c:Code} {callR:bE} {bl:g9} {rg:sk}
theorem LG (id:Nat) (I:Nat→av→aa→Prop) (Q:av×aa→Prop) (N:Nat) (hN:N<99999) {fr0:av} {H0:aa} (h0:I 0 fr0 H0)
 (hr:∀ j fr H,I j fr H→∃ x,exec (bz n f nt) c fr H=some x∧((x.1=.normal∧j<N∧I (j+1) (tidy (aq H0) x.2.1 x.2.2).1 (tidy (aq H0) x.2.1 x.2.2).2)∨(x.1=.exit id∧Q x.2))) :
 ∃ y,exec (bz n f nt) (.block id (.loop c)) fr0 H0=some (.normal,y)∧Q y:=by
 obtain ⟨x,h1,h2⟩:=yK (body:=exec (bz n f nt) c) (n:=aq H0) I (fun x=>x.1=.exit id∧Q x.2) N (fun j fr H h=>by
  obtain ⟨x,h1,h2⟩:=hr j fr H h
  obtain ⟨e,f1,g1⟩:=x
  refine ⟨e,f1,g1,h1,?_⟩
  rcases h2 with h2 | ⟨h2,h3⟩
  · exact .inl h2
  · exact .inr ⟨by dsimp only at h2;rw[h2];simp,h2,h3⟩) 100000 0 fr0 H0 h0 (by omega)
 obtain ⟨e,f1,g1⟩:=x
 obtain ⟨h2,h3⟩:=h2
 dsimp only at h2 h3
 subst h2
 exact ⟨(f1,g1),lU h1,h3⟩
theorem yi (id:Nat) (F:Nat→av) (G:Nat→aa) (N:Nat) (p:Nat→Bool) (X:Nat→av×aa) (Y:av×aa) (hN:N<99999)
 (hs:∀ j,j<N→∃ x,exec (bz n f nt) c (F j) (G j)=some x∧if p j=true then x=(.ret,X j) else x.1=.normal∧tidy (aq (G 0)) x.2.1 x.2.2=(F (j+1),G (j+1)))
 (he:exec (bz n f nt) c (F N) (G N)=some (.exit id,Y)):exec (bz n f nt) (.block id (.loop c)) (F 0) (G 0)=some (cond (iu p N) (.ret,X (fN p N 0)) (.normal,Y)):=by
 have key:=qn (body:=exec (bz n f nt) c) (n:=aq (G 0)) F G N p (fun j=>if j<N then (.ret,X j) else (.exit id,Y))
  (fun j hj hp=>by
    obtain ⟨x,h1,h2⟩:=hs j hj
    rw[if_neg (by rw[hp];simp)] at h2
    obtain ⟨e,f1,g1⟩:=x
    obtain ⟨rfl,h3⟩:=h2
    exact ⟨_,_,h1,h3⟩)
  (fun j hj hp=>by
    obtain ⟨x,h1,h2⟩:=hs j hj
    rw[if_pos hp] at h2
    subst h2
    rw[if_pos hj]
    exact ⟨h1,by simp⟩)
  (by
    rw[if_neg (by omega)]
    exact ⟨he,by simp⟩) N 0 100000 (by omega) (by omega)
 cases hc:iu p N with
 | true =>
   have:=ky hc
   rw[if_pos this] at key
   exact gG (fun id' h=>by cases h) key
 | false =>
   have:=qa hc
   rw[if_neg (by omega)] at key
   exact lU key
end
theorem nD {n f nt:Nat} {c:Code} (id:Nat) (F:Nat→av) (G:Nat→aa) (N:Nat) (Y:av×aa) (hN:N<99999)
 (hs:∀ j,j<N→∃ x,exec (bz n f nt) c (F j) (G j)=some x∧(x.1=.normal∧tidy (aq (G 0)) x.2.1 x.2.2=(F (j+1),G (j+1))))
 (he:exec (bz n f nt) c (F N) (G N)=some (.exit id,Y)):exec (bz n f nt) (.block id (.loop c)) (F 0) (G 0)=some (.normal,Y):=by
 have:=yi id F G N (fun _=>false) (fun _=>Y) Y hN (fun j hj=>by
  obtain ⟨x,h1,h2⟩:=hs j hj
  exact ⟨x,h1,by rw[if_neg (by simp)];exact h2⟩) he
 have h0:iu (fun _=>false) N=false:=by
  cases h:iu (fun _=>false) N with
  | false=>rfl
  | true=>obtain ⟨i,_,h2⟩:=(eI _ _).1 h;cases h2
 rw[h0] at this
 exact this
end Go.Eng
end
section
namespace Go.Eng
open Go.Proofs
noncomputable def aB:bn:=⟨false,[]⟩
noncomputable def De (l:Nat) (z:Nat→Int) (j:Int):av:=[(0,aJ 5 l z),(1,.fn (.func 58) [] []),(7,.int .i64 (Int.ofNat l)),(8,.int .i64 j)]
noncomputable def Q1 (L:AV) (i:Int):List AV→Option (Prop×AV)
 | [a,.fn (.func 58) [] []]=>some (a=L,.int .i64 i)
 | _=>none
noncomputable def Q2 (L:AV) (b:Bool):List AV→Option (Prop×AV)
 | [a,.fn (.func 58) [] []]=>some (a=L,.bool b)
 | _=>none
theorem t84 (n:Nat) (l:Nat) (z:Nat→Int) (H:aa) (j:Int):aX (bz (n+6) 84 19) (il aU (n+1) 5) aZ a6 (part Tryz.f84 [1,0,1,0,0]) (hints (De l z j)) (aB::H) =
 Tr.ite (dq j (Int.ofNat l)) (Tr.req (dF j l) (Tr.req (bA (ar 0 j 5) (aD l 5)) (Tr.req (bA (af (ar 0 j 5) 1) (aD l 5)) (Tr.req (bA (af (ar 0 j 5) 2) (aD l 5)) (Tr.req (bA (af (ar 0 j 5) 3) (aD l 5)) (Tr.req (bA (af (ar 0 j 5) 4) (aD l 5)) (Tr.req (dF (Int.ofNat 0) 4) (Tr.ite (dq (z (ar 0 j 5)) (Int.ofNat 0)) (Tr.ok (Ex.ret,[(4,AV.int .i64 j,none)],aB::H)) (Tr.ite (dq (Int.ofNat 10000) (z (ar 0 j 5))) (Tr.ok (Ex.ret,[(4,AV.int .i64 j,none)],aB::H)) (Tr.req (dF (Int.ofNat 1) 4) (Tr.ite (dq (z (af (ar 0 j 5) 1)) (Int.ofNat 0)) (Tr.ok (Ex.ret,[(4,AV.int .i64 j,none)],aB::H)) (Tr.ite (dq (Int.ofNat 10000) (z (af (ar 0 j 5) 1))) (Tr.ok (Ex.ret,[(4,AV.int .i64 j,none)],aB::H)) (Tr.req (dF (Int.ofNat 2) 4) (Tr.ite (dq (z (af (ar 0 j 5) 2)) (Int.ofNat 0)) (Tr.ok (Ex.ret,[(4,AV.int .i64 j,none)],aB::H)) (Tr.ite (dq (Int.ofNat 10000) (z (af (ar 0 j 5) 2))) (Tr.ok (Ex.ret,[(4,AV.int .i64 j,none)],aB::H)) (Tr.req (dF (Int.ofNat 3) 4) (Tr.ite (dq (z (af (ar 0 j 5) 3)) (Int.ofNat 0)) (Tr.ok (Ex.ret,[(4,AV.int .i64 j,none)],aB::H)) (Tr.ite (dq (Int.ofNat 10000) (z (af (ar 0 j 5) 3))) (Tr.ok (Ex.ret,[(4,AV.int .i64 j,none)],aB::H)) (Tr.ite (dq (z (af (ar 0 j 5) 1)) (z (ar 0 j 5))) (Tr.ok (Ex.ret,[(4,AV.int .i64 j,none)],aB::H)) (Tr.ite (dq (z (af (ar 0 j 5) 3)) (z (af (ar 0 j 5) 2))) (Tr.ok (Ex.ret,[(4,AV.int .i64 j,none)],aB::H)) (Tr.req (dF (Int.ofNat 0) 1) (Tr.ite (dq (z (af (ar 0 j 5) 4)) (Int.ofNat 0)) (Tr.ok (Ex.ret,[(4,AV.int .i64 j,none)],aB::H)) (Tr.ite (dq (Int.ofNat 100000) (z (af (ar 0 j 5) 4))) (Tr.ok (Ex.ret,[(4,AV.int .i64 j,none)],aB::H)) (Tr.ok (Ex.normal,[(0,aJ 5 l z,none),(1,AV.fn (Fn.func 58) [] [],none),(7,AV.int .i64 (Int.ofNat l),none),(8,AV.int .i64 (a8 .i64 j (Int.ofNat 1)),none)],aB::H))))))))))))))))))))))))) (Tr.ok (Ex.exit 0,[(0,aJ 5 l z,none),(1,AV.fn (Fn.func 58) [] [],none),(7,AV.int .i64 (Int.ofNat l),none),(8,AV.int .i64 j,none),(9,AV.bool false,some 1)],aB::H)):=by kernel_rfl
theorem TG (n:Nat) (l:Nat) (z:Nat→Int) (H:aa) (i:Int) (e:Bool):bw Tryz.prog (cd (n+6)) 100000 84 Tryz.f84 (KtB.kt 84) (il aU (n+6) 0) (gf aZ 0 (De l z 0) (aB::H) (.ite e (.ok (.ret,[(4,.int .i64 i,none)],aB::H)) (.ok (.normal,hints (De l z (Int.ofNat l)++[(9,.bool false)]),aB::H)))) a6 [(aJ 5 l z,none),(.fn (.func 58) [] [],none)] H =
 (fun (Z0:av)=>Tr.reqP (Z0=Z0∧aB::H=aB::H) (Tr.ite e (Tr.ok ((AV.int .i64 i,none),H)) (Tr.ok ((AV.int .i64 (Int.negSucc 0),some 1),H)))) [(0,aJ 5 l z),(1,AV.fn (Fn.func 58) [] []),(7,AV.int .i64 (Int.ofNat l)),(8,AV.int .i64 (Int.ofNat 0))]:=by kernel_rfl
theorem TD (n:Nat) (l:Nat) (z:Nat→Int) (H:aa) (i:Int):bw Tryz.prog (cd (n+7)) 100000 60 Tryz.f60 (KtB.kt 60) (il (lg aU 84 (Q1 (aJ 5 l z) i)) (n+7) 0) aZ a6 [(aJ 5 l z,none),(.fn (.func 58) [] [],none)] H =
 Tr.reqP (aJ 5 l z=aJ 5 l z) (Tr.ok ((AV.bool (mP (Int.ofNat 0) i),none),H)):=by kernel_rfl
theorem Tw (n:Nat) (l:Nat) (z:Nat→Int) (H:aa) (b:Bool):bw Tryz.prog (cd (n+8)) 100000 20 Tryz.f20 (KtB.kt 20) (il (lg aU 60 (Q2 (aJ 5 l z) b)) (n+8) 0) aZ a6 [(aJ 5 l z,none)] H =
 Tr.ite (dm (Int.ofNat l) (Int.ofNat 0)) (Tr.ok ((AV.int .i64 (Int.ofNat 6),some 1),H)) (Tr.ite (dq (Int.ofNat 14) (Int.ofNat l)) (Tr.ok ((AV.int .i64 (Int.ofNat 6),some 1),H)) (Tr.reqP (aJ 5 l z=aJ 5 l z) (Tr.ite b (Tr.ok ((AV.int .i64 (Int.ofNat 3),some 1),H)) (Tr.ok ((AV.int .i64 (Int.ofNat 0),some 1),H))))):=by kernel_rfl
theorem Qc (n:Nat) (l:Nat) (z:Nat→Int) (H:aa):bw Tryz.prog (cd (n+8)) 100000 20 Tryz.f20 (KtB.kt 20) (il (lg aU 60 (fun _=>none)) (n+8) 0) aZ a6 [(aJ 5 l z,none)] H =
 Tr.ite (dm (Int.ofNat l) (Int.ofNat 0)) (Tr.ok ((AV.int .i64 (Int.ofNat 6),some 1),H)) (Tr.ite (dq (Int.ofNat 14) (Int.ofNat l)) (Tr.ok ((AV.int .i64 (Int.ofNat 6),some 1),H)) Tr.bad):=by kernel_rfl
def iQ (z:Nat→Int) (j:Nat):Bool:=!(decide (0≤z (j*5)) && (decide (z (j*5)≤z (j*5+1)) && (decide (z (j*5+1)≤10000) && (decide (0≤z (j*5+2)) && (decide (z (j*5+2)≤z (j*5+3)) && (decide (z (j*5+3)≤10000) && (decide (0≤z (j*5+4)) && decide (z (j*5+4)≤100000))))))))
def bp (l:Nat) (z:Nat→Int):Int:=if l=0∨14<l then 6 else if iu (iQ z) l=true then 3 else 0
theorem Ra:∀ b,(0,b) ∈ bo (ct Tryz.f84)→b=.loop (part Tryz.f84 [1,0,1,0,0]):=kX (by kernel_rfl)
section
variable (n:Nat) (l:Nat) (z:Nat→Int) (H:aa)
theorem Rr (hl:l≤1000):cd (n+7) (.fn 84) [aJ 5 l z,.fn (.func 58) [] []] H=some (.int .i64 (cond (iu (iQ z) l) ((fN (iQ z) l 0:Nat):Int) (-1)),H):=by
 have lp:=yi (n:=n+6) (f:=84) (nt:=19) (c:=part Tryz.f84 [1,0,1,0,0]) 0 (fun j=>De l z (j:Int)) (fun _=>aB::H) l (iQ z) (fun j=>([(4,.int .i64 (j:Int))],aB::H)) (De l z (Int.ofNat l)++[(9,.bool false)],aB::H) (by omega) (fun j hj=>?_) ?_
 · refine ba (n:=n+6) Tryz.func84 rfl rfl rfl (TG n l z H ((fN (iQ z) l 0:Nat):Int) (iu (iQ z) l)) (dS (n+6) 0) (bL (ag _ _) Ra (fun x hx=>?_)) (ah _ _) ?_
   · refine Eq.trans lp ?_
     rcases Tr.gr hx with ⟨hc,hx⟩ | ⟨hc,hx⟩
     · rw[← Tr.ab hx,hc];rfl
     · rw[← Tr.ab hx,hc];simp only[gY.st,aY];rfl
   · repeat' first | (refine Tr.al (fun hc=>?_) (fun hc=>?_)<;>(try simp (disch:=omega) only[nV,nW] at hc)<;>try omega) | (refine Tr.bf ?_ ?_;· (try simp (disch:=omega) only[nV,nW]);try omega) | (refine Tr.ay ?_ ?_;· first | exact trivial | rfl | exact ⟨rfl,rfl⟩ | exact ⟨rfl,rfl,rfl⟩ | (simp (disch:=omega) only[nV,nW];done) | ((try simp (disch:=omega) only[nV,nW]);omega)) | fail
     all_goals refine Tr.aw ⟨?_,rfl⟩
     all_goals rw[hc];rfl
 · have ej:a8 .i64 (j:Int) (Int.ofNat 1)=((j+1:Nat):Int):=by rw[bV,show Int.ofNat 1=1 from rfl];exact cK (by omega) (by omega)
   have ei:ar 0 (j:Int) 5=j*5:=by rw[bC];omega
   have hs:iQ z j=!(decide (0≤z (j*5)) && (decide (z (j*5)≤z (j*5+1)) && (decide (z (j*5+1)≤10000) && (decide (0≤z (j*5+2)) && (decide (z (j*5+2)≤z (j*5+3)) && (decide (z (j*5+3)≤10000) && (decide (0≤z (j*5+4)) && decide (z (j*5+4)≤100000)))))))):=rfl
   refine aG (t84 n l z H (j:Int)) (dS (n+1) 5) (ag _ _) (ah _ _) ?_
   repeat' first | (refine Tr.al (fun hc=>?_) (fun hc=>?_)<;>(try simp (disch:=omega) only[nV,nW,ei] at hc)<;>try omega) | (refine Tr.bf ?_ ?_;· (try simp (disch:=omega) only[nV,nW,ei]);try omega) | (refine Tr.ay ?_ ?_;· first | exact trivial | rfl | exact ⟨rfl,rfl⟩ | exact ⟨rfl,rfl,rfl⟩ | (simp (disch:=omega) only[nV,nW,ei];done) | ((try simp (disch:=omega) only[nV,nW,ei]);omega)) | fail
   all_goals refine Tr.aw ?_
   all_goals first
    | (rw[if_pos (by rw[hs];simp;omega)];rfl)
    | (rw[if_neg (by rw[hs];simp;omega)];exact ⟨rfl,by rw[ej];rfl⟩)
    | fail
 · obtain ⟨x,h1,rfl⟩:=aG (Q:=fun x=>x=(.exit 0,De l z (Int.ofNat l)++[(9,.bool false)],aB::H)) (t84 n l z H (Int.ofNat l)) (dS (n+1) 5) (ag _ _) (ah _ _) (by
    exact wF)
   exact h1
theorem Rk (hl:l≤1000):cd (n+8) (.fn 60) [aJ 5 l z,.fn (.func 58) [] []] H=some (.bool (iu (iQ z) l),H):=by
 refine ba (n:=n+7) Tryz.func60 rfl rfl rfl (TD n l z H (cond (iu (iQ z) l) ((fN (iQ z) l 0:Nat):Int) (-1))) (cS _ (n+7) 0 (fun k=>fI (aT _) (fun args p v hg hp H=>?_))) (ag _ _) (ah _ _) ?_
 · unfold Q1 at hg
   split at hg
   · simp only[nP] at hg
     obtain ⟨rfl,rfl⟩:=hg
     subst hp
     rw[show n+7+k=n+k+7 by omega]
     exact Rr _ l z H hl
   · cases hg
 · repeat' first | (refine Tr.al (fun hc=>?_) (fun hc=>?_)<;>(try simp (disch:=omega) only[nV,nW] at hc)<;>try omega) | (refine Tr.bf ?_ ?_;· (try simp (disch:=omega) only[nV,nW]);try omega) | (refine Tr.ay ?_ ?_;· first | exact trivial | rfl | exact ⟨rfl,rfl⟩ | exact ⟨rfl,rfl,rfl⟩ | (simp (disch:=omega) only[nV,nW];done) | ((try simp (disch:=omega) only[nV,nW]);omega)) | fail
   all_goals refine Tr.aw ⟨?_,rfl⟩
   rw[iz]
   cases iu (iQ z) l
   · rfl
   · simp
theorem QT:cd (n+9) (.fn 20) [aJ 5 l z] H=some (.int .i64 (bp l z),H):=by
 unfold bp
 by_cases hl:l=0∨14<l
 · rw[if_pos hl]
   refine ba (n:=n+8) Tryz.func20 rfl rfl rfl (Qc n l z H) (cS _ (n+8) 0 (fun k=>fI (aT _) (fun args p v hg hp H=>by cases hg))) (ag _ _) (ah _ _) ?_
   exact wF
 · rw[if_neg hl]
   refine ba (n:=n+8) Tryz.func20 rfl rfl rfl (Tw n l z H (iu (iQ z) l)) (cS _ (n+8) 0 (fun k=>fI (aT _) (fun args p v hg hp H=>?_))) (ag _ _) (ah _ _) ?_
   · unfold Q2 at hg
     split at hg
     · simp only[nP] at hg
       obtain ⟨rfl,rfl⟩:=hg
       subst hp
       rw[show n+8+k=n+k+8 by omega]
       exact Rk _ l z H (by omega)
     · cases hg
   · cases hx:iu (iQ z) l
     · repeat' first | (refine Tr.al (fun hc=>?_) (fun hc=>?_)<;>(try simp (disch:=omega) only[nV,nW,hx] at hc)<;>try omega) | (refine Tr.bf ?_ ?_;· (try simp (disch:=omega) only[nV,nW,hx]);try omega) | (refine Tr.ay ?_ ?_;· first | exact trivial | rfl | exact ⟨rfl,rfl⟩ | exact ⟨rfl,rfl,rfl⟩ | (simp (disch:=omega) only[nV,nW,hx];done) | ((try simp (disch:=omega) only[nV,nW,hx]);omega)) | fail
       all_goals first
        | exact Tr.aw ⟨rfl,rfl⟩
        | fail
     · repeat' first | (refine Tr.al (fun hc=>?_) (fun hc=>?_)<;>(try simp (disch:=omega) only[nV,nW,hx] at hc)<;>try omega) | (refine Tr.bf ?_ ?_;· (try simp (disch:=omega) only[nV,nW,hx]);try omega) | (refine Tr.ay ?_ ?_;· first | exact trivial | rfl | exact ⟨rfl,rfl⟩ | exact ⟨rfl,rfl,rfl⟩ | (simp (disch:=omega) only[nV,nW,hx];done) | ((try simp (disch:=omega) only[nV,nW,hx]);omega)) | fail
       all_goals first
        | exact Tr.aw ⟨rfl,rfl⟩
        | fail
end
end Go.Eng
end
section
namespace Go.Eng
open Go.Proofs
noncomputable def Dd (l:Nat) (z:Nat→Int) (j:Int):av:=[(0,aJ 5 l z),(3,.int .i64 j)]
noncomputable def Nq (L:AV) (e:Int):List AV→Option (Prop×AV)
 | [a]=>some (a=L,.int .i64 e)
 | _=>none
theorem t21 (n:Nat) (l:Nat) (z:Nat→Int) (H:aa) (j:Int):aX (bz (n+2) 21 50) (il aU (n+1) 1) aZ a6 (part Tryz.f21 [1,1,0,1,0,0]) (hints (Dd l z j)) (aB::H) =
 (fun (Z0:aM)=>Tr.ite (dq j (Int.ofNat l)) (Tr.req (dF j l) (Tr.req (bA (ar 0 j 5) (aD l 5)) (Tr.req (bA (af (ar 0 j 5) 1) (aD l 5)) (Tr.ite (mP (Int.ofNat 0) (z (ar 0 j 5))) (Tr.ite (mP (z (ar 0 j 5)) (z (af (ar 0 j 5) 1))) (Tr.ite (b8 (mP (z (af (ar 0 j 5) 1)) (Int.ofNat 10000))) (Tr.ok (Ex.ret,Z0,aB::H)) (Tr.req (dF j l) (Tr.req (bA (af (ar 0 j 5) 2) (aD l 5)) (Tr.req (bA (af (af (ar 0 j 5) 2) 1) (aD l 5)) (Tr.ite (mP (Int.ofNat 0) (z (af (ar 0 j 5) 2))) (Tr.ite (mP (z (af (ar 0 j 5) 2)) (z (af (af (ar 0 j 5) 2) 1))) (Tr.ite (b8 (mP (z (af (af (ar 0 j 5) 2) 1)) (Int.ofNat 10000))) (Tr.ok (Ex.ret,Z0,aB::H)) (Tr.req (dF j l) (Tr.req (bA (af (ar 0 j 5) 4) (aD l 5)) (Tr.ite (dq (z (af (ar 0 j 5) 4)) (Int.ofNat 0)) (Tr.ok (Ex.ret,Z0,aB::H)) (Tr.req (dF j l) (Tr.req (bA (af (ar 0 j 5) 4) (aD l 5)) (Tr.ite (dq (Int.ofNat 100000) (z (af (ar 0 j 5) 4))) (Tr.ok (Ex.ret,Z0,aB::H)) (Tr.ok (Ex.normal,[(0,aJ 5 l z,none),(3,AV.int .i64 (a8 .i64 j (Int.ofNat 1)),none)],aB::H))))))))) (Tr.ok (Ex.ret,Z0,aB::H))) (Tr.ok (Ex.ret,Z0,aB::H))))))) (Tr.ok (Ex.ret,Z0,aB::H))) (Tr.ok (Ex.ret,Z0,aB::H)))))) (Tr.ok (Ex.exit 0,[(0,aJ 5 l z,none),(3,AV.int .i64 j,none),(15,AV.bool false,some 1)],aB::H))) [(2,AV.int .i64 (Int.ofNat 3),some 1)]:=by kernel_rfl
theorem Tx (n:Nat) (l:Nat) (z:Nat→Int) (H:aa) (e:Bool):bw Tryz.prog (cd (n+2)) 100000 21 Tryz.f21 (KtB.kt 21) (il aU (n+2) 0) (gf aZ 0 (Dd l z 0) (aB::H) (.ite e (.ok (.ret,[(2,.int .i64 3,none)],aB::H)) (.ok (.normal,hints (Dd l z (Int.ofNat l)++[(15,.bool false)]),aB::H)))) a6 [(aJ 5 l z,none)] H =
 Tr.ite (dq (Int.ofNat l) (Int.ofNat 1)) (Tr.ok ((AV.int .i64 (Int.ofNat 6),some 1),H)) (Tr.ite (dq (Int.ofNat 14) (Int.ofNat l)) (Tr.ok ((AV.int .i64 (Int.ofNat 6),some 1),H)) (Tr.reqP ([(0,aJ 5 l z),(3,AV.int .i64 (Int.ofNat 0))]=[(0,aJ 5 l z),(3,AV.int .i64 (Int.ofNat 0))]∧aB::H=aB::H) (Tr.ite e (Tr.ok ((AV.int .i64 (Int.ofNat 3),none),H)) (Tr.ok ((AV.int .i64 (Int.ofNat 0),some 1),H))))):=by kernel_rfl
theorem Qd (n:Nat) (l:Nat) (z:Nat→Int) (H:aa):bw Tryz.prog (cd (n+2)) 100000 21 Tryz.f21 (KtB.kt 21) (il aU (n+2) 0) (pN aZ 0) a6 [(aJ 5 l z,none)] H =
 Tr.ite (dq (Int.ofNat l) (Int.ofNat 1)) (Tr.ok ((AV.int .i64 (Int.ofNat 6),some 1),H)) (Tr.ite (dq (Int.ofNat 14) (Int.ofNat l)) (Tr.ok ((AV.int .i64 (Int.ofNat 6),some 1),H)) Tr.bad):=by kernel_rfl
def cQ (z:Nat→Int) (j:Nat):Int:=z (j*5+1)-z (j*5+3)
def bU (z:Nat→Int) (j:Nat):Int:=z (j*5)-z (j*5+2)
def Jj (l:Nat) (z:Nat→Int) (q:Int):AV :=
 if bp l z≠0 then .tup [.agg (.I .i64 [0,0]),.int .i64 (bp l z)]
 else if ¬ (0≤q∧q<l) then .tup [.agg (.I .i64 [0,0]),.int .i64 2]
 else if bU z q.toNat<cQ z q.toNat then .tup [.agg (.I .i64 [0,0]),.int .i64 22]
 else .tup [.agg (.I .i64 [cQ z q.toNat,bU z q.toNat]),.int .i64 0]
theorem Q6:∀ b,(0,b) ∈ bo (ct Tryz.f21)→b=.loop (part Tryz.f21 [1,1,0,1,0,0]):=kX (by kernel_rfl)
theorem bM {l:Nat} {z:Nat→Int} (h:bp l z=0):(1≤l∧l≤14)∧∀ j,j<l→0≤z (j*5)∧z (j*5)≤z (j*5+1)∧z (j*5+1)≤10000∧0≤z (j*5+2)∧z (j*5+2)≤z (j*5+3)∧z (j*5+3)≤10000∧0≤z (j*5+4)∧z (j*5+4)≤100000:=by
 unfold bp at h
 by_cases hl:l=0∨14<l
 · rw[if_pos hl] at h;exact absurd h (by decide)
 rw[if_neg hl] at h
 cases he:iu (iQ z) l with
 | true=>rw[he,if_pos rfl] at h;exact absurd h (by decide)
 | false =>
   refine ⟨by omega,fun j hj=>?_⟩
   have:iQ z j=false:=by
    cases e:iQ z j with
    | false=>rfl
    | true=>rw[(eI _ _).2 ⟨j,hj,e⟩] at he;cases he
   simpa[iQ] using this
section
variable (n:Nat) (l:Nat) (z:Nat→Int) (H:aa) (q:Int)
theorem Rh:cd (n+3) (.fn 21) [aJ 5 l z] H=some (.int .i64 (bp l z),H):=by
 unfold bp
 by_cases hl:l=0∨14<l
 · rw[if_pos hl]
   refine ba (n:=n+2) Tryz.func21 rfl rfl rfl (Qd n l z H) (dS (n+2) 0) (iq (ag _ _) 0) (ah _ _) ?_
   exact wF
 rw[if_neg hl]
 have lp:=yi (n:=n+2) (f:=21) (nt:=50) (c:=part Tryz.f21 [1,1,0,1,0,0]) 0 (fun j=>Dd l z (j:Int)) (fun _=>aB::H) l (iQ z) (fun j=>([(2,.int .i64 3)],aB::H)) (Dd l z (Int.ofNat l)++[(15,.bool false)],aB::H) (by omega) (fun j hj=>?_) ?_
 · refine ba (n:=n+2) Tryz.func21 rfl rfl rfl (Tx n l z H (iu (iQ z) l)) (dS (n+2) 0) (bL (ag _ _) Q6 (fun x hx=>?_)) (ah _ _) ?_
   · refine Eq.trans lp ?_
     rcases Tr.gr hx with ⟨hc,hx⟩ | ⟨hc,hx⟩
     · rw[← Tr.ab hx,hc];rfl
     · rw[← Tr.ab hx,hc];simp only[gY.st,aY];rfl
   · cases hx:iu (iQ z) l
     · repeat' first | (refine Tr.al (fun hc=>?_) (fun hc=>?_)<;>(try simp (disch:=omega) only[nV,nW,hx] at hc)<;>try omega) | (refine Tr.bf ?_ ?_;· (try simp (disch:=omega) only[nV,nW,hx]);try omega) | (refine Tr.ay ?_ ?_;· first | exact trivial | rfl | exact ⟨rfl,rfl⟩ | exact ⟨rfl,rfl,rfl⟩ | (simp (disch:=omega) only[nV,nW,hx];done) | ((try simp (disch:=omega) only[nV,nW,hx]);omega)) | fail
       all_goals first
        | exact Tr.aw ⟨rfl,rfl⟩
        | fail
     · repeat' first | (refine Tr.al (fun hc=>?_) (fun hc=>?_)<;>(try simp (disch:=omega) only[nV,nW,hx] at hc)<;>try omega) | (refine Tr.bf ?_ ?_;· (try simp (disch:=omega) only[nV,nW,hx]);try omega) | (refine Tr.ay ?_ ?_;· first | exact trivial | rfl | exact ⟨rfl,rfl⟩ | exact ⟨rfl,rfl,rfl⟩ | (simp (disch:=omega) only[nV,nW,hx];done) | ((try simp (disch:=omega) only[nV,nW,hx]);omega)) | fail
       all_goals first
        | exact Tr.aw ⟨rfl,rfl⟩
        | fail
 · have ej:a8 .i64 (j:Int) (Int.ofNat 1)=((j+1:Nat):Int):=by rw[bV,show Int.ofNat 1=1 from rfl];exact cK (by omega) (by omega)
   have ei:ar 0 (j:Int) 5=j*5:=by rw[bC];omega
   have hs:iQ z j=!(decide (0≤z (j*5)) && (decide (z (j*5)≤z (j*5+1)) && (decide (z (j*5+1)≤10000) && (decide (0≤z (j*5+2)) && (decide (z (j*5+2)≤z (j*5+3)) && (decide (z (j*5+3)≤10000) && (decide (0≤z (j*5+4)) && decide (z (j*5+4)≤100000)))))))):=rfl
   refine aG (t21 n l z H (j:Int)) (dS (n+1) 1) (ag _ _) (ah _ _) ?_
   have e31:j*5+2+1=j*5+3:=rfl
   repeat' first | (refine Tr.al (fun hc=>?_) (fun hc=>?_)<;>(try simp (disch:=omega) only[nV,nW,ei,e31] at hc)<;>try omega) | (refine Tr.bf ?_ ?_;· (try simp (disch:=omega) only[nV,nW,ei,e31]);try omega) | (refine Tr.ay ?_ ?_;· first | exact trivial | rfl | exact ⟨rfl,rfl⟩ | exact ⟨rfl,rfl,rfl⟩ | (simp (disch:=omega) only[nV,nW,ei,e31];done) | ((try simp (disch:=omega) only[nV,nW,ei,e31]);omega)) | fail
   all_goals refine Tr.aw ?_
   all_goals first
    | (rw[if_pos (by rw[hs];simp;omega)];rfl)
    | (rw[if_neg (by rw[hs];simp;omega)];exact ⟨rfl,by rw[ej];rfl⟩)
    | fail
 · obtain ⟨x,h1,rfl⟩:=aG (Q:=fun x=>x=(.exit 0,Dd l z (Int.ofNat l)++[(15,.bool false)],aB::H)) (t21 n l z H (Int.ofNat l)) (dS (n+1) 1) (ag _ _) (ah _ _) (by
    exact wF)
   exact h1
theorem QZ {f k:Nat} {t:mb} {e:Int} (ht:t.Ok (cd k)) (h:∀ H,cd k (.fn f) [aJ 5 l z] H=some (.int .i64 e,H)):(lg t f (Nq (aJ 5 l z) e)).Ok (cd k):=by
 refine fI ht (fun args p v hg hp H=>?_)
 unfold Nq at hg
 split at hg
 · simp only[nP] at hg
   obtain ⟨rfl,rfl⟩:=hg
   subst hp
   exact h H
 · cases hg
end
end Go.Eng
end
