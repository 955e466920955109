/- Closed calls of the seat: what they lean on. -/
import Derived.Test.YtigmfpmabgekoaaGreatV9EngRnLx4
import Derived.Test.YtigmfpmabgekoaaGreatV9EngKtBx5
import Derived.Test.YtigmfpmabgekoaaGreatProg
import Derived.KernelRfl
import Derived.Test.YtigmfpmabgekoaaGreatChecked
import Derived.Shelf.SortM.Plain
import Derived.Test.YtigmfpmabgekoaaGreatV9EngThx4
import Derived.Test.YtigmfpmabgekoaaGreatV9EngRnFx3
import Derived.Test.YtigmfpmabgekoaaGreatV9EngPostx6
set_option maxRecDepth 100000
set_option linter.unusedVariables false
set_option linter.unusedSimpArgs false
section
namespace Go.Proofs.YtigmfpmabgekoaaGreat.Known
open Go.Eng Go.Proofs
theorem named:cH Tryz.prog:=by
 have h:(Tryz.prog.funcs.toList.all fun fn=>fn.body.isNone || !(fn.name == "runtime.NumGoroutine"))=true:=by kernel_rfl
 intro f fn hf hb
 have:=List.all_eq_true.1 h fn (by simpa using Array.mem_of_getElem? hf)
 rw[hb] at this
 simpa using this
theorem mixed:Tryz.prog.follows .mixedOrders=true:=by kernel_rfl
theorem HR:∀ e ∈ ([]:List jx),cj Tryz.prog e:=fun e h=>by cases h
theorem eN {e:jx} {t:List jx} (h:cj Tryz.prog e) (k:∀ x ∈ t,cj Tryz.prog x):∀ x ∈ e::t,cj Tryz.prog x:=fun x hx=>by
 rcases List.mem_cons.1 hx with rfl | hx
 · exact h
 · exact k x hx
def Ng:List jx:=[]
theorem CQ:∀ e ∈ Ng,cj Tryz.prog e:=HR
def navB:List Nat→Code→Code
 | [],c=>c
 | x :: p,c=>match c with
   | .seq a b=>match x with
     | 0=>navB p a
     | _=>navB p b
   | .cond _ a b=>match x with
     | 0=>navB p a
     | _=>navB p b
   | .block _ b=>navB p b
   | .loop b=>navB p b
   | .scope b=>navB p b
   | .rangeFunc _ _ a b=>match x with
     | 0=>navB p a
     | _=>navB p b
   | c=>c
def xG:Code→Array Oper
 | .region _ ops _=>ops
 | _=>#[]
noncomputable def bd79:Code:=Tryz.f79.body.getD .skip
def OH (l:List Oper):Oper:=l.headD { dst:=none,op:=.move (.tmp 0),type:=0,pos := "",after:=#[],guard:=none }
noncomputable def mostS:bK:={ id0:=24,ops0:=xG (navB [1,1,1,1,1,1,0,0] bd79),pre:=(xG (navB [1,1,1,1,1,1,0,0] bd79)).toList.take 1,ro:=OH ((xG (navB [1,1,1,1,1,1,0,0] bd79)).toList.drop 1),m:=90,ty:=122 }
noncomputable def mostL:bm:={ out:=6,DG:=25,id2:=26,nxt:=7,ops1:=xG (navB [1,1,1,1,1,1,0,1,0,0,0] bd79),ops2:=xG (navB [1,1,1,1,1,1,0,1,0,0,1,1,0,0] bd79),no:=OH (xG (navB [1,1,1,1,1,1,0,1,0,0,0] bd79)).toList,eo:=OH (xG (navB [1,1,1,1,1,1,0,1,0,0,1,1,0,0] bd79)).toList,t1:=(xG (navB [1,1,1,1,1,1,0,1,0,0,0] bd79)).toList.tail,t2:=(xG (navB [1,1,1,1,1,1,0,1,0,0,1,1,0,0] bd79)).toList.tail,it:=91,nx:=92,mo:=93,en:=94,rest:=navB [1,1,1,1,1,1,0,1,0,0,1,1,0,1] bd79,km:=1361129467678802093696356908627478183936 }
noncomputable def most:ql:={ f:=79,pre:=[navB [0] bd79,navB [1,0] bd79,navB [1,1,0] bd79,navB [1,1,1,0] bd79,navB [1,1,1,1,0] bd79,navB [1,1,1,1,1,0] bd79],S:=mostS,L:=mostL,suf:=navB [1,1,1,1,1,1,1] bd79 }
theorem Km:Tryz.f79.body=some (assemble most.pre (mostS.code mostL) most.suf):=by kernel_rfl
theorem HF:mostS.ops0.toList=mostS.pre++[mostS.ro]:=by kernel_rfl
theorem HI:mostS.ro.op=.range mostS.ty (.tmp mostS.m):=by kernel_rfl
theorem Hv:mostS.ro.dst=some mostL.it:=by kernel_rfl
theorem Hy:mostS.ro.guard=none:=by kernel_rfl
theorem HG:mostL.ops1.toList=mostL.no::mostL.t1:=by kernel_rfl
theorem HJ:mostL.no.op=.next (.tmp mostL.it) false:=by kernel_rfl
theorem Hw:mostL.no.dst=some mostL.nx:=by kernel_rfl
theorem Hz:mostL.no.guard=none:=by kernel_rfl
theorem HH:mostL.ops2.toList=mostL.eo::mostL.t2:=by kernel_rfl
theorem HK:mostL.eo.op=.entry (.tmp mostL.it):=by kernel_rfl
theorem Hx:mostL.eo.dst=some mostL.en:=by kernel_rfl
theorem HD:mostL.eo.guard=none:=by kernel_rfl
theorem Cr:most.Ok Tryz.prog:=⟨⟨Tryz.f79,Tryz.func79,Km⟩,⟨HF,HI,Hv,Hy,⟨_,_,Tryz.underlying122⟩⟩,⟨HG,HJ,Hw,Hz,HH,HK,Hx,HD⟩⟩
noncomputable def rs:List ql:=[most]
theorem jl:∀ r ∈ rs,r.Ok Tryz.prog:=fun r h=>by
 rcases List.mem_cons.1 h with rfl | h
 · exact Cr
 · cases h
end Go.Proofs.YtigmfpmabgekoaaGreat.Known
end
section
namespace Go.Proofs
open Go.Shelf
def Tryz.D8:Go.Shelf.Ren:=⟨fun | 5=>74 | 8=>91 | 7=>90 | 19=>108 | 20=>109 | 10=>99 | 11=>100 | 12=>101 | 13=>102 | 14=>103 | 15=>104 | 16=>105 | 17=>106 | 18=>107 | 30=>113 | 31=>114 | 32=>115 | 33=>116 | 34=>117 | 35=>118 | 40=>128 | n=>n,fun | 23=>30 | 25=>3 | 3=>3 | 32=>118 | 22=>30 | 0=>0 | 44=>138 | 46=>140 | 4=>4 | 36=>131 | 35=>130 | 41=>62 | 5=>5 | 9=>9 | 53=>143 | 57=>147 | 63=>155 | 64=>156 | n=>n,fun | n=>n⟩
theorem Tryz.MA:Go.Proofs.SlLaysM.n5 Tryz.prog Tryz.D8:={
 mixed:=by kernel_rfl
 f5:=⟨Tryz.f74.name,by decide,Tryz.func74.trans (congrArg some (by kernel_rfl))⟩
 f7:=⟨Tryz.f90.name,by decide,Tryz.func90.trans (congrArg some (by kernel_rfl))⟩
 f8:=Tryz.func91.trans (congrArg some (by kernel_rfl))
 f10:=⟨Tryz.f99.name,by decide,Tryz.func99.trans (congrArg some (by kernel_rfl))⟩
 f11:=⟨Tryz.f100.name,by decide,Tryz.func100.trans (congrArg some (by kernel_rfl))⟩
 f12:=⟨Tryz.f101.name,by decide,Tryz.func101.trans (congrArg some (by kernel_rfl))⟩
 f13:=⟨Tryz.f102.name,by decide,Tryz.func102.trans (congrArg some (by kernel_rfl))⟩
 f14:=⟨Tryz.f103.name,by decide,Tryz.func103.trans (congrArg some (by kernel_rfl))⟩
 f15:=⟨Tryz.f104.name,by decide,Tryz.func104.trans (congrArg some (by kernel_rfl))⟩
 f16:=⟨Tryz.f105.name,by decide,Tryz.func105.trans (congrArg some (by kernel_rfl))⟩
 f17:=⟨Tryz.f106.name,by decide,Tryz.func106.trans (congrArg some (by kernel_rfl))⟩
 f18:=⟨Tryz.f107.name,by decide,Tryz.func107.trans (congrArg some (by kernel_rfl))⟩
 f19:=Tryz.func108.trans (congrArg some (by kernel_rfl))
 f20:=Tryz.func109.trans (congrArg some (by kernel_rfl))
 f30:=⟨Tryz.f113.name,by decide,Tryz.func113.trans (congrArg some (by kernel_rfl))⟩
 f31:=Tryz.func114.trans (congrArg some (by kernel_rfl))
 f32:=Tryz.func115.trans (congrArg some (by kernel_rfl))
 f33:=⟨Tryz.f116.name,by decide,Tryz.func116.trans (congrArg some (by kernel_rfl))⟩
 f34:=⟨Tryz.f117.name,by decide,Tryz.func117.trans (congrArg some (by kernel_rfl))⟩
 f35:=⟨Tryz.f118.name,by decide,Tryz.func118.trans (congrArg some (by kernel_rfl))⟩
 f40:=⟨Tryz.f128.name,by decide,Tryz.func128.trans (congrArg some (by kernel_rfl))⟩
 t0:=Tryz.underlying0
 a0:=Tryz.isAgg0
 z0:=Tryz.sizeOf0
 v0:=Tryz.zeroValue0
 t3:=Tryz.underlying3
 a3:=Tryz.isAgg3
 z3:=Tryz.sizeOf3
 v3:=Tryz.zeroValue3
 t4:=Tryz.underlying4
 a4:=Tryz.isAgg4
 z4:=Tryz.sizeOf4
 v4:=Tryz.zeroValue4
 t5:=Tryz.underlying5
 a5:=Tryz.isAgg5
 z5:=Tryz.sizeOf5
 v5:=Tryz.zeroValue5
 t9:=Tryz.underlying9
 a9:=Tryz.isAgg9
 z9:=Tryz.sizeOf9
 v9:=Tryz.zeroValue9
 t22:=Tryz.underlying30
 a22:=Tryz.isAgg30
 z22:=Tryz.sizeOf30
 v22:=Tryz.zeroValue30
 t23:=Tryz.underlying30
 a23:=Tryz.isAgg30
 z23:=Tryz.sizeOf30
 v23:=Tryz.zeroValue30
 t25:=Tryz.underlying3
 a25:=Tryz.isAgg3
 z25:=Tryz.sizeOf3
 v25:=Tryz.zeroValue3
 t32:=Tryz.underlying118
 a32:=Tryz.isAgg118
 z32:=Tryz.sizeOf118
 v32:=Tryz.zeroValue118
 t35:=Tryz.underlying130
 a35:=Tryz.isAgg130
 z35:=Tryz.sizeOf130
 v35:=Tryz.zeroValue130
 t36:=Tryz.underlying131
 a36:=Tryz.isAgg131
 z36:=Tryz.sizeOf131
 v36:=Tryz.zeroValue131
 t41:=Tryz.underlying62
 a41:=Tryz.isAgg62
 z41:=Tryz.sizeOf62
 v41:=Tryz.zeroValue62
 t44:=Tryz.underlying138
 a44:=Tryz.isAgg138
 z44:=Tryz.sizeOf138
 v44:=Tryz.zeroValue138
 t46:=Tryz.underlying140
 a46:=Tryz.isAgg140
 z46:=Tryz.sizeOf140
 v46:=Tryz.zeroValue140
 t53:=Tryz.underlying143
 a53:=Tryz.isAgg143
 z53:=Tryz.sizeOf143
 v53:=Tryz.zeroValue143
 t57:=Tryz.underlying147
 a57:=Tryz.isAgg147
 z57:=Tryz.sizeOf147
 v57:=Tryz.zeroValue147
 t63:=Tryz.underlying155
 a63:=Tryz.isAgg155
 z63:=Tryz.sizeOf155
 v63:=Tryz.zeroValue155
 t64:=Tryz.underlying156
 a64:=Tryz.isAgg156
 z64:=Tryz.sizeOf156
 v64:=Tryz.zeroValue156 }
def Tryz.D9:Go.Shelf.Ren:=⟨fun | 5=>96 | 8=>91 | 7=>111 | 19=>108 | 20=>109 | 10=>119 | 11=>120 | 12=>121 | 13=>122 | 14=>123 | 15=>124 | 16=>125 | 17=>126 | 18=>127 | 30=>129 | 31=>114 | 32=>115 | 33=>130 | 34=>131 | 35=>132 | 40=>133 | n=>n,fun | 23=>36 | 25=>2 | 3=>3 | 32=>118 | 22=>36 | 0=>0 | 44=>138 | 46=>140 | 4=>4 | 36=>131 | 35=>130 | 41=>62 | 5=>5 | 9=>9 | 53=>143 | 57=>147 | 63=>155 | 64=>156 | n=>n,fun | n=>n⟩
theorem Tryz.MB:Go.Proofs.SlLaysM.n5 Tryz.prog Tryz.D9:={
 mixed:=by kernel_rfl
 f5:=⟨Tryz.f96.name,by decide,Tryz.func96.trans (congrArg some (by kernel_rfl))⟩
 f7:=⟨Tryz.f111.name,by decide,Tryz.func111.trans (congrArg some (by kernel_rfl))⟩
 f8:=Tryz.func91.trans (congrArg some (by kernel_rfl))
 f10:=⟨Tryz.f119.name,by decide,Tryz.func119.trans (congrArg some (by kernel_rfl))⟩
 f11:=⟨Tryz.f120.name,by decide,Tryz.func120.trans (congrArg some (by kernel_rfl))⟩
 f12:=⟨Tryz.f121.name,by decide,Tryz.func121.trans (congrArg some (by kernel_rfl))⟩
 f13:=⟨Tryz.f122.name,by decide,Tryz.func122.trans (congrArg some (by kernel_rfl))⟩
 f14:=⟨Tryz.f123.name,by decide,Tryz.func123.trans (congrArg some (by kernel_rfl))⟩
 f15:=⟨Tryz.f124.name,by decide,Tryz.func124.trans (congrArg some (by kernel_rfl))⟩
 f16:=⟨Tryz.f125.name,by decide,Tryz.func125.trans (congrArg some (by kernel_rfl))⟩
 f17:=⟨Tryz.f126.name,by decide,Tryz.func126.trans (congrArg some (by kernel_rfl))⟩
 f18:=⟨Tryz.f127.name,by decide,Tryz.func127.trans (congrArg some (by kernel_rfl))⟩
 f19:=Tryz.func108.trans (congrArg some (by kernel_rfl))
 f20:=Tryz.func109.trans (congrArg some (by kernel_rfl))
 f30:=⟨Tryz.f129.name,by decide,Tryz.func129.trans (congrArg some (by kernel_rfl))⟩
 f31:=Tryz.func114.trans (congrArg some (by kernel_rfl))
 f32:=Tryz.func115.trans (congrArg some (by kernel_rfl))
 f33:=⟨Tryz.f130.name,by decide,Tryz.func130.trans (congrArg some (by kernel_rfl))⟩
 f34:=⟨Tryz.f131.name,by decide,Tryz.func131.trans (congrArg some (by kernel_rfl))⟩
 f35:=⟨Tryz.f132.name,by decide,Tryz.func132.trans (congrArg some (by kernel_rfl))⟩
 f40:=⟨Tryz.f133.name,by decide,Tryz.func133.trans (congrArg some (by kernel_rfl))⟩
 t0:=Tryz.underlying0
 a0:=Tryz.isAgg0
 z0:=Tryz.sizeOf0
 v0:=Tryz.zeroValue0
 t3:=Tryz.underlying3
 a3:=Tryz.isAgg3
 z3:=Tryz.sizeOf3
 v3:=Tryz.zeroValue3
 t4:=Tryz.underlying4
 a4:=Tryz.isAgg4
 z4:=Tryz.sizeOf4
 v4:=Tryz.zeroValue4
 t5:=Tryz.underlying5
 a5:=Tryz.isAgg5
 z5:=Tryz.sizeOf5
 v5:=Tryz.zeroValue5
 t9:=Tryz.underlying9
 a9:=Tryz.isAgg9
 z9:=Tryz.sizeOf9
 v9:=Tryz.zeroValue9
 t22:=Tryz.underlying36
 a22:=Tryz.isAgg36
 z22:=Tryz.sizeOf36
 v22:=Tryz.zeroValue36
 t23:=Tryz.underlying36
 a23:=Tryz.isAgg36
 z23:=Tryz.sizeOf36
 v23:=Tryz.zeroValue36
 t25:=Tryz.underlying2
 a25:=Tryz.isAgg2
 z25:=Tryz.sizeOf2
 v25:=Tryz.zeroValue2
 t32:=Tryz.underlying118
 a32:=Tryz.isAgg118
 z32:=Tryz.sizeOf118
 v32:=Tryz.zeroValue118
 t35:=Tryz.underlying130
 a35:=Tryz.isAgg130
 z35:=Tryz.sizeOf130
 v35:=Tryz.zeroValue130
 t36:=Tryz.underlying131
 a36:=Tryz.isAgg131
 z36:=Tryz.sizeOf131
 v36:=Tryz.zeroValue131
 t41:=Tryz.underlying62
 a41:=Tryz.isAgg62
 z41:=Tryz.sizeOf62
 v41:=Tryz.zeroValue62
 t44:=Tryz.underlying138
 a44:=Tryz.isAgg138
 z44:=Tryz.sizeOf138
 v44:=Tryz.zeroValue138
 t46:=Tryz.underlying140
 a46:=Tryz.isAgg140
 z46:=Tryz.sizeOf140
 v46:=Tryz.zeroValue140
 t53:=Tryz.underlying143
 a53:=Tryz.isAgg143
 z53:=Tryz.sizeOf143
 v53:=Tryz.zeroValue143
 t57:=Tryz.underlying147
 a57:=Tryz.isAgg147
 z57:=Tryz.sizeOf147
 v57:=Tryz.zeroValue147
 t63:=Tryz.underlying155
 a63:=Tryz.isAgg155
 z63:=Tryz.sizeOf155
 v63:=Tryz.zeroValue155
 t64:=Tryz.underlying156
 a64:=Tryz.isAgg156
 z64:=Tryz.sizeOf156
 v64:=Tryz.zeroValue156 }
end Go.Proofs
namespace Go.Eng
open Go.Proofs Go.Sort
def jr (L:List Int):List Int:=L.mergeSort fun x y=>decide (x≤y)
theorem KM:Ek Tryz.prog 74 jr :=
 ⟨⟨_,Tryz.func74,by kernel_rfl⟩,fun L=>List.length_mergeSort L,fun blk off cap zs w h1 h2 h3=>AnyM.slices_Sort_int Tryz.MA blk off cap zs w h1 h2 h3⟩
theorem KN:Ek Tryz.prog 96 jr :=
 ⟨⟨_,Tryz.func96,by kernel_rfl⟩,fun L=>List.length_mergeSort L,fun blk off cap zs w h1 h2 h3=>AnyM.slices_Sort_int Tryz.MB blk off cap zs w h1 h2 h3⟩
end Go.Eng
end
section
namespace Go.Eng
open Go.Proofs Go.ChangeShapes

noncomputable def ay (n len:Nat) (z:Nat→Int):AV:=.slcT none (.M [.arr .i64 z (jg len n)]) n len false
noncomputable def nE:aU→FuncId→List AV→aa→Option (AV×aa):=fun call f args H=>cond (Nat.beq f 68) (Cy Tryz.prog KtB.kt 100000 68 call args H) (cond (Nat.beq f 74) (D2 jr args H) (cond (Nat.beq f 96) (D2 jr args H) (cond (Nat.beq f 79) (uh Tryz.prog KtB.kt 100000 YtigmfpmabgekoaaGreat.Known.most call args H) (cond (Nat.beq f 32) (KE Tryz.prog KtB.kt 100000 32 (Bw Tryz.prog KtB.kt 100000 63 call) args H) (H4 [⟨15,[],.bool true⟩] call f args H)))))
def Ko (f:FuncId):Bool:=Nat.beq f 15 || Nat.beq f 1000000 || Nat.beq f 68 || Nat.beq f 74 || Nat.beq f 96 || Nat.beq f 32 || Nat.beq f 79
noncomputable def cd (n:Nat):aU:=cS Tryz.prog nE KtB.kt 100000 n
noncomputable def il (tab:l9) (n k:Nat):bJ:=DI Tryz.prog nE KtB.kt 100000 Ko tab n k
noncomputable def bu (n:Nat) (f nt:Nat):Cx:=⟨Tryz.prog,cd n,100000,f,nt,KtB.kt f,none⟩

def Gz:List Nat→Code→Code
 | [],c=>c
 | x :: p,c=>match c with
   | .seq a b=>match x with
     | 0=>Gz p a
     | _=>Gz p b
   | .cond _ a b=>match x with
     | 0=>Gz p a
     | _=>Gz p b
   | .block _ b=>Gz p b
   | .loop b=>Gz p b
   | .scope b=>Gz p b
   | .rangeFunc _ _ a b=>match x with
     | 0=>Gz p a
     | _=>Gz p b
   | c=>c
noncomputable def part (f:Func) (p:List Nat):Code:=Gz p (bM f)
theorem A3 (g:FuncId) (h:Ko g=false) (c:aU) (args:List AV) (H:aa):nE c g args H=none:=by
 unfold Ko at h
 rw[Bool.or_eq_false_iff,Bool.or_eq_false_iff,Bool.or_eq_false_iff,Bool.or_eq_false_iff,Bool.or_eq_false_iff,Bool.or_eq_false_iff] at h
 obtain ⟨⟨⟨⟨⟨⟨h0,h1⟩,h2⟩,h3⟩,h4⟩,h5⟩,h6⟩:=h
 unfold nE H4
 rw[h2,h3,h4,h6,h5,h1,cond_false,cond_false,cond_false,cond_false,cond_false,cond_false]
 simp only[Ba]
 have:Nat.beq 15 g=false:=by
  cases hb:Nat.beq 15 g with
  | false=>rfl
  | true=>have:=Nat.eq_of_beq_eq_true hb;subst this;simp at h0
 rw[this];rfl
theorem wv (n:Nat):∃ x,cS Tryz.prog nE KtB.kt 100000 n .mode [] []=some x:=by
 cases n<;>exact ⟨_,rfl⟩
theorem HW (hN:cH Tryz.prog) (hD:ir Tryz.prog) (hW:cj Tryz.prog ⟨15,[],.bool true⟩):vt Tryz.prog nE :=
 fun call hC f args H v H' h hne p M w cargs hH hA=>by
  unfold nE at h
  cases hb:Nat.beq f 68 with
  | true =>
    rw[hb,cond_true] at h
    have:=Nat.eq_of_beq_eq_true hb
    subst this
    exact zJ hN hD KtB.kt 100000 hC h hH hA
  | false =>
    rw[hb,cond_false] at h
    cases h74:Nat.beq f 74 with
    | true =>
      rw[h74,cond_true] at h
      have:=Nat.eq_of_beq_eq_true h74
      subst this
      exact CI KM h hne hH hA
    | false =>
      rw[h74,cond_false] at h
      cases h96:Nat.beq f 96 with
      | true =>
        rw[h96,cond_true] at h
        have:=Nat.eq_of_beq_eq_true h96
        subst this
        exact CI KN h hne hH hA
      | false =>
        rw[h96,cond_false] at h
        cases h79:Nat.beq f 79 with
        | true =>
          rw[h79,cond_true] at h
          have:=Nat.eq_of_beq_eq_true h79
          subst this
          exact DV hN hD YtigmfpmabgekoaaGreat.Known.Cr KtB.kt 100000 hC h hH hA
        | false =>
        rw[h79,cond_false] at h
        cases h32:Nat.beq f 32 with
        | true =>
          rw[h32,cond_true] at h
          have:=Nat.eq_of_beq_eq_true h32
          subst this
          exact Ig hN hD KtB.kt 100000 (Ee hN hD KtB.kt 100000 63 hC) h hH hA
        | false =>
          rw[h32,cond_false] at h
          exact H5 _ (fun e he=>by
           simp only[List.mem_singleton] at he
           subst he
           exact hW) call hC f args H v H' h hne p M w cargs hH hA
theorem eP (tab:l9) (n k:Nat) (ht:∀ k,tab.Ok (cd (n+k))):(il tab n k).Ok (cd (n+k)):=Cf _ _ _ _ _ _ _ A3 (fun k=>wv _) ht k
theorem eA (n k:Nat):(il aI n k).Ok (cd (n+k)):=eP _ _ _ (fun k=>aO _)
theorem aC (n:Nat):(il aI n 0).Ok (cd n):=eA n 0
theorem LG {f:FuncId} {fn:Func} {n:Nat} (hf:Tryz.prog.funcs[f]?=some fn) (hb:fn.body.isSome=true) (hn:Ko f=false) {args:List HV} (hle:Nat.ble args.length fn.ntmps=true) {H:aa} {callR:bJ} (hC:callR.Ok (cd n)) {bl:gH} (hB:bl.Ok (bu n f fn.ntmps) (bM fn)) {rg:r7} (hR:rg.Ok (bu n f fn.ntmps) (bM fn)) {y:HV×aa}
 (h:(bt Tryz.prog (cd n) 100000 f fn (KtB.kt f) callR bl rg args H).run=some y):cd (n+1) (.fn f) (r8 args) H=some (y.1.1,y.2) :=
 yp hf hb (A3 f hn _ _ _) hle hC hB hR h
theorem LF {f:FuncId} {fn:Func} {n:Nat} (hf:Tryz.prog.funcs[f]?=some fn) (hb:fn.body.isSome=true) (hn:Ko f=false) {args:List HV} (hle:Nat.ble args.length fn.ntmps=true) {H:aa} {callR:bJ} {bl:gH} {rg:r7} {T:Tr (HV×aa)}
 (e:bt Tryz.prog (cd n) 100000 f fn (KtB.kt f) callR bl rg args H=T) (hC:callR.Ok (cd n)) (hB:bl.Ok (bu n f fn.ntmps) (bM fn)) (hR:rg.Ok (bu n f fn.ntmps) (bM fn)) {y:HV×aa} (hr:T.run=some y):cd (n+1) (.fn f) (r8 args) H=some (y.1.1,y.2) :=
 LG hf hb hn hle hC hB hR (by rw[e];exact hr)
theorem LD {n f nt:Nat} {c:Code} {callR:bJ} (hC:callR.Ok (cd n)) {bl:gH} (hB:bl.Ok (bu n f nt) c) {rg:r7} (hR:rg.Ok (bu n f nt) c) {fr:av} {H:aa} {x:dG} (h:(aK (bu n f nt) callR bl rg c (hints fr) H).run=some x):exec (bu n f nt) c fr H=some x.st:=by
 have:=mn hC c hB hR _ _ _ h
 rw[aF] at this
 exact this

def lY (bl:gH) (id0:Nat):gH:=fun id fr H=>cond (Nat.beq id id0) (some .bad) (bl id fr H)
theorem eC {bl:gH} {cx:Cx} {c:Code} (h:bl.Ok cx c) (id0:Nat):(lY bl id0).Ok cx c:=by
 intro id b hm fr H t y ht hy
 unfold lY at ht
 cases hb:Nat.beq id id0 with
 | true =>
   rw[hb,cond_true,Option.some.injEq] at ht
   subst ht
   exact (Tr.ae hy).elim
 | false =>
   rw[hb,cond_false] at ht
   exact h id b hm fr H t y ht hy
theorem LC {n f nt:Nat} {c:Code} {callR:bJ} {bl:gH} {rg:r7} {fr:av} {H:aa} {T:Tr dG} (e:aK (bu n f nt) callR bl rg c (hints fr) H=T) (hC:callR.Ok (cd n)) (hB:bl.Ok (bu n f nt) c) (hR:rg.Ok (bu n f nt) c) {x:dG} (hr:T.run=some x):exec (bu n f nt) c fr H=some x.st :=
 LD hC hB hR (by rw[e];exact hr)
section
variable {n f nt:Nat} {c:Code} {callR:bJ} {bl:gH} {rg:r7}
end
def gB (p:Nat→Bool) (N:Nat):Bool:=decide (fN p N 0<N)
theorem ky {p:Nat→Bool} {N:Nat} (h:gB p N=true):fN p N 0<N:=by simpa[gB] using h
theorem vK {p:Nat→Bool} {N:Nat} (h:gB p N=false):fN p N 0=N:=by
 have h1:=(m9 p N 0).2.1
 have:¬ fN p N 0<N:=by simpa[gB] using h
 omega
theorem dv (p:Nat→Bool) (N:Nat):gB p N=true↔∃ i,i<N∧p i=true:=by
 obtain ⟨h1,h2,h3,h4⟩:=m9 p N 0
 constructor
 · intro h
   have:=ky h
   exact ⟨_,this,h4 (by omega)⟩
 · rintro ⟨i,hi,hp⟩
   unfold gB
   rw[decide_eq_true_eq]
   apply Nat.lt_of_not_le
   intro hc
   have:=h3 i (by omega) (by omega)
   rw[this] at hp;cases hp
end Go.Eng
end
section
namespace Go.Eng
open Go.Proofs
theorem aX {f:FuncId} {fn:Func} {n:Nat} (hf:Tryz.prog.funcs[f]?=some fn) (hb:fn.body.isSome=true) (hn:Ko f=false) {args:List HV} (hle:Nat.ble args.length fn.ntmps=true) {H:aa} {callR:bJ} {bl:gH} {rg:r7} {T:Tr (HV×aa)}
 (e:bt Tryz.prog (cd n) 100000 f fn (KtB.kt f) callR bl rg args H=T) (hC:callR.Ok (cd n)) (hB:bl.Ok (bu n f fn.ntmps) (bM fn)) (hR:rg.Ok (bu n f fn.ntmps) (bM fn)) {v:AV} {H':aa} (h:T.all fun y=>y.1.1=v∧y.2=H'):cd (n+1) (.fn f) (r8 args) H=some (v,H'):=by
 obtain ⟨y,h1,h2,h3⟩:=h
 have:=LF hf hb hn hle e hC hB hR h1
 rw[this,h2,h3]
theorem aE {n f nt:Nat} {c:Code} {callR:bJ} {bl:gH} {rg:r7} {fr:av} {H:aa} {T:Tr dG} (e:aK (bu n f nt) callR bl rg c (hints fr) H=T) (hC:callR.Ok (cd n)) (hB:bl.Ok (bu n f nt) c) (hR:rg.Ok (bu n f nt) c) {Q:Ex×av×aa→Prop} (h:T.all fun x=>Q x.st):∃ x,exec (bu n f nt) c fr H=some x∧Q x:=by
 obtain ⟨x,h1,h2⟩:=h
 exact ⟨_,LC e hC hB hR h1,h2⟩
section
variable {n f nt:Nat} {c:Code} {callR:bJ} {bl:gH} {rg:r7}
theorem rn (id:Nat) (F:Nat→av) (G:Nat→aa) (N:Nat) (p:Nat→Bool) (X:Nat→av×aa) (Y:av×aa) (hN:N<99999)
 (hs:∀ j,j<N→∃ x,exec (bu n f nt) c (F j) (G j)=some x∧if p j=true then x=(.ret,X j) else x.1=.normal∧tidy (ar (G 0)) x.2.1 x.2.2=(F (j+1),G (j+1)))
 (he:exec (bu n f nt) c (F N) (G N)=some (.exit id,Y)):exec (bu n f nt) (.block id (.loop c)) (F 0) (G 0)=some (cond (gB p N) (.ret,X (fN p N 0)) (.normal,Y)):=by
 have key:=ng (body:=exec (bu n f nt) c) (n:=ar (G 0)) F G N p (fun j=>if j<N then (.ret,X j) else (.exit id,Y))
  (fun j hj hp=>by
    obtain ⟨x,h1,h2⟩:=hs j hj
    rw[if_neg (by rw[hp];simp)] at h2
    obtain ⟨e,f1,g1⟩:=x
    obtain ⟨rfl,h3⟩:=h2
    exact ⟨_,_,h1,h3⟩)
  (fun j hj hp=>by
    obtain ⟨x,h1,h2⟩:=hs j hj
    rw[if_pos hp] at h2
    subst h2
    rw[if_pos hj]
    exact ⟨h1,by simp⟩)
  (by
    rw[if_neg (by omega)]
    exact ⟨he,by simp⟩) N 0 100000 (by omega) (by omega)
 cases hc:gB p N with
 | true =>
   have:=ky hc
   rw[if_pos this] at key
   exact eL (fun id' h=>by cases h) key
 | false =>
   have:=vK hc
   rw[if_neg (by omega)] at key
   exact lR key
end
theorem jz {n f nt:Nat} {c:Code} (id:Nat) (F:Nat→av) (G:Nat→aa) (N:Nat) (Y:av×aa) (hN:N<99999)
 (hs:∀ j,j<N→∃ x,exec (bu n f nt) c (F j) (G j)=some x∧(x.1=.normal∧tidy (ar (G 0)) x.2.1 x.2.2=(F (j+1),G (j+1))))
 (he:exec (bu n f nt) c (F N) (G N)=some (.exit id,Y)):exec (bu n f nt) (.block id (.loop c)) (F 0) (G 0)=some (.normal,Y):=by
 have:=rn id F G N (fun _=>false) (fun _=>Y) Y hN (fun j hj=>by
  obtain ⟨x,h1,h2⟩:=hs j hj
  exact ⟨x,h1,by rw[if_neg (by simp)];exact h2⟩) he
 have h0:gB (fun _=>false) N=false:=by
  cases h:gB (fun _=>false) N with
  | false=>rfl
  | true=>obtain ⟨i,_,h2⟩:=(dv _ _).1 h;cases h2
 rw[h0] at this
 exact this
end Go.Eng
end
section
namespace Go.Eng
open Go.Proofs
noncomputable def an:bx:=⟨false,[]⟩
noncomputable def Dz (l:Nat) (z:Nat→Int) (j:Int):av:=[(0,ay 5 l z),(1,.fn (.func 58) [] []),(7,.int .i64 (Int.ofNat l)),(8,.int .i64 j)]
noncomputable def Rs (L:AV) (i:Int):List AV→Option (Prop×AV)
 | [a,.fn (.func 58) [] []]=>some (a=L,.int .i64 i)
 | _=>none
noncomputable def Rt (L:AV) (b:Bool):List AV→Option (Prop×AV)
 | [a,.fn (.func 58) [] []]=>some (a=L,.bool b)
 | _=>none
theorem t84 (n:Nat) (l:Nat) (z:Nat→Int) (H:aa) (j:Int):aK (bu (n+6) 84 19) (il aI (n+1) 5) aP aQ (part Tryz.f84 [1,0,1,0,0]) (hints (Dz l z j)) (an::H) =
 Tr.ite (cn j (Int.ofNat l)) (Tr.req (cU j l) (Tr.req (bB (aw 0 j 5) (aH l 5)) (Tr.req (bB (ak (aw 0 j 5) 1) (aH l 5)) (Tr.req (bB (ak (aw 0 j 5) 2) (aH l 5)) (Tr.req (bB (ak (aw 0 j 5) 3) (aH l 5)) (Tr.req (bB (ak (aw 0 j 5) 4) (aH l 5)) (Tr.req (cU (Int.ofNat 0) 4) (Tr.ite (cn (z (aw 0 j 5)) (Int.ofNat 0)) (Tr.ok (Ex.ret,[(4,AV.int .i64 j,none)],an::H)) (Tr.ite (cn (Int.ofNat 10000) (z (aw 0 j 5))) (Tr.ok (Ex.ret,[(4,AV.int .i64 j,none)],an::H)) (Tr.req (cU (Int.ofNat 1) 4) (Tr.ite (cn (z (ak (aw 0 j 5) 1)) (Int.ofNat 0)) (Tr.ok (Ex.ret,[(4,AV.int .i64 j,none)],an::H)) (Tr.ite (cn (Int.ofNat 10000) (z (ak (aw 0 j 5) 1))) (Tr.ok (Ex.ret,[(4,AV.int .i64 j,none)],an::H)) (Tr.req (cU (Int.ofNat 2) 4) (Tr.ite (cn (z (ak (aw 0 j 5) 2)) (Int.ofNat 0)) (Tr.ok (Ex.ret,[(4,AV.int .i64 j,none)],an::H)) (Tr.ite (cn (Int.ofNat 10000) (z (ak (aw 0 j 5) 2))) (Tr.ok (Ex.ret,[(4,AV.int .i64 j,none)],an::H)) (Tr.req (cU (Int.ofNat 3) 4) (Tr.ite (cn (z (ak (aw 0 j 5) 3)) (Int.ofNat 0)) (Tr.ok (Ex.ret,[(4,AV.int .i64 j,none)],an::H)) (Tr.ite (cn (Int.ofNat 10000) (z (ak (aw 0 j 5) 3))) (Tr.ok (Ex.ret,[(4,AV.int .i64 j,none)],an::H)) (Tr.ite (cn (z (ak (aw 0 j 5) 1)) (z (aw 0 j 5))) (Tr.ok (Ex.ret,[(4,AV.int .i64 j,none)],an::H)) (Tr.ite (cn (z (ak (aw 0 j 5) 3)) (z (ak (aw 0 j 5) 2))) (Tr.ok (Ex.ret,[(4,AV.int .i64 j,none)],an::H)) (Tr.req (cU (Int.ofNat 0) 1) (Tr.ite (cn (z (ak (aw 0 j 5) 4)) (Int.ofNat 0)) (Tr.ok (Ex.ret,[(4,AV.int .i64 j,none)],an::H)) (Tr.ite (cn (Int.ofNat 100000) (z (ak (aw 0 j 5) 4))) (Tr.ok (Ex.ret,[(4,AV.int .i64 j,none)],an::H)) (Tr.ok (Ex.normal,[(0,ay 5 l z,none),(1,AV.fn (Fn.func 58) [] [],none),(7,AV.int .i64 (Int.ofNat l),none),(8,AV.int .i64 (aS .i64 j (Int.ofNat 1)),none)],an::H))))))))))))))))))))))))) (Tr.ok (Ex.exit 0,[(0,ay 5 l z,none),(1,AV.fn (Fn.func 58) [] [],none),(7,AV.int .i64 (Int.ofNat l),none),(8,AV.int .i64 j,none),(9,AV.bool false,some 1)],an::H)):=by kernel_rfl
theorem Ut (n:Nat) (l:Nat) (z:Nat→Int) (H:aa) (i:Int) (e:Bool):bt Tryz.prog (cd (n+6)) 100000 84 Tryz.f84 (KtB.kt 84) (il aI (n+6) 0) (dJ aP 0 (Dz l z 0) (an::H) (.ite e (.ok (.ret,[(4,.int .i64 i,none)],an::H)) (.ok (.normal,hints (Dz l z (Int.ofNat l)++[(9,.bool false)]),an::H)))) aQ [(ay 5 l z,none),(.fn (.func 58) [] [],none)] H =
 (fun (Z0:av)=>Tr.reqP (Z0=Z0∧an::H=an::H) (Tr.ite e (Tr.ok ((AV.int .i64 i,none),H)) (Tr.ok ((AV.int .i64 (Int.negSucc 0),some 1),H)))) [(0,ay 5 l z),(1,AV.fn (Fn.func 58) [] []),(7,AV.int .i64 (Int.ofNat l)),(8,AV.int .i64 (Int.ofNat 0))]:=by kernel_rfl
theorem Un (n:Nat) (l:Nat) (z:Nat→Int) (H:aa) (i:Int):bt Tryz.prog (cd (n+7)) 100000 60 Tryz.f60 (KtB.kt 60) (il (iS aI 84 (Rs (ay 5 l z) i)) (n+7) 0) aP aQ [(ay 5 l z,none),(.fn (.func 58) [] [],none)] H =
 Tr.reqP (ay 5 l z=ay 5 l z) (Tr.ok ((AV.bool (mI (Int.ofNat 0) i),none),H)):=by kernel_rfl
theorem Ue (n:Nat) (l:Nat) (z:Nat→Int) (H:aa) (b:Bool):bt Tryz.prog (cd (n+8)) 100000 20 Tryz.f20 (KtB.kt 20) (il (iS aI 60 (Rt (ay 5 l z) b)) (n+8) 0) aP aQ [(ay 5 l z,none)] H =
 Tr.ite (c5 (Int.ofNat l) (Int.ofNat 0)) (Tr.ok ((AV.int .i64 (Int.ofNat 6),some 1),H)) (Tr.ite (cn (Int.ofNat 14) (Int.ofNat l)) (Tr.ok ((AV.int .i64 (Int.ofNat 6),some 1),H)) (Tr.reqP (ay 5 l z=ay 5 l z) (Tr.ite b (Tr.ok ((AV.int .i64 (Int.ofNat 3),some 1),H)) (Tr.ok ((AV.int .i64 (Int.ofNat 0),some 1),H))))):=by kernel_rfl
theorem QF (n:Nat) (l:Nat) (z:Nat→Int) (H:aa):bt Tryz.prog (cd (n+8)) 100000 20 Tryz.f20 (KtB.kt 20) (il (iS aI 60 (fun _=>none)) (n+8) 0) aP aQ [(ay 5 l z,none)] H =
 Tr.ite (c5 (Int.ofNat l) (Int.ofNat 0)) (Tr.ok ((AV.int .i64 (Int.ofNat 6),some 1),H)) (Tr.ite (cn (Int.ofNat 14) (Int.ofNat l)) (Tr.ok ((AV.int .i64 (Int.ofNat 6),some 1),H)) Tr.bad):=by kernel_rfl
def jZ (z:Nat→Int) (j:Nat):Bool:=!(decide (0≤z (j*5)) && (decide (z (j*5)≤z (j*5+1)) && (decide (z (j*5+1)≤10000) && (decide (0≤z (j*5+2)) && (decide (z (j*5+2)≤z (j*5+3)) && (decide (z (j*5+3)≤10000) && (decide (0≤z (j*5+4)) && decide (z (j*5+4)≤100000))))))))
def bD (l:Nat) (z:Nat→Int):Int:=if l=0∨14<l then 6 else if gB (jZ z) l=true then 3 else 0
theorem RK:∀ b,(0,b) ∈ aV (bM Tryz.f84)→b=.loop (part Tryz.f84 [1,0,1,0,0]):=fM (by kernel_rfl)
section
variable (n:Nat) (l:Nat) (z:Nat→Int) (H:aa)
theorem RY (hl:l≤1000):cd (n+7) (.fn 84) [ay 5 l z,.fn (.func 58) [] []] H=some (.int .i64 (cond (gB (jZ z) l) ((fN (jZ z) l 0:Nat):Int) (-1)),H):=by
 have lp:=rn (n:=n+6) (f:=84) (nt:=19) (c:=part Tryz.f84 [1,0,1,0,0]) 0 (fun j=>Dz l z (j:Int)) (fun _=>an::H) l (jZ z) (fun j=>([(4,.int .i64 (j:Int))],an::H)) (Dz l z (Int.ofNat l)++[(9,.bool false)],an::H) (by omega) (fun j hj=>?_) ?_
 · refine aX (n:=n+6) Tryz.func84 rfl rfl rfl (Ut n l z H ((fN (jZ z) l 0:Nat):Int) (gB (jZ z) l)) (eA (n+6) 0) (bg (af _ _) RK (fun x hx=>?_)) (ag _ _) ?_
   · refine Eq.trans lp ?_
     rcases Tr.gu hx with ⟨hc,hx⟩ | ⟨hc,hx⟩
     · rw[← Tr.ab hx,hc];rfl
     · rw[← Tr.ab hx,hc];simp only[dG.st,aF];rfl
   · repeat' first | (refine Tr.al (fun hc=>?_) (fun hc=>?_)<;>(try simp (disch:=omega) only[nV,nW] at hc)<;>try omega) | (refine Tr.bj ?_ ?_;· (try simp (disch:=omega) only[nV,nW]);try omega) | (refine Tr.aB ?_ ?_;· first | exact trivial | rfl | exact ⟨rfl,rfl⟩ | exact ⟨rfl,rfl,rfl⟩ | (simp (disch:=omega) only[nV,nW];done) | ((try simp (disch:=omega) only[nV,nW]);omega)) | fail
     all_goals refine Tr.ao ⟨?_,rfl⟩
     all_goals rw[hc];rfl
 · have ej:aS .i64 (j:Int) (Int.ofNat 1)=((j+1:Nat):Int):=by rw[cD,show Int.ofNat 1=1 from rfl];exact cq (by omega) (by omega)
   have ei:aw 0 (j:Int) 5=j*5:=by rw[bA];omega
   have hs:jZ z j=!(decide (0≤z (j*5)) && (decide (z (j*5)≤z (j*5+1)) && (decide (z (j*5+1)≤10000) && (decide (0≤z (j*5+2)) && (decide (z (j*5+2)≤z (j*5+3)) && (decide (z (j*5+3)≤10000) && (decide (0≤z (j*5+4)) && decide (z (j*5+4)≤100000)))))))):=rfl
   refine aE (t84 n l z H (j:Int)) (eA (n+1) 5) (af _ _) (ag _ _) ?_
   repeat' first | (refine Tr.al (fun hc=>?_) (fun hc=>?_)<;>(try simp (disch:=omega) only[nV,nW,ei] at hc)<;>try omega) | (refine Tr.bj ?_ ?_;· (try simp (disch:=omega) only[nV,nW,ei]);try omega) | (refine Tr.aB ?_ ?_;· first | exact trivial | rfl | exact ⟨rfl,rfl⟩ | exact ⟨rfl,rfl,rfl⟩ | (simp (disch:=omega) only[nV,nW,ei];done) | ((try simp (disch:=omega) only[nV,nW,ei]);omega)) | fail
   all_goals refine Tr.ao ?_
   all_goals first
    | (rw[if_pos (by rw[hs];simp;omega)];rfl)
    | (rw[if_neg (by rw[hs];simp;omega)];exact ⟨rfl,by rw[ej];rfl⟩)
    | fail
 · obtain ⟨x,h1,rfl⟩:=aE (Q:=fun x=>x=(.exit 0,Dz l z (Int.ofNat l)++[(9,.bool false)],an::H)) (t84 n l z H (Int.ofNat l)) (eA (n+1) 5) (af _ _) (ag _ _) (by
    exact wF)
   exact h1
theorem RT (hl:l≤1000):cd (n+8) (.fn 60) [ay 5 l z,.fn (.func 58) [] []] H=some (.bool (gB (jZ z) l),H):=by
 refine aX (n:=n+7) Tryz.func60 rfl rfl rfl (Un n l z H (cond (gB (jZ z) l) ((fN (jZ z) l 0:Nat):Int) (-1))) (eP _ (n+7) 0 (fun k=>dY (aO _) (fun args p v hg hp H=>?_))) (af _ _) (ag _ _) ?_
 · unfold Rs at hg
   split at hg
   · simp only[nP] at hg
     obtain ⟨rfl,rfl⟩:=hg
     subst hp
     rw[show n+7+k=n+k+7 by omega]
     exact RY _ l z H hl
   · cases hg
 · repeat' first | (refine Tr.al (fun hc=>?_) (fun hc=>?_)<;>(try simp (disch:=omega) only[nV,nW] at hc)<;>try omega) | (refine Tr.bj ?_ ?_;· (try simp (disch:=omega) only[nV,nW]);try omega) | (refine Tr.aB ?_ ?_;· first | exact trivial | rfl | exact ⟨rfl,rfl⟩ | exact ⟨rfl,rfl,rfl⟩ | (simp (disch:=omega) only[nV,nW];done) | ((try simp (disch:=omega) only[nV,nW]);omega)) | fail
   all_goals refine Tr.ao ⟨?_,rfl⟩
   rw[jb]
   cases gB (jZ z) l
   · rfl
   · simp
theorem Rj:cd (n+9) (.fn 20) [ay 5 l z] H=some (.int .i64 (bD l z),H):=by
 unfold bD
 by_cases hl:l=0∨14<l
 · rw[if_pos hl]
   refine aX (n:=n+8) Tryz.func20 rfl rfl rfl (QF n l z H) (eP _ (n+8) 0 (fun k=>dY (aO _) (fun args p v hg hp H=>by cases hg))) (af _ _) (ag _ _) ?_
   exact wF
 · rw[if_neg hl]
   refine aX (n:=n+8) Tryz.func20 rfl rfl rfl (Ue n l z H (gB (jZ z) l)) (eP _ (n+8) 0 (fun k=>dY (aO _) (fun args p v hg hp H=>?_))) (af _ _) (ag _ _) ?_
   · unfold Rt at hg
     split at hg
     · simp only[nP] at hg
       obtain ⟨rfl,rfl⟩:=hg
       subst hp
       rw[show n+8+k=n+k+8 by omega]
       exact RT _ l z H (by omega)
     · cases hg
   · cases hx:gB (jZ z) l
     · repeat' first | (refine Tr.al (fun hc=>?_) (fun hc=>?_)<;>(try simp (disch:=omega) only[nV,nW,hx] at hc)<;>try omega) | (refine Tr.bj ?_ ?_;· (try simp (disch:=omega) only[nV,nW,hx]);try omega) | (refine Tr.aB ?_ ?_;· first | exact trivial | rfl | exact ⟨rfl,rfl⟩ | exact ⟨rfl,rfl,rfl⟩ | (simp (disch:=omega) only[nV,nW,hx];done) | ((try simp (disch:=omega) only[nV,nW,hx]);omega)) | fail
       all_goals first
        | exact Tr.ao ⟨rfl,rfl⟩
        | fail
     · repeat' first | (refine Tr.al (fun hc=>?_) (fun hc=>?_)<;>(try simp (disch:=omega) only[nV,nW,hx] at hc)<;>try omega) | (refine Tr.bj ?_ ?_;· (try simp (disch:=omega) only[nV,nW,hx]);try omega) | (refine Tr.aB ?_ ?_;· first | exact trivial | rfl | exact ⟨rfl,rfl⟩ | exact ⟨rfl,rfl,rfl⟩ | (simp (disch:=omega) only[nV,nW,hx];done) | ((try simp (disch:=omega) only[nV,nW,hx]);omega)) | fail
       all_goals first
        | exact Tr.ao ⟨rfl,rfl⟩
        | fail
end
end Go.Eng
end
section
namespace Go.Eng
open Go.Proofs
noncomputable def Dx (l:Nat) (z:Nat→Int) (j:Int):av:=[(0,ay 5 l z),(3,.int .i64 j)]
noncomputable def NF (L:AV) (e:Int):List AV→Option (Prop×AV)
 | [a]=>some (a=L,.int .i64 e)
 | _=>none
theorem t21 (n:Nat) (l:Nat) (z:Nat→Int) (H:aa) (j:Int):aK (bu (n+2) 21 50) (il aI (n+1) 1) aP aQ (part Tryz.f21 [1,1,0,1,0,0]) (hints (Dx l z j)) (an::H) =
 (fun (Z0:aT)=>Tr.ite (cn j (Int.ofNat l)) (Tr.req (cU j l) (Tr.req (bB (aw 0 j 5) (aH l 5)) (Tr.req (bB (ak (aw 0 j 5) 1) (aH l 5)) (Tr.ite (mI (Int.ofNat 0) (z (aw 0 j 5))) (Tr.ite (mI (z (aw 0 j 5)) (z (ak (aw 0 j 5) 1))) (Tr.ite (bL (mI (z (ak (aw 0 j 5) 1)) (Int.ofNat 10000))) (Tr.ok (Ex.ret,Z0,an::H)) (Tr.req (cU j l) (Tr.req (bB (ak (aw 0 j 5) 2) (aH l 5)) (Tr.req (bB (ak (ak (aw 0 j 5) 2) 1) (aH l 5)) (Tr.ite (mI (Int.ofNat 0) (z (ak (aw 0 j 5) 2))) (Tr.ite (mI (z (ak (aw 0 j 5) 2)) (z (ak (ak (aw 0 j 5) 2) 1))) (Tr.ite (bL (mI (z (ak (ak (aw 0 j 5) 2) 1)) (Int.ofNat 10000))) (Tr.ok (Ex.ret,Z0,an::H)) (Tr.req (cU j l) (Tr.req (bB (ak (aw 0 j 5) 4) (aH l 5)) (Tr.ite (cn (z (ak (aw 0 j 5) 4)) (Int.ofNat 0)) (Tr.ok (Ex.ret,Z0,an::H)) (Tr.req (cU j l) (Tr.req (bB (ak (aw 0 j 5) 4) (aH l 5)) (Tr.ite (cn (Int.ofNat 100000) (z (ak (aw 0 j 5) 4))) (Tr.ok (Ex.ret,Z0,an::H)) (Tr.ok (Ex.normal,[(0,ay 5 l z,none),(3,AV.int .i64 (aS .i64 j (Int.ofNat 1)),none)],an::H))))))))) (Tr.ok (Ex.ret,Z0,an::H))) (Tr.ok (Ex.ret,Z0,an::H))))))) (Tr.ok (Ex.ret,Z0,an::H))) (Tr.ok (Ex.ret,Z0,an::H)))))) (Tr.ok (Ex.exit 0,[(0,ay 5 l z,none),(3,AV.int .i64 j,none),(15,AV.bool false,some 1)],an::H))) [(2,AV.int .i64 (Int.ofNat 3),some 1)]:=by kernel_rfl
theorem Uf (n:Nat) (l:Nat) (z:Nat→Int) (H:aa) (e:Bool):bt Tryz.prog (cd (n+2)) 100000 21 Tryz.f21 (KtB.kt 21) (il aI (n+2) 0) (dJ aP 0 (Dx l z 0) (an::H) (.ite e (.ok (.ret,[(2,.int .i64 3,none)],an::H)) (.ok (.normal,hints (Dx l z (Int.ofNat l)++[(15,.bool false)]),an::H)))) aQ [(ay 5 l z,none)] H =
 Tr.ite (cn (Int.ofNat l) (Int.ofNat 1)) (Tr.ok ((AV.int .i64 (Int.ofNat 6),some 1),H)) (Tr.ite (cn (Int.ofNat 14) (Int.ofNat l)) (Tr.ok ((AV.int .i64 (Int.ofNat 6),some 1),H)) (Tr.reqP ([(0,ay 5 l z),(3,AV.int .i64 (Int.ofNat 0))]=[(0,ay 5 l z),(3,AV.int .i64 (Int.ofNat 0))]∧an::H=an::H) (Tr.ite e (Tr.ok ((AV.int .i64 (Int.ofNat 3),none),H)) (Tr.ok ((AV.int .i64 (Int.ofNat 0),some 1),H))))):=by kernel_rfl
theorem QG (n:Nat) (l:Nat) (z:Nat→Int) (H:aa):bt Tryz.prog (cd (n+2)) 100000 21 Tryz.f21 (KtB.kt 21) (il aI (n+2) 0) (lY aP 0) aQ [(ay 5 l z,none)] H =
 Tr.ite (cn (Int.ofNat l) (Int.ofNat 1)) (Tr.ok ((AV.int .i64 (Int.ofNat 6),some 1),H)) (Tr.ite (cn (Int.ofNat 14) (Int.ofNat l)) (Tr.ok ((AV.int .i64 (Int.ofNat 6),some 1),H)) Tr.bad):=by kernel_rfl
def bE (z:Nat→Int) (j:Nat):Int:=z (j*5+1)-z (j*5+3)
def bG (z:Nat→Int) (j:Nat):Int:=z (j*5)-z (j*5+2)
theorem RB:∀ b,(0,b) ∈ aV (bM Tryz.f21)→b=.loop (part Tryz.f21 [1,1,0,1,0,0]):=fM (by kernel_rfl)
theorem bI {l:Nat} {z:Nat→Int} (h:bD l z=0):(1≤l∧l≤14)∧∀ j,j<l→0≤z (j*5)∧z (j*5)≤z (j*5+1)∧z (j*5+1)≤10000∧0≤z (j*5+2)∧z (j*5+2)≤z (j*5+3)∧z (j*5+3)≤10000∧0≤z (j*5+4)∧z (j*5+4)≤100000:=by
 unfold bD at h
 by_cases hl:l=0∨14<l
 · rw[if_pos hl] at h;exact absurd h (by decide)
 rw[if_neg hl] at h
 cases he:gB (jZ z) l with
 | true=>rw[he,if_pos rfl] at h;exact absurd h (by decide)
 | false =>
   refine ⟨by omega,fun j hj=>?_⟩
   have:jZ z j=false:=by
    cases e:jZ z j with
    | false=>rfl
    | true=>rw[(dv _ _).2 ⟨j,hj,e⟩] at he;cases he
   simpa[jZ] using this
section
variable (n:Nat) (l:Nat) (z:Nat→Int) (H:aa) (q:Int)
theorem Rk:cd (n+3) (.fn 21) [ay 5 l z] H=some (.int .i64 (bD l z),H):=by
 unfold bD
 by_cases hl:l=0∨14<l
 · rw[if_pos hl]
   refine aX (n:=n+2) Tryz.func21 rfl rfl rfl (QG n l z H) (eA (n+2) 0) (eC (af _ _) 0) (ag _ _) ?_
   exact wF
 rw[if_neg hl]
 have lp:=rn (n:=n+2) (f:=21) (nt:=50) (c:=part Tryz.f21 [1,1,0,1,0,0]) 0 (fun j=>Dx l z (j:Int)) (fun _=>an::H) l (jZ z) (fun j=>([(2,.int .i64 3)],an::H)) (Dx l z (Int.ofNat l)++[(15,.bool false)],an::H) (by omega) (fun j hj=>?_) ?_
 · refine aX (n:=n+2) Tryz.func21 rfl rfl rfl (Uf n l z H (gB (jZ z) l)) (eA (n+2) 0) (bg (af _ _) RB (fun x hx=>?_)) (ag _ _) ?_
   · refine Eq.trans lp ?_
     rcases Tr.gu hx with ⟨hc,hx⟩ | ⟨hc,hx⟩
     · rw[← Tr.ab hx,hc];rfl
     · rw[← Tr.ab hx,hc];simp only[dG.st,aF];rfl
   · cases hx:gB (jZ z) l
     · repeat' first | (refine Tr.al (fun hc=>?_) (fun hc=>?_)<;>(try simp (disch:=omega) only[nV,nW,hx] at hc)<;>try omega) | (refine Tr.bj ?_ ?_;· (try simp (disch:=omega) only[nV,nW,hx]);try omega) | (refine Tr.aB ?_ ?_;· first | exact trivial | rfl | exact ⟨rfl,rfl⟩ | exact ⟨rfl,rfl,rfl⟩ | (simp (disch:=omega) only[nV,nW,hx];done) | ((try simp (disch:=omega) only[nV,nW,hx]);omega)) | fail
       all_goals first
        | exact Tr.ao ⟨rfl,rfl⟩
        | fail
     · repeat' first | (refine Tr.al (fun hc=>?_) (fun hc=>?_)<;>(try simp (disch:=omega) only[nV,nW,hx] at hc)<;>try omega) | (refine Tr.bj ?_ ?_;· (try simp (disch:=omega) only[nV,nW,hx]);try omega) | (refine Tr.aB ?_ ?_;· first | exact trivial | rfl | exact ⟨rfl,rfl⟩ | exact ⟨rfl,rfl,rfl⟩ | (simp (disch:=omega) only[nV,nW,hx];done) | ((try simp (disch:=omega) only[nV,nW,hx]);omega)) | fail
       all_goals first
        | exact Tr.ao ⟨rfl,rfl⟩
        | fail
 · have ej:aS .i64 (j:Int) (Int.ofNat 1)=((j+1:Nat):Int):=by rw[cD,show Int.ofNat 1=1 from rfl];exact cq (by omega) (by omega)
   have ei:aw 0 (j:Int) 5=j*5:=by rw[bA];omega
   have hs:jZ z j=!(decide (0≤z (j*5)) && (decide (z (j*5)≤z (j*5+1)) && (decide (z (j*5+1)≤10000) && (decide (0≤z (j*5+2)) && (decide (z (j*5+2)≤z (j*5+3)) && (decide (z (j*5+3)≤10000) && (decide (0≤z (j*5+4)) && decide (z (j*5+4)≤100000)))))))):=rfl
   refine aE (t21 n l z H (j:Int)) (eA (n+1) 1) (af _ _) (ag _ _) ?_
   have e31:j*5+2+1=j*5+3:=rfl
   repeat' first | (refine Tr.al (fun hc=>?_) (fun hc=>?_)<;>(try simp (disch:=omega) only[nV,nW,ei,e31] at hc)<;>try omega) | (refine Tr.bj ?_ ?_;· (try simp (disch:=omega) only[nV,nW,ei,e31]);try omega) | (refine Tr.aB ?_ ?_;· first | exact trivial | rfl | exact ⟨rfl,rfl⟩ | exact ⟨rfl,rfl,rfl⟩ | (simp (disch:=omega) only[nV,nW,ei,e31];done) | ((try simp (disch:=omega) only[nV,nW,ei,e31]);omega)) | fail
   all_goals refine Tr.ao ?_
   all_goals first
    | (rw[if_pos (by rw[hs];simp;omega)];rfl)
    | (rw[if_neg (by rw[hs];simp;omega)];exact ⟨rfl,by rw[ej];rfl⟩)
    | fail
 · obtain ⟨x,h1,rfl⟩:=aE (Q:=fun x=>x=(.exit 0,Dx l z (Int.ofNat l)++[(15,.bool false)],an::H)) (t21 n l z H (Int.ofNat l)) (eA (n+1) 1) (af _ _) (ag _ _) (by
    exact wF)
   exact h1
theorem Rp {f k:Nat} {t:l9} {e:Int} (ht:t.Ok (cd k)) (h:∀ H,cd k (.fn f) [ay 5 l z] H=some (.int .i64 e,H)):(iS t f (NF (ay 5 l z) e)).Ok (cd k):=by
 refine dY ht (fun args p v hg hp H=>?_)
 unfold NF at hg
 split at hg
 · simp only[nP] at hg
   obtain ⟨rfl,rfl⟩:=hg
   subst hp
   exact h H
 · cases hg
end
end Go.Eng
end
