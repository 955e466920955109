/- Bath: the library's sorts of ints and of int64s, by the library's own contract. -/
import Derived.Test.YtigmfpmabgekoaaGreatV7EngRn7x5
import Derived.Shelf.SortM.Plain
import Derived.Test.YtigmfpmabgekoaaGreatProg
import Derived.Test.YtigmfpmabgekoaaGreatV7EngTgx4
import Derived.Test.YtigmfpmabgekoaaGreatV7EngKtBx3
import Derived.KernelRfl
section
namespace Go.Proofs
open Go.Shelf
set_option linter.unusedVariables false
def Tryz.sortI_ren:Go.Shelf.Ren:=⟨fun | 5=>74 | 8=>91 | 7=>90 | 19=>108 | 20=>109 | 10=>99 | 11=>100 | 12=>101 | 13=>102 | 14=>103 | 15=>104 | 16=>105 | 17=>106 | 18=>107 | 30=>113 | 31=>114 | 32=>115 | 33=>116 | 34=>117 | 35=>118 | 40=>128 | n=>n,fun | 23=>30 | 25=>3 | 3=>3 | 32=>118 | 22=>30 | 0=>0 | 44=>138 | 46=>140 | 4=>4 | 36=>131 | 35=>130 | 41=>62 | 5=>5 | 9=>9 | 53=>143 | 57=>147 | 63=>155 | 64=>156 | n=>n,fun | n=>n⟩
theorem Tryz.sortI:Go.Proofs.SlLaysM.n5 Tryz.prog Tryz.sortI_ren:={
 mixed:=by kernel_rfl
 f5:=⟨Tryz.f74.name,by decide,Tryz.func74.trans (congrArg some (by kernel_rfl))⟩
 f7:=⟨Tryz.f90.name,by decide,Tryz.func90.trans (congrArg some (by kernel_rfl))⟩
 f8:=Tryz.func91.trans (congrArg some (by kernel_rfl))
 f10:=⟨Tryz.f99.name,by decide,Tryz.func99.trans (congrArg some (by kernel_rfl))⟩
 f11:=⟨Tryz.f100.name,by decide,Tryz.func100.trans (congrArg some (by kernel_rfl))⟩
 f12:=⟨Tryz.f101.name,by decide,Tryz.func101.trans (congrArg some (by kernel_rfl))⟩
 f13:=⟨Tryz.f102.name,by decide,Tryz.func102.trans (congrArg some (by kernel_rfl))⟩
 f14:=⟨Tryz.f103.name,by decide,Tryz.func103.trans (congrArg some (by kernel_rfl))⟩
 f15:=⟨Tryz.f104.name,by decide,Tryz.func104.trans (congrArg some (by kernel_rfl))⟩
 f16:=⟨Tryz.f105.name,by decide,Tryz.func105.trans (congrArg some (by kernel_rfl))⟩
 f17:=⟨Tryz.f106.name,by decide,Tryz.func106.trans (congrArg some (by kernel_rfl))⟩
 f18:=⟨Tryz.f107.name,by decide,Tryz.func107.trans (congrArg some (by kernel_rfl))⟩
 f19:=Tryz.func108.trans (congrArg some (by kernel_rfl))
 f20:=Tryz.func109.trans (congrArg some (by kernel_rfl))
 f30:=⟨Tryz.f113.name,by decide,Tryz.func113.trans (congrArg some (by kernel_rfl))⟩
 f31:=Tryz.func114.trans (congrArg some (by kernel_rfl))
 f32:=Tryz.func115.trans (congrArg some (by kernel_rfl))
 f33:=⟨Tryz.f116.name,by decide,Tryz.func116.trans (congrArg some (by kernel_rfl))⟩
 f34:=⟨Tryz.f117.name,by decide,Tryz.func117.trans (congrArg some (by kernel_rfl))⟩
 f35:=⟨Tryz.f118.name,by decide,Tryz.func118.trans (congrArg some (by kernel_rfl))⟩
 f40:=⟨Tryz.f128.name,by decide,Tryz.func128.trans (congrArg some (by kernel_rfl))⟩
 t0:=Tryz.underlying0
 a0:=Tryz.isAgg0
 z0:=Tryz.sizeOf0
 v0:=Tryz.zeroValue0
 t3:=Tryz.underlying3
 a3:=Tryz.isAgg3
 z3:=Tryz.sizeOf3
 v3:=Tryz.zeroValue3
 t4:=Tryz.underlying4
 a4:=Tryz.isAgg4
 z4:=Tryz.sizeOf4
 v4:=Tryz.zeroValue4
 t5:=Tryz.underlying5
 a5:=Tryz.isAgg5
 z5:=Tryz.sizeOf5
 v5:=Tryz.zeroValue5
 t9:=Tryz.underlying9
 a9:=Tryz.isAgg9
 z9:=Tryz.sizeOf9
 v9:=Tryz.zeroValue9
 t22:=Tryz.underlying30
 a22:=Tryz.isAgg30
 z22:=Tryz.sizeOf30
 v22:=Tryz.zeroValue30
 t23:=Tryz.underlying30
 a23:=Tryz.isAgg30
 z23:=Tryz.sizeOf30
 v23:=Tryz.zeroValue30
 t25:=Tryz.underlying3
 a25:=Tryz.isAgg3
 z25:=Tryz.sizeOf3
 v25:=Tryz.zeroValue3
 t32:=Tryz.underlying118
 a32:=Tryz.isAgg118
 z32:=Tryz.sizeOf118
 v32:=Tryz.zeroValue118
 t35:=Tryz.underlying130
 a35:=Tryz.isAgg130
 z35:=Tryz.sizeOf130
 v35:=Tryz.zeroValue130
 t36:=Tryz.underlying131
 a36:=Tryz.isAgg131
 z36:=Tryz.sizeOf131
 v36:=Tryz.zeroValue131
 t41:=Tryz.underlying62
 a41:=Tryz.isAgg62
 z41:=Tryz.sizeOf62
 v41:=Tryz.zeroValue62
 t44:=Tryz.underlying138
 a44:=Tryz.isAgg138
 z44:=Tryz.sizeOf138
 v44:=Tryz.zeroValue138
 t46:=Tryz.underlying140
 a46:=Tryz.isAgg140
 z46:=Tryz.sizeOf140
 v46:=Tryz.zeroValue140
 t53:=Tryz.underlying143
 a53:=Tryz.isAgg143
 z53:=Tryz.sizeOf143
 v53:=Tryz.zeroValue143
 t57:=Tryz.underlying147
 a57:=Tryz.isAgg147
 z57:=Tryz.sizeOf147
 v57:=Tryz.zeroValue147
 t63:=Tryz.underlying155
 a63:=Tryz.isAgg155
 z63:=Tryz.sizeOf155
 v63:=Tryz.zeroValue155
 t64:=Tryz.underlying156
 a64:=Tryz.isAgg156
 z64:=Tryz.sizeOf156
 v64:=Tryz.zeroValue156 }
def Tryz.sortL_ren:Go.Shelf.Ren:=⟨fun | 5=>96 | 8=>91 | 7=>111 | 19=>108 | 20=>109 | 10=>119 | 11=>120 | 12=>121 | 13=>122 | 14=>123 | 15=>124 | 16=>125 | 17=>126 | 18=>127 | 30=>129 | 31=>114 | 32=>115 | 33=>130 | 34=>131 | 35=>132 | 40=>133 | n=>n,fun | 23=>36 | 25=>2 | 3=>3 | 32=>118 | 22=>36 | 0=>0 | 44=>138 | 46=>140 | 4=>4 | 36=>131 | 35=>130 | 41=>62 | 5=>5 | 9=>9 | 53=>143 | 57=>147 | 63=>155 | 64=>156 | n=>n,fun | n=>n⟩
theorem Tryz.sortL:Go.Proofs.SlLaysM.n5 Tryz.prog Tryz.sortL_ren:={
 mixed:=by kernel_rfl
 f5:=⟨Tryz.f96.name,by decide,Tryz.func96.trans (congrArg some (by kernel_rfl))⟩
 f7:=⟨Tryz.f111.name,by decide,Tryz.func111.trans (congrArg some (by kernel_rfl))⟩
 f8:=Tryz.func91.trans (congrArg some (by kernel_rfl))
 f10:=⟨Tryz.f119.name,by decide,Tryz.func119.trans (congrArg some (by kernel_rfl))⟩
 f11:=⟨Tryz.f120.name,by decide,Tryz.func120.trans (congrArg some (by kernel_rfl))⟩
 f12:=⟨Tryz.f121.name,by decide,Tryz.func121.trans (congrArg some (by kernel_rfl))⟩
 f13:=⟨Tryz.f122.name,by decide,Tryz.func122.trans (congrArg some (by kernel_rfl))⟩
 f14:=⟨Tryz.f123.name,by decide,Tryz.func123.trans (congrArg some (by kernel_rfl))⟩
 f15:=⟨Tryz.f124.name,by decide,Tryz.func124.trans (congrArg some (by kernel_rfl))⟩
 f16:=⟨Tryz.f125.name,by decide,Tryz.func125.trans (congrArg some (by kernel_rfl))⟩
 f17:=⟨Tryz.f126.name,by decide,Tryz.func126.trans (congrArg some (by kernel_rfl))⟩
 f18:=⟨Tryz.f127.name,by decide,Tryz.func127.trans (congrArg some (by kernel_rfl))⟩
 f19:=Tryz.func108.trans (congrArg some (by kernel_rfl))
 f20:=Tryz.func109.trans (congrArg some (by kernel_rfl))
 f30:=⟨Tryz.f129.name,by decide,Tryz.func129.trans (congrArg some (by kernel_rfl))⟩
 f31:=Tryz.func114.trans (congrArg some (by kernel_rfl))
 f32:=Tryz.func115.trans (congrArg some (by kernel_rfl))
 f33:=⟨Tryz.f130.name,by decide,Tryz.func130.trans (congrArg some (by kernel_rfl))⟩
 f34:=⟨Tryz.f131.name,by decide,Tryz.func131.trans (congrArg some (by kernel_rfl))⟩
 f35:=⟨Tryz.f132.name,by decide,Tryz.func132.trans (congrArg some (by kernel_rfl))⟩
 f40:=⟨Tryz.f133.name,by decide,Tryz.func133.trans (congrArg some (by kernel_rfl))⟩
 t0:=Tryz.underlying0
 a0:=Tryz.isAgg0
 z0:=Tryz.sizeOf0
 v0:=Tryz.zeroValue0
 t3:=Tryz.underlying3
 a3:=Tryz.isAgg3
 z3:=Tryz.sizeOf3
 v3:=Tryz.zeroValue3
 t4:=Tryz.underlying4
 a4:=Tryz.isAgg4
 z4:=Tryz.sizeOf4
 v4:=Tryz.zeroValue4
 t5:=Tryz.underlying5
 a5:=Tryz.isAgg5
 z5:=Tryz.sizeOf5
 v5:=Tryz.zeroValue5
 t9:=Tryz.underlying9
 a9:=Tryz.isAgg9
 z9:=Tryz.sizeOf9
 v9:=Tryz.zeroValue9
 t22:=Tryz.underlying36
 a22:=Tryz.isAgg36
 z22:=Tryz.sizeOf36
 v22:=Tryz.zeroValue36
 t23:=Tryz.underlying36
 a23:=Tryz.isAgg36
 z23:=Tryz.sizeOf36
 v23:=Tryz.zeroValue36
 t25:=Tryz.underlying2
 a25:=Tryz.isAgg2
 z25:=Tryz.sizeOf2
 v25:=Tryz.zeroValue2
 t32:=Tryz.underlying118
 a32:=Tryz.isAgg118
 z32:=Tryz.sizeOf118
 v32:=Tryz.zeroValue118
 t35:=Tryz.underlying130
 a35:=Tryz.isAgg130
 z35:=Tryz.sizeOf130
 v35:=Tryz.zeroValue130
 t36:=Tryz.underlying131
 a36:=Tryz.isAgg131
 z36:=Tryz.sizeOf131
 v36:=Tryz.zeroValue131
 t41:=Tryz.underlying62
 a41:=Tryz.isAgg62
 z41:=Tryz.sizeOf62
 v41:=Tryz.zeroValue62
 t44:=Tryz.underlying138
 a44:=Tryz.isAgg138
 z44:=Tryz.sizeOf138
 v44:=Tryz.zeroValue138
 t46:=Tryz.underlying140
 a46:=Tryz.isAgg140
 z46:=Tryz.sizeOf140
 v46:=Tryz.zeroValue140
 t53:=Tryz.underlying143
 a53:=Tryz.isAgg143
 z53:=Tryz.sizeOf143
 v53:=Tryz.zeroValue143
 t57:=Tryz.underlying147
 a57:=Tryz.isAgg147
 z57:=Tryz.sizeOf147
 v57:=Tryz.zeroValue147
 t63:=Tryz.underlying155
 a63:=Tryz.isAgg155
 z63:=Tryz.sizeOf155
 v63:=Tryz.zeroValue155
 t64:=Tryz.underlying156
 a64:=Tryz.isAgg156
 z64:=Tryz.sizeOf156
 v64:=Tryz.zeroValue156 }
end Go.Proofs
namespace Go.Eng
open Go.Proofs Go.Sort
def srtG (L:List Int):List Int:=L.mergeSort fun x y=>decide (x≤y)
theorem sort74:RowFn Tryz.prog 74 srtG :=
 ⟨⟨_,Tryz.func74,by kernel_rfl⟩,fun L=>List.length_mergeSort L,fun blk off cap zs w h1 h2 h3=>AnyM.slices_Sort_int Tryz.sortI blk off cap zs w h1 h2 h3⟩
theorem sort96:RowFn Tryz.prog 96 srtG :=
 ⟨⟨_,Tryz.func96,by kernel_rfl⟩,fun L=>List.length_mergeSort L,fun blk off cap zs w h1 h2 h3=>AnyM.slices_Sort_int Tryz.sortL blk off cap zs w h1 h2 h3⟩
end Go.Eng
end
section
namespace Go.Eng
open Go.Proofs Go.ChangeShapes
set_option linter.unusedVariables false
set_option maxRecDepth 100000

noncomputable def slA (n len:Nat) (z:Nat→Int):AV:=.slcT none (.M [.arr .i64 z (mulS len n)]) n len false
noncomputable def oraD:CallT→FuncId→List AV→Heap→Option (AV×Heap):=fun call f args H=>cond (Nat.beq f 68) (oCall Tryz.prog KtB.kt 100000 68 call args H) (cond (Nat.beq f 74) (rowC srtG args H) (cond (Nat.beq f 96) (rowC srtG args H) (cond (Nat.beq f 32) (runC Tryz.prog KtB.kt 100000 32 (withO2 Tryz.prog KtB.kt 100000 63 call) args H) (oraS [⟨15,[],.bool true⟩] call f args H))))
def noD (f:FuncId):Bool:=Nat.beq f 15 || Nat.beq f 1000000 || Nat.beq f 68 || Nat.beq f 74 || Nat.beq f 96 || Nat.beq f 32
noncomputable def cd (n:Nat):CallT:=callN Tryz.prog oraD KtB.kt 100000 n
noncomputable def il (tab:Ctr) (n k:Nat):CallTr:=inlT Tryz.prog oraD KtB.kt 100000 noD tab n k
noncomputable def cxD (n:Nat) (f nt:Nat):Cx:=⟨Tryz.prog,cd n,100000,f,nt,KtB.kt f,none⟩

def nav:List Nat→Code→Code
 | [],c=>c
 | x :: p,c=>match c with
   | .seq a b=>match x with
     | 0=>nav p a
     | _=>nav p b
   | .cond _ a b=>match x with
     | 0=>nav p a
     | _=>nav p b
   | .block _ b=>nav p b
   | .loop b=>nav p b
   | .scope b=>nav p b
   | .rangeFunc _ _ a b=>match x with
     | 0=>nav p a
     | _=>nav p b
   | c=>c
noncomputable def part (f:Func) (p:List Nat):Code:=nav p (bodyOf f)
theorem noD_ok (g:FuncId) (h:noD g=false) (c:CallT) (args:List AV) (H:Heap):oraD c g args H=none:=by
 unfold noD at h
 rw[Bool.or_eq_false_iff,Bool.or_eq_false_iff,Bool.or_eq_false_iff,Bool.or_eq_false_iff,Bool.or_eq_false_iff] at h
 obtain ⟨⟨⟨⟨⟨h0,h1⟩,h2⟩,h3⟩,h4⟩,h5⟩:=h
 unfold oraD oraS
 rw[h2,h3,h4,h5,h1,cond_false,cond_false,cond_false,cond_false,cond_false]
 simp only[oraT]
 have:Nat.beq 15 g=false:=by
  cases hb:Nat.beq 15 g with
  | false=>rfl
  | true=>have:=Nat.eq_of_beq_eq_true hb;subst this;simp at h0
 rw[this];rfl
theorem oraD_mode (n:Nat):∃ x,callN Tryz.prog oraD KtB.kt 100000 n .mode [] []=some x:=by
 cases n<;>exact ⟨_,rfl⟩
theorem oraD_ok (hN:Named Tryz.prog) (hD:DrawOk Tryz.prog) (hW:OneOk Tryz.prog ⟨15,[],.bool true⟩):OraOk Tryz.prog oraD :=
 fun call hC f args H v H' h hne p M w cargs hH hA=>by
  unfold oraD at h
  cases hb:Nat.beq f 68 with
  | true =>
    rw[hb,cond_true] at h
    have:=Nat.eq_of_beq_eq_true hb
    subst this
    exact oCall_ok hN hD KtB.kt 100000 hC h hH hA
  | false =>
    rw[hb,cond_false] at h
    cases h74:Nat.beq f 74 with
    | true =>
      rw[h74,cond_true] at h
      have:=Nat.eq_of_beq_eq_true h74
      subst this
      exact rowC_ok sort74 h hne hH hA
    | false =>
      rw[h74,cond_false] at h
      cases h96:Nat.beq f 96 with
      | true =>
        rw[h96,cond_true] at h
        have:=Nat.eq_of_beq_eq_true h96
        subst this
        exact rowC_ok sort96 h hne hH hA
      | false =>
        rw[h96,cond_false] at h
        cases h32:Nat.beq f 32 with
        | true =>
          rw[h32,cond_true] at h
          have:=Nat.eq_of_beq_eq_true h32
          subst this
          exact runC_ok hN hD KtB.kt 100000 (withO2_ok hN hD KtB.kt 100000 63 hC) h hH hA
        | false =>
          rw[h32,cond_false] at h
          exact oraS_ok _ (fun e he=>by
           simp only[List.mem_singleton] at he
           subst he
           exact hW) call hC f args H v H' h hne p M w cargs hH hA
theorem il_ok (tab:Ctr) (n k:Nat) (ht:∀ k,tab.Ok (cd (n+k))):(il tab n k).Ok (cd (n+k)):=inlT_ok _ _ _ _ _ _ _ noD_ok (fun k=>oraD_mode _) ht k
theorem il_no (n k:Nat):(il noCt n k).Ok (cd (n+k)):=il_ok _ _ _ (fun k=>noCt_ok _)
theorem il_no0 (n:Nat):(il noCt n 0).Ok (cd n):=il_no n 0
theorem fn_ok {f:FuncId} {fn:Func} {n:Nat} (hf:Tryz.prog.funcs[f]?=some fn) (hb:fn.body.isSome=true) (hn:noD f=false) {args:List HV} (hle:Nat.ble args.length fn.ntmps=true) {H:Heap} {callR:CallTr} (hC:callR.Ok (cd n)) {bl:BlkT} (hB:bl.Ok (cxD n f fn.ntmps) (bodyOf fn)) {rg:RgT} (hR:rg.Ok (cxD n f fn.ntmps) (bodyOf fn)) {y:HV×Heap}
 (h:(bodyT Tryz.prog (cd n) 100000 f fn (KtB.kt f) callR bl rg args H).run=some y):cd (n+1) (.fn f) (avs args) H=some (y.1.1,y.2) :=
 bodyT_ok hf hb (noD_ok f hn _ _ _) hle hC hB hR h
theorem fn_of {f:FuncId} {fn:Func} {n:Nat} (hf:Tryz.prog.funcs[f]?=some fn) (hb:fn.body.isSome=true) (hn:noD f=false) {args:List HV} (hle:Nat.ble args.length fn.ntmps=true) {H:Heap} {callR:CallTr} {bl:BlkT} {rg:RgT} {T:Tr (HV×Heap)}
 (e:bodyT Tryz.prog (cd n) 100000 f fn (KtB.kt f) callR bl rg args H=T) (hC:callR.Ok (cd n)) (hB:bl.Ok (cxD n f fn.ntmps) (bodyOf fn)) (hR:rg.Ok (cxD n f fn.ntmps) (bodyOf fn)) {y:HV×Heap} (hr:T.run=some y):cd (n+1) (.fn f) (avs args) H=some (y.1.1,y.2) :=
 fn_ok hf hb hn hle hC hB hR (by rw[e];exact hr)
theorem ex_ok {n f nt:Nat} {c:Code} {callR:CallTr} (hC:callR.Ok (cd n)) {bl:BlkT} (hB:bl.Ok (cxD n f nt) c) {rg:RgT} (hR:rg.Ok (cxD n f nt) c) {fr:Frm} {H:Heap} {x:Res} (h:(execT (cxD n f nt) callR bl rg c (hints fr) H).run=some x):exec (cxD n f nt) c fr H=some x.st:=by
 have:=execT_ok hC c hB hR _ _ _ h
 rw[hints_eq] at this
 exact this

def stopB (bl:BlkT) (id0:Nat):BlkT:=fun id fr H=>cond (Nat.beq id id0) (some .bad) (bl id fr H)
theorem stopB_ok {bl:BlkT} {cx:Cx} {c:Code} (h:bl.Ok cx c) (id0:Nat):(stopB bl id0).Ok cx c:=by
 intro id b hm fr H t y ht hy
 unfold stopB at ht
 cases hb:Nat.beq id id0 with
 | true =>
   rw[hb,cond_true,Option.some.injEq] at ht
   subst ht
   exact (Tr.bad_some hy).elim
 | false =>
   rw[hb,cond_false] at ht
   exact h id b hm fr H t y ht hy
theorem ex_of {n f nt:Nat} {c:Code} {callR:CallTr} {bl:BlkT} {rg:RgT} {fr:Frm} {H:Heap} {T:Tr Res} (e:execT (cxD n f nt) callR bl rg c (hints fr) H=T) (hC:callR.Ok (cd n)) (hB:bl.Ok (cxD n f nt) c) (hR:rg.Ok (cxD n f nt) c) {x:Res} (hr:T.run=some x):exec (cxD n f nt) c fr H=some x.st :=
 ex_ok hC hB hR (by rw[e];exact hr)
section
variable {n f nt:Nat} {c:Code} {callR:CallTr} {bl:BlkT} {rg:RgT}
end
def exN (p:Nat→Bool) (N:Nat):Bool:=decide (fN p N 0<N)
theorem exN_true {p:Nat→Bool} {N:Nat} (h:exN p N=true):fN p N 0<N:=by simpa[exN] using h
theorem exN_false {p:Nat→Bool} {N:Nat} (h:exN p N=false):fN p N 0=N:=by
 have h1:=(fN_spec p N 0).2.1
 have:¬ fN p N 0<N:=by simpa[exN] using h
 omega
theorem exN_iff (p:Nat→Bool) (N:Nat):exN p N=true↔∃ i,i<N∧p i=true:=by
 obtain ⟨h1,h2,h3,h4⟩:=fN_spec p N 0
 constructor
 · intro h
   have:=exN_true h
   exact ⟨_,this,h4 (by omega)⟩
 · rintro ⟨i,hi,hp⟩
   unfold exN
   rw[decide_eq_true_eq]
   apply Nat.lt_of_not_le
   intro hc
   have:=h3 i (by omega) (by omega)
   rw[this] at hp;cases hp
end Go.Eng
end
section
namespace Go.Eng
open Go.Proofs
set_option linter.unusedVariables false
theorem fn_all {f:FuncId} {fn:Func} {n:Nat} (hf:Tryz.prog.funcs[f]?=some fn) (hb:fn.body.isSome=true) (hn:noD f=false) {args:List HV} (hle:Nat.ble args.length fn.ntmps=true) {H:Heap} {callR:CallTr} {bl:BlkT} {rg:RgT} {T:Tr (HV×Heap)}
 (e:bodyT Tryz.prog (cd n) 100000 f fn (KtB.kt f) callR bl rg args H=T) (hC:callR.Ok (cd n)) (hB:bl.Ok (cxD n f fn.ntmps) (bodyOf fn)) (hR:rg.Ok (cxD n f fn.ntmps) (bodyOf fn)) {v:AV} {H':Heap} (h:T.all fun y=>y.1.1=v∧y.2=H'):cd (n+1) (.fn f) (avs args) H=some (v,H'):=by
 obtain ⟨y,h1,h2,h3⟩:=h
 have:=fn_of hf hb hn hle e hC hB hR h1
 rw[this,h2,h3]
theorem ex_all {n f nt:Nat} {c:Code} {callR:CallTr} {bl:BlkT} {rg:RgT} {fr:Frm} {H:Heap} {T:Tr Res} (e:execT (cxD n f nt) callR bl rg c (hints fr) H=T) (hC:callR.Ok (cd n)) (hB:bl.Ok (cxD n f nt) c) (hR:rg.Ok (cxD n f nt) c) {Q:Ex×Frm×Heap→Prop} (h:T.all fun x=>Q x.st):∃ x,exec (cxD n f nt) c fr H=some x∧Q x:=by
 obtain ⟨x,h1,h2⟩:=h
 exact ⟨_,ex_of e hC hB hR h1,h2⟩
section
variable {n f nt:Nat} {c:Code} {callR:CallTr} {bl:BlkT} {rg:RgT}
theorem loopI (id:Nat) (I:Nat→Frm→Heap→Prop) (Q:Frm×Heap→Prop) (N:Nat) (hN:N<99999) {fr0:Frm} {H0:Heap} (h0:I 0 fr0 H0)
 (hr:∀ j fr H,I j fr H→∃ x,exec (cxD n f nt) c fr H=some x∧((x.1=.normal∧j<N∧I (j+1) (tidy (hNext H0) x.2.1 x.2.2).1 (tidy (hNext H0) x.2.1 x.2.2).2)∨(x.1=.exit id∧Q x.2))) :
 ∃ y,exec (cxD n f nt) (.block id (.loop c)) fr0 H0=some (.normal,y)∧Q y:=by
 obtain ⟨x,h1,h2⟩:=iter_inv (body:=exec (cxD n f nt) c) (n:=hNext H0) I (fun x=>x.1=.exit id∧Q x.2) N (fun j fr H h=>by
  obtain ⟨x,h1,h2⟩:=hr j fr H h
  obtain ⟨e,f1,g1⟩:=x
  refine ⟨e,f1,g1,h1,?_⟩
  rcases h2 with h2 | ⟨h2,h3⟩
  · exact .inl h2
  · exact .inr ⟨by dsimp only at h2;rw[h2];simp,h2,h3⟩) 100000 0 fr0 H0 h0 (by omega)
 obtain ⟨e,f1,g1⟩:=x
 obtain ⟨h2,h3⟩:=h2
 dsimp only at h2 h3
 subst h2
 exact ⟨(f1,g1),exec_block_loop h1,h3⟩
theorem findX (id:Nat) (F:Nat→Frm) (G:Nat→Heap) (N:Nat) (p:Nat→Bool) (X:Nat→Frm×Heap) (Y:Frm×Heap) (hN:N<99999)
 (hs:∀ j,j<N→∃ x,exec (cxD n f nt) c (F j) (G j)=some x∧if p j=true then x=(.ret,X j) else x.1=.normal∧tidy (hNext (G 0)) x.2.1 x.2.2=(F (j+1),G (j+1)))
 (he:exec (cxD n f nt) c (F N) (G N)=some (.exit id,Y)):exec (cxD n f nt) (.block id (.loop c)) (F 0) (G 0)=some (cond (exN p N) (.ret,X (fN p N 0)) (.normal,Y)):=by
 have key:=iter_find (body:=exec (cxD n f nt) c) (n:=hNext (G 0)) F G N p (fun j=>if j<N then (.ret,X j) else (.exit id,Y))
  (fun j hj hp=>by
    obtain ⟨x,h1,h2⟩:=hs j hj
    rw[if_neg (by rw[hp];simp)] at h2
    obtain ⟨e,f1,g1⟩:=x
    obtain ⟨rfl,h3⟩:=h2
    exact ⟨_,_,h1,h3⟩)
  (fun j hj hp=>by
    obtain ⟨x,h1,h2⟩:=hs j hj
    rw[if_pos hp] at h2
    subst h2
    rw[if_pos hj]
    exact ⟨h1,by simp⟩)
  (by
    rw[if_neg (by omega)]
    exact ⟨he,by simp⟩) N 0 100000 (by omega) (by omega)
 cases hc:exN p N with
 | true =>
   have:=exN_true hc
   rw[if_pos this] at key
   exact exec_block_loop_other (fun id' h=>by cases h) key
 | false =>
   have:=exN_false hc
   rw[if_neg (by omega)] at key
   exact exec_block_loop key
end
theorem forX {n f nt:Nat} {c:Code} (id:Nat) (F:Nat→Frm) (G:Nat→Heap) (N:Nat) (Y:Frm×Heap) (hN:N<99999)
 (hs:∀ j,j<N→∃ x,exec (cxD n f nt) c (F j) (G j)=some x∧(x.1=.normal∧tidy (hNext (G 0)) x.2.1 x.2.2=(F (j+1),G (j+1))))
 (he:exec (cxD n f nt) c (F N) (G N)=some (.exit id,Y)):exec (cxD n f nt) (.block id (.loop c)) (F 0) (G 0)=some (.normal,Y):=by
 have:=findX id F G N (fun _=>false) (fun _=>Y) Y hN (fun j hj=>by
  obtain ⟨x,h1,h2⟩:=hs j hj
  exact ⟨x,h1,by rw[if_neg (by simp)];exact h2⟩) he
 have h0:exN (fun _=>false) N=false:=by
  cases h:exN (fun _=>false) N with
  | false=>rfl
  | true=>obtain ⟨i,_,h2⟩:=(exN_iff _ _).1 h;cases h2
 rw[h0] at this
 exact this
end Go.Eng
end
section
namespace Go.Eng
open Go.Proofs
set_option linter.unusedVariables false
set_option linter.unusedSimpArgs false
set_option maxRecDepth 100000
noncomputable def lvE:Lvl:=⟨false,[]⟩
noncomputable def fr84 (l:Nat) (z:Nat→Int) (j:Int):Frm:=[(0,slA 5 l z),(1,.fn (.func 58) [] []),(7,.int .i64 (Int.ofNat l)),(8,.int .i64 j)]
noncomputable def gF1 (L:AV) (i:Int):List AV→Option (Prop×AV)
 | [a,.fn (.func 58) [] []]=>some (a=L,.int .i64 i)
 | _=>none
noncomputable def gF2 (L:AV) (b:Bool):List AV→Option (Prop×AV)
 | [a,.fn (.func 58) [] []]=>some (a=L,.bool b)
 | _=>none
theorem t84 (n:Nat) (l:Nat) (z:Nat→Int) (H:Heap) (j:Int):execT (cxD (n+6) 84 19) (il noCt (n+1) 5) noBT noRT (part Tryz.f84 [1,0,1,0,0]) (hints (fr84 l z j)) (lvE::H) =
 Tr.ite (ltI j (Int.ofNat l)) (Tr.req (inI j l) (Tr.req (ltN (idO 0 j 5) (mulO l 5)) (Tr.req (ltN (addO (idO 0 j 5) 1) (mulO l 5)) (Tr.req (ltN (addO (idO 0 j 5) 2) (mulO l 5)) (Tr.req (ltN (addO (idO 0 j 5) 3) (mulO l 5)) (Tr.req (ltN (addO (idO 0 j 5) 4) (mulO l 5)) (Tr.req (inI (Int.ofNat 0) 4) (Tr.ite (ltI (z (idO 0 j 5)) (Int.ofNat 0)) (Tr.ok (Ex.ret,[(4,AV.int .i64 j,none)],lvE::H)) (Tr.ite (ltI (Int.ofNat 10000) (z (idO 0 j 5))) (Tr.ok (Ex.ret,[(4,AV.int .i64 j,none)],lvE::H)) (Tr.req (inI (Int.ofNat 1) 4) (Tr.ite (ltI (z (addO (idO 0 j 5) 1)) (Int.ofNat 0)) (Tr.ok (Ex.ret,[(4,AV.int .i64 j,none)],lvE::H)) (Tr.ite (ltI (Int.ofNat 10000) (z (addO (idO 0 j 5) 1))) (Tr.ok (Ex.ret,[(4,AV.int .i64 j,none)],lvE::H)) (Tr.req (inI (Int.ofNat 2) 4) (Tr.ite (ltI (z (addO (idO 0 j 5) 2)) (Int.ofNat 0)) (Tr.ok (Ex.ret,[(4,AV.int .i64 j,none)],lvE::H)) (Tr.ite (ltI (Int.ofNat 10000) (z (addO (idO 0 j 5) 2))) (Tr.ok (Ex.ret,[(4,AV.int .i64 j,none)],lvE::H)) (Tr.req (inI (Int.ofNat 3) 4) (Tr.ite (ltI (z (addO (idO 0 j 5) 3)) (Int.ofNat 0)) (Tr.ok (Ex.ret,[(4,AV.int .i64 j,none)],lvE::H)) (Tr.ite (ltI (Int.ofNat 10000) (z (addO (idO 0 j 5) 3))) (Tr.ok (Ex.ret,[(4,AV.int .i64 j,none)],lvE::H)) (Tr.ite (ltI (z (addO (idO 0 j 5) 1)) (z (idO 0 j 5))) (Tr.ok (Ex.ret,[(4,AV.int .i64 j,none)],lvE::H)) (Tr.ite (ltI (z (addO (idO 0 j 5) 3)) (z (addO (idO 0 j 5) 2))) (Tr.ok (Ex.ret,[(4,AV.int .i64 j,none)],lvE::H)) (Tr.req (inI (Int.ofNat 0) 1) (Tr.ite (ltI (z (addO (idO 0 j 5) 4)) (Int.ofNat 0)) (Tr.ok (Ex.ret,[(4,AV.int .i64 j,none)],lvE::H)) (Tr.ite (ltI (Int.ofNat 100000) (z (addO (idO 0 j 5) 4))) (Tr.ok (Ex.ret,[(4,AV.int .i64 j,none)],lvE::H)) (Tr.ok (Ex.normal,[(0,slA 5 l z,none),(1,AV.fn (Fn.func 58) [] [],none),(7,AV.int .i64 (Int.ofNat l),none),(8,AV.int .i64 (addI .i64 j (Int.ofNat 1)),none)],lvE::H))))))))))))))))))))))))) (Tr.ok (Ex.exit 0,[(0,slA 5 l z,none),(1,AV.fn (Fn.func 58) [] [],none),(7,AV.int .i64 (Int.ofNat l),none),(8,AV.int .i64 j,none),(9,AV.bool false,some 1)],lvE::H)):=by kernel_rfl
theorem u84 (n:Nat) (l:Nat) (z:Nat→Int) (H:Heap) (i:Int) (e:Bool):bodyT Tryz.prog (cd (n+6)) 100000 84 Tryz.f84 (KtB.kt 84) (il noCt (n+6) 0) (blkE noBT 0 (fr84 l z 0) (lvE::H) (.ite e (.ok (.ret,[(4,.int .i64 i,none)],lvE::H)) (.ok (.normal,hints (fr84 l z (Int.ofNat l)++[(9,.bool false)]),lvE::H)))) noRT [(slA 5 l z,none),(.fn (.func 58) [] [],none)] H =
 (fun (Z0:Frm)=>Tr.reqP (Z0=Z0∧lvE::H=lvE::H) (Tr.ite e (Tr.ok ((AV.int .i64 i,none),H)) (Tr.ok ((AV.int .i64 (Int.negSucc 0),some 1),H)))) [(0,slA 5 l z),(1,AV.fn (Fn.func 58) [] []),(7,AV.int .i64 (Int.ofNat l)),(8,AV.int .i64 (Int.ofNat 0))]:=by kernel_rfl
theorem u60 (n:Nat) (l:Nat) (z:Nat→Int) (H:Heap) (i:Int):bodyT Tryz.prog (cd (n+7)) 100000 60 Tryz.f60 (KtB.kt 60) (il (ctG noCt 84 (gF1 (slA 5 l z) i)) (n+7) 0) noBT noRT [(slA 5 l z,none),(.fn (.func 58) [] [],none)] H =
 Tr.reqP (slA 5 l z=slA 5 l z) (Tr.ok ((AV.bool (leI (Int.ofNat 0) i),none),H)):=by kernel_rfl
theorem u20 (n:Nat) (l:Nat) (z:Nat→Int) (H:Heap) (b:Bool):bodyT Tryz.prog (cd (n+8)) 100000 20 Tryz.f20 (KtB.kt 20) (il (ctG noCt 60 (gF2 (slA 5 l z) b)) (n+8) 0) noBT noRT [(slA 5 l z,none)] H =
 Tr.ite (eqI (Int.ofNat l) (Int.ofNat 0)) (Tr.ok ((AV.int .i64 (Int.ofNat 6),some 1),H)) (Tr.ite (ltI (Int.ofNat 14) (Int.ofNat l)) (Tr.ok ((AV.int .i64 (Int.ofNat 6),some 1),H)) (Tr.reqP (slA 5 l z=slA 5 l z) (Tr.ite b (Tr.ok ((AV.int .i64 (Int.ofNat 3),some 1),H)) (Tr.ok ((AV.int .i64 (Int.ofNat 0),some 1),H))))):=by kernel_rfl
theorem u20x (n:Nat) (l:Nat) (z:Nat→Int) (H:Heap):bodyT Tryz.prog (cd (n+8)) 100000 20 Tryz.f20 (KtB.kt 20) (il (ctG noCt 60 (fun _=>none)) (n+8) 0) noBT noRT [(slA 5 l z,none)] H =
 Tr.ite (eqI (Int.ofNat l) (Int.ofNat 0)) (Tr.ok ((AV.int .i64 (Int.ofNat 6),some 1),H)) (Tr.ite (ltI (Int.ofNat 14) (Int.ofNat l)) (Tr.ok ((AV.int .i64 (Int.ofNat 6),some 1),H)) Tr.bad):=by kernel_rfl
def oddO (z:Nat→Int) (j:Nat):Bool:=!(decide (0≤z (j*5)) && (decide (z (j*5)≤z (j*5+1)) && (decide (z (j*5+1)≤10000) && (decide (0≤z (j*5+2)) && (decide (z (j*5+2)≤z (j*5+3)) && (decide (z (j*5+3)≤10000) && (decide (0≤z (j*5+4)) && decide (z (j*5+4)≤100000))))))))
def chkO (l:Nat) (z:Nat→Int):Int:=if l=0∨14<l then 6 else if exN (oddO z) l=true then 3 else 0
theorem b84:∀ b,(0,b) ∈ blocksOf (bodyOf Tryz.f84)→b=.loop (part Tryz.f84 [1,0,1,0,0]):=by
 have:((blocksOf (bodyOf Tryz.f84)).filter fun x=>Nat.beq x.1 0)=[(0,.loop (part Tryz.f84 [1,0,1,0,0]))]:=by kernel_rfl
 intro b hb
 have hm:(0,b) ∈ ((blocksOf (bodyOf Tryz.f84)).filter fun x=>Nat.beq x.1 0):=List.mem_filter.2 ⟨hb,rfl⟩
 rw[this] at hm;simpa using hm
section
variable (n:Nat) (l:Nat) (z:Nat→Int) (H:Heap)
theorem c84 (hl:l≤1000):cd (n+7) (.fn 84) [slA 5 l z,.fn (.func 58) [] []] H=some (.int .i64 (cond (exN (oddO z) l) ((fN (oddO z) l 0:Nat):Int) (-1)),H):=by
 have lp:=findX (n:=n+6) (f:=84) (nt:=19) (c:=part Tryz.f84 [1,0,1,0,0]) 0 (fun j=>fr84 l z (j:Int)) (fun _=>lvE::H) l (oddO z) (fun j=>([(4,.int .i64 (j:Int))],lvE::H)) (fr84 l z (Int.ofNat l)++[(9,.bool false)],lvE::H) (by omega) (fun j hj=>?_) ?_
 · refine fn_all (n:=n+6) Tryz.func84 rfl rfl rfl (u84 n l z H ((fN (oddO z) l 0:Nat):Int) (exN (oddO z) l)) (il_no (n+6) 0) (blkE_ok (noBT_ok _ _) b84 (fun x hx=>?_)) (noRT_ok _ _) ?_
   · refine Eq.trans lp ?_
     rcases Tr.ite_some hx with ⟨hc,hx⟩ | ⟨hc,hx⟩
     · rw[← Tr.ok_some hx,hc];rfl
     · rw[← Tr.ok_some hx,hc];simp only[Res.st,hints_eq];rfl
   · repeat' first | (refine Tr.all_ite (fun hc=>?_) (fun hc=>?_)<;>(try simp (disch:=omega) only[nV,nW] at hc)<;>try omega) | (refine Tr.all_req ?_ ?_;· (try simp (disch:=omega) only[nV,nW]);try omega) | (refine Tr.all_reqP ?_ ?_;· first | exact trivial | rfl | exact ⟨rfl,rfl⟩ | exact ⟨rfl,rfl,rfl⟩ | (simp (disch:=omega) only[nV,nW];done) | ((try simp (disch:=omega) only[nV,nW]);omega)) | fail
     all_goals refine Tr.all_ok ⟨?_,rfl⟩
     all_goals rw[hc];rfl
 · have ej:addI .i64 (j:Int) (Int.ofNat 1)=((j+1:Nat):Int):=by rw[addI_eq,show Int.ofNat 1=1 from rfl];exact wr_64 (by omega) (by omega)
   have ei:idO 0 (j:Int) 5=j*5:=by rw[idO_eq];omega
   have hs:oddO z j=!(decide (0≤z (j*5)) && (decide (z (j*5)≤z (j*5+1)) && (decide (z (j*5+1)≤10000) && (decide (0≤z (j*5+2)) && (decide (z (j*5+2)≤z (j*5+3)) && (decide (z (j*5+3)≤10000) && (decide (0≤z (j*5+4)) && decide (z (j*5+4)≤100000)))))))):=rfl
   refine ex_all (t84 n l z H (j:Int)) (il_no (n+1) 5) (noBT_ok _ _) (noRT_ok _ _) ?_
   repeat' first | (refine Tr.all_ite (fun hc=>?_) (fun hc=>?_)<;>(try simp (disch:=omega) only[nV,nW,ei] at hc)<;>try omega) | (refine Tr.all_req ?_ ?_;· (try simp (disch:=omega) only[nV,nW,ei]);try omega) | (refine Tr.all_reqP ?_ ?_;· first | exact trivial | rfl | exact ⟨rfl,rfl⟩ | exact ⟨rfl,rfl,rfl⟩ | (simp (disch:=omega) only[nV,nW,ei];done) | ((try simp (disch:=omega) only[nV,nW,ei]);omega)) | fail
   all_goals refine Tr.all_ok ?_
   all_goals first
    | (rw[if_pos (by rw[hs];simp;omega)];rfl)
    | (rw[if_neg (by rw[hs];simp;omega)];exact ⟨rfl,by rw[ej];rfl⟩)
    | fail
 · obtain ⟨x,h1,rfl⟩:=ex_all (Q:=fun x=>x=(.exit 0,fr84 l z (Int.ofNat l)++[(9,.bool false)],lvE::H)) (t84 n l z H (Int.ofNat l)) (il_no (n+1) 5) (noBT_ok _ _) (noRT_ok _ _) (by
    repeat' first | (refine Tr.all_ite (fun hc=>?_) (fun hc=>?_)<;>(try simp (disch:=omega) only[nV,nW] at hc)<;>try omega) | (refine Tr.all_req ?_ ?_;· (try simp (disch:=omega) only[nV,nW]);try omega) | (refine Tr.all_reqP ?_ ?_;· first | exact trivial | rfl | exact ⟨rfl,rfl⟩ | exact ⟨rfl,rfl,rfl⟩ | (simp (disch:=omega) only[nV,nW];done) | ((try simp (disch:=omega) only[nV,nW]);omega)) | fail
    exact Tr.all_ok rfl)
   exact h1
theorem c60 (hl:l≤1000):cd (n+8) (.fn 60) [slA 5 l z,.fn (.func 58) [] []] H=some (.bool (exN (oddO z) l),H):=by
 refine fn_all (n:=n+7) Tryz.func60 rfl rfl rfl (u60 n l z H (cond (exN (oddO z) l) ((fN (oddO z) l 0:Nat):Int) (-1))) (il_ok _ (n+7) 0 (fun k=>ctG_ok (noCt_ok _) (fun args p v hg hp H=>?_))) (noBT_ok _ _) (noRT_ok _ _) ?_
 · unfold gF1 at hg
   split at hg
   · simp only[nP] at hg
     obtain ⟨rfl,rfl⟩:=hg
     subst hp
     rw[show n+7+k=n+k+7 by omega]
     exact c84 _ l z H hl
   · cases hg
 · repeat' first | (refine Tr.all_ite (fun hc=>?_) (fun hc=>?_)<;>(try simp (disch:=omega) only[nV,nW] at hc)<;>try omega) | (refine Tr.all_req ?_ ?_;· (try simp (disch:=omega) only[nV,nW]);try omega) | (refine Tr.all_reqP ?_ ?_;· first | exact trivial | rfl | exact ⟨rfl,rfl⟩ | exact ⟨rfl,rfl,rfl⟩ | (simp (disch:=omega) only[nV,nW];done) | ((try simp (disch:=omega) only[nV,nW]);omega)) | fail
   all_goals refine Tr.all_ok ⟨?_,rfl⟩
   rw[leI_eq]
   cases exN (oddO z) l
   · rfl
   · simp
theorem c20:cd (n+9) (.fn 20) [slA 5 l z] H=some (.int .i64 (chkO l z),H):=by
 unfold chkO
 by_cases hl:l=0∨14<l
 · rw[if_pos hl]
   refine fn_all (n:=n+8) Tryz.func20 rfl rfl rfl (u20x n l z H) (il_ok _ (n+8) 0 (fun k=>ctG_ok (noCt_ok _) (fun args p v hg hp H=>by cases hg))) (noBT_ok _ _) (noRT_ok _ _) ?_
   repeat' first | (refine Tr.all_ite (fun hc=>?_) (fun hc=>?_)<;>(try simp (disch:=omega) only[nV,nW] at hc)<;>try omega) | (refine Tr.all_req ?_ ?_;· (try simp (disch:=omega) only[nV,nW]);try omega) | (refine Tr.all_reqP ?_ ?_;· first | exact trivial | rfl | exact ⟨rfl,rfl⟩ | exact ⟨rfl,rfl,rfl⟩ | (simp (disch:=omega) only[nV,nW];done) | ((try simp (disch:=omega) only[nV,nW]);omega)) | fail
   all_goals exact Tr.all_ok ⟨rfl,rfl⟩
 · rw[if_neg hl]
   refine fn_all (n:=n+8) Tryz.func20 rfl rfl rfl (u20 n l z H (exN (oddO z) l)) (il_ok _ (n+8) 0 (fun k=>ctG_ok (noCt_ok _) (fun args p v hg hp H=>?_))) (noBT_ok _ _) (noRT_ok _ _) ?_
   · unfold gF2 at hg
     split at hg
     · simp only[nP] at hg
       obtain ⟨rfl,rfl⟩:=hg
       subst hp
       rw[show n+8+k=n+k+8 by omega]
       exact c60 _ l z H (by omega)
     · cases hg
   · cases hx:exN (oddO z) l
     · repeat' first | (refine Tr.all_ite (fun hc=>?_) (fun hc=>?_)<;>(try simp (disch:=omega) only[nV,nW,hx] at hc)<;>try omega) | (refine Tr.all_req ?_ ?_;· (try simp (disch:=omega) only[nV,nW,hx]);try omega) | (refine Tr.all_reqP ?_ ?_;· first | exact trivial | rfl | exact ⟨rfl,rfl⟩ | exact ⟨rfl,rfl,rfl⟩ | (simp (disch:=omega) only[nV,nW,hx];done) | ((try simp (disch:=omega) only[nV,nW,hx]);omega)) | fail
       all_goals first
        | exact Tr.all_ok ⟨rfl,rfl⟩
        | fail
     · repeat' first | (refine Tr.all_ite (fun hc=>?_) (fun hc=>?_)<;>(try simp (disch:=omega) only[nV,nW,hx] at hc)<;>try omega) | (refine Tr.all_req ?_ ?_;· (try simp (disch:=omega) only[nV,nW,hx]);try omega) | (refine Tr.all_reqP ?_ ?_;· first | exact trivial | rfl | exact ⟨rfl,rfl⟩ | exact ⟨rfl,rfl,rfl⟩ | (simp (disch:=omega) only[nV,nW,hx];done) | ((try simp (disch:=omega) only[nV,nW,hx]);omega)) | fail
       all_goals first
        | exact Tr.all_ok ⟨rfl,rfl⟩
        | fail
end
end Go.Eng
end
section
namespace Go.Eng
open Go.Proofs
set_option linter.unusedVariables false
set_option linter.unusedSimpArgs false
set_option maxRecDepth 100000
noncomputable def fr21 (l:Nat) (z:Nat→Int) (j:Int):Frm:=[(0,slA 5 l z),(3,.int .i64 j)]
noncomputable def g20 (L:AV) (e:Int):List AV→Option (Prop×AV)
 | [a]=>some (a=L,.int .i64 e)
 | _=>none
theorem t21 (n:Nat) (l:Nat) (z:Nat→Int) (H:Heap) (j:Int):execT (cxD (n+2) 21 50) (il noCt (n+1) 1) noBT noRT (part Tryz.f21 [1,1,0,1,0,0]) (hints (fr21 l z j)) (lvE::H) =
 (fun (Z0:HFrm)=>Tr.ite (ltI j (Int.ofNat l)) (Tr.req (inI j l) (Tr.req (ltN (idO 0 j 5) (mulO l 5)) (Tr.req (ltN (addO (idO 0 j 5) 1) (mulO l 5)) (Tr.ite (leI (Int.ofNat 0) (z (idO 0 j 5))) (Tr.ite (leI (z (idO 0 j 5)) (z (addO (idO 0 j 5) 1))) (Tr.ite (notB (leI (z (addO (idO 0 j 5) 1)) (Int.ofNat 10000))) (Tr.ok (Ex.ret,Z0,lvE::H)) (Tr.req (inI j l) (Tr.req (ltN (addO (idO 0 j 5) 2) (mulO l 5)) (Tr.req (ltN (addO (addO (idO 0 j 5) 2) 1) (mulO l 5)) (Tr.ite (leI (Int.ofNat 0) (z (addO (idO 0 j 5) 2))) (Tr.ite (leI (z (addO (idO 0 j 5) 2)) (z (addO (addO (idO 0 j 5) 2) 1))) (Tr.ite (notB (leI (z (addO (addO (idO 0 j 5) 2) 1)) (Int.ofNat 10000))) (Tr.ok (Ex.ret,Z0,lvE::H)) (Tr.req (inI j l) (Tr.req (ltN (addO (idO 0 j 5) 4) (mulO l 5)) (Tr.ite (ltI (z (addO (idO 0 j 5) 4)) (Int.ofNat 0)) (Tr.ok (Ex.ret,Z0,lvE::H)) (Tr.req (inI j l) (Tr.req (ltN (addO (idO 0 j 5) 4) (mulO l 5)) (Tr.ite (ltI (Int.ofNat 100000) (z (addO (idO 0 j 5) 4))) (Tr.ok (Ex.ret,Z0,lvE::H)) (Tr.ok (Ex.normal,[(0,slA 5 l z,none),(3,AV.int .i64 (addI .i64 j (Int.ofNat 1)),none)],lvE::H))))))))) (Tr.ok (Ex.ret,Z0,lvE::H))) (Tr.ok (Ex.ret,Z0,lvE::H))))))) (Tr.ok (Ex.ret,Z0,lvE::H))) (Tr.ok (Ex.ret,Z0,lvE::H)))))) (Tr.ok (Ex.exit 0,[(0,slA 5 l z,none),(3,AV.int .i64 j,none),(15,AV.bool false,some 1)],lvE::H))) [(2,AV.int .i64 (Int.ofNat 3),some 1)]:=by kernel_rfl
theorem u21 (n:Nat) (l:Nat) (z:Nat→Int) (H:Heap) (e:Bool):bodyT Tryz.prog (cd (n+2)) 100000 21 Tryz.f21 (KtB.kt 21) (il noCt (n+2) 0) (blkE noBT 0 (fr21 l z 0) (lvE::H) (.ite e (.ok (.ret,[(2,.int .i64 3,none)],lvE::H)) (.ok (.normal,hints (fr21 l z (Int.ofNat l)++[(15,.bool false)]),lvE::H)))) noRT [(slA 5 l z,none)] H =
 Tr.ite (ltI (Int.ofNat l) (Int.ofNat 1)) (Tr.ok ((AV.int .i64 (Int.ofNat 6),some 1),H)) (Tr.ite (ltI (Int.ofNat 14) (Int.ofNat l)) (Tr.ok ((AV.int .i64 (Int.ofNat 6),some 1),H)) (Tr.reqP ([(0,slA 5 l z),(3,AV.int .i64 (Int.ofNat 0))]=[(0,slA 5 l z),(3,AV.int .i64 (Int.ofNat 0))]∧lvE::H=lvE::H) (Tr.ite e (Tr.ok ((AV.int .i64 (Int.ofNat 3),none),H)) (Tr.ok ((AV.int .i64 (Int.ofNat 0),some 1),H))))):=by kernel_rfl
theorem u21x (n:Nat) (l:Nat) (z:Nat→Int) (H:Heap):bodyT Tryz.prog (cd (n+2)) 100000 21 Tryz.f21 (KtB.kt 21) (il noCt (n+2) 0) (stopB noBT 0) noRT [(slA 5 l z,none)] H =
 Tr.ite (ltI (Int.ofNat l) (Int.ofNat 1)) (Tr.ok ((AV.int .i64 (Int.ofNat 6),some 1),H)) (Tr.ite (ltI (Int.ofNat 14) (Int.ofNat l)) (Tr.ok ((AV.int .i64 (Int.ofNat 6),some 1),H)) Tr.bad):=by kernel_rfl
def bLo (z:Nat→Int) (j:Nat):Int:=z (j*5+1)-z (j*5+3)
def bHi (z:Nat→Int) (j:Nat):Int:=z (j*5)-z (j*5+2)
theorem b21:∀ b,(0,b) ∈ blocksOf (bodyOf Tryz.f21)→b=.loop (part Tryz.f21 [1,1,0,1,0,0]):=by
 have:((blocksOf (bodyOf Tryz.f21)).filter fun x=>Nat.beq x.1 0)=[(0,.loop (part Tryz.f21 [1,1,0,1,0,0]))]:=by kernel_rfl
 intro b hb
 have hm:(0,b) ∈ ((blocksOf (bodyOf Tryz.f21)).filter fun x=>Nat.beq x.1 0):=List.mem_filter.2 ⟨hb,rfl⟩
 rw[this] at hm;simpa using hm
theorem chk_odd {l:Nat} {z:Nat→Int} (h:chkO l z=0):(1≤l∧l≤14)∧∀ j,j<l→0≤z (j*5)∧z (j*5)≤z (j*5+1)∧z (j*5+1)≤10000∧0≤z (j*5+2)∧z (j*5+2)≤z (j*5+3)∧z (j*5+3)≤10000∧0≤z (j*5+4)∧z (j*5+4)≤100000:=by
 unfold chkO at h
 by_cases hl:l=0∨14<l
 · rw[if_pos hl] at h;exact absurd h (by decide)
 rw[if_neg hl] at h
 cases he:exN (oddO z) l with
 | true=>rw[he,if_pos rfl] at h;exact absurd h (by decide)
 | false =>
   refine ⟨by omega,fun j hj=>?_⟩
   have:oddO z j=false:=by
    cases e:oddO z j with
    | false=>rfl
    | true=>rw[(exN_iff _ _).2 ⟨j,hj,e⟩] at he;cases he
   simpa[oddO] using this
section
variable (n:Nat) (l:Nat) (z:Nat→Int) (H:Heap) (q:Int)
theorem c21:cd (n+3) (.fn 21) [slA 5 l z] H=some (.int .i64 (chkO l z),H):=by
 unfold chkO
 by_cases hl:l=0∨14<l
 · rw[if_pos hl]
   refine fn_all (n:=n+2) Tryz.func21 rfl rfl rfl (u21x n l z H) (il_no (n+2) 0) (stopB_ok (noBT_ok _ _) 0) (noRT_ok _ _) ?_
   repeat' first | (refine Tr.all_ite (fun hc=>?_) (fun hc=>?_)<;>(try simp (disch:=omega) only[nV,nW] at hc)<;>try omega) | (refine Tr.all_req ?_ ?_;· (try simp (disch:=omega) only[nV,nW]);try omega) | (refine Tr.all_reqP ?_ ?_;· first | exact trivial | rfl | exact ⟨rfl,rfl⟩ | exact ⟨rfl,rfl,rfl⟩ | (simp (disch:=omega) only[nV,nW];done) | ((try simp (disch:=omega) only[nV,nW]);omega)) | fail
   all_goals exact Tr.all_ok ⟨rfl,rfl⟩
 rw[if_neg hl]
 have lp:=findX (n:=n+2) (f:=21) (nt:=50) (c:=part Tryz.f21 [1,1,0,1,0,0]) 0 (fun j=>fr21 l z (j:Int)) (fun _=>lvE::H) l (oddO z) (fun j=>([(2,.int .i64 3)],lvE::H)) (fr21 l z (Int.ofNat l)++[(15,.bool false)],lvE::H) (by omega) (fun j hj=>?_) ?_
 · refine fn_all (n:=n+2) Tryz.func21 rfl rfl rfl (u21 n l z H (exN (oddO z) l)) (il_no (n+2) 0) (blkE_ok (noBT_ok _ _) b21 (fun x hx=>?_)) (noRT_ok _ _) ?_
   · refine Eq.trans lp ?_
     rcases Tr.ite_some hx with ⟨hc,hx⟩ | ⟨hc,hx⟩
     · rw[← Tr.ok_some hx,hc];rfl
     · rw[← Tr.ok_some hx,hc];simp only[Res.st,hints_eq];rfl
   · cases hx:exN (oddO z) l
     · repeat' first | (refine Tr.all_ite (fun hc=>?_) (fun hc=>?_)<;>(try simp (disch:=omega) only[nV,nW,hx] at hc)<;>try omega) | (refine Tr.all_req ?_ ?_;· (try simp (disch:=omega) only[nV,nW,hx]);try omega) | (refine Tr.all_reqP ?_ ?_;· first | exact trivial | rfl | exact ⟨rfl,rfl⟩ | exact ⟨rfl,rfl,rfl⟩ | (simp (disch:=omega) only[nV,nW,hx];done) | ((try simp (disch:=omega) only[nV,nW,hx]);omega)) | fail
       all_goals first
        | exact Tr.all_ok ⟨rfl,rfl⟩
        | fail
     · repeat' first | (refine Tr.all_ite (fun hc=>?_) (fun hc=>?_)<;>(try simp (disch:=omega) only[nV,nW,hx] at hc)<;>try omega) | (refine Tr.all_req ?_ ?_;· (try simp (disch:=omega) only[nV,nW,hx]);try omega) | (refine Tr.all_reqP ?_ ?_;· first | exact trivial | rfl | exact ⟨rfl,rfl⟩ | exact ⟨rfl,rfl,rfl⟩ | (simp (disch:=omega) only[nV,nW,hx];done) | ((try simp (disch:=omega) only[nV,nW,hx]);omega)) | fail
       all_goals first
        | exact Tr.all_ok ⟨rfl,rfl⟩
        | fail
 · have ej:addI .i64 (j:Int) (Int.ofNat 1)=((j+1:Nat):Int):=by rw[addI_eq,show Int.ofNat 1=1 from rfl];exact wr_64 (by omega) (by omega)
   have ei:idO 0 (j:Int) 5=j*5:=by rw[idO_eq];omega
   have hs:oddO z j=!(decide (0≤z (j*5)) && (decide (z (j*5)≤z (j*5+1)) && (decide (z (j*5+1)≤10000) && (decide (0≤z (j*5+2)) && (decide (z (j*5+2)≤z (j*5+3)) && (decide (z (j*5+3)≤10000) && (decide (0≤z (j*5+4)) && decide (z (j*5+4)≤100000)))))))):=rfl
   refine ex_all (t21 n l z H (j:Int)) (il_no (n+1) 1) (noBT_ok _ _) (noRT_ok _ _) ?_
   have e31:j*5+2+1=j*5+3:=rfl
   repeat' first | (refine Tr.all_ite (fun hc=>?_) (fun hc=>?_)<;>(try simp (disch:=omega) only[nV,nW,ei,e31] at hc)<;>try omega) | (refine Tr.all_req ?_ ?_;· (try simp (disch:=omega) only[nV,nW,ei,e31]);try omega) | (refine Tr.all_reqP ?_ ?_;· first | exact trivial | rfl | exact ⟨rfl,rfl⟩ | exact ⟨rfl,rfl,rfl⟩ | (simp (disch:=omega) only[nV,nW,ei,e31];done) | ((try simp (disch:=omega) only[nV,nW,ei,e31]);omega)) | fail
   all_goals refine Tr.all_ok ?_
   all_goals first
    | (rw[if_pos (by rw[hs];simp;omega)];rfl)
    | (rw[if_neg (by rw[hs];simp;omega)];exact ⟨rfl,by rw[ej];rfl⟩)
    | fail
 · obtain ⟨x,h1,rfl⟩:=ex_all (Q:=fun x=>x=(.exit 0,fr21 l z (Int.ofNat l)++[(15,.bool false)],lvE::H)) (t21 n l z H (Int.ofNat l)) (il_no (n+1) 1) (noBT_ok _ _) (noRT_ok _ _) (by
    repeat' first | (refine Tr.all_ite (fun hc=>?_) (fun hc=>?_)<;>(try simp (disch:=omega) only[nV,nW] at hc)<;>try omega) | (refine Tr.all_req ?_ ?_;· (try simp (disch:=omega) only[nV,nW]);try omega) | (refine Tr.all_reqP ?_ ?_;· first | exact trivial | rfl | exact ⟨rfl,rfl⟩ | exact ⟨rfl,rfl,rfl⟩ | (simp (disch:=omega) only[nV,nW];done) | ((try simp (disch:=omega) only[nV,nW]);omega)) | fail
    exact Tr.all_ok rfl)
   exact h1
theorem ctO {f k:Nat} {t:Ctr} {e:Int} (ht:t.Ok (cd k)) (h:∀ H,cd k (.fn f) [slA 5 l z] H=some (.int .i64 e,H)):(ctG t f (g20 (slA 5 l z) e)).Ok (cd k):=by
 refine ctG_ok ht (fun args p v hg hp H=>?_)
 unfold g20 at hg
 split at hg
 · simp only[nP] at hg
   obtain ⟨rfl,rfl⟩:=hg
   subst hp
   exact h H
 · cases hg
end
end Go.Eng
end
