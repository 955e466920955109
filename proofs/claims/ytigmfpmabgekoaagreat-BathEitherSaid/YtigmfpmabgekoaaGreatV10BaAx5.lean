/- Bath: the table of calls. -/
import Derived.Test.YtigmfpmabgekoaaGreatV10EngTgx4
import Derived.Test.YtigmfpmabgekoaaGreatV10EngRn4x3
import Derived.Test.YtigmfpmabgekoaaGreatV10EngKtBx5
import Derived.Test.YtigmfpmabgekoaaGreatProg
import Derived.KernelRfl
section
namespace Go.Eng
open Go.Proofs Go.ChangeShapes
set_option linter.unusedVariables false
set_option maxRecDepth 100000

noncomputable def slA (n len:Nat) (z:Nat→Int):AV:=.slcT none (.M [.arr .i64 z (mulS len n)]) n len false
noncomputable def oraD:CallT→FuncId→List AV→Heap→Option (AV×Heap):=fun call f args H=>cond (Nat.beq f 68) (oCall Tryz.prog KtB.kt 100000 68 call args H) (oraS [⟨15,[],.bool true⟩] call f args H)
def noD (f:FuncId):Bool:=Nat.beq f 15 || Nat.beq f 1000000 || Nat.beq f 68
noncomputable def cd (n:Nat):CallT:=callN Tryz.prog oraD KtB.kt 100000 n
noncomputable def il (tab:Ctr) (n k:Nat):CallTr:=inlT Tryz.prog oraD KtB.kt 100000 noD tab n k
noncomputable def cxD (n:Nat) (f nt:Nat):Cx:=⟨Tryz.prog,cd n,100000,f,nt,KtB.kt f,none⟩

def nav:List Nat→Code→Code
 | [],c=>c
 | x :: p,c=>match c with
   | .seq a b=>match x with
     | 0=>nav p a
     | _=>nav p b
   | .cond _ a b=>match x with
     | 0=>nav p a
     | _=>nav p b
   | .block _ b=>nav p b
   | .loop b=>nav p b
   | .scope b=>nav p b
   | .rangeFunc _ _ a b=>match x with
     | 0=>nav p a
     | _=>nav p b
   | c=>c
noncomputable def part (f:Func) (p:List Nat):Code:=nav p (bodyOf f)
theorem noD_ok (g:FuncId) (h:noD g=false) (c:CallT) (args:List AV) (H:Heap):oraD c g args H=none:=by
 unfold noD at h
 rw[Bool.or_eq_false_iff,Bool.or_eq_false_iff] at h
 obtain ⟨⟨h0,h1⟩,h2⟩:=h
 unfold oraD oraS
 rw[h2,h1,cond_false,cond_false]
 simp only[oraT]
 have:Nat.beq 15 g=false:=by
  cases hb:Nat.beq 15 g with
  | false=>rfl
  | true=>have:=Nat.eq_of_beq_eq_true hb;subst this;simp at h0
 rw[this];rfl
theorem oraD_mode (n:Nat):∃ x,callN Tryz.prog oraD KtB.kt 100000 n .mode [] []=some x:=by
 cases n<;>exact ⟨_,rfl⟩
theorem oraD_ok (hN:Named Tryz.prog) (hD:DrawOk Tryz.prog) (hW:OneOk Tryz.prog ⟨15,[],.bool true⟩):OraOk Tryz.prog oraD :=
 fun call hC f args H v H' h hne p M w cargs hH hA=>by
  unfold oraD at h
  cases hb:Nat.beq f 68 with
  | true =>
    rw[hb,cond_true] at h
    have:=Nat.eq_of_beq_eq_true hb
    subst this
    exact oCall_ok hN hD KtB.kt 100000 hC h hH hA
  | false =>
    rw[hb,cond_false] at h
    exact oraS_ok _ (fun e he=>by
     simp only[List.mem_singleton] at he
     subst he
     exact hW) call hC f args H v H' h hne p M w cargs hH hA
theorem il_ok (tab:Ctr) (n k:Nat) (ht:∀ k,tab.Ok (cd (n+k))):(il tab n k).Ok (cd (n+k)):=inlT_ok _ _ _ _ _ _ _ noD_ok (fun k=>oraD_mode _) ht k
theorem il_no (n k:Nat):(il noCt n k).Ok (cd (n+k)):=il_ok _ _ _ (fun k=>noCt_ok _)
theorem il_no0 (n:Nat):(il noCt n 0).Ok (cd n):=il_no n 0
theorem fn_ok {f:FuncId} {fn:Func} {n:Nat} (hf:Tryz.prog.funcs[f]?=some fn) (hb:fn.body.isSome=true) (hn:noD f=false) {args:List HV} (hle:Nat.ble args.length fn.ntmps=true) {H:Heap} {callR:CallTr} (hC:callR.Ok (cd n)) {bl:BlkT} (hB:bl.Ok (cxD n f fn.ntmps) (bodyOf fn)) {rg:RgT} (hR:rg.Ok (cxD n f fn.ntmps) (bodyOf fn)) {y:HV×Heap}
 (h:(bodyT Tryz.prog (cd n) 100000 f fn (KtB.kt f) callR bl rg args H).run=some y):cd (n+1) (.fn f) (avs args) H=some (y.1.1,y.2) :=
 bodyT_ok hf hb (noD_ok f hn _ _ _) hle hC hB hR h
theorem fn_of {f:FuncId} {fn:Func} {n:Nat} (hf:Tryz.prog.funcs[f]?=some fn) (hb:fn.body.isSome=true) (hn:noD f=false) {args:List HV} (hle:Nat.ble args.length fn.ntmps=true) {H:Heap} {callR:CallTr} {bl:BlkT} {rg:RgT} {T:Tr (HV×Heap)}
 (e:bodyT Tryz.prog (cd n) 100000 f fn (KtB.kt f) callR bl rg args H=T) (hC:callR.Ok (cd n)) (hB:bl.Ok (cxD n f fn.ntmps) (bodyOf fn)) (hR:rg.Ok (cxD n f fn.ntmps) (bodyOf fn)) {y:HV×Heap} (hr:T.run=some y):cd (n+1) (.fn f) (avs args) H=some (y.1.1,y.2) :=
 fn_ok hf hb hn hle hC hB hR (by rw[e];exact hr)
theorem ex_ok {n f nt:Nat} {c:Code} {callR:CallTr} (hC:callR.Ok (cd n)) {bl:BlkT} (hB:bl.Ok (cxD n f nt) c) {rg:RgT} (hR:rg.Ok (cxD n f nt) c) {fr:Frm} {H:Heap} {x:Res} (h:(execT (cxD n f nt) callR bl rg c (hints fr) H).run=some x):exec (cxD n f nt) c fr H=some x.st:=by
 have:=execT_ok hC c hB hR _ _ _ h
 rw[hints_eq] at this
 exact this

def stopB (bl:BlkT) (id0:Nat):BlkT:=fun id fr H=>cond (Nat.beq id id0) (some .bad) (bl id fr H)
theorem stopB_ok {bl:BlkT} {cx:Cx} {c:Code} (h:bl.Ok cx c) (id0:Nat):(stopB bl id0).Ok cx c:=by
 intro id b hm fr H t y ht hy
 unfold stopB at ht
 cases hb:Nat.beq id id0 with
 | true =>
   rw[hb,cond_true,Option.some.injEq] at ht
   subst ht
   exact (Tr.bad_some hy).elim
 | false =>
   rw[hb,cond_false] at ht
   exact h id b hm fr H t y ht hy
theorem ex_of {n f nt:Nat} {c:Code} {callR:CallTr} {bl:BlkT} {rg:RgT} {fr:Frm} {H:Heap} {T:Tr Res} (e:execT (cxD n f nt) callR bl rg c (hints fr) H=T) (hC:callR.Ok (cd n)) (hB:bl.Ok (cxD n f nt) c) (hR:rg.Ok (cxD n f nt) c) {x:Res} (hr:T.run=some x):exec (cxD n f nt) c fr H=some x.st :=
 ex_ok hC hB hR (by rw[e];exact hr)
section
variable {n f nt:Nat} {c:Code} {callR:CallTr} {bl:BlkT} {rg:RgT}
end
def exN (p:Nat→Bool) (N:Nat):Bool:=decide (fN p N 0<N)
theorem exN_true {p:Nat→Bool} {N:Nat} (h:exN p N=true):fN p N 0<N:=by simpa[exN] using h
theorem exN_false {p:Nat→Bool} {N:Nat} (h:exN p N=false):fN p N 0=N:=by
 have h1:=(fN_spec p N 0).2.1
 have:¬ fN p N 0<N:=by simpa[exN] using h
 omega
theorem exN_iff (p:Nat→Bool) (N:Nat):exN p N=true↔∃ i,i<N∧p i=true:=by
 obtain ⟨h1,h2,h3,h4⟩:=fN_spec p N 0
 constructor
 · intro h
   have:=exN_true h
   exact ⟨_,this,h4 (by omega)⟩
 · rintro ⟨i,hi,hp⟩
   unfold exN
   rw[decide_eq_true_eq]
   apply Nat.lt_of_not_le
   intro hc
   have:=h3 i (by omega) (by omega)
   rw[this] at hp;cases hp
end Go.Eng
end
section
namespace Go.Eng
open Go.Proofs
set_option linter.unusedVariables false
theorem fn_all {f:FuncId} {fn:Func} {n:Nat} (hf:Tryz.prog.funcs[f]?=some fn) (hb:fn.body.isSome=true) (hn:noD f=false) {args:List HV} (hle:Nat.ble args.length fn.ntmps=true) {H:Heap} {callR:CallTr} {bl:BlkT} {rg:RgT} {T:Tr (HV×Heap)}
 (e:bodyT Tryz.prog (cd n) 100000 f fn (KtB.kt f) callR bl rg args H=T) (hC:callR.Ok (cd n)) (hB:bl.Ok (cxD n f fn.ntmps) (bodyOf fn)) (hR:rg.Ok (cxD n f fn.ntmps) (bodyOf fn)) {v:AV} {H':Heap} (h:T.all fun y=>y.1.1=v∧y.2=H'):cd (n+1) (.fn f) (avs args) H=some (v,H'):=by
 obtain ⟨y,h1,h2,h3⟩:=h
 have:=fn_of hf hb hn hle e hC hB hR h1
 rw[this,h2,h3]
theorem ex_all {n f nt:Nat} {c:Code} {callR:CallTr} {bl:BlkT} {rg:RgT} {fr:Frm} {H:Heap} {T:Tr Res} (e:execT (cxD n f nt) callR bl rg c (hints fr) H=T) (hC:callR.Ok (cd n)) (hB:bl.Ok (cxD n f nt) c) (hR:rg.Ok (cxD n f nt) c) {Q:Ex×Frm×Heap→Prop} (h:T.all fun x=>Q x.st):∃ x,exec (cxD n f nt) c fr H=some x∧Q x:=by
 obtain ⟨x,h1,h2⟩:=h
 exact ⟨_,ex_of e hC hB hR h1,h2⟩
section
variable {n f nt:Nat} {c:Code} {callR:CallTr} {bl:BlkT} {rg:RgT}
theorem loopI (id:Nat) (I:Nat→Frm→Heap→Prop) (Q:Frm×Heap→Prop) (N:Nat) (hN:N<99999) {fr0:Frm} {H0:Heap} (h0:I 0 fr0 H0)
 (hr:∀ j fr H,I j fr H→∃ x,exec (cxD n f nt) c fr H=some x∧((x.1=.normal∧j<N∧I (j+1) (tidy (hNext H0) x.2.1 x.2.2).1 (tidy (hNext H0) x.2.1 x.2.2).2)∨(x.1=.exit id∧Q x.2))) :
 ∃ y,exec (cxD n f nt) (.block id (.loop c)) fr0 H0=some (.normal,y)∧Q y:=by
 obtain ⟨x,h1,h2⟩:=iter_inv (body:=exec (cxD n f nt) c) (n:=hNext H0) I (fun x=>x.1=.exit id∧Q x.2) N (fun j fr H h=>by
  obtain ⟨x,h1,h2⟩:=hr j fr H h
  obtain ⟨e,f1,g1⟩:=x
  refine ⟨e,f1,g1,h1,?_⟩
  rcases h2 with h2 | ⟨h2,h3⟩
  · exact .inl h2
  · exact .inr ⟨by dsimp only at h2;rw[h2];simp,h2,h3⟩) 100000 0 fr0 H0 h0 (by omega)
 obtain ⟨e,f1,g1⟩:=x
 obtain ⟨h2,h3⟩:=h2
 dsimp only at h2 h3
 subst h2
 exact ⟨(f1,g1),exec_block_loop h1,h3⟩
theorem findX (id:Nat) (F:Nat→Frm) (G:Nat→Heap) (N:Nat) (p:Nat→Bool) (X:Nat→Frm×Heap) (Y:Frm×Heap) (hN:N<99999)
 (hs:∀ j,j<N→∃ x,exec (cxD n f nt) c (F j) (G j)=some x∧if p j=true then x=(.ret,X j) else x.1=.normal∧tidy (hNext (G 0)) x.2.1 x.2.2=(F (j+1),G (j+1)))
 (he:exec (cxD n f nt) c (F N) (G N)=some (.exit id,Y)):exec (cxD n f nt) (.block id (.loop c)) (F 0) (G 0)=some (cond (exN p N) (.ret,X (fN p N 0)) (.normal,Y)):=by
 have key:=iter_find (body:=exec (cxD n f nt) c) (n:=hNext (G 0)) F G N p (fun j=>if j<N then (.ret,X j) else (.exit id,Y))
  (fun j hj hp=>by
    obtain ⟨x,h1,h2⟩:=hs j hj
    rw[if_neg (by rw[hp];simp)] at h2
    obtain ⟨e,f1,g1⟩:=x
    obtain ⟨rfl,h3⟩:=h2
    exact ⟨_,_,h1,h3⟩)
  (fun j hj hp=>by
    obtain ⟨x,h1,h2⟩:=hs j hj
    rw[if_pos hp] at h2
    subst h2
    rw[if_pos hj]
    exact ⟨h1,by simp⟩)
  (by
    rw[if_neg (by omega)]
    exact ⟨he,by simp⟩) N 0 100000 (by omega) (by omega)
 cases hc:exN p N with
 | true =>
   have:=exN_true hc
   rw[if_pos this] at key
   exact exec_block_loop_other (fun id' h=>by cases h) key
 | false =>
   have:=exN_false hc
   rw[if_neg (by omega)] at key
   exact exec_block_loop key
end
theorem forX {n f nt:Nat} {c:Code} (id:Nat) (F:Nat→Frm) (G:Nat→Heap) (N:Nat) (Y:Frm×Heap) (hN:N<99999)
 (hs:∀ j,j<N→∃ x,exec (cxD n f nt) c (F j) (G j)=some x∧(x.1=.normal∧tidy (hNext (G 0)) x.2.1 x.2.2=(F (j+1),G (j+1))))
 (he:exec (cxD n f nt) c (F N) (G N)=some (.exit id,Y)):exec (cxD n f nt) (.block id (.loop c)) (F 0) (G 0)=some (.normal,Y):=by
 have:=findX id F G N (fun _=>false) (fun _=>Y) Y hN (fun j hj=>by
  obtain ⟨x,h1,h2⟩:=hs j hj
  exact ⟨x,h1,by rw[if_neg (by simp)];exact h2⟩) he
 have h0:exN (fun _=>false) N=false:=by
  cases h:exN (fun _=>false) N with
  | false=>rfl
  | true=>obtain ⟨i,_,h2⟩:=(exN_iff _ _).1 h;cases h2
 rw[h0] at this
 exact this
end Go.Eng
end
section
namespace Go.Eng
open Go.Proofs
set_option linter.unusedVariables false
set_option linter.unusedSimpArgs false
set_option maxRecDepth 100000
noncomputable def lvE:Lvl:=⟨false,[]⟩
noncomputable def fr84 (l:Nat) (z:Nat→Int) (j:Int):Frm:=[(0,slA 5 l z),(1,.fn (.func 58) [] []),(7,.int .i64 (Int.ofNat l)),(8,.int .i64 j)]
noncomputable def gF1 (L:AV) (i:Int):List AV→Option (Prop×AV)
 | [a,.fn (.func 58) [] []]=>some (a=L,.int .i64 i)
 | _=>none
noncomputable def gF2 (L:AV) (b:Bool):List AV→Option (Prop×AV)
 | [a,.fn (.func 58) [] []]=>some (a=L,.bool b)
 | _=>none
theorem t84 (n:Nat) (l:Nat) (z:Nat→Int) (H:Heap) (j:Int):execT (cxD (n+6) 84 19) (il noCt (n+1) 5) noBT noRT (part Tryz.f84 [1,0,1,0,0]) (hints (fr84 l z j)) (lvE::H) =
 Tr.ite (ltI j (Int.ofNat l)) (Tr.req (inI j l) (Tr.req (ltN (idO 0 j 5) (mulO l 5)) (Tr.req (ltN (addO (idO 0 j 5) 1) (mulO l 5)) (Tr.req (ltN (addO (idO 0 j 5) 2) (mulO l 5)) (Tr.req (ltN (addO (idO 0 j 5) 3) (mulO l 5)) (Tr.req (ltN (addO (idO 0 j 5) 4) (mulO l 5)) (Tr.req (inI (Int.ofNat 0) 4) (Tr.ite (ltI (z (idO 0 j 5)) (Int.ofNat 0)) (Tr.ok (Ex.ret,[(4,AV.int .i64 j,none)],lvE::H)) (Tr.ite (ltI (Int.ofNat 10000) (z (idO 0 j 5))) (Tr.ok (Ex.ret,[(4,AV.int .i64 j,none)],lvE::H)) (Tr.req (inI (Int.ofNat 1) 4) (Tr.ite (ltI (z (addO (idO 0 j 5) 1)) (Int.ofNat 0)) (Tr.ok (Ex.ret,[(4,AV.int .i64 j,none)],lvE::H)) (Tr.ite (ltI (Int.ofNat 10000) (z (addO (idO 0 j 5) 1))) (Tr.ok (Ex.ret,[(4,AV.int .i64 j,none)],lvE::H)) (Tr.req (inI (Int.ofNat 2) 4) (Tr.ite (ltI (z (addO (idO 0 j 5) 2)) (Int.ofNat 0)) (Tr.ok (Ex.ret,[(4,AV.int .i64 j,none)],lvE::H)) (Tr.ite (ltI (Int.ofNat 10000) (z (addO (idO 0 j 5) 2))) (Tr.ok (Ex.ret,[(4,AV.int .i64 j,none)],lvE::H)) (Tr.req (inI (Int.ofNat 3) 4) (Tr.ite (ltI (z (addO (idO 0 j 5) 3)) (Int.ofNat 0)) (Tr.ok (Ex.ret,[(4,AV.int .i64 j,none)],lvE::H)) (Tr.ite (ltI (Int.ofNat 10000) (z (addO (idO 0 j 5) 3))) (Tr.ok (Ex.ret,[(4,AV.int .i64 j,none)],lvE::H)) (Tr.ite (ltI (z (addO (idO 0 j 5) 1)) (z (idO 0 j 5))) (Tr.ok (Ex.ret,[(4,AV.int .i64 j,none)],lvE::H)) (Tr.ite (ltI (z (addO (idO 0 j 5) 3)) (z (addO (idO 0 j 5) 2))) (Tr.ok (Ex.ret,[(4,AV.int .i64 j,none)],lvE::H)) (Tr.req (inI (Int.ofNat 0) 1) (Tr.ite (ltI (z (addO (idO 0 j 5) 4)) (Int.ofNat 0)) (Tr.ok (Ex.ret,[(4,AV.int .i64 j,none)],lvE::H)) (Tr.ite (ltI (Int.ofNat 100000) (z (addO (idO 0 j 5) 4))) (Tr.ok (Ex.ret,[(4,AV.int .i64 j,none)],lvE::H)) (Tr.ok (Ex.normal,[(0,slA 5 l z,none),(1,AV.fn (Fn.func 58) [] [],none),(7,AV.int .i64 (Int.ofNat l),none),(8,AV.int .i64 (addI .i64 j (Int.ofNat 1)),none)],lvE::H))))))))))))))))))))))))) (Tr.ok (Ex.exit 0,[(0,slA 5 l z,none),(1,AV.fn (Fn.func 58) [] [],none),(7,AV.int .i64 (Int.ofNat l),none),(8,AV.int .i64 j,none),(9,AV.bool false,some 1)],lvE::H)):=by kernel_rfl
theorem u84 (n:Nat) (l:Nat) (z:Nat→Int) (H:Heap) (i:Int) (e:Bool):bodyT Tryz.prog (cd (n+6)) 100000 84 Tryz.f84 (KtB.kt 84) (il noCt (n+6) 0) (blkE noBT 0 (fr84 l z 0) (lvE::H) (.ite e (.ok (.ret,[(4,.int .i64 i,none)],lvE::H)) (.ok (.normal,hints (fr84 l z (Int.ofNat l)++[(9,.bool false)]),lvE::H)))) noRT [(slA 5 l z,none),(.fn (.func 58) [] [],none)] H =
 (fun (Z0:Frm)=>Tr.reqP (Z0=Z0∧lvE::H=lvE::H) (Tr.ite e (Tr.ok ((AV.int .i64 i,none),H)) (Tr.ok ((AV.int .i64 (Int.negSucc 0),some 1),H)))) [(0,slA 5 l z),(1,AV.fn (Fn.func 58) [] []),(7,AV.int .i64 (Int.ofNat l)),(8,AV.int .i64 (Int.ofNat 0))]:=by kernel_rfl
theorem u60 (n:Nat) (l:Nat) (z:Nat→Int) (H:Heap) (i:Int):bodyT Tryz.prog (cd (n+7)) 100000 60 Tryz.f60 (KtB.kt 60) (il (ctG noCt 84 (gF1 (slA 5 l z) i)) (n+7) 0) noBT noRT [(slA 5 l z,none),(.fn (.func 58) [] [],none)] H =
 Tr.reqP (slA 5 l z=slA 5 l z) (Tr.ok ((AV.bool (leI (Int.ofNat 0) i),none),H)):=by kernel_rfl
theorem u20 (n:Nat) (l:Nat) (z:Nat→Int) (H:Heap) (b:Bool):bodyT Tryz.prog (cd (n+8)) 100000 20 Tryz.f20 (KtB.kt 20) (il (ctG noCt 60 (gF2 (slA 5 l z) b)) (n+8) 0) noBT noRT [(slA 5 l z,none)] H =
 Tr.ite (eqI (Int.ofNat l) (Int.ofNat 0)) (Tr.ok ((AV.int .i64 (Int.ofNat 6),some 1),H)) (Tr.ite (ltI (Int.ofNat 14) (Int.ofNat l)) (Tr.ok ((AV.int .i64 (Int.ofNat 6),some 1),H)) (Tr.reqP (slA 5 l z=slA 5 l z) (Tr.ite b (Tr.ok ((AV.int .i64 (Int.ofNat 3),some 1),H)) (Tr.ok ((AV.int .i64 (Int.ofNat 0),some 1),H))))):=by kernel_rfl
theorem u20x (n:Nat) (l:Nat) (z:Nat→Int) (H:Heap):bodyT Tryz.prog (cd (n+8)) 100000 20 Tryz.f20 (KtB.kt 20) (il (ctG noCt 60 (fun _=>none)) (n+8) 0) noBT noRT [(slA 5 l z,none)] H =
 Tr.ite (eqI (Int.ofNat l) (Int.ofNat 0)) (Tr.ok ((AV.int .i64 (Int.ofNat 6),some 1),H)) (Tr.ite (ltI (Int.ofNat 14) (Int.ofNat l)) (Tr.ok ((AV.int .i64 (Int.ofNat 6),some 1),H)) Tr.bad):=by kernel_rfl
def oddO (z:Nat→Int) (j:Nat):Bool:=!(decide (0≤z (j*5)) && (decide (z (j*5)≤z (j*5+1)) && (decide (z (j*5+1)≤10000) && (decide (0≤z (j*5+2)) && (decide (z (j*5+2)≤z (j*5+3)) && (decide (z (j*5+3)≤10000) && (decide (0≤z (j*5+4)) && decide (z (j*5+4)≤100000))))))))
def chkO (l:Nat) (z:Nat→Int):Int:=if l=0∨14<l then 6 else if exN (oddO z) l=true then 3 else 0
theorem b84:∀ b,(0,b) ∈ blocksOf (bodyOf Tryz.f84)→b=.loop (part Tryz.f84 [1,0,1,0,0]):=by
 have:((blocksOf (bodyOf Tryz.f84)).filter fun x=>Nat.beq x.1 0)=[(0,.loop (part Tryz.f84 [1,0,1,0,0]))]:=by kernel_rfl
 intro b hb
 have hm:(0,b) ∈ ((blocksOf (bodyOf Tryz.f84)).filter fun x=>Nat.beq x.1 0):=List.mem_filter.2 ⟨hb,rfl⟩
 rw[this] at hm;simpa using hm
section
variable (n:Nat) (l:Nat) (z:Nat→Int) (H:Heap)
theorem c84 (hl:l≤1000):cd (n+7) (.fn 84) [slA 5 l z,.fn (.func 58) [] []] H=some (.int .i64 (cond (exN (oddO z) l) ((fN (oddO z) l 0:Nat):Int) (-1)),H):=by
 have lp:=findX (n:=n+6) (f:=84) (nt:=19) (c:=part Tryz.f84 [1,0,1,0,0]) 0 (fun j=>fr84 l z (j:Int)) (fun _=>lvE::H) l (oddO z) (fun j=>([(4,.int .i64 (j:Int))],lvE::H)) (fr84 l z (Int.ofNat l)++[(9,.bool false)],lvE::H) (by omega) (fun j hj=>?_) ?_
 · refine fn_all (n:=n+6) Tryz.func84 rfl rfl rfl (u84 n l z H ((fN (oddO z) l 0:Nat):Int) (exN (oddO z) l)) (il_no (n+6) 0) (blkE_ok (noBT_ok _ _) b84 (fun x hx=>?_)) (noRT_ok _ _) ?_
   · refine Eq.trans lp ?_
     rcases Tr.ite_some hx with ⟨hc,hx⟩ | ⟨hc,hx⟩
     · rw[← Tr.ok_some hx,hc];rfl
     · rw[← Tr.ok_some hx,hc];simp only[Res.st,hints_eq];rfl
   · repeat' first | (refine Tr.all_ite (fun hc=>?_) (fun hc=>?_)<;>(try simp (disch:=omega) only[nV,nW] at hc)<;>try omega) | (refine Tr.all_req ?_ ?_;· (try simp (disch:=omega) only[nV,nW]);try omega) | (refine Tr.all_reqP ?_ ?_;· first | exact trivial | rfl | exact ⟨rfl,rfl⟩ | exact ⟨rfl,rfl,rfl⟩ | (simp (disch:=omega) only[nV,nW];done) | ((try simp (disch:=omega) only[nV,nW]);omega)) | fail
     all_goals refine Tr.all_ok ⟨?_,rfl⟩
     all_goals rw[hc];rfl
 · have ej:addI .i64 (j:Int) (Int.ofNat 1)=((j+1:Nat):Int):=by rw[addI_eq,show Int.ofNat 1=1 from rfl];exact wr_64 (by omega) (by omega)
   have ei:idO 0 (j:Int) 5=j*5:=by rw[idO_eq];omega
   have hs:oddO z j=!(decide (0≤z (j*5)) && (decide (z (j*5)≤z (j*5+1)) && (decide (z (j*5+1)≤10000) && (decide (0≤z (j*5+2)) && (decide (z (j*5+2)≤z (j*5+3)) && (decide (z (j*5+3)≤10000) && (decide (0≤z (j*5+4)) && decide (z (j*5+4)≤100000)))))))):=rfl
   refine ex_all (t84 n l z H (j:Int)) (il_no (n+1) 5) (noBT_ok _ _) (noRT_ok _ _) ?_
   repeat' first | (refine Tr.all_ite (fun hc=>?_) (fun hc=>?_)<;>(try simp (disch:=omega) only[nV,nW,ei] at hc)<;>try omega) | (refine Tr.all_req ?_ ?_;· (try simp (disch:=omega) only[nV,nW,ei]);try omega) | (refine Tr.all_reqP ?_ ?_;· first | exact trivial | rfl | exact ⟨rfl,rfl⟩ | exact ⟨rfl,rfl,rfl⟩ | (simp (disch:=omega) only[nV,nW,ei];done) | ((try simp (disch:=omega) only[nV,nW,ei]);omega)) | fail
   all_goals refine Tr.all_ok ?_
   all_goals first
    | (rw[if_pos (by rw[hs];simp;omega)];rfl)
    | (rw[if_neg (by rw[hs];simp;omega)];exact ⟨rfl,by rw[ej];rfl⟩)
    | fail
 · obtain ⟨x,h1,rfl⟩:=ex_all (Q:=fun x=>x=(.exit 0,fr84 l z (Int.ofNat l)++[(9,.bool false)],lvE::H)) (t84 n l z H (Int.ofNat l)) (il_no (n+1) 5) (noBT_ok _ _) (noRT_ok _ _) (by
    repeat' first | (refine Tr.all_ite (fun hc=>?_) (fun hc=>?_)<;>(try simp (disch:=omega) only[nV,nW] at hc)<;>try omega) | (refine Tr.all_req ?_ ?_;· (try simp (disch:=omega) only[nV,nW]);try omega) | (refine Tr.all_reqP ?_ ?_;· first | exact trivial | rfl | exact ⟨rfl,rfl⟩ | exact ⟨rfl,rfl,rfl⟩ | (simp (disch:=omega) only[nV,nW];done) | ((try simp (disch:=omega) only[nV,nW]);omega)) | fail
    exact Tr.all_ok rfl)
   exact h1
theorem c60 (hl:l≤1000):cd (n+8) (.fn 60) [slA 5 l z,.fn (.func 58) [] []] H=some (.bool (exN (oddO z) l),H):=by
 refine fn_all (n:=n+7) Tryz.func60 rfl rfl rfl (u60 n l z H (cond (exN (oddO z) l) ((fN (oddO z) l 0:Nat):Int) (-1))) (il_ok _ (n+7) 0 (fun k=>ctG_ok (noCt_ok _) (fun args p v hg hp H=>?_))) (noBT_ok _ _) (noRT_ok _ _) ?_
 · unfold gF1 at hg
   split at hg
   · simp only[nP] at hg
     obtain ⟨rfl,rfl⟩:=hg
     subst hp
     rw[show n+7+k=n+k+7 by omega]
     exact c84 _ l z H hl
   · cases hg
 · repeat' first | (refine Tr.all_ite (fun hc=>?_) (fun hc=>?_)<;>(try simp (disch:=omega) only[nV,nW] at hc)<;>try omega) | (refine Tr.all_req ?_ ?_;· (try simp (disch:=omega) only[nV,nW]);try omega) | (refine Tr.all_reqP ?_ ?_;· first | exact trivial | rfl | exact ⟨rfl,rfl⟩ | exact ⟨rfl,rfl,rfl⟩ | (simp (disch:=omega) only[nV,nW];done) | ((try simp (disch:=omega) only[nV,nW]);omega)) | fail
   all_goals refine Tr.all_ok ⟨?_,rfl⟩
   rw[leI_eq]
   cases exN (oddO z) l
   · rfl
   · simp
theorem c20:cd (n+9) (.fn 20) [slA 5 l z] H=some (.int .i64 (chkO l z),H):=by
 unfold chkO
 by_cases hl:l=0∨14<l
 · rw[if_pos hl]
   refine fn_all (n:=n+8) Tryz.func20 rfl rfl rfl (u20x n l z H) (il_ok _ (n+8) 0 (fun k=>ctG_ok (noCt_ok _) (fun args p v hg hp H=>by cases hg))) (noBT_ok _ _) (noRT_ok _ _) ?_
   repeat' first | (refine Tr.all_ite (fun hc=>?_) (fun hc=>?_)<;>(try simp (disch:=omega) only[nV,nW] at hc)<;>try omega) | (refine Tr.all_req ?_ ?_;· (try simp (disch:=omega) only[nV,nW]);try omega) | (refine Tr.all_reqP ?_ ?_;· first | exact trivial | rfl | exact ⟨rfl,rfl⟩ | exact ⟨rfl,rfl,rfl⟩ | (simp (disch:=omega) only[nV,nW];done) | ((try simp (disch:=omega) only[nV,nW]);omega)) | fail
   all_goals exact Tr.all_ok ⟨rfl,rfl⟩
 · rw[if_neg hl]
   refine fn_all (n:=n+8) Tryz.func20 rfl rfl rfl (u20 n l z H (exN (oddO z) l)) (il_ok _ (n+8) 0 (fun k=>ctG_ok (noCt_ok _) (fun args p v hg hp H=>?_))) (noBT_ok _ _) (noRT_ok _ _) ?_
   · unfold gF2 at hg
     split at hg
     · simp only[nP] at hg
       obtain ⟨rfl,rfl⟩:=hg
       subst hp
       rw[show n+8+k=n+k+8 by omega]
       exact c60 _ l z H (by omega)
     · cases hg
   · cases hx:exN (oddO z) l
     · repeat' first | (refine Tr.all_ite (fun hc=>?_) (fun hc=>?_)<;>(try simp (disch:=omega) only[nV,nW,hx] at hc)<;>try omega) | (refine Tr.all_req ?_ ?_;· (try simp (disch:=omega) only[nV,nW,hx]);try omega) | (refine Tr.all_reqP ?_ ?_;· first | exact trivial | rfl | exact ⟨rfl,rfl⟩ | exact ⟨rfl,rfl,rfl⟩ | (simp (disch:=omega) only[nV,nW,hx];done) | ((try simp (disch:=omega) only[nV,nW,hx]);omega)) | fail
       all_goals first
        | exact Tr.all_ok ⟨rfl,rfl⟩
        | fail
     · repeat' first | (refine Tr.all_ite (fun hc=>?_) (fun hc=>?_)<;>(try simp (disch:=omega) only[nV,nW,hx] at hc)<;>try omega) | (refine Tr.all_req ?_ ?_;· (try simp (disch:=omega) only[nV,nW,hx]);try omega) | (refine Tr.all_reqP ?_ ?_;· first | exact trivial | rfl | exact ⟨rfl,rfl⟩ | exact ⟨rfl,rfl,rfl⟩ | (simp (disch:=omega) only[nV,nW,hx];done) | ((try simp (disch:=omega) only[nV,nW,hx]);omega)) | fail
       all_goals first
        | exact Tr.all_ok ⟨rfl,rfl⟩
        | fail
end
end Go.Eng
end
section
namespace Go.Eng
open Go.Proofs
set_option linter.unusedVariables false
set_option linter.unusedSimpArgs false
set_option maxRecDepth 100000
noncomputable def fr21 (l:Nat) (z:Nat→Int) (j:Int):Frm:=[(0,slA 5 l z),(3,.int .i64 j)]
noncomputable def g20 (L:AV) (e:Int):List AV→Option (Prop×AV)
 | [a]=>some (a=L,.int .i64 e)
 | _=>none
theorem t21 (n:Nat) (l:Nat) (z:Nat→Int) (H:Heap) (j:Int):execT (cxD (n+2) 21 50) (il noCt (n+1) 1) noBT noRT (part Tryz.f21 [1,1,0,1,0,0]) (hints (fr21 l z j)) (lvE::H) =
 (fun (Z0:HFrm)=>Tr.ite (ltI j (Int.ofNat l)) (Tr.req (inI j l) (Tr.req (ltN (idO 0 j 5) (mulO l 5)) (Tr.req (ltN (addO (idO 0 j 5) 1) (mulO l 5)) (Tr.ite (leI (Int.ofNat 0) (z (idO 0 j 5))) (Tr.ite (leI (z (idO 0 j 5)) (z (addO (idO 0 j 5) 1))) (Tr.ite (notB (leI (z (addO (idO 0 j 5) 1)) (Int.ofNat 10000))) (Tr.ok (Ex.ret,Z0,lvE::H)) (Tr.req (inI j l) (Tr.req (ltN (addO (idO 0 j 5) 2) (mulO l 5)) (Tr.req (ltN (addO (addO (idO 0 j 5) 2) 1) (mulO l 5)) (Tr.ite (leI (Int.ofNat 0) (z (addO (idO 0 j 5) 2))) (Tr.ite (leI (z (addO (idO 0 j 5) 2)) (z (addO (addO (idO 0 j 5) 2) 1))) (Tr.ite (notB (leI (z (addO (addO (idO 0 j 5) 2) 1)) (Int.ofNat 10000))) (Tr.ok (Ex.ret,Z0,lvE::H)) (Tr.req (inI j l) (Tr.req (ltN (addO (idO 0 j 5) 4) (mulO l 5)) (Tr.ite (ltI (z (addO (idO 0 j 5) 4)) (Int.ofNat 0)) (Tr.ok (Ex.ret,Z0,lvE::H)) (Tr.req (inI j l) (Tr.req (ltN (addO (idO 0 j 5) 4) (mulO l 5)) (Tr.ite (ltI (Int.ofNat 100000) (z (addO (idO 0 j 5) 4))) (Tr.ok (Ex.ret,Z0,lvE::H)) (Tr.ok (Ex.normal,[(0,slA 5 l z,none),(3,AV.int .i64 (addI .i64 j (Int.ofNat 1)),none)],lvE::H))))))))) (Tr.ok (Ex.ret,Z0,lvE::H))) (Tr.ok (Ex.ret,Z0,lvE::H))))))) (Tr.ok (Ex.ret,Z0,lvE::H))) (Tr.ok (Ex.ret,Z0,lvE::H)))))) (Tr.ok (Ex.exit 0,[(0,slA 5 l z,none),(3,AV.int .i64 j,none),(15,AV.bool false,some 1)],lvE::H))) [(2,AV.int .i64 (Int.ofNat 3),some 1)]:=by kernel_rfl
theorem u21 (n:Nat) (l:Nat) (z:Nat→Int) (H:Heap) (e:Bool):bodyT Tryz.prog (cd (n+2)) 100000 21 Tryz.f21 (KtB.kt 21) (il noCt (n+2) 0) (blkE noBT 0 (fr21 l z 0) (lvE::H) (.ite e (.ok (.ret,[(2,.int .i64 3,none)],lvE::H)) (.ok (.normal,hints (fr21 l z (Int.ofNat l)++[(15,.bool false)]),lvE::H)))) noRT [(slA 5 l z,none)] H =
 Tr.ite (ltI (Int.ofNat l) (Int.ofNat 1)) (Tr.ok ((AV.int .i64 (Int.ofNat 6),some 1),H)) (Tr.ite (ltI (Int.ofNat 14) (Int.ofNat l)) (Tr.ok ((AV.int .i64 (Int.ofNat 6),some 1),H)) (Tr.reqP ([(0,slA 5 l z),(3,AV.int .i64 (Int.ofNat 0))]=[(0,slA 5 l z),(3,AV.int .i64 (Int.ofNat 0))]∧lvE::H=lvE::H) (Tr.ite e (Tr.ok ((AV.int .i64 (Int.ofNat 3),none),H)) (Tr.ok ((AV.int .i64 (Int.ofNat 0),some 1),H))))):=by kernel_rfl
theorem u21x (n:Nat) (l:Nat) (z:Nat→Int) (H:Heap):bodyT Tryz.prog (cd (n+2)) 100000 21 Tryz.f21 (KtB.kt 21) (il noCt (n+2) 0) (stopB noBT 0) noRT [(slA 5 l z,none)] H =
 Tr.ite (ltI (Int.ofNat l) (Int.ofNat 1)) (Tr.ok ((AV.int .i64 (Int.ofNat 6),some 1),H)) (Tr.ite (ltI (Int.ofNat 14) (Int.ofNat l)) (Tr.ok ((AV.int .i64 (Int.ofNat 6),some 1),H)) Tr.bad):=by kernel_rfl
def bLo (z:Nat→Int) (j:Nat):Int:=z (j*5+1)-z (j*5+3)
def bHi (z:Nat→Int) (j:Nat):Int:=z (j*5)-z (j*5+2)
def birV (l:Nat) (z:Nat→Int) (q:Int):AV :=
 if chkO l z≠0 then .tup [.agg (.I .i64 [0,0]),.int .i64 (chkO l z)]
 else if ¬ (0≤q∧q<l) then .tup [.agg (.I .i64 [0,0]),.int .i64 2]
 else if bHi z q.toNat<bLo z q.toNat then .tup [.agg (.I .i64 [0,0]),.int .i64 22]
 else .tup [.agg (.I .i64 [bLo z q.toNat,bHi z q.toNat]),.int .i64 0]
theorem b21:∀ b,(0,b) ∈ blocksOf (bodyOf Tryz.f21)→b=.loop (part Tryz.f21 [1,1,0,1,0,0]):=by
 have:((blocksOf (bodyOf Tryz.f21)).filter fun x=>Nat.beq x.1 0)=[(0,.loop (part Tryz.f21 [1,1,0,1,0,0]))]:=by kernel_rfl
 intro b hb
 have hm:(0,b) ∈ ((blocksOf (bodyOf Tryz.f21)).filter fun x=>Nat.beq x.1 0):=List.mem_filter.2 ⟨hb,rfl⟩
 rw[this] at hm;simpa using hm
theorem chk_odd {l:Nat} {z:Nat→Int} (h:chkO l z=0):(1≤l∧l≤14)∧∀ j,j<l→0≤z (j*5)∧z (j*5)≤z (j*5+1)∧z (j*5+1)≤10000∧0≤z (j*5+2)∧z (j*5+2)≤z (j*5+3)∧z (j*5+3)≤10000∧0≤z (j*5+4)∧z (j*5+4)≤100000:=by
 unfold chkO at h
 by_cases hl:l=0∨14<l
 · rw[if_pos hl] at h;exact absurd h (by decide)
 rw[if_neg hl] at h
 cases he:exN (oddO z) l with
 | true=>rw[he,if_pos rfl] at h;exact absurd h (by decide)
 | false =>
   refine ⟨by omega,fun j hj=>?_⟩
   have:oddO z j=false:=by
    cases e:oddO z j with
    | false=>rfl
    | true=>rw[(exN_iff _ _).2 ⟨j,hj,e⟩] at he;cases he
   simpa[oddO] using this
section
variable (n:Nat) (l:Nat) (z:Nat→Int) (H:Heap) (q:Int)
theorem c21:cd (n+3) (.fn 21) [slA 5 l z] H=some (.int .i64 (chkO l z),H):=by
 unfold chkO
 by_cases hl:l=0∨14<l
 · rw[if_pos hl]
   refine fn_all (n:=n+2) Tryz.func21 rfl rfl rfl (u21x n l z H) (il_no (n+2) 0) (stopB_ok (noBT_ok _ _) 0) (noRT_ok _ _) ?_
   repeat' first | (refine Tr.all_ite (fun hc=>?_) (fun hc=>?_)<;>(try simp (disch:=omega) only[nV,nW] at hc)<;>try omega) | (refine Tr.all_req ?_ ?_;· (try simp (disch:=omega) only[nV,nW]);try omega) | (refine Tr.all_reqP ?_ ?_;· first | exact trivial | rfl | exact ⟨rfl,rfl⟩ | exact ⟨rfl,rfl,rfl⟩ | (simp (disch:=omega) only[nV,nW];done) | ((try simp (disch:=omega) only[nV,nW]);omega)) | fail
   all_goals exact Tr.all_ok ⟨rfl,rfl⟩
 rw[if_neg hl]
 have lp:=findX (n:=n+2) (f:=21) (nt:=50) (c:=part Tryz.f21 [1,1,0,1,0,0]) 0 (fun j=>fr21 l z (j:Int)) (fun _=>lvE::H) l (oddO z) (fun j=>([(2,.int .i64 3)],lvE::H)) (fr21 l z (Int.ofNat l)++[(15,.bool false)],lvE::H) (by omega) (fun j hj=>?_) ?_
 · refine fn_all (n:=n+2) Tryz.func21 rfl rfl rfl (u21 n l z H (exN (oddO z) l)) (il_no (n+2) 0) (blkE_ok (noBT_ok _ _) b21 (fun x hx=>?_)) (noRT_ok _ _) ?_
   · refine Eq.trans lp ?_
     rcases Tr.ite_some hx with ⟨hc,hx⟩ | ⟨hc,hx⟩
     · rw[← Tr.ok_some hx,hc];rfl
     · rw[← Tr.ok_some hx,hc];simp only[Res.st,hints_eq];rfl
   · cases hx:exN (oddO z) l
     · repeat' first | (refine Tr.all_ite (fun hc=>?_) (fun hc=>?_)<;>(try simp (disch:=omega) only[nV,nW,hx] at hc)<;>try omega) | (refine Tr.all_req ?_ ?_;· (try simp (disch:=omega) only[nV,nW,hx]);try omega) | (refine Tr.all_reqP ?_ ?_;· first | exact trivial | rfl | exact ⟨rfl,rfl⟩ | exact ⟨rfl,rfl,rfl⟩ | (simp (disch:=omega) only[nV,nW,hx];done) | ((try simp (disch:=omega) only[nV,nW,hx]);omega)) | fail
       all_goals first
        | exact Tr.all_ok ⟨rfl,rfl⟩
        | fail
     · repeat' first | (refine Tr.all_ite (fun hc=>?_) (fun hc=>?_)<;>(try simp (disch:=omega) only[nV,nW,hx] at hc)<;>try omega) | (refine Tr.all_req ?_ ?_;· (try simp (disch:=omega) only[nV,nW,hx]);try omega) | (refine Tr.all_reqP ?_ ?_;· first | exact trivial | rfl | exact ⟨rfl,rfl⟩ | exact ⟨rfl,rfl,rfl⟩ | (simp (disch:=omega) only[nV,nW,hx];done) | ((try simp (disch:=omega) only[nV,nW,hx]);omega)) | fail
       all_goals first
        | exact Tr.all_ok ⟨rfl,rfl⟩
        | fail
 · have ej:addI .i64 (j:Int) (Int.ofNat 1)=((j+1:Nat):Int):=by rw[addI_eq,show Int.ofNat 1=1 from rfl];exact wr_64 (by omega) (by omega)
   have ei:idO 0 (j:Int) 5=j*5:=by rw[idO_eq];omega
   have hs:oddO z j=!(decide (0≤z (j*5)) && (decide (z (j*5)≤z (j*5+1)) && (decide (z (j*5+1)≤10000) && (decide (0≤z (j*5+2)) && (decide (z (j*5+2)≤z (j*5+3)) && (decide (z (j*5+3)≤10000) && (decide (0≤z (j*5+4)) && decide (z (j*5+4)≤100000)))))))):=rfl
   refine ex_all (t21 n l z H (j:Int)) (il_no (n+1) 1) (noBT_ok _ _) (noRT_ok _ _) ?_
   have e31:j*5+2+1=j*5+3:=rfl
   repeat' first | (refine Tr.all_ite (fun hc=>?_) (fun hc=>?_)<;>(try simp (disch:=omega) only[nV,nW,ei,e31] at hc)<;>try omega) | (refine Tr.all_req ?_ ?_;· (try simp (disch:=omega) only[nV,nW,ei,e31]);try omega) | (refine Tr.all_reqP ?_ ?_;· first | exact trivial | rfl | exact ⟨rfl,rfl⟩ | exact ⟨rfl,rfl,rfl⟩ | (simp (disch:=omega) only[nV,nW,ei,e31];done) | ((try simp (disch:=omega) only[nV,nW,ei,e31]);omega)) | fail
   all_goals refine Tr.all_ok ?_
   all_goals first
    | (rw[if_pos (by rw[hs];simp;omega)];rfl)
    | (rw[if_neg (by rw[hs];simp;omega)];exact ⟨rfl,by rw[ej];rfl⟩)
    | fail
 · obtain ⟨x,h1,rfl⟩:=ex_all (Q:=fun x=>x=(.exit 0,fr21 l z (Int.ofNat l)++[(15,.bool false)],lvE::H)) (t21 n l z H (Int.ofNat l)) (il_no (n+1) 1) (noBT_ok _ _) (noRT_ok _ _) (by
    repeat' first | (refine Tr.all_ite (fun hc=>?_) (fun hc=>?_)<;>(try simp (disch:=omega) only[nV,nW] at hc)<;>try omega) | (refine Tr.all_req ?_ ?_;· (try simp (disch:=omega) only[nV,nW]);try omega) | (refine Tr.all_reqP ?_ ?_;· first | exact trivial | rfl | exact ⟨rfl,rfl⟩ | exact ⟨rfl,rfl,rfl⟩ | (simp (disch:=omega) only[nV,nW];done) | ((try simp (disch:=omega) only[nV,nW]);omega)) | fail
    exact Tr.all_ok rfl)
   exact h1
theorem ctO {f k:Nat} {t:Ctr} {e:Int} (ht:t.Ok (cd k)) (h:∀ H,cd k (.fn f) [slA 5 l z] H=some (.int .i64 e,H)):(ctG t f (g20 (slA 5 l z) e)).Ok (cd k):=by
 refine ctG_ok ht (fun args p v hg hp H=>?_)
 unfold g20 at hg
 split at hg
 · simp only[nP] at hg
   obtain ⟨rfl,rfl⟩:=hg
   subst hp
   exact h H
 · cases hg
end
end Go.Eng
end
section
namespace Go.Eng
open Go.Proofs
set_option linter.unusedVariables false
set_option linter.unusedSimpArgs false
set_option maxRecDepth 100000
noncomputable def fr82 (l:Nat) (z:Nat→Int) (j:Int):Frm:=[(3,.ptr 0 0 0 0),(8,slA 5 l z),(9,.int .i64 (Int.ofNat l)),(10,.int .i64 j)]
theorem t82a (n:Nat) (l:Nat) (z:Nat→Int) (H:Heap):execT (cxD n 82 42) (il noCt n 0) noBT noRT (part Tryz.f82 [1,1,0,1,0,0]) (hints (fr82 l z 0)) (⟨false,[(0,.row (.G [.nils]))]⟩::H) =
 Tr.ite (ltI (Int.ofNat 0) (Int.ofNat l)) (Tr.req (inI (Int.ofNat 0) l) (Tr.req (ltN (idO 0 (Int.ofNat 0) 5) (mulO l 5)) (Tr.req (ltN (addO (idO 0 (Int.ofNat 0) 5) 1) (mulO l 5)) (Tr.req (ltN (addO (idO 0 (Int.ofNat 0) 5) 2) (mulO l 5)) (Tr.req (ltN (addO (idO 0 (Int.ofNat 0) 5) 3) (mulO l 5)) (Tr.req (ltN (addO (idO 0 (Int.ofNat 0) 5) 4) (mulO l 5)) (Tr.req (roomO 0 1 56) (Tr.req (eqN 0 0) (Tr.req (leN 1 1) (Tr.req (andB (leN 0 0) (leN 0 1)) (Tr.ok (Ex.normal,[(3,AV.ptr 0 0 0 0,none),(8,slA 5 l z,none),(9,AV.int .i64 (Int.ofNat l),none),(10,AV.int .i64 (addI .i64 (Int.ofNat 0) (Int.ofNat 1)),none)],{ lock:=false,bs:=[(0,Blk.row (Row.G [AV.slc 0 3 0 0 7 1 none])),(0,Blk.row (Row.I .i64 [z (idO 0 (Int.ofNat 0) 5),z (addO (idO 0 (Int.ofNat 0) 5) 1),z (addO (idO 0 (Int.ofNat 0) 5) 2),z (addO (idO 0 (Int.ofNat 0) 5) 3),z (addO (idO 0 (Int.ofNat 0) 5) 4)])),(0,Blk.row (Row.I .i64 [z (idO 0 (Int.ofNat 0) 5),z (addO (idO 0 (Int.ofNat 0) 5) 1),z (addO (idO 0 (Int.ofNat 0) 5) 2),z (addO (idO 0 (Int.ofNat 0) 5) 3),z (addO (idO 0 (Int.ofNat 0) 5) 4),subI .i64 (z (addO (idO 0 (Int.ofNat 0) 5) 1)) (z (addO (idO 0 (Int.ofNat 0) 5) 3)),subI .i64 (z (idO 0 (Int.ofNat 0) 5)) (z (addO (idO 0 (Int.ofNat 0) 5) 2))])),(0,Blk.row (Row.M [Seg.arr .i64 (lstO [z (idO 0 (Int.ofNat 0) 5),z (addO (idO 0 (Int.ofNat 0) 5) 1),z (addO (idO 0 (Int.ofNat 0) 5) 2),z (addO (idO 0 (Int.ofNat 0) 5) 3),z (addO (idO 0 (Int.ofNat 0) 5) 4),subI .i64 (z (addO (idO 0 (Int.ofNat 0) 5) 1)) (z (addO (idO 0 (Int.ofNat 0) 5) 3)),subI .i64 (z (idO 0 (Int.ofNat 0) 5)) (z (addO (idO 0 (Int.ofNat 0) 5) 2))]) 7]))] } :: H)))))))))))) (Tr.ok (Ex.exit 0,[(3,AV.ptr 0 0 0 0,none),(8,slA 5 l z,none),(9,AV.int .i64 (Int.ofNat l),none),(10,AV.int .i64 (Int.ofNat 0),none),(11,AV.bool false,some 1)],{ lock:=false,bs:=[(0,Blk.row (Row.G [AV.nils]))] } :: H)):=by kernel_rfl
theorem t82b (n:Nat) (l:Nat) (z y:Nat→Int) (H:Heap) (j:Int) (v m:Nat):execT (cxD n 82 42) (il noCt n 0) noBT noRT (part Tryz.f82 [1,1,0,1,0,0]) (hints (fr82 l z j)) (⟨false,[(0,.row (.G [.slc 0 1 v 0 7 m none])),(v,.row (.M [.arr .i64 y (mulO m 7)]))]⟩::H) =
 Tr.ite (ltI j (Int.ofNat l)) (Tr.req (inI j l) (Tr.req (ltN (idO 0 j 5) (mulO l 5)) (Tr.req (ltN (addO (idO 0 j 5) 1) (mulO l 5)) (Tr.req (ltN (addO (idO 0 j 5) 2) (mulO l 5)) (Tr.req (ltN (addO (idO 0 j 5) 3) (mulO l 5)) (Tr.req (ltN (addO (idO 0 j 5) 4) (mulO l 5)) (Tr.req (roomO m 1 56) (Tr.req (eqN 0 0) (Tr.req (leN 1 1) (Tr.req (eqN v v) (Tr.req (eqN (addO 0 (mulO m 7)) (mulO m 7)) (Tr.req (andB (leN v (Nat.succ v)) (leN (Nat.succ v) (Nat.succ v))) (Tr.req (andB (leN 0 0) (leN 0 1)) (Tr.ok (Ex.normal,[(3,AV.ptr 0 0 0 0,none),(8,slA 5 l z,none),(9,AV.int .i64 (Int.ofNat l),none),(10,AV.int .i64 (addI .i64 j (Int.ofNat 1)),none)],{ lock:=false,bs:=[(0,Blk.row (Row.G [AV.slc 0 1 (Nat.succ v) 0 7 (addO m 1) none])),(Nat.succ v,Blk.row (Row.M [Seg.arr .i64 (appO (shO y 0) (mulO m 7) (lstO [z (idO 0 j 5),z (addO (idO 0 j 5) 1),z (addO (idO 0 j 5) 2),z (addO (idO 0 j 5) 3),z (addO (idO 0 j 5) 4),subI .i64 (z (addO (idO 0 j 5) 1)) (z (addO (idO 0 j 5) 3)),subI .i64 (z (idO 0 j 5)) (z (addO (idO 0 j 5) 2))])) (addO (mulO m 7) 7)])),(0,Blk.row (Row.I .i64 [z (idO 0 j 5),z (addO (idO 0 j 5) 1),z (addO (idO 0 j 5) 2),z (addO (idO 0 j 5) 3),z (addO (idO 0 j 5) 4)])),(0,Blk.row (Row.I .i64 [z (idO 0 j 5),z (addO (idO 0 j 5) 1),z (addO (idO 0 j 5) 2),z (addO (idO 0 j 5) 3),z (addO (idO 0 j 5) 4),subI .i64 (z (addO (idO 0 j 5) 1)) (z (addO (idO 0 j 5) 3)),subI .i64 (z (idO 0 j 5)) (z (addO (idO 0 j 5) 2))])),(0,Blk.dead)] } :: H))))))))))))))) (Tr.ok (Ex.exit 0,[(3,AV.ptr 0 0 0 0,none),(8,slA 5 l z,none),(9,AV.int .i64 (Int.ofNat l),none),(10,AV.int .i64 j,none),(11,AV.bool false,some 1)],{ lock:=false,bs:=[(0,Blk.row (Row.G [AV.slc 0 1 v 0 7 m none])),(v,Blk.row (Row.M [Seg.arr .i64 y (mulO m 7)]))] } :: H)):=by kernel_rfl
theorem u82 (n:Nat) (l:Nat) (z y:Nat→Int) (H:Heap) (v m:Nat):bodyT Tryz.prog (cd n) 100000 82 Tryz.f82 (KtB.kt 82) (il noCt n 0) (blkE noBT 0 (fr82 l z 0) (⟨false,[(0,.row (.G [.nils]))]⟩::H) (.ok (.normal,hints (fr82 l z (Int.ofNat l)++[(11,.bool false)]),⟨false,[(0,.row (.G [.slc 0 1 v 0 7 m none])),(v,.row (.M [.arr .i64 y (mulO m 7)]))]⟩::H))) noRT [(slA 5 l z,none)] H =
 (fun (Z0:Frm)=>Tr.reqP (Z0=Z0∧{ lock:=false,bs:=[(0,Blk.row (Row.G [AV.nils]))] } :: H={ lock:=false,bs:=[(0,Blk.row (Row.G [AV.nils]))] } :: H) (Tr.req (eqN v v) (Tr.req (inO 0 (mulO m 7) 0 (mulO m 7)) (Tr.ok ((AV.ptrT (some 0) (Row.G [AV.slcT none (Row.M [Seg.arr .i64 (shO y 0) (mulO m 7)]) 7 m false]) 0,none),H))))) [(3,AV.ptr 0 0 0 0),(8,slA 5 l z),(9,AV.int .i64 (Int.ofNat l)),(10,AV.int .i64 (Int.ofNat 0))]:=by kernel_rfl
def oZ (z:Nat→Int) (i:Nat):Int:=if i % 7<5 then z (i / 7*5+i % 7) else if i % 7=5 then bLo z (i / 7) else bHi z (i / 7)
def oY (z:Nat→Int) (j:Nat) (i:Nat):Int:=if i<j*7 then oZ z i else 0
noncomputable def lv82 (z:Nat→Int):Nat→Lvl
 | 0=>⟨false,[(0,.row (.G [.nils]))]⟩
 | j+1=>⟨false,[(0,.row (.G [.slc 0 1 j 0 7 (j+1) none])),(j,.row (.M [.arr .i64 (oY z (j+1)) (mulO (j+1) 7)]))]⟩
theorem b82:∀ b,(0,b) ∈ blocksOf (bodyOf Tryz.f82)→b=.loop (part Tryz.f82 [1,1,0,1,0,0]):=by
 have:((blocksOf (bodyOf Tryz.f82)).filter fun x=>Nat.beq x.1 0)=[(0,.loop (part Tryz.f82 [1,1,0,1,0,0]))]:=by kernel_rfl
 intro b hb
 have hm:(0,b) ∈ ((blocksOf (bodyOf Tryz.f82)).filter fun x=>Nat.beq x.1 0):=List.mem_filter.2 ⟨hb,rfl⟩
 rw[this] at hm;simpa using hm
theorem oY_app (z:Nat→Int) (j:Nat):appO (shO (oY z j) 0) (mulO j 7) (lstO [z (j*5),z (j*5+1),z (j*5+2),z (j*5+3),z (j*5+4),bLo z j,bHi z j])=oY z (j+1):=by
 funext i
 rw[appO_fn,shO_fn,lstO_fn,mulO_eq]
 unfold oY
 by_cases h:i<j*7
 · simp[h,show i<(j+1)*7 by omega]
 · by_cases h2:i<(j+1)*7
   · obtain ⟨r,hr,rfl⟩:∃ r,r<7∧i=j*7+r:=⟨i-j*7,by omega,by omega⟩
     have e1:(j*7+r) / 7=j:=by omega
     have e2:(j*7+r) % 7=r:=by omega
     unfold oZ
     rw[e1,e2]
     have:r=0∨r=1∨r=2∨r=3∨r=4∨r=5∨r=6:=by omega
     rcases this with rfl | rfl | rfl | rfl | rfl | rfl | rfl<;>simp[h2,Nat.add_sub_cancel_left]<;>omega
   · simp[h,h2,List.getD_eq_getElem?_getD,List.getElem?_eq_none (show [z (j*5),z (j*5+1),z (j*5+2),z (j*5+3),z (j*5+4),bLo z j,bHi z j].length≤i-j*7 by simp;omega)]
section
variable (n:Nat) (l:Nat) (z:Nat→Int) (H:Heap)
theorem l82 (h:chkO l z=0):exec (cxD n 82 42) (.block 0 (.loop (part Tryz.f82 [1,1,0,1,0,0]))) (fr82 l z 0) (lv82 z 0::H)=some (.normal,fr82 l z (Int.ofNat l)++[(11,.bool false)],lv82 z l::H):=by
 obtain ⟨hl,hb⟩:=chk_odd h
 have:=forX (n:=n) (f:=82) (nt:=42) (c:=part Tryz.f82 [1,1,0,1,0,0]) 0 (fun j=>fr82 l z (j:Int)) (fun j=>lv82 z j::H) l (fr82 l z (Int.ofNat l)++[(11,.bool false)],lv82 z l::H) (by omega) (fun j hj=>?_) ?_
 · exact this
 · have b:=hb j hj
   have ej:addI .i64 (j:Int) (Int.ofNat 1)=((j+1:Nat):Int):=by rw[addI_eq,show Int.ofNat 1=1 from rfl];exact wr_64 (by omega) (by omega)
   have ei:idO 0 (j:Int) 5=j*5:=by rw[idO_eq];omega
   have s1:subI .i64 (z (j*5+1)) (z (j*5+3))=bLo z j:=by rw[subI_eq];exact wr_64 (by omega) (by omega)
   have s2:subI .i64 (z (j*5)) (z (j*5+2))=bHi z j:=by rw[subI_eq];exact wr_64 (by omega) (by omega)
   cases j with
   | zero =>
     have e0:=oY_app z 0
     have ei':idO 0 (Int.ofNat 0) 5=0:=by rw[idO_eq];rfl
     have ej':addI .i64 (Int.ofNat 0) (Int.ofNat 1)=((0+1:Nat):Int):=ej
     have s1':subI .i64 (z (0+1)) (z (0+3))=bLo z 0:=s1
     have s2':subI .i64 (z 0) (z (0+2))=bHi z 0:=s2
     have e9:lstO [z 0,z (0+1),z (0+2),z (0+3),z (0+4),bLo z 0,bHi z 0]=oY z (0+1):=by
      rw[← e0,appO_fn,shO_fn,mulO_eq]
      funext i;simp
     have e7:mulO (0+1) 7=7:=by rw[mulO_eq]
     refine ex_all (t82a n l z H) (il_no0 n) (noBT_ok _ _) (noRT_ok _ _) ?_
     rw[ei',ej']
     simp only[addO_eq]
     rw[s1',s2',e9]
     repeat' first | (refine Tr.all_ite (fun hc=>?_) (fun hc=>?_)<;>(try simp (disch:=omega) only[nV,nW] at hc)<;>try omega) | (refine Tr.all_req ?_ ?_;· (try simp (disch:=omega) only[nV,nW]);try omega) | (refine Tr.all_reqP ?_ ?_;· first | exact trivial | rfl | exact ⟨rfl,rfl⟩ | exact ⟨rfl,rfl,rfl⟩ | (simp (disch:=omega) only[nV,nW];done) | ((try simp (disch:=omega) only[nV,nW]);omega)) | fail
     all_goals first
      | (refine Tr.all_ok ⟨rfl,?_⟩
         show _=(fr82 l z ((0+1:Nat):Int),(⟨false,[(0,.row (.G [.slc 0 1 0 0 7 (0+1) none])),(0,.row (.M [.arr .i64 (oY z (0+1)) (mulO (0+1) 7)]))]⟩:Lvl)::H)
         rw[e7];rfl)
      | fail
   | succ j =>
     have e0:=oY_app z (j+1)
     have e7:addO (mulO (j+1) 7) 7=mulO (j+1+1) 7:=by rw[addO_eq,mulO_eq,mulO_eq];omega
     have e8:addO (j+1) 1=j+1+1:=by rw[addO_eq]
     refine ex_all (t82b n l z (oY z (j+1)) H ((j+1:Nat):Int) j (j+1)) (il_no0 n) (noBT_ok _ _) (noRT_ok _ _) ?_
     rw[ei,ej,e7,e8]
     have ea:∀ k,addO ((j+1)*5) k=(j+1)*5+k:=fun k=>by rw[addO_eq]
     simp only[ea]
     rw[s1,s2,e0]
     repeat' first | (refine Tr.all_ite (fun hc=>?_) (fun hc=>?_)<;>(try simp (disch:=omega) only[nV,nW] at hc)<;>try omega) | (refine Tr.all_req ?_ ?_;· (try simp (disch:=omega) only[nV,nW]);try omega) | (refine Tr.all_reqP ?_ ?_;· first | exact trivial | rfl | exact ⟨rfl,rfl⟩ | exact ⟨rfl,rfl,rfl⟩ | (simp (disch:=omega) only[nV,nW];done) | ((try simp (disch:=omega) only[nV,nW]);omega)) | fail
     all_goals first
      | exact Tr.all_ok ⟨rfl,rfl⟩
      | fail
 · cases l with
   | zero=>omega
   | succ k =>
     obtain ⟨x,h1,rfl⟩:=ex_all (Q:=fun x=>x=(.exit 0,fr82 (k+1) z (Int.ofNat (k+1))++[(11,.bool false)],lv82 z (k+1)::H)) (t82b n (k+1) z (oY z (k+1)) H (Int.ofNat (k+1)) k (k+1)) (il_no0 n) (noBT_ok _ _) (noRT_ok _ _) (by
      repeat' first | (refine Tr.all_ite (fun hc=>?_) (fun hc=>?_)<;>(try simp (disch:=omega) only[nV,nW] at hc)<;>try omega) | (refine Tr.all_req ?_ ?_;· (try simp (disch:=omega) only[nV,nW]);try omega) | (refine Tr.all_reqP ?_ ?_;· first | exact trivial | rfl | exact ⟨rfl,rfl⟩ | exact ⟨rfl,rfl,rfl⟩ | (simp (disch:=omega) only[nV,nW];done) | ((try simp (disch:=omega) only[nV,nW]);omega)) | fail
      all_goals exact Tr.all_ok rfl)
     exact h1
noncomputable def bookV (l:Nat) (z:Nat→Int):AV:=.ptrT (some 0) (.G [slA 7 l (oY z l)]) 0
theorem c82 (h:chkO l z=0):cd (n+1) (.fn 82) [slA 5 l z] H=some (bookV l z,H):=by
 obtain ⟨hl,_⟩:=chk_odd h
 have lp:=l82 n l z H h
 cases l with
 | zero=>omega
 | succ k =>
   refine fn_all (n:=n) Tryz.func82 rfl rfl rfl (u82 n (k+1) z (oY z (k+1)) H k (k+1)) (il_no0 n) (blkE_ok (noBT_ok _ _) b82 (fun x hx=>by rw[← Tr.ok_some hx];simp only[Res.st,hints_eq];exact lp)) (noRT_ok _ _) ?_
   repeat' first | (refine Tr.all_ite (fun hc=>?_) (fun hc=>?_)<;>(try simp (disch:=omega) only[nV,nW] at hc)<;>try omega) | (refine Tr.all_req ?_ ?_;· (try simp (disch:=omega) only[nV,nW]);try omega) | (refine Tr.all_reqP ?_ ?_;· first | exact trivial | rfl | exact ⟨rfl,rfl⟩ | exact ⟨rfl,rfl,rfl⟩ | (simp (disch:=omega) only[nV,nW];done) | ((try simp (disch:=omega) only[nV,nW]);omega)) | fail
   all_goals first
    | (refine Tr.all_ok ⟨?_,rfl⟩
       rw[shO_zero];rfl)
    | fail
end
end Go.Eng
end
