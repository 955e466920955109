/- Gall: closed calls: what they lean on; counts of shelves that are known. -/
import Derived.Test.YtgphpjdchnfjlaaDoorV4Gq5x5
import Derived.Test.YtgphpjdchnfjlaaDoorV4Gp2x6
import Derived.Test.YtgphpjdchnfjlaaDoorV4EngThx10
import Derived.Test.YtgphpjdchnfjlaaDoorV4EngTkx3
import Derived.Test.YtgphpjdchnfjlaaDoorV4EngRnFx7
import Derived.Test.YtgphpjdchnfjlaaDoorV4EngRoSx4
set_option linter.unusedVariables false
set_option linter.unusedSimpArgs false
set_option maxRecDepth 100000
section
namespace Go.Eng.Gall
open Go.Proofs Go.Eng.Q
theorem named:dk Tryd.prog:=by
 have h:(Tryd.prog.funcs.toList.all fun fn=>fn.body.isNone || !(fn.name == "runtime.NumGoroutine"))=true:=by kernel_rfl
 intro f fn hf hb
 have:=List.all_eq_true.1 h fn (by simpa using Array.mem_of_getElem? hf)
 rw[hb] at this
 simpa using this
theorem mixed:Tryd.prog.follows .mixedOrders=true:=by kernel_rfl
theorem Gn:∀ e ∈ ([]:List bW),ay Tryd.prog e:=fun e h=>by cases h
theorem aP {e:bW} {t:List bW} (h:ay Tryd.prog e) (k:∀ x ∈ t,ay Tryd.prog x):∀ x ∈ e::t,ay Tryd.prog x:=fun x hx=>by
 rcases List.mem_cons.1 hx with rfl | hx
 · exact h
 · exact k x hx
def Qy:List AV→Bool
 | .ptr _ _ _ _::_=>true
 | _=>false
noncomputable def xv (c:aA) (f:FuncId) (args:List AV) (H:aa):Option (AV×aa) :=
 cond (Nat.beq f 82) (IQ args H) (cond (Nat.beq f 62) (ME (pA Tryd.prog KtG.kt 100000 62 c args H)) (cond ((Nat.beq f 63 || Nat.beq f 65) && Qy args) (O3 c f args H) (cond (Nat.beq f 47) (pA Tryd.prog KtG.kt 100000 47 (z7 Tryd.prog KtG.kt 100000 46 c) args H) (cond (Nat.beq f 94 || Nat.beq f 100) (mF Tryd.prog KtG.kt 100000 f c args H) none))))
theorem Ba (hN:dk Tryd.prog) (hD:fW Tryd.prog):qM Tryd.prog xv:=fun call hC f args H v H' h hne p M w cargs hH hA=>by
 unfold xv at h
 cases h82:Nat.beq f 82 with
 | true =>
   rw[h82,cond_true] at h
   have:=Nat.eq_of_beq_eq_true h82
   subst this
   exact FJ h hH hA
 | false =>
 rw[h82,cond_false] at h
 cases h62:Nat.beq f 62 with
 | true =>
   rw[h62,cond_true] at h
   have:=Nat.eq_of_beq_eq_true h62
   subst this
   unfold ME at h
   split at h
   case h_2=>simp at h
   rename_i v1 H1 he
   simp only[nP] at h
   obtain ⟨rfl,rfl⟩:=h
   obtain ⟨h1,h2⟩:=qD hN hD KtG.kt 100000 hC he hH hA
   exact ⟨h1,h2.mono (fun _ _ h=>fy.Km h)⟩
 | false =>
 rw[h62,cond_false] at h
 cases hr:((Nat.beq f 63 || Nat.beq f 65) && Qy args) with
 | true =>
   rw[hr,cond_true] at h
   exact JI hC h hH hA
 | false =>
 rw[hr,cond_false] at h
 cases h47:Nat.beq f 47 with
 | true =>
   rw[h47,cond_true] at h
   have:=Nat.eq_of_beq_eq_true h47
   subst this
   exact qD hN hD KtG.kt 100000 (CJ hN hD KtG.kt 100000 46 hC) h hH hA
 | false =>
 rw[h47,cond_false] at h
 cases h94:(Nat.beq f 94 || Nat.beq f 100) with
 | true =>
   rw[h94,cond_true] at h
   exact Ed hN hD KtG.kt 100000 hC h hH hA
 | false=>rw[h94,cond_false] at h;cases h
noncomputable def JB (tab:List bW):aA→FuncId→List AV→aa→Option (AV×aa):=fun c f args H=>match zK tab c f args H with
 | some x=>some x
 | none=>xv c f args H
theorem Gu (hN:dk Tryd.prog) (hD:fW Tryd.prog) {tab:List bW} (hT:∀ e ∈ tab,ay Tryd.prog e):qM Tryd.prog (JB tab):=fun call hC f args H v H' h hne p M w cargs hH hA=>by
 unfold JB at h
 split at h
 · rename_i x hx
   simp only[Option.some.injEq] at h
   subst h
   exact vB tab hT call hC f args H v H' hx hne p M w cargs hH hA
 · exact Ba hN hD call hC f args H v H' h hne p M w cargs hH hA
theorem aS {tab:List bW} (hT:∀ e ∈ tab,ay Tryd.prog e) {e:bW} {H':aa}
 (h:j9 Tryd.prog (JB tab) KtG.kt 100000 40 (.fn e.f) e.args [⟨true,[]⟩]=some (e.v,H')) (hn:e.args.all (sN 9)=true):ay Tryd.prog e:=by
 rw[tE] at h
 exact xr (lZ named (oT named mixed) (Gu named (oT named mixed) hT) KtG.kt 100000 40) h hn
theorem Db (n:Nat):bN Tryd.prog (cd n):=lZ named (oT named mixed) vA KtG.kt 100000 n
theorem Dj (dr:Int) (lc:Nat) (zc:Nat→Int) (lb:Nat) (zb:Nat→Int) (W B:Nat→Int) (hl:lc≤10) {p:aB} {M:Mu} {H:aa} {w:World} {cargs:Array Value} (hH:a7 p M H w) (hA:ep p M [shV dr lc zc lb zb W B] cargs) :
 (∃ fn,Tryd.prog.funcs[73]?=some fn∧fn.body.isNone=false)∧CallsIn Fence.wide 0 Tryd.prog 73 cargs w (fy p M H w (.int .i64 (cntF lc W B)) H) :=
 Co named (oT named mixed) KQ KtG.kt 100000 (Db 3) (Qs 2 dr lc zc lb zb W B hl H) hH hA
noncomputable def QF (dr:Int) (lc:Nat) (zl:List Int) (lb:Nat) (bl:List Int) (f1 f2:Bool) (Wl Bl:List Int):AV:=.ptrT none (.G (.int .i64 dr::.slcT none (.I .i64 zl) 4 lc f1::.slcT none (.I .i64 bl) 2 lb f2::(Wl.map (.int .i64)++Bl.map (.int .u64)))) 0
theorem xV {p:aB} {M:Mu} {zl:List Int} {sz lc:Nat} {f:Bool} {c:Value} (hl:zl.length=aw lc sz) (h:ai p M (.slcT none (.I .i64 zl) sz lc f) c):ai p M (.slcT none (.M [.arr .i64 (aX zl) (aw lc sz)]) sz lc false) c:=by
 cases h with
 | slcT vs hp h1 hv h2 h3 h4 =>
   have hlen:(Row.M [.arr .i64 (aX zl) (aw lc sz)]).len=(Row.I .i64 zl).len:=by
    show aw lc sz+0=zl.length
    omega
   refine .slcT vs (fun j hj=>hp j (by rw[← hlen];exact hj)) (fun j hj=>h1 j (by rw[← hlen];exact hj)) (fun j hj=>?_) h2 (fun e=>by cases e) h4
   have hj':j<zl.length:=by rw[hlen] at hj;exact hj
   have:=hv j (by rw[← hlen];exact hj)
   have e:getM [.arr .i64 (aX zl) (aw lc sz)] j=.int .i64 (zl.getD j 0):=by
    show (if j<aw lc sz then AV.int .i64 (aX zl j) else _)=_
    rw[if_pos (by omega),gp]
   show ai p _ (getM [.arr .i64 (aX zl) (aw lc sz)] j) (vs j)
   rw[e]
   exact this.bg _ _
 | slcN=>exact .slcN
theorem GO {p:aB} {M:Mu} {dr:Int} {lc:Nat} {zl:List Int} {lb:Nat} {bl:List Int} {f1 f2:Bool} {Wl Bl:List Int} {c:Value} (hz:zl.length=aw lc 4) (hb:bl.length=aw lb 2) (hW:Wl.length=20) (hB:Bl.length=10) (h:ai p M (QF dr lc zl lb bl f1 f2 Wl Bl) c):ai p M (shV dr lc (aX zl) lb (aX bl) (aX Wl) (aX Bl)) c:=by
 cases h with
 | ptrT vs hp h1 hv =>
   have hlen:(shR dr lc (aX zl) lb (aX bl) (aX Wl) (aX Bl)).len=33:=rfl
   have hlen':(Row.G (.int .i64 dr::.slcT none (.I .i64 zl) 4 lc f1::.slcT none (.I .i64 bl) 2 lb f2::(Wl.map (.int .i64)++Bl.map (.int .u64)))).len=33:=by simp[Row.len,hW,hB]
   refine .ptrT vs (fun j hj=>hp j (by rw[hlen'] ; rw[hlen] at hj;exact hj)) (fun j hj=>h1 j (by rw[hlen'] ; rw[hlen] at hj;exact hj)) (fun j hj=>?_)
   rw[hlen] at hj
   have:=hv j (by rw[hlen'];exact hj)
   match j,hj,this with
   | 0,_,this=>exact this
   | 1,_,this=>exact xV hz this
   | 2,_,this=>exact xV hb this
   | j + 3,hj,this =>
     have this:ai p _ ((Wl.map (AV.int .i64)++Bl.map (AV.int .u64)).getD j .undef) (vs (j+3)):=this
     show ai p _ (getM [.arr .i64 (aX Wl) 20,.arr .u64 (aX Bl) 10] j) (vs (j+3))
     by_cases hj20:j<20
     · have e:getM [.arr .i64 (aX Wl) 20,.arr .u64 (aX Bl) 10] j=.int .i64 (Wl.getD j 0):=by
        show (if j<20 then AV.int .i64 (aX Wl j) else _)=_
        rw[if_pos hj20,gp]
       have e2:(Wl.map (AV.int .i64)++Bl.map (AV.int .u64)).getD j .undef=.int .i64 (Wl.getD j 0):=by
        rw[List.getD_eq_getElem?_getD,List.getElem?_append_left (by simp;omega),List.getElem?_map,List.getD_eq_getElem?_getD,List.getElem?_eq_getElem (by omega)];rfl
       rw[e];rw[e2] at this
       exact this.bg _ _
     · have e:getM [.arr .i64 (aX Wl) 20,.arr .u64 (aX Bl) 10] j=.int .u64 (Bl.getD (j-20) 0):=by
        show (if j<20 then AV.int .i64 (aX Wl j) else (if j-20<10 then AV.int .u64 (aX Bl (j-20)) else _))=_
        rw[if_neg hj20,if_pos (by omega),gp]
       have e2:(Wl.map (AV.int .i64)++Bl.map (AV.int .u64)).getD j .undef=.int .u64 (Bl.getD (j-20) 0):=by
        rw[List.getD_eq_getElem?_getD,List.getElem?_append_right (by simp;omega),List.getElem?_map,List.length_map,hW,List.getD_eq_getElem?_getD,List.getElem?_eq_getElem (by omega)];rfl
       rw[e];rw[e2] at this
       exact this.bg _ _
def OX (Wl Bl:List Int) (k X c:Nat):Bool:=(BitVec.ofInt 64 (Bl.getD c 0) &&& ~~~(BitVec.ofNat 64 X)).toNat == 0 && (decide (Wl.getD (2*c) 0≤(k:Int)) && decide ((k:Int)≤Wl.getD (2*c+1) 0))
theorem Eg (Wl Bl:List Int):okW (aX Wl) (aX Bl)=OX Wl Bl:=by
 funext k X c
 unfold okW OX
 rw[gp,gp,qR,bC,bC,aZ]
 congr 1
 show (IntKind.u64.wrap (((BitVec.ofInt 64 (Bl.getD c 0) &&& ~~~(BitVec.ofInt 64 (X:Int))).toNat:Nat):Int) == 0)=_
 rw[IK,kN (BitVec.isLt _)]
 generalize (BitVec.ofInt 64 (Bl.getD c 0) &&& ~~~(BitVec.ofNat 64 X)).toNat=t
 rw[Bool.eq_iff_iff,beq_iff_eq,beq_iff_eq]
 omega
def MX (lc:Nat) (Wl Bl:List Int):Nat:=(ro lc (OX Wl Bl) lc).length
theorem Eh {dr:Int} {lc:Nat} {zl:List Int} {lb:Nat} {bl:List Int} {f1 f2:Bool} {Wl Bl:List Int} {A:AV} {v:Nat} (hA:A=QF dr lc zl lb bl f1 f2 Wl Bl) (hl:lc≤10) (hz:zl.length=lc*4) (hb:bl.length=lb*2) (hW:Wl.length=20) (hB:Bl.length=10) (hv:MX lc Wl Bl=v):ay Tryd.prog ⟨73,[A],.int .i64 (v:Int)⟩:=by
 intro H hne p M w cargs hH hC
 have e:cntF lc (aX Wl) (aX Bl)=(v:Int):=by unfold cntF;rw[Eg];exact congrArg Int.ofNat hv
 rw[← e]
 refine Dj dr lc (aX zl) lb (aX bl) (aX Wl) (aX Bl) hl hH ⟨hC.1,fun j hj=>?_⟩
 have hC2:=hC.2 j hj
 subst hA
 have:j=0:=by simp at hj;omega
 subst this
 exact GO (by rw[qw];exact hz) (by rw[qw];exact hb) hW hB hC2
end Go.Eng.Gall
end
section
namespace Go.Eng
open Go.Proofs Go.ChangeShapes
open Go.Eng.Q (shV shR slA cntF okW)
noncomputable def FE (args:List AV) (H:aa):Option (AV×aa) :=
 match args with
 | [.ptrT none (.M [.one (.int .i64 dr),.one (.slcT none (.M [.arr .i64 zc n1]) 4 lc false),.one (.slcT none (.M [.arr .i64 zb n2]) 2 lb false),.arr .i64 W 20,.arr .u64 B 10]) 0]=>if lc≤10∧n1=fw lc 4∧n2=fw lb 2 then some (.int .i64 (cntF lc W B),H) else none
 | _=>none
theorem FF {dr:Int} {lc:Nat} {zc:Nat→Int} {lb:Nat} {zb:Nat→Int} {W B:Nat→Int} {H:aa} (hl:lc≤10):FE [shV dr lc zc lb zb W B] H=some (.int .i64 (cntF lc W B),H):=by
 show (if lc≤10∧fw lc 4=fw lc 4∧fw lb 2=fw lb 2 then some (AV.int .i64 (cntF lc W B),H) else none)=_
 rw[if_pos ⟨hl,rfl,rfl⟩]
theorem FG {args:List AV} {H:aa} {v:AV} {H':aa} (h:FE args H=some (v,H')) {p:aB} {M:Mu} {w:World} {cargs:Array Value} (hH:a7 p M H w) (hA:ep p M args cargs):(∃ fn,Tryd.prog.funcs[73]?=some fn∧fn.body.isNone=false)∧CallsIn Fence.wide 0 Tryd.prog 73 cargs w (fy p M H w v H'):=by
 unfold FE at h
 split at h
 case h_2=>simp at h
 rename_i dr zc n1 lc zb n2 lb W B
 split at h
 case isFalse=>simp at h
 rename_i hc
 obtain ⟨hl,rfl,rfl⟩:=hc
 simp only[nP] at h
 obtain ⟨rfl,rfl⟩:=h
 exact Gall.Dj dr lc zc lb zb W B hl hH hA
def Hp:List AV→Bool
 | [_,_,.slc _ _ _ _ _ _ _]=>true
 | _=>false
noncomputable def iX:aA→FuncId→List AV→aa→Option (AV×aa):=fun call f args H=>cond (Nat.beq f 59 && Hp args) (LB call f args H) (cond (Nat.beq f 73) (FE args H) (cond (Nat.beq f 95) (ED fV args H) (match Gall.xv call f args H with
 | some x=>some x
 | none=>tk [⟨15,[],.bool true⟩] call f args H)))
def Fg (f:FuncId):Bool:=Nat.beq f 15 || Nat.beq f 1000000 || Nat.beq f 59 || Nat.beq f 73 || Nat.beq f 95 || Nat.beq f 82 || Nat.beq f 62 || Nat.beq f 63 || Nat.beq f 65 || Nat.beq f 47 || Nat.beq f 94 || Nat.beq f 100
noncomputable def cd (n:Nat):aA:=cD Tryd.prog iX KtG.kt 100000 n
noncomputable def il (tab:ml) (n k:Nat):bj:=zp Tryd.prog iX KtG.kt 100000 Fg tab n k
noncomputable def b5 (n:Nat) (f nt:Nat):Cx:=⟨Tryd.prog,cd n,100000,f,nt,KtG.kt f,none⟩
theorem Hw {g:FuncId} (h:Nat.beq g 15=false) (h1:Nat.beq g 1000000=false) (c:aA) (args:List AV) (H:aa):tk [⟨15,[],.bool true⟩] c g args H=none:=by
 unfold tk
 rw[h1,cond_false]
 simp only[zK]
 have:Nat.beq 15 g=false:=by
  cases hb:Nat.beq 15 g with
  | false=>rfl
  | true=>have:=Nat.eq_of_beq_eq_true hb;subst this;simp at h
 rw[this];rfl
theorem vu (g:FuncId) (h:Fg g=false) (c:aA) (args:List AV) (H:aa):iX c g args H=none:=by
 unfold Fg at h
 simp only[Bool.or_eq_false_iff] at h
 obtain ⟨⟨⟨⟨⟨⟨⟨⟨⟨⟨⟨h15,h0⟩,h59⟩,h73⟩,h95⟩,h82⟩,h62⟩,h63⟩,h65⟩,h47⟩,h94⟩,h100⟩:=h
 have e:Gall.xv c g args H=none:=by
  unfold Gall.xv
  rw[h82,h62,h63,h65,h47,h94,h100];rfl
 unfold iX
 rw[h59,h73,h95,e]
 exact Hw h15 h0 c args H
theorem mc (n:Nat):∃ x,cD Tryd.prog iX KtG.kt 100000 n .mode [] []=some x:=by
 cases n<;>exact ⟨_,rfl⟩
theorem vA (hN:dk Tryd.prog) (hD:fW Tryd.prog) (hW:ay Tryd.prog ⟨15,[],.bool true⟩):qM Tryd.prog iX :=
 fun call hC f args H v H' h hne p M w cargs hH hA=>by
  unfold iX at h
  cases h59:(Nat.beq f 59 && Hp args) with
  | true =>
    rw[h59,cond_true] at h
    exact JJ hC h hH hA
  | false =>
  rw[h59,cond_false] at h
  cases h73:Nat.beq f 73 with
  | true =>
    rw[h73,cond_true] at h
    have:=Nat.eq_of_beq_eq_true h73
    subst this
    exact FG h hH hA
  | false =>
  rw[h73,cond_false] at h
  cases h95:Nat.beq f 95 with
  | true =>
    rw[h95,cond_true] at h
    have:=Nat.eq_of_beq_eq_true h95
    subst this
    exact GF JW h hne hH hA
  | false =>
  rw[h95,cond_false] at h
  split at h
  · rename_i x hx
    simp only[Option.some.injEq] at h
    subst h
    exact Gall.Ba hN hD call hC f args H v H' hx hne p M w cargs hH hA
  · exact Bb _ (fun e he=>by
     simp only[List.mem_singleton] at he
     subst he
     exact hW) call hC f args H v H' h hne p M w cargs hH hA
theorem lA (tab:ml) (n k:Nat) (ht:∀ k,tab.Ok (cd (n+k))):(il tab n k).Ok (cd (n+k)):=vk _ _ _ _ _ _ _ vu (fun k=>mc _) ht k
theorem fi (n k:Nat):(il aV n k).Ok (cd (n+k)):=lA _ _ _ (fun k=>bx _)
theorem aJ (n:Nat):(il aV n 0).Ok (cd n):=fi n 0
theorem K5 {f:FuncId} {fn:Func} {n:Nat} (hf:Tryd.prog.funcs[f]?=some fn) (hb:fn.body.isSome=true) (hn:Fg f=false) {args:List HV} (hle:Nat.ble args.length fn.ntmps=true) {H:aa} {callR:bj} (hC:callR.Ok (cd n)) {bl:eI} (hB:bl.Ok (b5 n f fn.ntmps) (aY fn)) {rg:nu} (hR:rg.Ok (b5 n f fn.ntmps) (aY fn)) {y:HV×aa}
 (h:(bu Tryd.prog (cd n) 100000 f fn (KtG.kt f) callR bl rg args H).run=some y):cd (n+1) (.fn f) (jZ args) H=some (y.1.1,y.2) :=
 nH hf hb (vu f hn _ _ _) hle hC hB hR h
theorem I4 {f:FuncId} {fn:Func} {n:Nat} (hf:Tryd.prog.funcs[f]?=some fn) (hb:fn.body.isSome=true) {args:List HV} (ho:∀ c H,iX c f (jZ args) H=none) (hle:Nat.ble args.length fn.ntmps=true) {H:aa} {callR:bj} (hC:callR.Ok (cd n)) {bl:eI} (hB:bl.Ok (b5 n f fn.ntmps) (aY fn)) {rg:nu} (hR:rg.Ok (b5 n f fn.ntmps) (aY fn)) {y:HV×aa}
 (h:(bu Tryd.prog (cd n) 100000 f fn (KtG.kt f) callR bl rg args H).run=some y):cd (n+1) (.fn f) (jZ args) H=some (y.1.1,y.2) :=
 nH hf hb (ho _ _) hle hC hB hR h
theorem K4 {f:FuncId} {fn:Func} {n:Nat} (hf:Tryd.prog.funcs[f]?=some fn) (hb:fn.body.isSome=true) (hn:Fg f=false) {args:List HV} (hle:Nat.ble args.length fn.ntmps=true) {H:aa} {callR:bj} {bl:eI} {rg:nu} {T:Tr (HV×aa)}
 (e:bu Tryd.prog (cd n) 100000 f fn (KtG.kt f) callR bl rg args H=T) (hC:callR.Ok (cd n)) (hB:bl.Ok (b5 n f fn.ntmps) (aY fn)) (hR:rg.Ok (b5 n f fn.ntmps) (aY fn)) {y:HV×aa} (hr:T.run=some y):cd (n+1) (.fn f) (jZ args) H=some (y.1.1,y.2) :=
 K5 hf hb hn hle hC hB hR (by rw[e];exact hr)
theorem K1 {n f nt:Nat} {c:Code} {callR:bj} (hC:callR.Ok (cd n)) {bl:eI} (hB:bl.Ok (b5 n f nt) c) {rg:nu} (hR:rg.Ok (b5 n f nt) c) {fr:au} {H:aa} {x:gK} (h:(aT (b5 n f nt) callR bl rg c (hints fr) H).run=some x):exec (b5 n f nt) c fr H=some x.st:=by
 have:=fD hC c hB hR _ _ _ h
 rw[bp] at this
 exact this

def gH (bl:eI) (id0:Nat):eI:=fun id fr H=>cond (Nat.beq id id0) (some .bad) (bl id fr H)
theorem cW {bl:eI} {cx:Cx} {c:Code} (h:bl.Ok cx c) (id0:Nat):(gH bl id0).Ok cx c:=by
 intro id b hm fr H t y ht hy
 unfold gH at ht
 cases hb:Nat.beq id id0 with
 | true =>
   rw[hb,cond_true,Option.some.injEq] at ht
   subst ht
   exact (Tr.af hy).elim
 | false =>
   rw[hb,cond_false] at ht
   exact h id b hm fr H t y ht hy
theorem K0 {n f nt:Nat} {c:Code} {callR:bj} {bl:eI} {rg:nu} {fr:au} {H:aa} {T:Tr gK} (e:aT (b5 n f nt) callR bl rg c (hints fr) H=T) (hC:callR.Ok (cd n)) (hB:bl.Ok (b5 n f nt) c) (hR:rg.Ok (b5 n f nt) c) {x:gK} (hr:T.run=some x):exec (b5 n f nt) c fr H=some x.st :=
 K1 hC hB hR (by rw[e];exact hr)
section
variable {n f nt:Nat} {c:Code} {callR:bj} {bl:eI} {rg:nu}
end
end Go.Eng
end
section
namespace Go.Eng
open Go.Proofs
theorem bK {f:FuncId} {fn:Func} {n:Nat} (hf:Tryd.prog.funcs[f]?=some fn) (hb:fn.body.isSome=true) (hn:Fg f=false) {args:List HV} (hle:Nat.ble args.length fn.ntmps=true) {H:aa} {callR:bj} {bl:eI} {rg:nu} {T:Tr (HV×aa)}
 (e:bu Tryd.prog (cd n) 100000 f fn (KtG.kt f) callR bl rg args H=T) (hC:callR.Ok (cd n)) (hB:bl.Ok (b5 n f fn.ntmps) (aY fn)) (hR:rg.Ok (b5 n f fn.ntmps) (aY fn)) {v:AV} {H':aa} (h:T.all fun y=>y.1.1=v∧y.2=H'):cd (n+1) (.fn f) (jZ args) H=some (v,H'):=by
 obtain ⟨y,h1,h2,h3⟩:=h
 have:=K4 hf hb hn hle e hC hB hR h1
 rw[this,h2,h3]
theorem u9 {f:FuncId} {fn:Func} {n:Nat} (hf:Tryd.prog.funcs[f]?=some fn) (hb:fn.body.isSome=true) {args:List HV} (ho:∀ c H,iX c f (jZ args) H=none) (hle:Nat.ble args.length fn.ntmps=true) {H:aa} {callR:bj} {bl:eI} {rg:nu} {T:Tr (HV×aa)}
 (e:bu Tryd.prog (cd n) 100000 f fn (KtG.kt f) callR bl rg args H=T) (hC:callR.Ok (cd n)) (hB:bl.Ok (b5 n f fn.ntmps) (aY fn)) (hR:rg.Ok (b5 n f fn.ntmps) (aY fn)) {v:AV} {H':aa} (h:T.all fun y=>y.1.1=v∧y.2=H'):cd (n+1) (.fn f) (jZ args) H=some (v,H'):=by
 obtain ⟨y,h1,h2,h3⟩:=h
 have:=I4 hf hb ho hle hC hB hR (by rw[e];exact h1)
 rw[this,h2,h3]
theorem aR {n f nt:Nat} {c:Code} {callR:bj} {bl:eI} {rg:nu} {fr:au} {H:aa} {T:Tr gK} (e:aT (b5 n f nt) callR bl rg c (hints fr) H=T) (hC:callR.Ok (cd n)) (hB:bl.Ok (b5 n f nt) c) (hR:rg.Ok (b5 n f nt) c) {Q:Ex×au×aa→Prop} (h:T.all fun x=>Q x.st):∃ x,exec (b5 n f nt) c fr H=some x∧Q x:=by
 obtain ⟨x,h1,h2⟩:=h
 exact ⟨_,K0 e hC hB hR h1,h2⟩
section
variable {n f nt:Nat} {c:Code} {callR:bj} {bl:eI} {rg:nu}
theorem fF (id:Nat) (F:Nat→au) (G:Nat→aa) (N:Nat) (p:Nat→Bool) (X:Nat→au×aa) (Y:au×aa) (hN:N<99999)
 (hs:∀ j,j<N→∃ x,exec (b5 n f nt) c (F j) (G j)=some x∧if p j=true then x=(.ret,X j) else x.1=.normal∧tidy (aQ (G 0)) x.2.1 x.2.2=(F (j+1),G (j+1)))
 (he:exec (b5 n f nt) c (F N) (G N)=some (.exit id,Y)):exec (b5 n f nt) (.block id (.loop c)) (F 0) (G 0)=some (cond (c5 p N) (.ret,X (fN p N 0)) (.normal,Y)):=by
 have key:=jN (body:=exec (b5 n f nt) c) (n:=aQ (G 0)) F G N p (fun j=>if j<N then (.ret,X j) else (.exit id,Y))
  (fun j hj hp=>by
    obtain ⟨x,h1,h2⟩:=hs j hj
    rw[if_neg (by rw[hp];simp)] at h2
    obtain ⟨e,f1,g1⟩:=x
    obtain ⟨rfl,h3⟩:=h2
    exact ⟨_,_,h1,h3⟩)
  (fun j hj hp=>by
    obtain ⟨x,h1,h2⟩:=hs j hj
    rw[if_pos hp] at h2
    subst h2
    rw[if_pos hj]
    exact ⟨h1,by simp⟩)
  (by
    rw[if_neg (by omega)]
    exact ⟨he,by simp⟩) N 0 100000 (by omega) (by omega)
 cases hc:c5 p N with
 | true =>
   have:=rl hc
   rw[if_pos this] at key
   exact dP (fun id' h=>by cases h) key
 | false =>
   have:=tK hc
   rw[if_neg (by omega)] at key
   exact gM key
end
theorem qj {n f nt:Nat} {c:Code} (id:Nat) (F:Nat→au) (G:Nat→aa) (N:Nat) (Y:au×aa) (hN:N<99999)
 (hs:∀ j,j<N→∃ x,exec (b5 n f nt) c (F j) (G j)=some x∧(x.1=.normal∧tidy (aQ (G 0)) x.2.1 x.2.2=(F (j+1),G (j+1))))
 (he:exec (b5 n f nt) c (F N) (G N)=some (.exit id,Y)):exec (b5 n f nt) (.block id (.loop c)) (F 0) (G 0)=some (.normal,Y):=by
 have:=fF id F G N (fun _=>false) (fun _=>Y) Y hN (fun j hj=>by
  obtain ⟨x,h1,h2⟩:=hs j hj
  exact ⟨x,h1,by rw[if_neg (by simp)];exact h2⟩) he
 have h0:c5 (fun _=>false) N=false:=by
  cases h:c5 (fun _=>false) N with
  | false=>rfl
  | true=>obtain ⟨i,_,h2⟩:=(cH _ _).1 h;cases h2
 rw[h0] at this
 exact this
end Go.Eng
end
section
namespace Go.Eng
open Go.Proofs
noncomputable def aC:bH:=⟨false,[]⟩
noncomputable def bF (k:Nat) (b:Nat→Int) (full:Bool):AV:=.slcT none (.M [.arr .i64 b k]) 1 k full
noncomputable def fU (v k:Nat) (y:Nat→Int):bH:=⟨false,[(v,.row (.M [.arr .i64 y k]))]⟩
theorem bS (tab:ml) (n:Nat) (ht:tab.Ok (cd n)):(il tab n 0).Ok (cd n) :=
 ⟨mc _,fun tgt args H x h=>by
   unfold il zp at h
   split at h
   · split at h
     · rename_i c hc
       exact ht _ _ hc _ _ _ h
     · exact (Tr.af h).elim
   · exact (Tr.af h).elim⟩
theorem cC {cx:Cx} {id:Nat} {B:Code} {fr:au} {H:aa} {e:Bool} {X Y x:gK} (h:(Tr.ite e (Tr.ok X) (Tr.ok Y)).run=some x) (hx:exec cx (.block id B) fr H=some (cond e X.st Y.st)):exec cx (.block id B) fr H=some x.st:=by
 rw[hx]
 rcases Tr.fL h with ⟨hc,h⟩ | ⟨hc,h⟩
 · rw[hc,← Tr.ab h];rfl
 · rw[hc,← Tr.ab h];rfl
theorem C6 {cx:Cx} {id:Nat} {B:Code} {fr:au} {H:aa} {X x:gK} (h:(Tr.ok X).run=some x) (hx:exec cx (.block id B) fr H=some X.st):exec cx (.block id B) fr H=some x.st:=by
 rw[hx,← Tr.ab h]
theorem ft {j:Nat} (h:j<2 ^ 31):bf .i64 (j:Int) (Int.ofNat 1)=((j+1:Nat):Int):=by rw[gl,show Int.ofNat 1=1 from rfl];exact gY (by omega) (by omega)
theorem pb (j:Nat):aM 0 (j:Int) 1=j:=by rw[cG];omega
theorem J8 {x:Int} (h0:-9223372036854775808≤x) (h1:x≤9223372036854775807):kU .i64 x=x:=by rw[Fb,gY h0 h1]
theorem LC {x y:Int} (h0:-9223372036854775808≤x-y) (h1:x-y≤9223372036854775807):bw .i64 x y=x-y:=by rw[dG,gY h0 h1]
theorem vn (L:List Int) (j:Nat):aX L j=L.getD j 0:=congrFun (gp L) j
theorem qv (L:List Int) (v:Int):qe (xU (aX L) 0) L.length (aX [v])=aX (L++[v]):=by
 rw[lV,nB,kx];funext i
 by_cases h:i<L.length
 · simp[h,List.getElem?_append]
 · by_cases h2:i=L.length
   · subst h2;simp
   · have e1:[v][i-L.length]?=none:=List.getElem?_eq_none (by simp;omega)
     have e2:(L++[v])[i]?=none:=List.getElem?_eq_none (by simp;omega)
     simp only[h,if_false,List.getD_eq_getElem?_getD,e1,e2]
theorem mW (S:List Int) (j:Nat) (hj:j<S.length):aX S j=S[j]:=by
 rw[vn,List.getD_eq_getElem?_getD,List.getElem?_eq_getElem hj];rfl
noncomputable def dA:List Int→AV
 | []=>.nils
 | a::r=>.slcT none (.M [.arr .i64 (aX (a::r)) (r.length+1)]) 1 (r.length+1) false
theorem Hi (L:List Int) (k:Nat) (h:L.length=k+1):dA L=bF (k+1) (aX L) false:=by
 cases L with
 | nil=>simp at h
 | cons a r =>
   simp only[List.length_cons] at h
   have:r.length=k:=by omega
   subst this;rfl
noncomputable def gX (A:List AV) (V:AV):List AV→Option (Prop×AV):=fun x=>some (x=A,V)
noncomputable def tX (t:ml) (f:FuncId) (A:List AV) (V:AV):ml:=l6 t f (gX A V)
theorem eg {c f:Nat} {t:ml} {A:List AV} {V:AV} (ht:t.Ok (cd c)) (h:∀ H,cd c (.fn f) A H=some (V,H)):(tX t f A V).Ok (cd c):=by
 refine lg ht (fun args p v hg hp H=>?_)
 unfold gX at hg
 simp only[nP] at hg
 obtain ⟨rfl,rfl⟩:=hg
 rw[hp];exact h H
noncomputable def gV (C:List AV→Prop) (R:List AV→AV):List AV→Option (Prop×AV):=fun x=>some (C x,R x)
noncomputable def tV (t:ml) (f:FuncId) (C:List AV→Prop) (R:List AV→AV):ml:=l6 t f (gV C R)
theorem HG {c f:Nat} {t:ml} {C:List AV→Prop} {R:List AV→AV} (ht:t.Ok (cd c)) (h:∀ A H,C A→cd c (.fn f) A H=some (R A,H)):(tV t f C R).Ok (cd c):=by
 refine lg ht (fun args p v hg hp H=>?_)
 unfold gV at hg
 simp only[nP] at hg
 obtain ⟨rfl,rfl⟩:=hg
 exact h _ H hp
noncomputable def tN (t:ml) (f:FuncId):ml:=l6 t f (fun _=>none)
theorem L3 {c f:Nat} {t:ml} (ht:t.Ok (cd c)):(tN t f).Ok (cd c):=lg ht (fun args p v hg hp H=>by cases hg)
noncomputable def gC (P:Int→Bool) (Q:Int→List AV→aa→Prop) (args:List AV) (H:aa):Tr (AV×aa) :=
 match args with
 | .int .i64 x::C=>.reqP (Q x C H) (.ok (.bool (P x),H))
 | _=>.bad
noncomputable def Qu (f:FuncId) (P:Int→Bool) (Q:Int→List AV→aa→Prop):ml:=jA aV f (gC P Q)
theorem Dp {k:Nat} {f:FuncId} {P:Int→Bool} {Q:Int→List AV→aa→Prop} (h:∀ x C H,Q x C H→cd k (.fn f) (.int .i64 x::C) H=some (.bool (P x),H)):(Qu f P Q).Ok (cd k):=by
 refine qN (bx _) (fun args H x hx=>?_)
 unfold gC at hx
 split at hx
 · obtain ⟨h1,h2⟩:=Tr.fp hx
   rw[h _ _ _ h1,← Tr.ab h2]
 · exact (Tr.af hx).elim
def AP (p:Nat→Bool) (m:Nat):Int:=if c5 p m=true then (fN p m 0:Int) else -1
theorem zu (p:Nat→Bool) (k:Nat):eh (Int.ofNat 0) (AP p k)=c5 p k:=by
 rw[bC];unfold AP
 cases h:c5 p k with
 | true =>
   rw[if_pos rfl]
   simp only[Int.ofNat_eq_natCast,decide_eq_true_eq];omega
 | false=>rw[if_neg (by decide)];rfl
theorem Dw {p:Nat→Bool} {k:Nat} (h:∀ j,j<k→p j=false):c5 p k=false:=by
 cases e:c5 p k with
 | false=>rfl
 | true =>
   obtain ⟨j,hj,e2⟩:=(cH _ _).1 e
   rw[h j hj] at e2;cases e2
theorem nQ {p:Nat→Bool} {k:Nat} (h:c5 p k=false):∀ j,j<k→p j=false:=fun j hj=>by
 cases e:p j with
 | false=>rfl
 | true=>rw[(cH _ _).2 ⟨j,hj,e⟩] at h;cases h
def Hm:List AV→Option (Prop×AV)
 | []=>some (True,.bool true)
 | _=>none
theorem QV (n:Nat) (H:aa):cd (n+1) (.fn 15) [] H=some (.bool true,H):=by unfold cd cD;rfl
theorem Ms {c:Nat} {t:ml} (h:0<c) (ht:t.Ok (cd c)):(l6 t 15 Hm).Ok (cd c):=by
 obtain ⟨m,rfl⟩:∃ m,c=m+1:=⟨c-1,by omega⟩
 refine lg ht (fun args p v hg hp H=>?_)
 unfold Hm at hg
 split at hg
 · simp only[nP] at hg
   obtain ⟨_,rfl⟩:=hg
   exact QV _ H
 · cases hg
noncomputable def slA (n len:Nat) (z:Nat→Int):AV:=.slcT none (.M [.arr .i64 z (fw len n)]) n len false
noncomputable def cM (dr:Int) (lc:Nat) (zc:Nat→Int) (lb:Nat) (zb:Nat→Int):AV:=.agg (.G [.int .i64 dr,slA 4 lc zc,slA 2 lb zb])
noncomputable def shR (dr:Int) (lc:Nat) (zc:Nat→Int) (lb:Nat) (zb:Nat→Int) (W B:Nat→Int):Row:=.M [.one (.int .i64 dr),.one (slA 4 lc zc),.one (slA 2 lb zb),.arr .i64 W 20,.arr .u64 B 10]
noncomputable def shV (dr:Int) (lc:Nat) (zc:Nat→Int) (lb:Nat) (zb:Nat→Int) (W B:Nat→Int):AV:=.ptrT none (shR dr lc zc lb zb W B) 0
theorem wc {c:Nat} {f:FuncId} {args:List AV} {H:aa} {x:AV×aa} (h:iX (cd c) f args H=some x):cd (c+1) (.fn f) args H=some x:=by
 unfold cd cD
 unfold cd at h
 rw[h]
theorem Qs (n:Nat) (dr:Int) (lc:Nat) (zc:Nat→Int) (lb:Nat) (zb:Nat→Int) (W B:Nat→Int) (H:aa) (hl:lc≤10):cd (n+1) (.fn 73) [shV dr lc zc lb zb W B] H=some (.int .i64 (Q.cntF lc W B),H) :=
 wc (FF (dr:=dr) (zc:=zc) (lb:=lb) (zb:=zb) (W:=W) (B:=B) hl)
end Go.Eng
end
section
namespace Go.Eng
open Go.Proofs
noncomputable def sM (lo hi:Int):bH:=⟨false,[(0,.row (.I .i64 [lo])),(0,.row (.I .i64 [hi]))]⟩
noncomputable def f84 (d:Nat):AV:=.fn (.func 84) [] [.ptr d 0 0 0,.ptr d 1 0 0]
noncomputable def B5 (k:Nat) (b:Nat→Int) (full:Bool) (j:Int):au:=[(0,bF k b full),(1,f84 2),(7,.int .i64 (Int.ofNat k)),(8,.int .i64 j)]
theorem TH (n:Nat) (lo hi:Int) (H:aa) (x:Int):bu Tryd.prog (cd n) 100000 84 Tryd.f84 (KtG.kt 84) (il aV n 0) bc ba [(.int .i64 x,none),(.ptr 2 0 0 0,none),(.ptr 2 1 0 0,none)] (aC::aC::sM lo hi::H) =
 (fun (Z0:bH)=>Tr.ite (cY x lo) (Tr.ok ((AV.bool true,some 1),aC::aC::Z0::H)) (Tr.ok ((AV.bool (cY hi x),none),aC::aC::Z0::H))) { lock:=false,bs:=[(0,az.row (Row.I .i64 [lo])),(0,az.row (Row.I .i64 [hi]))] }:=by kernel_rfl
theorem t99 (n k:Nat) (b:Nat→Int) (full:Bool) (lo hi:Int) (P:Int→Bool) (Q:Int→List AV→aa→Prop) (H:aa) (j:Int):aT (b5 n 99 19) (il (Qu 84 P Q) n 0) bc ba (part Tryd.f99 [1,0,1,0,0]) (hints (B5 k b full j)) (aC::aC::sM lo hi::H) =
 (fun (Z0:bH)=>Tr.ite (cY j (Int.ofNat k)) (Tr.req (c7 j k) (Tr.req (cI (aM 0 j 1) k) (Tr.reqP (Q (b (aM 0 j 1)) [AV.ptr 2 0 0 0,AV.ptr 2 1 0 0] (aC::aC::Z0::H)) (Tr.ite (P (b (aM 0 j 1))) (Tr.ok (Ex.ret,[(4,AV.int .i64 j,none)],aC::aC::Z0::H)) (Tr.ok (Ex.normal,[(0,AV.slcT none (Row.M [aq.arr .i64 b k]) 1 k full,none),(1,AV.fn (Fn.func 84) [] [AV.ptr 2 0 0 0,AV.ptr 2 1 0 0],none),(7,AV.int .i64 (Int.ofNat k),none),(8,AV.int .i64 (bf .i64 j (Int.ofNat 1)),none)],aC::aC::Z0::H)))))) (Tr.ok (Ex.exit 0,[(0,AV.slcT none (Row.M [aq.arr .i64 b k]) 1 k full,none),(1,AV.fn (Fn.func 84) [] [AV.ptr 2 0 0 0,AV.ptr 2 1 0 0],none),(7,AV.int .i64 (Int.ofNat k),none),(8,AV.int .i64 j,none),(9,AV.bool false,some 1)],aC::aC::Z0::H))) { lock:=false,bs:=[(0,az.row (Row.I .i64 [lo])),(0,az.row (Row.I .i64 [hi]))] }:=by kernel_rfl
theorem TM (n k:Nat) (b:Nat→Int) (full:Bool) (lo hi:Int) (H:aa) (x:Bool) (r:Nat):bu Tryd.prog (cd n) 100000 99 Tryd.f99 (KtG.kt 99) (il aV n 0) (dy bc 0 (B5 k b full 0) (aC::aC::sM lo hi::H) (.ite x (.ok (.ret,[(4,.int .i64 (Int.ofNat r),none)],aC::aC::sM lo hi::H)) (.ok (.normal,hints (B5 k b full (Int.ofNat k)++[(9,.bool false)]),aC::aC::sM lo hi::H)))) ba [(bF k b full,none),(f84 1,none)] (aC::sM lo hi::H) =
 (fun (Z0:bH)=>((fun (Z1:au)=>Tr.reqP (Z1=Z1∧aC::aC::Z0::H=aC::aC::Z0::H) (Tr.ite x (Tr.ok ((AV.int .i64 (Int.ofNat r),none),aC::Z0::H)) (Tr.ok ((AV.int .i64 (Int.negSucc 0),some 1),aC::Z0::H)))) [(0,AV.slcT none (Row.M [aq.arr .i64 b k]) 1 k full),(1,AV.fn (Fn.func 84) [] [AV.ptr 2 0 0 0,AV.ptr 2 1 0 0]),(7,AV.int .i64 (Int.ofNat k)),(8,AV.int .i64 (Int.ofNat 0))])) { lock:=false,bs:=[(0,az.row (Row.I .i64 [lo])),(0,az.row (Row.I .i64 [hi]))] }:=by kernel_rfl
theorem TG (n k:Nat) (b:Nat→Int) (full:Bool) (lo hi:Int) (H:aa) (r:Int):bu Tryd.prog (cd n) 100000 83 Tryd.f83 (KtG.kt 83) (il (Dq aV 99 [bF k b full,f84 1] (aC::sM lo hi::H) (.ok (.int .i64 r,aC::sM lo hi::H))) n 0) bc ba [(bF k b full,none),(f84 0,none)] (sM lo hi::H) =
 (fun (Z0:bH)=>((fun (Z1:List AV)=>Tr.reqP (Z1=Z1∧aC::Z0::H=aC::Z0::H) (Tr.ok ((AV.bool (eh (Int.ofNat 0) r),none),Z0::H))) [AV.slcT none (Row.M [aq.arr .i64 b k]) 1 k full,AV.fn (Fn.func 84) [] [AV.ptr 1 0 0 0,AV.ptr 1 1 0 0]])) { lock:=false,bs:=[(0,az.row (Row.I .i64 [lo])),(0,az.row (Row.I .i64 [hi]))] }:=by kernel_rfl
theorem Tu (n k:Nat) (b:Nat→Int) (full:Bool) (lo hi:Int) (H:aa) (e:Bool):bu Tryd.prog (cd n) 100000 59 Tryd.f59 (KtG.kt 59) (il (Dq aV 83 [bF k b full,f84 0] (sM lo hi::H) (.ok (.bool e,sM lo hi::H))) n 0) bc ba [(.int .i64 lo,none),(.int .i64 hi,none),(bF k b full,none)] H =
 (fun (Z0:List AV)=>((fun (Z1:bH)=>Tr.reqP (Z0=Z0∧Z1::H=Z1::H) (Tr.ok ((AV.bool (bz e),none),H))) { lock:=false,bs:=[(0,az.row (Row.I .i64 [lo])),(0,az.row (Row.I .i64 [hi]))] })) [AV.slcT none (Row.M [aq.arr .i64 b k]) 1 k full,AV.fn (Fn.func 84) [] [AV.ptr 0 0 0 0,AV.ptr 0 1 0 0]]:=by kernel_rfl
theorem QT:∀ b,(0,b) ∈ aI (aY Tryd.f99)→b=.loop (part Tryd.f99 [1,0,1,0,0]):=eX (by kernel_rfl)
def jR (lo hi x:Int):Bool:=decide (x<lo) || decide (hi<x)
section
variable (n k:Nat) (b:Nat→Int) (full:Bool) (lo hi:Int) (H:aa)
theorem Ra (x:Int):cd (n+1) (.fn 84) [.int .i64 x,.ptr 2 0 0 0,.ptr 2 1 0 0] (aC::aC::sM lo hi::H)=some (.bool (jR lo hi x),aC::aC::sM lo hi::H):=by
 have hp:jR lo hi x=(decide (x<lo) || decide (hi<x)):=rfl
 rw[hp]
 refine bK (n:=n) Tryd.func84 rfl rfl rfl (TH n lo hi H x) (aJ n) (ak _ _) (al _ _) ?_
 rw[b9,b9]
 refine Tr.ae (fun hc=>Tr.ah ⟨?_,rfl⟩) (fun hc=>Tr.ah ⟨?_,rfl⟩)
 · rw[hc];rfl
 · rw[hc];rfl
theorem Q9 (hk:k≤1000):cd (n+4) (.fn 83) [bF k b full,f84 0] (sM lo hi::H)=some (.bool (c5 (fun j=>jR lo hi (b j)) k),sM lo hi::H):=by
 have hQ:∀ q x C H',(C=[.ptr 2 0 0 0,.ptr 2 1 0 0]∧H'=aC::aC::sM lo hi::H)→cd (n+2+q) (.fn 84) (.int .i64 x::C) H'=some (.bool (jR lo hi x),H'):=by
  rintro q x C H' ⟨rfl,rfl⟩
  rw[show n+2+q=n+1+q+1 by omega]
  exact Ra _ lo hi H x
 have hx:=fF (n:=n+2) (f:=99) (nt:=19) (c:=part Tryd.f99 [1,0,1,0,0]) 0 (fun j=>B5 k b full (j:Int)) (fun _=>aC::aC::sM lo hi::H) k (fun j=>jR lo hi (b j)) (fun j=>([(4,.int .i64 (j:Nat))],aC::aC::sM lo hi::H)) (B5 k b full (Int.ofNat k)++[(9,.bool false)],aC::aC::sM lo hi::H) (by omega) (fun j hj=>?_) ?_
 · have h99:cd (n+3) (.fn 99) [bF k b full,f84 1] (aC::sM lo hi::H)=some (.int .i64 (AP (fun j=>jR lo hi (b j)) k),aC::sM lo hi::H):=by
    refine bK (n:=n+2) Tryd.func99 rfl rfl rfl (TM (n+2) k b full lo hi H (c5 (fun j=>jR lo hi (b j)) k) (fN (fun j=>jR lo hi (b j)) k 0)) (aJ _) (br (ak _ _) QT (fun x h=>cC h hx)) (al _ _) ?_
    refine Tr.aj ⟨rfl,rfl⟩ (Tr.ae (fun hc=>Tr.ah ⟨?_,rfl⟩) (fun hc=>Tr.ah ⟨?_,rfl⟩))
    · unfold AP;rw[if_pos hc];rfl
    · unfold AP;rw[if_neg (by rw[hc];decide)];rfl
   refine bK (n:=n+3) Tryd.func83 rfl rfl rfl (TG (n+3) k b full lo hi H (AP (fun j=>jR lo hi (b j)) k)) (bS _ (n+3) (kb (bx _) (fun x hy=>by rw[← Tr.ab hy];exact h99))) (ak _ _) (al _ _) ?_
   refine Tr.aj ⟨rfl,rfl⟩ (Tr.ah ⟨?_,rfl⟩)
   rw[zu]
 · refine aR (t99 (n+2) k b full lo hi (jR lo hi) _ H (j:Int)) (lA _ (n+2) 0 (fun q=>Dp (hQ q))) (ak _ _) (al _ _) ?_
   show Tr.all _ (fun x=>if jR lo hi (b j)=true then _ else _)
   rw[ft (by omega),pb]
   cases hp:jR lo hi (b j) with
   | true =>
     simp only[if_true]
     refine Tr.ae (fun hc=>?_) (fun hc=>?_)
     · repeat' first | (refine Tr.ae (fun hc=>?_) (fun hc=>?_)<;>(try simp (disch:=omega) only[nV,nW] at hc)<;>(try (exfalso;omega))) | (refine Tr.ag ?_ ?_;· ((try simp (disch:=omega) only[nV,nW]);try omega)) | (refine Tr.aj ?_ ?_;· first | exact trivial | rfl | exact ⟨rfl,rfl⟩ | exact ⟨trivial,rfl⟩ | exact ⟨rfl,by assumption⟩ | exact ⟨trivial,by assumption⟩ | exact ⟨rfl,rfl,rfl⟩ | (simp (disch:=omega) only[nV,nW];done) | ((try simp (disch:=omega) only[nV,nW]);omega)) | fail
       all_goals first
        | exact ⟨rfl,rfl⟩
        | (refine Tr.aj ⟨trivial,rfl⟩ ?_
           exact wF)
        | exact Tr.ah rfl
        | fail
     · simp (disch:=omega) only[nV,nW] at hc;omega
   | false =>
     simp only[Bool.false_eq_true,if_false]
     refine Tr.ae (fun hc=>?_) (fun hc=>?_)
     · repeat' first | (refine Tr.ae (fun hc=>?_) (fun hc=>?_)<;>(try simp (disch:=omega) only[nV,nW] at hc)<;>(try (exfalso;omega))) | (refine Tr.ag ?_ ?_;· ((try simp (disch:=omega) only[nV,nW]);try omega)) | (refine Tr.aj ?_ ?_;· first | exact trivial | rfl | exact ⟨rfl,rfl⟩ | exact ⟨trivial,rfl⟩ | exact ⟨rfl,by assumption⟩ | exact ⟨trivial,by assumption⟩ | exact ⟨rfl,rfl,rfl⟩ | (simp (disch:=omega) only[nV,nW];done) | ((try simp (disch:=omega) only[nV,nW]);omega)) | fail
       all_goals first
        | exact ⟨rfl,rfl⟩
        | (refine Tr.aj ⟨trivial,rfl⟩ ?_
           exact wF)
        | exact Tr.ah ⟨rfl,rfl⟩
        | fail
     · simp (disch:=omega) only[nV,nW] at hc;omega
 · obtain ⟨x,h1,rfl⟩:=aR (Q:=fun x=>x=(.exit 0,B5 k b full (Int.ofNat k)++[(9,.bool false)],aC::aC::sM lo hi::H)) (t99 (n+2) k b full lo hi (jR lo hi) _ H (Int.ofNat k)) (lA _ (n+2) 0 (fun q=>Dp (hQ q))) (ak _ _) (al _ _) (by
    refine Tr.ae (fun hc=>?_) (fun hc=>Tr.ah rfl)
    simp (disch:=omega) only[nV,nW] at hc;omega)
   exact h1
theorem Q0 (hk:k≤1000):cd (n+5) (.fn 59) [.int .i64 lo,.int .i64 hi,bF k b full] H=some (.bool (!c5 (fun j=>jR lo hi (b j)) k),H):=by
 have h:=Q9 n k b full lo hi H hk
 refine u9 (n:=n+4) Tryd.func59 rfl (fun _ _=>rfl) rfl (Tu (n+4) k b full lo hi H (c5 (fun j=>jR lo hi (b j)) k)) (bS _ (n+4) (kb (bx _) (fun x hy=>by rw[← Tr.ab hy];exact h))) (ak _ _) (al _ _) ?_
 rw[aG]
 exact wF
end
noncomputable def Mz (lo hi:Int):List Int→Bool
 | []=>true
 | x::r=>cr (cr (eh lo x) (eh x hi)) (Mz lo hi r)
theorem Je (lo hi:Int) (l:List Int):(!c5 (fun j=>jR lo hi (aX l j)) l.length)=Mz lo hi l:=by
 rw[gp]
 induction l with
 | nil=>rfl
 | cons x r ih =>
   have e:c5 (fun j=>jR lo hi ((fun j=>(x::r).getD j 0) j)) (r.length+1)=(jR lo hi x || c5 (fun j=>jR lo hi ((fun j=>r.getD j 0) j)) r.length):=by
    rw[Bool.eq_iff_iff,Bool.or_eq_true,cH,cH]
    constructor
    · rintro ⟨i,h1,h2⟩
      cases i with
      | zero=>exact .inl h2
      | succ i=>exact .inr ⟨i,by omega,h2⟩
    · rintro (h | ⟨i,h1,h2⟩)
      · exact ⟨0,by omega,h⟩
      · exact ⟨i+1,by omega,h2⟩
   show (!c5 _ (r.length+1))=_
   rw[e,Bool.not_or,ih]
   show _=cr (cr (eh lo x) (eh x hi)) (Mz lo hi r)
   rw[bV,bV,bC,bC]
   congr 1
   unfold jR
   by_cases h1:lo≤x
   · rw[decide_eq_true h1,decide_eq_false (by omega)]
     by_cases h2:x≤hi
     · rw[decide_eq_true h2,decide_eq_false (by omega)];rfl
     · rw[decide_eq_false h2,decide_eq_true (by omega)];rfl
   · rw[decide_eq_false h1,decide_eq_true (by omega)];rfl
noncomputable def gW (args:List AV) (H:aa):Tr (AV×aa) :=
 match args with
 | [.int .i64 lo,.int .i64 hi,.slc d i ver 0 1 k cap]=>match cE H d i ver with
   | some (.I .i64 l)=>cond (Nat.beq l.length k && Nat.ble k 1000) (.ok (.bool (Mz lo hi l),H)) .bad
   | _=>.bad
 | _=>.bad
theorem wH {n:Nat} {t:ml} (ht:t.Ok (cd (n+6))):(jA t 59 gW).Ok (cd (n+6)):=by
 refine qN ht (fun args H x hx=>?_)
 unfold gW at hx
 split at hx
 case h_2=>exact (Tr.af hx).elim
 rename_i lo hi d i ver k cap
 split at hx
 case h_2=>exact (Tr.af hx).elim
 rename_i l hr
 cases hc:(Nat.beq l.length k && Nat.ble k 1000) with
 | false=>rw[hc] at hx;exact (Tr.af hx).elim
 | true =>
   rw[hc,cond_true] at hx
   rw[Bool.and_eq_true] at hc
   have hk:l.length=k:=Nat.eq_of_beq_eq_true hc.1
   have hk2:=Nat.le_of_ble_eq_true hc.2
   subst hk
   rw[← Tr.ab hx]
   refine wc ?_
   show LB (cd (n+5)) 59 [.int .i64 lo,.int .i64 hi,.slc d i ver 0 1 l.length cap] H=_
   unfold LB
   simp only[hr,if_true]
   have:=Q0 n l.length (aX l) false lo hi [⟨true,[]⟩] hk2
   have e:bF l.length (aX l) false=.slcT none (.M [.arr .i64 (aX l) l.length]) 1 l.length false:=rfl
   rw[e] at this
   rw[this,Je]
   rfl
end Go.Eng
end
section
namespace Go.Eng
open Go.Proofs
noncomputable def B0 (l:Nat) (z:Nat→Int) (j:Int):au:=[(0,slA 4 l z),(1,.fn (.func 58) [] []),(7,.int .i64 (Int.ofNat l)),(8,.int .i64 j)]
theorem t85 (n:Nat) (l:Nat) (z:Nat→Int) (H:aa) (j:Int):aT (b5 (n+8) 85 19) (il (jA aV 59 gW) (n+6) 2) bc ba (part Tryd.f85 [1,0,1,0,0]) (hints (B0 l z j)) (aC::H) =
 Tr.ite (cY j (Int.ofNat l)) (Tr.req (c7 j l) (Tr.req (cI (aM 0 j 4) (aw l 4)) (Tr.req (cI (aF (aM 0 j 4) 1) (aw l 4)) (Tr.req (cI (aF (aM 0 j 4) 2) (aw l 4)) (Tr.req (cI (aF (aM 0 j 4) 3) (aw l 4)) (Tr.ite (bz (cr (cr (eh (Int.ofNat 0) (z (aM 0 j 4))) (eh (z (aM 0 j 4)) (Int.ofNat 1000))) (cr (cr (eh (Int.ofNat 0) (z (aF (aM 0 j 4) 1))) (eh (z (aF (aM 0 j 4) 1)) (Int.ofNat 1000))) (cr (cr (eh (Int.ofNat 0) (z (aF (aM 0 j 4) 2))) (eh (z (aF (aM 0 j 4) 2)) (Int.ofNat 1000))) (cr (cr (eh (Int.ofNat 0) (z (aF (aM 0 j 4) 3))) (eh (z (aF (aM 0 j 4) 3)) (Int.ofNat 1000))) true))))) (Tr.ok (Ex.ret,[(4,AV.int .i64 j,none)],aC::H)) (Tr.ite (cY (z (aF (aM 0 j 4) 1)) (z (aM 0 j 4))) (Tr.ok (Ex.ret,[(4,AV.int .i64 j,none)],aC::H)) (Tr.ite (cY (z (aF (aM 0 j 4) 3)) (z (aF (aM 0 j 4) 2))) (Tr.ok (Ex.ret,[(4,AV.int .i64 j,none)],aC::H)) (Tr.ok (Ex.normal,[(0,slA 4 l z,none),(1,AV.fn (Fn.func 58) [] [],none),(7,AV.int .i64 (Int.ofNat l),none),(8,AV.int .i64 (bf .i64 j (Int.ofNat 1)),none)],aC::H)))))))))) (Tr.ok (Ex.exit 0,[(0,slA 4 l z,none),(1,AV.fn (Fn.func 58) [] [],none),(7,AV.int .i64 (Int.ofNat l),none),(8,AV.int .i64 j,none),(9,AV.bool false,some 1)],aC::H)):=by kernel_rfl
theorem TI (n:Nat) (l:Nat) (z:Nat→Int) (H:aa) (i:Int) (e:Bool):bu Tryd.prog (cd (n+8)) 100000 85 Tryd.f85 (KtG.kt 85) (il aV (n+8) 0) (dy bc 0 (B0 l z 0) (aC::H) (.ite e (.ok (.ret,[(4,.int .i64 i,none)],aC::H)) (.ok (.normal,hints (B0 l z (Int.ofNat l)++[(9,.bool false)]),aC::H)))) ba [(slA 4 l z,none),(.fn (.func 58) [] [],none)] H =
 (fun (Z0:au)=>Tr.reqP (Z0=Z0∧aC::H=aC::H) (Tr.ite e (Tr.ok ((AV.int .i64 i,none),H)) (Tr.ok ((AV.int .i64 (Int.negSucc 0),some 1),H)))) [(0,slA 4 l z),(1,AV.fn (Fn.func 58) [] []),(7,AV.int .i64 (Int.ofNat l)),(8,AV.int .i64 (Int.ofNat 0))]:=by kernel_rfl
theorem Tv (n:Nat) (l:Nat) (z:Nat→Int) (H:aa) (i:Int):bu Tryd.prog (cd (n+9)) 100000 60 Tryd.f60 (KtG.kt 60) (il (tX aV 85 [slA 4 l z,.fn (.func 58) [] []] (.int .i64 i)) (n+9) 0) bc ba [(slA 4 l z,none),(.fn (.func 58) [] [],none)] H =
 Tr.reqP ([slA 4 l z,AV.fn (Fn.func 58) [] []]=[slA 4 l z,AV.fn (Fn.func 58) [] []]) (Tr.ok ((AV.bool (eh (Int.ofNat 0) i),none),H)):=by kernel_rfl
def iW (z:Nat→Int) (j:Nat):Bool:=!(decide (0≤z (j*4)) && (decide (z (j*4)≤z (j*4+1)) && (decide (z (j*4+1)≤1000) && (decide (0≤z (j*4+2)) && (decide (z (j*4+2)≤z (j*4+3)) && decide (z (j*4+3)≤1000))))))
theorem QP:∀ b,(0,b) ∈ aI (aY Tryd.f85)→b=.loop (part Tryd.f85 [1,0,1,0,0]):=eX (by kernel_rfl)
section
variable (n:Nat) (l:Nat) (z:Nat→Int) (H:aa)
theorem Qw (n k:Nat):(il (jA aV 59 gW) (n+6) k).Ok (cd (n+6+k)):=lA _ _ _ (fun q=>by rw[show n+6+q=n+q+6 by omega];exact wH (bx _))
theorem Rb (hl:l≤1000):cd (n+9) (.fn 85) [slA 4 l z,.fn (.func 58) [] []] H=some (.int .i64 (AP (iW z) l),H):=by
 have lp:=fF (n:=n+8) (f:=85) (nt:=19) (c:=part Tryd.f85 [1,0,1,0,0]) 0 (fun j=>B0 l z (j:Int)) (fun _=>aC::H) l (iW z) (fun j=>([(4,.int .i64 (j:Int))],aC::H)) (B0 l z (Int.ofNat l)++[(9,.bool false)],aC::H) (by omega) (fun j hj=>?_) ?_
 · refine bK (n:=n+8) Tryd.func85 rfl rfl rfl (TI n l z H ((fN (iW z) l 0:Nat):Int) (c5 (iW z) l)) (fi (n+8) 0) (br (ak _ _) QP (fun x hx=>cC hx lp)) (al _ _) ?_
   repeat' first | (refine Tr.ae (fun hc=>?_) (fun hc=>?_)<;>(try simp (disch:=omega) only[nV,nW] at hc)<;>(try (exfalso;omega))) | (refine Tr.ag ?_ ?_;· ((try simp (disch:=omega) only[nV,nW]);try omega)) | (refine Tr.aj ?_ ?_;· first | exact trivial | rfl | exact ⟨rfl,rfl⟩ | exact ⟨trivial,rfl⟩ | exact ⟨rfl,by assumption⟩ | exact ⟨trivial,by assumption⟩ | exact ⟨rfl,rfl,rfl⟩ | (simp (disch:=omega) only[nV,nW];done) | ((try simp (disch:=omega) only[nV,nW]);omega)) | fail
   all_goals refine Tr.ah ⟨?_,rfl⟩
   · unfold AP;rw[if_pos hc]
   · unfold AP;rw[if_neg (by rw[hc];decide)];rfl
 · have ej:bf .i64 (j:Int) (Int.ofNat 1)=((j+1:Nat):Int):=ft (by omega)
   have ei:aM 0 (j:Int) 4=j*4:=by rw[cG];omega
   have hs:iW z j=!(decide (0≤z (j*4)) && (decide (z (j*4)≤z (j*4+1)) && (decide (z (j*4+1)≤1000) && (decide (0≤z (j*4+2)) && (decide (z (j*4+2)≤z (j*4+3)) && decide (z (j*4+3)≤1000)))))):=rfl
   refine aR (t85 n l z H (j:Int)) (Qw n 2) (ak _ _) (al _ _) ?_
   refine Tr.ae (fun h0=>?_) (fun h0=>by simp (disch:=omega) only[nV,nW] at h0;omega)
   refine Tr.ag (by simp (disch:=omega) only[nV,nW];omega) (Tr.ag (by rw[ei];simp (disch:=omega) only[nV,nW];omega) (Tr.ag (by rw[ei];simp (disch:=omega) only[nV,nW];omega) (Tr.ag (by rw[ei];simp (disch:=omega) only[nV,nW];omega) (Tr.ag (by rw[ei];simp (disch:=omega) only[nV,nW];omega) ?_))))
   rw[ei,a6,a6,a6,ej]
   refine Tr.ae (fun h1=>?_) (fun h1=>?_)
   · refine Tr.ah ?_
     rw[if_pos (by rw[hs];simp[aG,bV,bC] at h1 ⊢;omega)];rfl
   · simp only[aG,bV,bC] at h1
     simp at h1
     refine Tr.ae (fun h2=>?_) (fun h2=>?_)
     · rw[b9,decide_eq_true_eq] at h2
       refine Tr.ah ?_
       rw[if_pos (by rw[hs];simp;omega)];rfl
     · rw[b9,decide_eq_false_iff_not] at h2
       refine Tr.ae (fun h3=>?_) (fun h3=>?_)
       · rw[b9,decide_eq_true_eq] at h3
         refine Tr.ah ?_
         rw[if_pos (by rw[hs];simp;omega)];rfl
       · rw[b9,decide_eq_false_iff_not] at h3
         refine Tr.ah ?_
         rw[if_neg (by rw[hs];simp;omega)];exact ⟨rfl,rfl⟩
 · obtain ⟨x,h1,rfl⟩:=aR (Q:=fun x=>x=(.exit 0,B0 l z (Int.ofNat l)++[(9,.bool false)],aC::H)) (t85 n l z H (Int.ofNat l)) (Qw n 2) (ak _ _) (al _ _) (by
    refine Tr.ae (fun h0=>by simp (disch:=omega) only[nV,nW] at h0;omega) (fun h0=>Tr.ah rfl))
   exact h1
theorem Q1 (hl:l≤1000):cd (n+10) (.fn 60) [slA 4 l z,.fn (.func 58) [] []] H=some (.bool (c5 (iW z) l),H):=by
 have h:=fun H=>Rb n l z H hl
 refine bK (n:=n+9) Tryd.func60 rfl rfl rfl (Tv n l z H (AP (iW z) l)) (bS _ (n+9) (eg (bx _) h)) (ak _ _) (al _ _) ?_
 refine Tr.aj rfl (Tr.ah ⟨?_,rfl⟩)
 rw[zu]
end
end Go.Eng
end
