/- Gall: closed calls: what they lean on; counts of shelves that are known. -/
import Derived.Test.YtgphpjdchnfjlaaDoorV3Gq5x5
import Derived.Test.YtgphpjdchnfjlaaDoorV3Gp2x6
import Derived.Test.YtgphpjdchnfjlaaDoorV3EngThx10
import Derived.Test.YtgphpjdchnfjlaaDoorV3EngTkx3
import Derived.Test.YtgphpjdchnfjlaaDoorV3EngRnFx7
import Derived.Test.YtgphpjdchnfjlaaDoorV3EngRoSx4
set_option linter.unusedVariables false
set_option linter.unusedSimpArgs false
set_option maxRecDepth 100000
section
namespace Go.Eng.Gall
open Go.Proofs Go.Eng.Q
theorem named:dc Tryd.prog:=by
 have h:(Tryd.prog.funcs.toList.all fun fn=>fn.body.isNone || !(fn.name == "runtime.NumGoroutine"))=true:=by kernel_rfl
 intro f fn hf hb
 have:=List.all_eq_true.1 h fn (by simpa using Array.mem_of_getElem? hf)
 rw[hb] at this
 simpa using this
theorem mixed:Tryd.prog.follows .mixedOrders=true:=by kernel_rfl
theorem Gh:∀ e ∈ ([]:List bV),ay Tryd.prog e:=fun e h=>by cases h
theorem aM {e:bV} {t:List bV} (h:ay Tryd.prog e) (k:∀ x ∈ t,ay Tryd.prog x):∀ x ∈ e::t,ay Tryd.prog x:=fun x hx=>by
 rcases List.mem_cons.1 hx with rfl | hx
 · exact h
 · exact k x hx
def PL:List AV→Bool
 | .ptr _ _ _ _::_=>true
 | _=>false
noncomputable def tn (c:aA) (f:FuncId) (args:List AV) (H:aa):Option (AV×aa) :=
 cond (Nat.beq f 82) (Dx args H) (cond (Nat.beq f 62) (Ma (pt Tryd.prog KtG.kt 100000 62 c args H)) (cond ((Nat.beq f 63 || Nat.beq f 65) && PL args) (Ot c f args H) (cond (Nat.beq f 47) (pt Tryd.prog KtG.kt 100000 47 (Ah Tryd.prog KtG.kt 100000 46 c) args H) (cond (Nat.beq f 94 || Nat.beq f 100) (Ei Tryd.prog KtG.kt 100000 f c args H) none))))
theorem Bq (hN:dc Tryd.prog) (hD:fI Tryd.prog):qG Tryd.prog tn:=fun call hC f args H v H' h hne p M w cargs hH hA=>by
 unfold tn at h
 cases h82:Nat.beq f 82 with
 | true =>
   rw[h82,cond_true] at h
   have:=Nat.eq_of_beq_eq_true h82
   subst this
   exact FE h hH hA
 | false =>
 rw[h82,cond_false] at h
 cases h62:Nat.beq f 62 with
 | true =>
   rw[h62,cond_true] at h
   have:=Nat.eq_of_beq_eq_true h62
   subst this
   unfold Ma at h
   split at h
   case h_2=>simp at h
   rename_i v1 H1 he
   simp only[nP] at h
   obtain ⟨rfl,rfl⟩:=h
   obtain ⟨h1,h2⟩:=qB hN hD KtG.kt 100000 hC he hH hA
   exact ⟨h1,h2.mono (fun _ _ h=>fh.J7 h)⟩
 | false =>
 rw[h62,cond_false] at h
 cases hr:((Nat.beq f 63 || Nat.beq f 65) && PL args) with
 | true =>
   rw[hr,cond_true] at h
   exact Jy hC h hH hA
 | false =>
 rw[hr,cond_false] at h
 cases h47:Nat.beq f 47 with
 | true =>
   rw[h47,cond_true] at h
   have:=Nat.eq_of_beq_eq_true h47
   subst this
   exact qB hN hD KtG.kt 100000 (CT hN hD KtG.kt 100000 46 hC) h hH hA
 | false =>
 rw[h47,cond_false] at h
 cases h94:(Nat.beq f 94 || Nat.beq f 100) with
 | true =>
   rw[h94,cond_true] at h
   exact Ej hN hD KtG.kt 100000 hC h hH hA
 | false=>rw[h94,cond_false] at h;cases h
noncomputable def Jp (tab:List bV):aA→FuncId→List AV→aa→Option (AV×aa):=fun c f args H=>match zR tab c f args H with
 | some x=>some x
 | none=>tn c f args H
theorem Gm (hN:dc Tryd.prog) (hD:fI Tryd.prog) {tab:List bV} (hT:∀ e ∈ tab,ay Tryd.prog e):qG Tryd.prog (Jp tab):=fun call hC f args H v H' h hne p M w cargs hH hA=>by
 unfold Jp at h
 split at h
 · rename_i x hx
   simp only[Option.some.injEq] at h
   subst h
   exact vC tab hT call hC f args H v H' hx hne p M w cargs hH hA
 · exact Bq hN hD call hC f args H v H' h hne p M w cargs hH hA
theorem aO {tab:List bV} (hT:∀ e ∈ tab,ay Tryd.prog e) {e:bV} {H':aa}
 (h:jZ Tryd.prog (Jp tab) KtG.kt 100000 40 (.fn e.f) e.args [⟨true,[]⟩]=some (e.v,H')) (hn:e.args.all (sN 9)=true):ay Tryd.prog e:=by
 rw[tK] at h
 exact xv (lZ named (oP named mixed) (Gm named (oP named mixed) hT) KtG.kt 100000 40) h hn
theorem Dl (n:Nat):bM Tryd.prog (cd n):=lZ named (oP named mixed) vB KtG.kt 100000 n
theorem Dr (dr:Int) (lc:Nat) (zc:Nat→Int) (lb:Nat) (zb:Nat→Int) (W B:Nat→Int) (hl:lc≤10) {p:aB} {M:Mu} {H:aa} {w:World} {cargs:Array Value} (hH:aU p M H w) (hA:dW p M [shV dr lc zc lb zb W B] cargs) :
 (∃ fn,Tryd.prog.funcs[73]?=some fn∧fn.body.isNone=false)∧CallsIn Fence.wide 0 Tryd.prog 73 cargs w (fh p M H w (.int .i64 (cntF lc W B)) H) :=
 Cw named (oP named mixed) KA KtG.kt 100000 (Dl 3) (PE 2 dr lc zc lb zb W B hl H) hH hA
noncomputable def PT (dr:Int) (lc:Nat) (zl:List Int) (lb:Nat) (bl:List Int) (f1 f2:Bool) (Wl Bl:List Int):AV:=.ptrT none (.G (.int .i64 dr::.slcT none (.I .i64 zl) 4 lc f1::.slcT none (.I .i64 bl) 2 lb f2::(Wl.map (.int .i64)++Bl.map (.int .u64)))) 0
theorem xV {p:aB} {M:Mu} {zl:List Int} {sz lc:Nat} {f:Bool} {c:Value} (hl:zl.length=aq lc sz) (h:ai p M (.slcT none (.I .i64 zl) sz lc f) c):ai p M (.slcT none (.M [.arr .i64 (bC zl) (aq lc sz)]) sz lc false) c:=by
 cases h with
 | slcT vs hp h1 hv h2 h3 h4 =>
   have hlen:(Row.M [.arr .i64 (bC zl) (aq lc sz)]).len=(Row.I .i64 zl).len:=by
    show aq lc sz+0=zl.length
    omega
   refine .slcT vs (fun j hj=>hp j (by rw[← hlen];exact hj)) (fun j hj=>h1 j (by rw[← hlen];exact hj)) (fun j hj=>?_) h2 (fun e=>by cases e) h4
   have hj':j<zl.length:=by rw[hlen] at hj;exact hj
   have:=hv j (by rw[← hlen];exact hj)
   have e:getM [.arr .i64 (bC zl) (aq lc sz)] j=.int .i64 (zl.getD j 0):=by
    show (if j<aq lc sz then AV.int .i64 (bC zl j) else _)=_
    rw[if_pos (by omega),ga]
   show ai p _ (getM [.arr .i64 (bC zl) (aq lc sz)] j) (vs j)
   rw[e]
   exact this.a7 _ _
 | slcN=>exact .slcN
theorem GD {p:aB} {M:Mu} {dr:Int} {lc:Nat} {zl:List Int} {lb:Nat} {bl:List Int} {f1 f2:Bool} {Wl Bl:List Int} {c:Value} (hz:zl.length=aq lc 4) (hb:bl.length=aq lb 2) (hW:Wl.length=20) (hB:Bl.length=10) (h:ai p M (PT dr lc zl lb bl f1 f2 Wl Bl) c):ai p M (shV dr lc (bC zl) lb (bC bl) (bC Wl) (bC Bl)) c:=by
 cases h with
 | ptrT vs hp h1 hv =>
   have hlen:(shR dr lc (bC zl) lb (bC bl) (bC Wl) (bC Bl)).len=33:=rfl
   have hlen':(Row.G (.int .i64 dr::.slcT none (.I .i64 zl) 4 lc f1::.slcT none (.I .i64 bl) 2 lb f2::(Wl.map (.int .i64)++Bl.map (.int .u64)))).len=33:=by simp[Row.len,hW,hB]
   refine .ptrT vs (fun j hj=>hp j (by rw[hlen'] ; rw[hlen] at hj;exact hj)) (fun j hj=>h1 j (by rw[hlen'] ; rw[hlen] at hj;exact hj)) (fun j hj=>?_)
   rw[hlen] at hj
   have:=hv j (by rw[hlen'];exact hj)
   match j,hj,this with
   | 0,_,this=>exact this
   | 1,_,this=>exact xV hz this
   | 2,_,this=>exact xV hb this
   | j + 3,hj,this =>
     have this:ai p _ ((Wl.map (AV.int .i64)++Bl.map (AV.int .u64)).getD j .undef) (vs (j+3)):=this
     show ai p _ (getM [.arr .i64 (bC Wl) 20,.arr .u64 (bC Bl) 10] j) (vs (j+3))
     by_cases hj20:j<20
     · have e:getM [.arr .i64 (bC Wl) 20,.arr .u64 (bC Bl) 10] j=.int .i64 (Wl.getD j 0):=by
        show (if j<20 then AV.int .i64 (bC Wl j) else _)=_
        rw[if_pos hj20,ga]
       have e2:(Wl.map (AV.int .i64)++Bl.map (AV.int .u64)).getD j .undef=.int .i64 (Wl.getD j 0):=by
        rw[List.getD_eq_getElem?_getD,List.getElem?_append_left (by simp;omega),List.getElem?_map,List.getD_eq_getElem?_getD,List.getElem?_eq_getElem (by omega)];rfl
       rw[e];rw[e2] at this
       exact this.a7 _ _
     · have e:getM [.arr .i64 (bC Wl) 20,.arr .u64 (bC Bl) 10] j=.int .u64 (Bl.getD (j-20) 0):=by
        show (if j<20 then AV.int .i64 (bC Wl j) else (if j-20<10 then AV.int .u64 (bC Bl (j-20)) else _))=_
        rw[if_neg hj20,if_pos (by omega),ga]
       have e2:(Wl.map (AV.int .i64)++Bl.map (AV.int .u64)).getD j .undef=.int .u64 (Bl.getD (j-20) 0):=by
        rw[List.getD_eq_getElem?_getD,List.getElem?_append_right (by simp;omega),List.getElem?_map,List.length_map,hW,List.getD_eq_getElem?_getD,List.getElem?_eq_getElem (by omega)];rfl
       rw[e];rw[e2] at this
       exact this.a7 _ _
def Oj (Wl Bl:List Int) (k X c:Nat):Bool:=(BitVec.ofInt 64 (Bl.getD c 0) &&& ~~~(BitVec.ofNat 64 X)).toNat == 0 && (decide (Wl.getD (2*c) 0≤(k:Int)) && decide ((k:Int)≤Wl.getD (2*c+1) 0))
theorem El (Wl Bl:List Int):okW (bC Wl) (bC Bl)=Oj Wl Bl:=by
 funext k X c
 unfold okW Oj
 rw[ga,ga,qJ,bt,bt,bh]
 congr 1
 show (IntKind.u64.wrap (((BitVec.ofInt 64 (Bl.getD c 0) &&& ~~~(BitVec.ofInt 64 (X:Int))).toNat:Nat):Int) == 0)=_
 rw[Iv,jf (BitVec.isLt _)]
 generalize (BitVec.ofInt 64 (Bl.getD c 0) &&& ~~~(BitVec.ofNat 64 X)).toNat=t
 rw[Bool.eq_iff_iff,beq_iff_eq,beq_iff_eq]
 omega
def Mk (lc:Nat) (Wl Bl:List Int):Nat:=(ro lc (Oj Wl Bl) lc).length
theorem Em {dr:Int} {lc:Nat} {zl:List Int} {lb:Nat} {bl:List Int} {f1 f2:Bool} {Wl Bl:List Int} {A:AV} {v:Nat} (hA:A=PT dr lc zl lb bl f1 f2 Wl Bl) (hl:lc≤10) (hz:zl.length=lc*4) (hb:bl.length=lb*2) (hW:Wl.length=20) (hB:Bl.length=10) (hv:Mk lc Wl Bl=v):ay Tryd.prog ⟨73,[A],.int .i64 (v:Int)⟩:=by
 intro H hne p M w cargs hH hC
 have e:cntF lc (bC Wl) (bC Bl)=(v:Int):=by unfold cntF;rw[El];exact congrArg Int.ofNat hv
 rw[← e]
 refine Dr dr lc (bC zl) lb (bC bl) (bC Wl) (bC Bl) hl hH ⟨hC.1,fun j hj=>?_⟩
 have hC2:=hC.2 j hj
 subst hA
 have:j=0:=by simp at hj;omega
 subst this
 exact GD (by rw[ja];exact hz) (by rw[ja];exact hb) hW hB hC2
end Go.Eng.Gall
end
section
namespace Go.Eng
open Go.Proofs Go.ChangeShapes
open Go.Eng.Q (shV shR slA cntF okW)
noncomputable def FA (args:List AV) (H:aa):Option (AV×aa) :=
 match args with
 | [.ptrT none (.M [.one (.int .i64 dr),.one (.slcT none (.M [.arr .i64 zc n1]) 4 lc false),.one (.slcT none (.M [.arr .i64 zb n2]) 2 lb false),.arr .i64 W 20,.arr .u64 B 10]) 0]=>if lc≤10∧n1=ff lc 4∧n2=ff lb 2 then some (.int .i64 (cntF lc W B),H) else none
 | _=>none
theorem FB {dr:Int} {lc:Nat} {zc:Nat→Int} {lb:Nat} {zb:Nat→Int} {W B:Nat→Int} {H:aa} (hl:lc≤10):FA [shV dr lc zc lb zb W B] H=some (.int .i64 (cntF lc W B),H):=by
 show (if lc≤10∧ff lc 4=ff lc 4∧ff lb 2=ff lb 2 then some (AV.int .i64 (cntF lc W B),H) else none)=_
 rw[if_pos ⟨hl,rfl,rfl⟩]
theorem FC {args:List AV} {H:aa} {v:AV} {H':aa} (h:FA args H=some (v,H')) {p:aB} {M:Mu} {w:World} {cargs:Array Value} (hH:aU p M H w) (hA:dW p M args cargs):(∃ fn,Tryd.prog.funcs[73]?=some fn∧fn.body.isNone=false)∧CallsIn Fence.wide 0 Tryd.prog 73 cargs w (fh p M H w v H'):=by
 unfold FA at h
 split at h
 case h_2=>simp at h
 rename_i dr zc n1 lc zb n2 lb W B
 split at h
 case isFalse=>simp at h
 rename_i hc
 obtain ⟨hl,rfl,rfl⟩:=hc
 simp only[nP] at h
 obtain ⟨rfl,rfl⟩:=h
 exact Gall.Dr dr lc zc lb zb W B hl hH hA
def G9:List AV→Bool
 | [_,_,.slc _ _ _ _ _ _ _]=>true
 | _=>false
noncomputable def kL:aA→FuncId→List AV→aa→Option (AV×aa):=fun call f args H=>cond (Nat.beq f 59 && G9 args) (Ln call f args H) (cond (Nat.beq f 73) (FA args H) (cond (Nat.beq f 95) (JC Lq args H) (match Gall.tn call f args H with
 | some x=>some x
 | none=>xz [⟨15,[],.bool true⟩] call f args H)))
def Fc (f:FuncId):Bool:=Nat.beq f 15 || Nat.beq f 1000000 || Nat.beq f 59 || Nat.beq f 73 || Nat.beq f 95 || Nat.beq f 82 || Nat.beq f 62 || Nat.beq f 63 || Nat.beq f 65 || Nat.beq f 47 || Nat.beq f 94 || Nat.beq f 100
noncomputable def cd (n:Nat):aA:=cU Tryd.prog kL KtG.kt 100000 n
noncomputable def il (tab:nr) (n k:Nat):bj:=zA Tryd.prog kL KtG.kt 100000 Fc tab n k
noncomputable def cI (n:Nat) (f nt:Nat):Cx:=⟨Tryd.prog,cd n,100000,f,nt,KtG.kt f,none⟩
theorem Ll {g:FuncId} (h:Nat.beq g 15=false) (h1:Nat.beq g 1000000=false) (c:aA) (args:List AV) (H:aa):xz [⟨15,[],.bool true⟩] c g args H=none:=by
 unfold xz
 rw[h1,cond_false]
 simp only[zR]
 have:Nat.beq 15 g=false:=by
  cases hb:Nat.beq 15 g with
  | false=>rfl
  | true=>have:=Nat.eq_of_beq_eq_true hb;subst this;simp at h
 rw[this];rfl
theorem vv (g:FuncId) (h:Fc g=false) (c:aA) (args:List AV) (H:aa):kL c g args H=none:=by
 unfold Fc at h
 simp only[Bool.or_eq_false_iff] at h
 obtain ⟨⟨⟨⟨⟨⟨⟨⟨⟨⟨⟨h15,h0⟩,h59⟩,h73⟩,h95⟩,h82⟩,h62⟩,h63⟩,h65⟩,h47⟩,h94⟩,h100⟩:=h
 have e:Gall.tn c g args H=none:=by
  unfold Gall.tn
  rw[h82,h62,h63,h65,h47,h94,h100];rfl
 unfold kL
 rw[h59,h73,h95,e]
 exact Ll h15 h0 c args H
theorem me (n:Nat):∃ x,cU Tryd.prog kL KtG.kt 100000 n .mode [] []=some x:=by
 cases n<;>exact ⟨_,rfl⟩
theorem vB (hN:dc Tryd.prog) (hD:fI Tryd.prog) (hW:ay Tryd.prog ⟨15,[],.bool true⟩):qG Tryd.prog kL :=
 fun call hC f args H v H' h hne p M w cargs hH hA=>by
  unfold kL at h
  cases h59:(Nat.beq f 59 && G9 args) with
  | true =>
    rw[h59,cond_true] at h
    exact Jz hC h hH hA
  | false =>
  rw[h59,cond_false] at h
  cases h73:Nat.beq f 73 with
  | true =>
    rw[h73,cond_true] at h
    have:=Nat.eq_of_beq_eq_true h73
    subst this
    exact FC h hH hA
  | false =>
  rw[h73,cond_false] at h
  cases h95:Nat.beq f 95 with
  | true =>
    rw[h95,cond_true] at h
    have:=Nat.eq_of_beq_eq_true h95
    subst this
    exact Gw JJ h hne hH hA
  | false =>
  rw[h95,cond_false] at h
  split at h
  · rename_i x hx
    simp only[Option.some.injEq] at h
    subst h
    exact Gall.Bq hN hD call hC f args H v H' hx hne p M w cargs hH hA
  · exact Br _ (fun e he=>by
     simp only[List.mem_singleton] at he
     subst he
     exact hW) call hC f args H v H' h hne p M w cargs hH hA
theorem gJ (tab:nr) (n k:Nat) (ht:∀ k,tab.Ok (cd (n+k))):(il tab n k).Ok (cd (n+k)):=vn _ _ _ _ _ _ _ vv (fun k=>me _) ht k
theorem gI (n k:Nat):(il aX n k).Ok (cd (n+k)):=gJ _ _ _ (fun k=>bG _)
theorem aV (n:Nat):(il aX n 0).Ok (cd n):=gI n 0
theorem KP {f:FuncId} {fn:Func} {n:Nat} (hf:Tryd.prog.funcs[f]?=some fn) (hb:fn.body.isSome=true) (hn:Fc f=false) {args:List HV} (hle:Nat.ble args.length fn.ntmps=true) {H:aa} {callR:bj} (hC:callR.Ok (cd n)) {bl:fc} (hB:bl.Ok (cI n f fn.ntmps) (bw fn)) {rg:oJ} (hR:rg.Ok (cI n f fn.ntmps) (bw fn)) {y:HV×aa}
 (h:(bA Tryd.prog (cd n) 100000 f fn (KtG.kt f) callR bl rg args H).run=some y):cd (n+1) (.fn f) (lW args) H=some (y.1.1,y.2) :=
 qS hf hb (vv f hn _ _ _) hle hC hB hR h
theorem IN {f:FuncId} {fn:Func} {n:Nat} (hf:Tryd.prog.funcs[f]?=some fn) (hb:fn.body.isSome=true) {args:List HV} (ho:∀ c H,kL c f (lW args) H=none) (hle:Nat.ble args.length fn.ntmps=true) {H:aa} {callR:bj} (hC:callR.Ok (cd n)) {bl:fc} (hB:bl.Ok (cI n f fn.ntmps) (bw fn)) {rg:oJ} (hR:rg.Ok (cI n f fn.ntmps) (bw fn)) {y:HV×aa}
 (h:(bA Tryd.prog (cd n) 100000 f fn (KtG.kt f) callR bl rg args H).run=some y):cd (n+1) (.fn f) (lW args) H=some (y.1.1,y.2) :=
 qS hf hb (ho _ _) hle hC hB hR h
theorem KO {f:FuncId} {fn:Func} {n:Nat} (hf:Tryd.prog.funcs[f]?=some fn) (hb:fn.body.isSome=true) (hn:Fc f=false) {args:List HV} (hle:Nat.ble args.length fn.ntmps=true) {H:aa} {callR:bj} {bl:fc} {rg:oJ} {T:Tr (HV×aa)}
 (e:bA Tryd.prog (cd n) 100000 f fn (KtG.kt f) callR bl rg args H=T) (hC:callR.Ok (cd n)) (hB:bl.Ok (cI n f fn.ntmps) (bw fn)) (hR:rg.Ok (cI n f fn.ntmps) (bw fn)) {y:HV×aa} (hr:T.run=some y):cd (n+1) (.fn f) (lW args) H=some (y.1.1,y.2) :=
 KP hf hb hn hle hC hB hR (by rw[e];exact hr)
theorem KL {n f nt:Nat} {c:Code} {callR:bj} (hC:callR.Ok (cd n)) {bl:fc} (hB:bl.Ok (cI n f nt) c) {rg:oJ} (hR:rg.Ok (cI n f nt) c) {fr:az} {H:aa} {x:gZ} (h:(aZ (cI n f nt) callR bl rg c (hints fr) H).run=some x):exec (cI n f nt) c fr H=some x.st:=by
 have:=im hC c hB hR _ _ _ h
 rw[bn] at this
 exact this

def lT (bl:fc) (id0:Nat):fc:=fun id fr H=>cond (Nat.beq id id0) (some .bad) (bl id fr H)
theorem fB {bl:fc} {cx:Cx} {c:Code} (h:bl.Ok cx c) (id0:Nat):(lT bl id0).Ok cx c:=by
 intro id b hm fr H t y ht hy
 unfold lT at ht
 cases hb:Nat.beq id id0 with
 | true =>
   rw[hb,cond_true,Option.some.injEq] at ht
   subst ht
   exact (Tr.ae hy).elim
 | false =>
   rw[hb,cond_false] at ht
   exact h id b hm fr H t y ht hy
theorem KJ {n f nt:Nat} {c:Code} {callR:bj} {bl:fc} {rg:oJ} {fr:az} {H:aa} {T:Tr gZ} (e:aZ (cI n f nt) callR bl rg c (hints fr) H=T) (hC:callR.Ok (cd n)) (hB:bl.Ok (cI n f nt) c) (hR:rg.Ok (cI n f nt) c) {x:gZ} (hr:T.run=some x):exec (cI n f nt) c fr H=some x.st :=
 KL hC hB hR (by rw[e];exact hr)
section
variable {n f nt:Nat} {c:Code} {callR:bj} {bl:fc} {rg:oJ}
end
end Go.Eng
end
section
namespace Go.Eng
open Go.Proofs
theorem bN {f:FuncId} {fn:Func} {n:Nat} (hf:Tryd.prog.funcs[f]?=some fn) (hb:fn.body.isSome=true) (hn:Fc f=false) {args:List HV} (hle:Nat.ble args.length fn.ntmps=true) {H:aa} {callR:bj} {bl:fc} {rg:oJ} {T:Tr (HV×aa)}
 (e:bA Tryd.prog (cd n) 100000 f fn (KtG.kt f) callR bl rg args H=T) (hC:callR.Ok (cd n)) (hB:bl.Ok (cI n f fn.ntmps) (bw fn)) (hR:rg.Ok (cI n f fn.ntmps) (bw fn)) {v:AV} {H':aa} (h:T.all fun y=>y.1.1=v∧y.2=H'):cd (n+1) (.fn f) (lW args) H=some (v,H'):=by
 obtain ⟨y,h1,h2,h3⟩:=h
 have:=KO hf hb hn hle e hC hB hR h1
 rw[this,h2,h3]
theorem AN {f:FuncId} {fn:Func} {n:Nat} (hf:Tryd.prog.funcs[f]?=some fn) (hb:fn.body.isSome=true) {args:List HV} (ho:∀ c H,kL c f (lW args) H=none) (hle:Nat.ble args.length fn.ntmps=true) {H:aa} {callR:bj} {bl:fc} {rg:oJ} {T:Tr (HV×aa)}
 (e:bA Tryd.prog (cd n) 100000 f fn (KtG.kt f) callR bl rg args H=T) (hC:callR.Ok (cd n)) (hB:bl.Ok (cI n f fn.ntmps) (bw fn)) (hR:rg.Ok (cI n f fn.ntmps) (bw fn)) {v:AV} {H':aa} (h:T.all fun y=>y.1.1=v∧y.2=H'):cd (n+1) (.fn f) (lW args) H=some (v,H'):=by
 obtain ⟨y,h1,h2,h3⟩:=h
 have:=IN hf hb ho hle hC hB hR (by rw[e];exact h1)
 rw[this,h2,h3]
theorem aY {n f nt:Nat} {c:Code} {callR:bj} {bl:fc} {rg:oJ} {fr:az} {H:aa} {T:Tr gZ} (e:aZ (cI n f nt) callR bl rg c (hints fr) H=T) (hC:callR.Ok (cd n)) (hB:bl.Ok (cI n f nt) c) (hR:rg.Ok (cI n f nt) c) {Q:Ex×az×aa→Prop} (h:T.all fun x=>Q x.st):∃ x,exec (cI n f nt) c fr H=some x∧Q x:=by
 obtain ⟨x,h1,h2⟩:=h
 exact ⟨_,KJ e hC hB hR h1,h2⟩
section
variable {n f nt:Nat} {c:Code} {callR:bj} {bl:fc} {rg:oJ}
theorem kZ (id:Nat) (F:Nat→az) (G:Nat→aa) (N:Nat) (p:Nat→Bool) (X:Nat→az×aa) (Y:az×aa) (hN:N<99999)
 (hs:∀ j,j<N→∃ x,exec (cI n f nt) c (F j) (G j)=some x∧if p j=true then x=(.ret,X j) else x.1=.normal∧tidy (aN (G 0)) x.2.1 x.2.2=(F (j+1),G (j+1)))
 (he:exec (cI n f nt) c (F N) (G N)=some (.exit id,Y)):exec (cI n f nt) (.block id (.loop c)) (F 0) (G 0)=some (cond (eV p N) (.ret,X (fN p N 0)) (.normal,Y)):=by
 have key:=jF (body:=exec (cI n f nt) c) (n:=aN (G 0)) F G N p (fun j=>if j<N then (.ret,X j) else (.exit id,Y))
  (fun j hj hp=>by
    obtain ⟨x,h1,h2⟩:=hs j hj
    rw[if_neg (by rw[hp];simp)] at h2
    obtain ⟨e,f1,g1⟩:=x
    obtain ⟨rfl,h3⟩:=h2
    exact ⟨_,_,h1,h3⟩)
  (fun j hj hp=>by
    obtain ⟨x,h1,h2⟩:=hs j hj
    rw[if_pos hp] at h2
    subst h2
    rw[if_pos hj]
    exact ⟨h1,by simp⟩)
  (by
    rw[if_neg (by omega)]
    exact ⟨he,by simp⟩) N 0 100000 (by omega) (by omega)
 cases hc:eV p N with
 | true =>
   have:=rk hc
   rw[if_pos this] at key
   exact dD (fun id' h=>by cases h) key
 | false =>
   have:=tR hc
   rw[if_neg (by omega)] at key
   exact gx key
end
theorem ld {n f nt:Nat} {c:Code} (id:Nat) (F:Nat→az) (G:Nat→aa) (N:Nat) (Y:az×aa) (hN:N<99999)
 (hs:∀ j,j<N→∃ x,exec (cI n f nt) c (F j) (G j)=some x∧(x.1=.normal∧tidy (aN (G 0)) x.2.1 x.2.2=(F (j+1),G (j+1))))
 (he:exec (cI n f nt) c (F N) (G N)=some (.exit id,Y)):exec (cI n f nt) (.block id (.loop c)) (F 0) (G 0)=some (.normal,Y):=by
 have:=kZ id F G N (fun _=>false) (fun _=>Y) Y hN (fun j hj=>by
  obtain ⟨x,h1,h2⟩:=hs j hj
  exact ⟨x,h1,by rw[if_neg (by simp)];exact h2⟩) he
 have h0:eV (fun _=>false) N=false:=by
  cases h:eV (fun _=>false) N with
  | false=>rfl
  | true=>obtain ⟨i,_,h2⟩:=(dG _ _).1 h;cases h2
 rw[h0] at this
 exact this
end Go.Eng
end
section
namespace Go.Eng
open Go.Proofs
noncomputable def aR:bL:=⟨false,[]⟩
noncomputable def Fg (k:Nat) (b:Nat→Int) (full:Bool):AV:=.slcT none (.M [.arr .i64 b k]) 1 k full
noncomputable def jn (v k:Nat) (y:Nat→Int):bL:=⟨false,[(v,.row (.M [.arr .i64 y k]))]⟩
theorem cK (tab:nr) (n:Nat) (ht:tab.Ok (cd n)):(il tab n 0).Ok (cd n) :=
 ⟨me _,fun tgt args H x h=>by
   unfold il zA at h
   split at h
   · split at h
     · rename_i c hc
       exact ht _ _ hc _ _ _ h
     · exact (Tr.ae h).elim
   · exact (Tr.ae h).elim⟩
theorem fm {cx:Cx} {id:Nat} {B:Code} {fr:az} {H:aa} {e:Bool} {X Y x:gZ} (h:(Tr.ite e (Tr.ok X) (Tr.ok Y)).run=some x) (hx:exec cx (.block id B) fr H=some (cond e X.st Y.st)):exec cx (.block id B) fr H=some x.st:=by
 rw[hx]
 rcases Tr.jE h with ⟨hc,h⟩ | ⟨hc,h⟩
 · rw[hc,← Tr.ab h];rfl
 · rw[hc,← Tr.ab h];rfl
theorem gN {j:Nat} (h:j<2 ^ 31):bz .i64 (j:Int) (Int.ofNat 1)=((j+1:Nat):Int):=by rw[fj,show Int.ofNat 1=1 from rfl];exact fH (by omega) (by omega)
theorem DX (j:Nat):aE 0 (j:Int) 1=j:=by rw[bO];omega
theorem J8 {x y:Int} (h0:-9223372036854775808≤x+y) (h1:x+y≤9223372036854775807):bz .i64 x y=x+y:=by rw[fj,fH h0 h1]
theorem tw {x y:Int} (h0:-9223372036854775808≤x-y) (h1:x-y≤9223372036854775807):bW .i64 x y=x-y:=by rw[dK,fH h0 h1]
theorem Bb (L:List Int) (v:Int):sV (yN (bC L) 0) L.length (bC [v])=bC (L++[v]):=by
 rw[lS,lV,iY];funext i
 by_cases h:i<L.length
 · simp[h,List.getElem?_append]
 · by_cases h2:i=L.length
   · subst h2;simp
   · have e1:[v][i-L.length]?=none:=List.getElem?_eq_none (by simp;omega)
     have e2:(L++[v])[i]?=none:=List.getElem?_eq_none (by simp;omega)
     simp only[h,if_false,List.getD_eq_getElem?_getD,e1,e2]
noncomputable def gX (A:List AV) (V:AV):List AV→Option (Prop×AV):=fun x=>some (x=A,V)
noncomputable def tX (t:nr) (f:FuncId) (A:List AV) (V:AV):nr:=mr t f (gX A V)
theorem jc {c f:Nat} {t:nr} {A:List AV} {V:AV} (ht:t.Ok (cd c)) (h:∀ H,cd c (.fn f) A H=some (V,H)):(tX t f A V).Ok (cd c):=by
 refine j4 ht (fun args p v hg hp H=>?_)
 unfold gX at hg
 simp only[nP] at hg
 obtain ⟨rfl,rfl⟩:=hg
 rw[hp];exact h H
noncomputable def tN (t:nr) (f:FuncId):nr:=mr t f (fun _=>none)
theorem p9 {c f:Nat} {t:nr} (ht:t.Ok (cd c)):(tN t f).Ok (cd c):=j4 ht (fun args p v hg hp H=>by cases hg)
noncomputable def gC (P:Int→Bool) (Q:Int→List AV→aa→Prop) (args:List AV) (H:aa):Tr (AV×aa) :=
 match args with
 | .int .i64 x::C=>.reqP (Q x C H) (.ok (.bool (P x),H))
 | _=>.bad
noncomputable def PF (f:FuncId) (P:Int→Bool) (Q:Int→List AV→aa→Prop):nr:=mD aX f (gC P Q)
theorem Dw {k:Nat} {f:FuncId} {P:Int→Bool} {Q:Int→List AV→aa→Prop} (h:∀ x C H,Q x C H→cd k (.fn f) (.int .i64 x::C) H=some (.bool (P x),H)):(PF f P Q).Ok (cd k):=by
 refine we (bG _) (fun args H x hx=>?_)
 unfold gC at hx
 split at hx
 · obtain ⟨h1,h2⟩:=Tr.fS hx
   rw[h _ _ _ h1,← Tr.ab h2]
 · exact (Tr.ae hx).elim
def A2 (p:Nat→Bool) (m:Nat):Int:=if eV p m=true then (fN p m 0:Int) else -1
theorem zD (p:Nat→Bool) (k:Nat):er (Int.ofNat 0) (A2 p k)=eV p k:=by
 rw[bt];unfold A2
 cases h:eV p k with
 | true =>
   rw[if_pos rfl]
   simp only[Int.ofNat_eq_natCast,decide_eq_true_eq];omega
 | false=>rw[if_neg (by decide)];rfl
theorem IH {p:Nat→Bool} {k:Nat} (h:∀ j,j<k→p j=false):eV p k=false:=by
 cases e:eV p k with
 | false=>rfl
 | true =>
   obtain ⟨j,hj,e2⟩:=(dG _ _).1 e
   rw[h j hj] at e2;cases e2
theorem uY {p:Nat→Bool} {k:Nat} (h:eV p k=false):∀ j,j<k→p j=false:=fun j hj=>by
 cases e:p j with
 | false=>rfl
 | true=>rw[(dG _ _).2 ⟨j,hj,e⟩] at h;cases h
def L4:List AV→Option (Prop×AV)
 | []=>some (True,.bool true)
 | _=>none
theorem P5 (n:Nat) (H:aa):cd (n+1) (.fn 15) [] H=some (.bool true,H):=by unfold cd cU;rfl
theorem PG {c:Nat} {t:nr} (h:0<c) (ht:t.Ok (cd c)):(mr t 15 L4).Ok (cd c):=by
 obtain ⟨m,rfl⟩:∃ m,c=m+1:=⟨c-1,by omega⟩
 refine j4 ht (fun args p v hg hp H=>?_)
 unfold L4 at hg
 split at hg
 · simp only[nP] at hg
   obtain ⟨_,rfl⟩:=hg
   exact P5 _ H
 · cases hg
noncomputable def slA (n len:Nat) (z:Nat→Int):AV:=.slcT none (.M [.arr .i64 z (ff len n)]) n len false
noncomputable def df (dr:Int) (lc:Nat) (zc:Nat→Int) (lb:Nat) (zb:Nat→Int):AV:=.agg (.G [.int .i64 dr,slA 4 lc zc,slA 2 lb zb])
noncomputable def shR (dr:Int) (lc:Nat) (zc:Nat→Int) (lb:Nat) (zb:Nat→Int) (W B:Nat→Int):Row:=.M [.one (.int .i64 dr),.one (slA 4 lc zc),.one (slA 2 lb zb),.arr .i64 W 20,.arr .u64 B 10]
noncomputable def shV (dr:Int) (lc:Nat) (zc:Nat→Int) (lb:Nat) (zb:Nat→Int) (W B:Nat→Int):AV:=.ptrT none (shR dr lc zc lb zb W B) 0
theorem AB {c:Nat} {f:FuncId} {args:List AV} {H:aa} {x:AV×aa} (h:kL (cd c) f args H=some x):cd (c+1) (.fn f) args H=some x:=by
 unfold cd cU
 unfold cd at h
 rw[h]
theorem PE (n:Nat) (dr:Int) (lc:Nat) (zc:Nat→Int) (lb:Nat) (zb:Nat→Int) (W B:Nat→Int) (H:aa) (hl:lc≤10):cd (n+1) (.fn 73) [shV dr lc zc lb zb W B] H=some (.int .i64 (Q.cntF lc W B),H) :=
 AB (FB (dr:=dr) (zc:=zc) (lb:=lb) (zb:=zb) (W:=W) (B:=B) hl)
end Go.Eng
end
section
namespace Go.Eng
open Go.Proofs
noncomputable def sM (lo hi:Int):bL:=⟨false,[(0,.row (.I .i64 [lo])),(0,.row (.I .i64 [hi]))]⟩
noncomputable def f84 (d:Nat):AV:=.fn (.func 84) [] [.ptr d 0 0 0,.ptr d 1 0 0]
noncomputable def Cg (k:Nat) (b:Nat→Int) (full:Bool) (j:Int):az:=[(0,Fg k b full),(1,f84 2),(7,.int .i64 (Int.ofNat k)),(8,.int .i64 j)]
theorem SS (n:Nat) (lo hi:Int) (H:aa) (x:Int):bA Tryd.prog (cd n) 100000 84 Tryd.f84 (KtG.kt 84) (il aX n 0) bo bp [(.int .i64 x,none),(.ptr 2 0 0 0,none),(.ptr 2 1 0 0,none)] (aR::aR::sM lo hi::H) =
 (fun (Z0:bL)=>Tr.ite (da x lo) (Tr.ok ((AV.bool true,some 1),aR::aR::Z0::H)) (Tr.ok ((AV.bool (da hi x),none),aR::aR::Z0::H))) { lock:=false,bs:=[(0,av.row (Row.I .i64 [lo])),(0,av.row (Row.I .i64 [hi]))] }:=by kernel_rfl
theorem t99 (n k:Nat) (b:Nat→Int) (full:Bool) (lo hi:Int) (P:Int→Bool) (Q:Int→List AV→aa→Prop) (H:aa) (j:Int):aZ (cI n 99 19) (il (PF 84 P Q) n 0) bo bp (part Tryd.f99 [1,0,1,0,0]) (hints (Cg k b full j)) (aR::aR::sM lo hi::H) =
 (fun (Z0:bL)=>Tr.ite (da j (Int.ofNat k)) (Tr.req (dk j k) (Tr.req (cW (aE 0 j 1) k) (Tr.reqP (Q (b (aE 0 j 1)) [AV.ptr 2 0 0 0,AV.ptr 2 1 0 0] (aR::aR::Z0::H)) (Tr.ite (P (b (aE 0 j 1))) (Tr.ok (Ex.ret,[(4,AV.int .i64 j,none)],aR::aR::Z0::H)) (Tr.ok (Ex.normal,[(0,AV.slcT none (Row.M [aw.arr .i64 b k]) 1 k full,none),(1,AV.fn (Fn.func 84) [] [AV.ptr 2 0 0 0,AV.ptr 2 1 0 0],none),(7,AV.int .i64 (Int.ofNat k),none),(8,AV.int .i64 (bz .i64 j (Int.ofNat 1)),none)],aR::aR::Z0::H)))))) (Tr.ok (Ex.exit 0,[(0,AV.slcT none (Row.M [aw.arr .i64 b k]) 1 k full,none),(1,AV.fn (Fn.func 84) [] [AV.ptr 2 0 0 0,AV.ptr 2 1 0 0],none),(7,AV.int .i64 (Int.ofNat k),none),(8,AV.int .i64 j,none),(9,AV.bool false,some 1)],aR::aR::Z0::H))) { lock:=false,bs:=[(0,av.row (Row.I .i64 [lo])),(0,av.row (Row.I .i64 [hi]))] }:=by kernel_rfl
theorem SY (n k:Nat) (b:Nat→Int) (full:Bool) (lo hi:Int) (H:aa) (x:Bool) (r:Nat):bA Tryd.prog (cd n) 100000 99 Tryd.f99 (KtG.kt 99) (il aX n 0) (dN bo 0 (Cg k b full 0) (aR::aR::sM lo hi::H) (.ite x (.ok (.ret,[(4,.int .i64 (Int.ofNat r),none)],aR::aR::sM lo hi::H)) (.ok (.normal,hints (Cg k b full (Int.ofNat k)++[(9,.bool false)]),aR::aR::sM lo hi::H)))) bp [(Fg k b full,none),(f84 1,none)] (aR::sM lo hi::H) =
 (fun (Z0:bL)=>((fun (Z1:az)=>Tr.reqP (Z1=Z1∧aR::aR::Z0::H=aR::aR::Z0::H) (Tr.ite x (Tr.ok ((AV.int .i64 (Int.ofNat r),none),aR::Z0::H)) (Tr.ok ((AV.int .i64 (Int.negSucc 0),some 1),aR::Z0::H)))) [(0,AV.slcT none (Row.M [aw.arr .i64 b k]) 1 k full),(1,AV.fn (Fn.func 84) [] [AV.ptr 2 0 0 0,AV.ptr 2 1 0 0]),(7,AV.int .i64 (Int.ofNat k)),(8,AV.int .i64 (Int.ofNat 0))])) { lock:=false,bs:=[(0,av.row (Row.I .i64 [lo])),(0,av.row (Row.I .i64 [hi]))] }:=by kernel_rfl
theorem SR (n k:Nat) (b:Nat→Int) (full:Bool) (lo hi:Int) (H:aa) (r:Int):bA Tryd.prog (cd n) 100000 83 Tryd.f83 (KtG.kt 83) (il (B6 aX 99 [Fg k b full,f84 1] (aR::sM lo hi::H) (.ok (.int .i64 r,aR::sM lo hi::H))) n 0) bo bp [(Fg k b full,none),(f84 0,none)] (sM lo hi::H) =
 (fun (Z0:bL)=>((fun (Z1:List AV)=>Tr.reqP (Z1=Z1∧aR::Z0::H=aR::Z0::H) (Tr.ok ((AV.bool (er (Int.ofNat 0) r),none),Z0::H))) [AV.slcT none (Row.M [aw.arr .i64 b k]) 1 k full,AV.fn (Fn.func 84) [] [AV.ptr 1 0 0 0,AV.ptr 1 1 0 0]])) { lock:=false,bs:=[(0,av.row (Row.I .i64 [lo])),(0,av.row (Row.I .i64 [hi]))] }:=by kernel_rfl
theorem SI (n k:Nat) (b:Nat→Int) (full:Bool) (lo hi:Int) (H:aa) (e:Bool):bA Tryd.prog (cd n) 100000 59 Tryd.f59 (KtG.kt 59) (il (B6 aX 83 [Fg k b full,f84 0] (sM lo hi::H) (.ok (.bool e,sM lo hi::H))) n 0) bo bp [(.int .i64 lo,none),(.int .i64 hi,none),(Fg k b full,none)] H =
 (fun (Z0:List AV)=>((fun (Z1:bL)=>Tr.reqP (Z0=Z0∧Z1::H=Z1::H) (Tr.ok ((AV.bool (cH e),none),H))) { lock:=false,bs:=[(0,av.row (Row.I .i64 [lo])),(0,av.row (Row.I .i64 [hi]))] })) [AV.slcT none (Row.M [aw.arr .i64 b k]) 1 k full,AV.fn (Fn.func 84) [] [AV.ptr 0 0 0 0,AV.ptr 0 1 0 0]]:=by kernel_rfl
theorem P4:∀ b,(0,b) ∈ aP (bw Tryd.f99)→b=.loop (part Tryd.f99 [1,0,1,0,0]):=fJ (by kernel_rfl)
def jJ (lo hi x:Int):Bool:=decide (x<lo) || decide (hi<x)
section
variable (n k:Nat) (b:Nat→Int) (full:Bool) (lo hi:Int) (H:aa)
theorem Qn (x:Int):cd (n+1) (.fn 84) [.int .i64 x,.ptr 2 0 0 0,.ptr 2 1 0 0] (aR::aR::sM lo hi::H)=some (.bool (jJ lo hi x),aR::aR::sM lo hi::H):=by
 have hp:jJ lo hi x=(decide (x<lo) || decide (hi<x)):=rfl
 rw[hp]
 refine bN (n:=n) Tryd.func84 rfl rfl rfl (SS n lo hi H x) (aV n) (ak _ _) (al _ _) ?_
 rw[br,br]
 refine Tr.ag (fun hc=>Tr.ah ⟨?_,rfl⟩) (fun hc=>Tr.ah ⟨?_,rfl⟩)
 · rw[hc];rfl
 · rw[hc];rfl
theorem Qm (hk:k≤1000):cd (n+4) (.fn 83) [Fg k b full,f84 0] (sM lo hi::H)=some (.bool (eV (fun j=>jJ lo hi (b j)) k),sM lo hi::H):=by
 have hQ:∀ q x C H',(C=[.ptr 2 0 0 0,.ptr 2 1 0 0]∧H'=aR::aR::sM lo hi::H)→cd (n+2+q) (.fn 84) (.int .i64 x::C) H'=some (.bool (jJ lo hi x),H'):=by
  rintro q x C H' ⟨rfl,rfl⟩
  rw[show n+2+q=n+1+q+1 by omega]
  exact Qn _ lo hi H x
 have hx:=kZ (n:=n+2) (f:=99) (nt:=19) (c:=part Tryd.f99 [1,0,1,0,0]) 0 (fun j=>Cg k b full (j:Int)) (fun _=>aR::aR::sM lo hi::H) k (fun j=>jJ lo hi (b j)) (fun j=>([(4,.int .i64 (j:Nat))],aR::aR::sM lo hi::H)) (Cg k b full (Int.ofNat k)++[(9,.bool false)],aR::aR::sM lo hi::H) (by omega) (fun j hj=>?_) ?_
 · have h99:cd (n+3) (.fn 99) [Fg k b full,f84 1] (aR::sM lo hi::H)=some (.int .i64 (A2 (fun j=>jJ lo hi (b j)) k),aR::sM lo hi::H):=by
    refine bN (n:=n+2) Tryd.func99 rfl rfl rfl (SY (n+2) k b full lo hi H (eV (fun j=>jJ lo hi (b j)) k) (fN (fun j=>jJ lo hi (b j)) k 0)) (aV _) (bu (ak _ _) P4 (fun x h=>fm h hx)) (al _ _) ?_
    refine Tr.an ⟨rfl,rfl⟩ (Tr.ag (fun hc=>Tr.ah ⟨?_,rfl⟩) (fun hc=>Tr.ah ⟨?_,rfl⟩))
    · unfold A2;rw[if_pos hc];rfl
    · unfold A2;rw[if_neg (by rw[hc];decide)];rfl
   refine bN (n:=n+3) Tryd.func83 rfl rfl rfl (SR (n+3) k b full lo hi H (A2 (fun j=>jJ lo hi (b j)) k)) (cK _ (n+3) (ji (bG _) (fun x hy=>by rw[← Tr.ab hy];exact h99))) (ak _ _) (al _ _) ?_
   refine Tr.an ⟨rfl,rfl⟩ (Tr.ah ⟨?_,rfl⟩)
   rw[zD]
 · refine aY (t99 (n+2) k b full lo hi (jJ lo hi) _ H (j:Int)) (gJ _ (n+2) 0 (fun q=>Dw (hQ q))) (ak _ _) (al _ _) ?_
   show Tr.all _ (fun x=>if jJ lo hi (b j)=true then _ else _)
   rw[gN (by omega),DX]
   cases hp:jJ lo hi (b j) with
   | true =>
     simp only[if_true]
     refine Tr.ag (fun hc=>?_) (fun hc=>?_)
     · repeat' first | (refine Tr.ag (fun hc=>?_) (fun hc=>?_)<;>(try simp (disch:=omega) only[nV,nW] at hc)<;>(try (exfalso;omega))) | (refine Tr.af ?_ ?_;· ((try simp (disch:=omega) only[nV,nW]);try omega)) | (refine Tr.an ?_ ?_;· first | exact trivial | rfl | exact ⟨rfl,rfl⟩ | exact ⟨trivial,rfl⟩ | exact ⟨rfl,by assumption⟩ | exact ⟨trivial,by assumption⟩ | exact ⟨rfl,rfl,rfl⟩ | (simp (disch:=omega) only[nV,nW];done) | ((try simp (disch:=omega) only[nV,nW]);omega)) | fail
       all_goals first
        | exact ⟨rfl,rfl⟩
        | (refine Tr.an ⟨trivial,rfl⟩ ?_
           exact wF)
        | exact Tr.ah rfl
        | fail
     · simp (disch:=omega) only[nV,nW] at hc;omega
   | false =>
     simp only[Bool.false_eq_true,if_false]
     refine Tr.ag (fun hc=>?_) (fun hc=>?_)
     · repeat' first | (refine Tr.ag (fun hc=>?_) (fun hc=>?_)<;>(try simp (disch:=omega) only[nV,nW] at hc)<;>(try (exfalso;omega))) | (refine Tr.af ?_ ?_;· ((try simp (disch:=omega) only[nV,nW]);try omega)) | (refine Tr.an ?_ ?_;· first | exact trivial | rfl | exact ⟨rfl,rfl⟩ | exact ⟨trivial,rfl⟩ | exact ⟨rfl,by assumption⟩ | exact ⟨trivial,by assumption⟩ | exact ⟨rfl,rfl,rfl⟩ | (simp (disch:=omega) only[nV,nW];done) | ((try simp (disch:=omega) only[nV,nW]);omega)) | fail
       all_goals first
        | exact ⟨rfl,rfl⟩
        | (refine Tr.an ⟨trivial,rfl⟩ ?_
           exact wF)
        | exact Tr.ah ⟨rfl,rfl⟩
        | fail
     · simp (disch:=omega) only[nV,nW] at hc;omega
 · obtain ⟨x,h1,rfl⟩:=aY (Q:=fun x=>x=(.exit 0,Cg k b full (Int.ofNat k)++[(9,.bool false)],aR::aR::sM lo hi::H)) (t99 (n+2) k b full lo hi (jJ lo hi) _ H (Int.ofNat k)) (gJ _ (n+2) 0 (fun q=>Dw (hQ q))) (ak _ _) (al _ _) (by
    refine Tr.ag (fun hc=>?_) (fun hc=>Tr.ah rfl)
    simp (disch:=omega) only[nV,nW] at hc;omega)
   exact h1
theorem Qf (hk:k≤1000):cd (n+5) (.fn 59) [.int .i64 lo,.int .i64 hi,Fg k b full] H=some (.bool (!eV (fun j=>jJ lo hi (b j)) k),H):=by
 have h:=Qm n k b full lo hi H hk
 refine AN (n:=n+4) Tryd.func59 rfl (fun _ _=>rfl) rfl (SI (n+4) k b full lo hi H (eV (fun j=>jJ lo hi (b j)) k)) (cK _ (n+4) (ji (bG _) (fun x hy=>by rw[← Tr.ab hy];exact h))) (ak _ _) (al _ _) ?_
 rw[aS]
 exact wF
end
noncomputable def L7 (lo hi:Int):List Int→Bool
 | []=>true
 | x::r=>bY (bY (er lo x) (er x hi)) (L7 lo hi r)
theorem I2 (lo hi:Int) (l:List Int):(!eV (fun j=>jJ lo hi (bC l j)) l.length)=L7 lo hi l:=by
 rw[ga]
 induction l with
 | nil=>rfl
 | cons x r ih =>
   have e:eV (fun j=>jJ lo hi ((fun j=>(x::r).getD j 0) j)) (r.length+1)=(jJ lo hi x || eV (fun j=>jJ lo hi ((fun j=>r.getD j 0) j)) r.length):=by
    rw[Bool.eq_iff_iff,Bool.or_eq_true,dG,dG]
    constructor
    · rintro ⟨i,h1,h2⟩
      cases i with
      | zero=>exact .inl h2
      | succ i=>exact .inr ⟨i,by omega,h2⟩
    · rintro (h | ⟨i,h1,h2⟩)
      · exact ⟨0,by omega,h⟩
      · exact ⟨i+1,by omega,h2⟩
   show (!eV _ (r.length+1))=_
   rw[e,Bool.not_or,ih]
   show _=bY (bY (er lo x) (er x hi)) (L7 lo hi r)
   rw[bP,bP,bt,bt]
   congr 1
   unfold jJ
   by_cases h1:lo≤x
   · rw[decide_eq_true h1,decide_eq_false (by omega)]
     by_cases h2:x≤hi
     · rw[decide_eq_true h2,decide_eq_false (by omega)];rfl
     · rw[decide_eq_false h2,decide_eq_true (by omega)];rfl
   · rw[decide_eq_false h1,decide_eq_true (by omega)];rfl
noncomputable def gW (args:List AV) (H:aa):Tr (AV×aa) :=
 match args with
 | [.int .i64 lo,.int .i64 hi,.slc d i ver 0 1 k cap]=>match cG H d i ver with
   | some (.I .i64 l)=>cond (Nat.beq l.length k && Nat.ble k 1000) (.ok (.bool (L7 lo hi l),H)) .bad
   | _=>.bad
 | _=>.bad
theorem wM {n:Nat} {t:nr} (ht:t.Ok (cd (n+6))):(mD t 59 gW).Ok (cd (n+6)):=by
 refine we ht (fun args H x hx=>?_)
 unfold gW at hx
 split at hx
 case h_2=>exact (Tr.ae hx).elim
 rename_i lo hi d i ver k cap
 split at hx
 case h_2=>exact (Tr.ae hx).elim
 rename_i l hr
 cases hc:(Nat.beq l.length k && Nat.ble k 1000) with
 | false=>rw[hc] at hx;exact (Tr.ae hx).elim
 | true =>
   rw[hc,cond_true] at hx
   rw[Bool.and_eq_true] at hc
   have hk:l.length=k:=Nat.eq_of_beq_eq_true hc.1
   have hk2:=Nat.le_of_ble_eq_true hc.2
   subst hk
   rw[← Tr.ab hx]
   refine AB ?_
   show Ln (cd (n+5)) 59 [.int .i64 lo,.int .i64 hi,.slc d i ver 0 1 l.length cap] H=_
   unfold Ln
   simp only[hr,if_true]
   have:=Qf n l.length (bC l) false lo hi [⟨true,[]⟩] hk2
   have e:Fg l.length (bC l) false=.slcT none (.M [.arr .i64 (bC l) l.length]) 1 l.length false:=rfl
   rw[e] at this
   rw[this,I2]
   rfl
end Go.Eng
end
section
namespace Go.Eng
open Go.Proofs
noncomputable def Ce (l:Nat) (z:Nat→Int) (j:Int):az:=[(0,slA 4 l z),(1,.fn (.func 58) [] []),(7,.int .i64 (Int.ofNat l)),(8,.int .i64 j)]
theorem t85 (n:Nat) (l:Nat) (z:Nat→Int) (H:aa) (j:Int):aZ (cI (n+8) 85 19) (il (mD aX 59 gW) (n+6) 2) bo bp (part Tryd.f85 [1,0,1,0,0]) (hints (Ce l z j)) (aR::H) =
 Tr.ite (da j (Int.ofNat l)) (Tr.req (dk j l) (Tr.req (cW (aE 0 j 4) (aq l 4)) (Tr.req (cW (aG (aE 0 j 4) 1) (aq l 4)) (Tr.req (cW (aG (aE 0 j 4) 2) (aq l 4)) (Tr.req (cW (aG (aE 0 j 4) 3) (aq l 4)) (Tr.ite (cH (bY (bY (er (Int.ofNat 0) (z (aE 0 j 4))) (er (z (aE 0 j 4)) (Int.ofNat 1000))) (bY (bY (er (Int.ofNat 0) (z (aG (aE 0 j 4) 1))) (er (z (aG (aE 0 j 4) 1)) (Int.ofNat 1000))) (bY (bY (er (Int.ofNat 0) (z (aG (aE 0 j 4) 2))) (er (z (aG (aE 0 j 4) 2)) (Int.ofNat 1000))) (bY (bY (er (Int.ofNat 0) (z (aG (aE 0 j 4) 3))) (er (z (aG (aE 0 j 4) 3)) (Int.ofNat 1000))) true))))) (Tr.ok (Ex.ret,[(4,AV.int .i64 j,none)],aR::H)) (Tr.ite (da (z (aG (aE 0 j 4) 1)) (z (aE 0 j 4))) (Tr.ok (Ex.ret,[(4,AV.int .i64 j,none)],aR::H)) (Tr.ite (da (z (aG (aE 0 j 4) 3)) (z (aG (aE 0 j 4) 2))) (Tr.ok (Ex.ret,[(4,AV.int .i64 j,none)],aR::H)) (Tr.ok (Ex.normal,[(0,slA 4 l z,none),(1,AV.fn (Fn.func 58) [] [],none),(7,AV.int .i64 (Int.ofNat l),none),(8,AV.int .i64 (bz .i64 j (Int.ofNat 1)),none)],aR::H)))))))))) (Tr.ok (Ex.exit 0,[(0,slA 4 l z,none),(1,AV.fn (Fn.func 58) [] [],none),(7,AV.int .i64 (Int.ofNat l),none),(8,AV.int .i64 j,none),(9,AV.bool false,some 1)],aR::H)):=by kernel_rfl
theorem SU (n:Nat) (l:Nat) (z:Nat→Int) (H:aa) (i:Int) (e:Bool):bA Tryd.prog (cd (n+8)) 100000 85 Tryd.f85 (KtG.kt 85) (il aX (n+8) 0) (dN bo 0 (Ce l z 0) (aR::H) (.ite e (.ok (.ret,[(4,.int .i64 i,none)],aR::H)) (.ok (.normal,hints (Ce l z (Int.ofNat l)++[(9,.bool false)]),aR::H)))) bp [(slA 4 l z,none),(.fn (.func 58) [] [],none)] H =
 (fun (Z0:az)=>Tr.reqP (Z0=Z0∧aR::H=aR::H) (Tr.ite e (Tr.ok ((AV.int .i64 i,none),H)) (Tr.ok ((AV.int .i64 (Int.negSucc 0),some 1),H)))) [(0,slA 4 l z),(1,AV.fn (Fn.func 58) [] []),(7,AV.int .i64 (Int.ofNat l)),(8,AV.int .i64 (Int.ofNat 0))]:=by kernel_rfl
theorem SJ (n:Nat) (l:Nat) (z:Nat→Int) (H:aa) (i:Int):bA Tryd.prog (cd (n+9)) 100000 60 Tryd.f60 (KtG.kt 60) (il (tX aX 85 [slA 4 l z,.fn (.func 58) [] []] (.int .i64 i)) (n+9) 0) bo bp [(slA 4 l z,none),(.fn (.func 58) [] [],none)] H =
 Tr.reqP ([slA 4 l z,AV.fn (Fn.func 58) [] []]=[slA 4 l z,AV.fn (Fn.func 58) [] []]) (Tr.ok ((AV.bool (er (Int.ofNat 0) i),none),H)):=by kernel_rfl
def iR (z:Nat→Int) (j:Nat):Bool:=!(decide (0≤z (j*4)) && (decide (z (j*4)≤z (j*4+1)) && (decide (z (j*4+1)≤1000) && (decide (0≤z (j*4+2)) && (decide (z (j*4+2)≤z (j*4+3)) && decide (z (j*4+3)≤1000))))))
theorem P0:∀ b,(0,b) ∈ aP (bw Tryd.f85)→b=.loop (part Tryd.f85 [1,0,1,0,0]):=fJ (by kernel_rfl)
section
variable (n:Nat) (l:Nat) (z:Nat→Int) (H:aa)
theorem PJ (n k:Nat):(il (mD aX 59 gW) (n+6) k).Ok (cd (n+6+k)):=gJ _ _ _ (fun q=>by rw[show n+6+q=n+q+6 by omega];exact wM (bG _))
theorem Qo (hl:l≤1000):cd (n+9) (.fn 85) [slA 4 l z,.fn (.func 58) [] []] H=some (.int .i64 (A2 (iR z) l),H):=by
 have lp:=kZ (n:=n+8) (f:=85) (nt:=19) (c:=part Tryd.f85 [1,0,1,0,0]) 0 (fun j=>Ce l z (j:Int)) (fun _=>aR::H) l (iR z) (fun j=>([(4,.int .i64 (j:Int))],aR::H)) (Ce l z (Int.ofNat l)++[(9,.bool false)],aR::H) (by omega) (fun j hj=>?_) ?_
 · refine bN (n:=n+8) Tryd.func85 rfl rfl rfl (SU n l z H ((fN (iR z) l 0:Nat):Int) (eV (iR z) l)) (gI (n+8) 0) (bu (ak _ _) P0 (fun x hx=>fm hx lp)) (al _ _) ?_
   repeat' first | (refine Tr.ag (fun hc=>?_) (fun hc=>?_)<;>(try simp (disch:=omega) only[nV,nW] at hc)<;>(try (exfalso;omega))) | (refine Tr.af ?_ ?_;· ((try simp (disch:=omega) only[nV,nW]);try omega)) | (refine Tr.an ?_ ?_;· first | exact trivial | rfl | exact ⟨rfl,rfl⟩ | exact ⟨trivial,rfl⟩ | exact ⟨rfl,by assumption⟩ | exact ⟨trivial,by assumption⟩ | exact ⟨rfl,rfl,rfl⟩ | (simp (disch:=omega) only[nV,nW];done) | ((try simp (disch:=omega) only[nV,nW]);omega)) | fail
   all_goals refine Tr.ah ⟨?_,rfl⟩
   · unfold A2;rw[if_pos hc]
   · unfold A2;rw[if_neg (by rw[hc];decide)];rfl
 · have ej:bz .i64 (j:Int) (Int.ofNat 1)=((j+1:Nat):Int):=gN (by omega)
   have ei:aE 0 (j:Int) 4=j*4:=by rw[bO];omega
   have hs:iR z j=!(decide (0≤z (j*4)) && (decide (z (j*4)≤z (j*4+1)) && (decide (z (j*4+1)≤1000) && (decide (0≤z (j*4+2)) && (decide (z (j*4+2)≤z (j*4+3)) && decide (z (j*4+3)≤1000)))))):=rfl
   refine aY (t85 n l z H (j:Int)) (PJ n 2) (ak _ _) (al _ _) ?_
   refine Tr.ag (fun h0=>?_) (fun h0=>by simp (disch:=omega) only[nV,nW] at h0;omega)
   refine Tr.af (by simp (disch:=omega) only[nV,nW];omega) (Tr.af (by rw[ei];simp (disch:=omega) only[nV,nW];omega) (Tr.af (by rw[ei];simp (disch:=omega) only[nV,nW];omega) (Tr.af (by rw[ei];simp (disch:=omega) only[nV,nW];omega) (Tr.af (by rw[ei];simp (disch:=omega) only[nV,nW];omega) ?_))))
   rw[ei,aJ,aJ,aJ,ej]
   refine Tr.ag (fun h1=>?_) (fun h1=>?_)
   · refine Tr.ah ?_
     rw[if_pos (by rw[hs];simp[aS,bP,bt] at h1 ⊢;omega)];rfl
   · simp only[aS,bP,bt] at h1
     simp at h1
     refine Tr.ag (fun h2=>?_) (fun h2=>?_)
     · rw[br,decide_eq_true_eq] at h2
       refine Tr.ah ?_
       rw[if_pos (by rw[hs];simp;omega)];rfl
     · rw[br,decide_eq_false_iff_not] at h2
       refine Tr.ag (fun h3=>?_) (fun h3=>?_)
       · rw[br,decide_eq_true_eq] at h3
         refine Tr.ah ?_
         rw[if_pos (by rw[hs];simp;omega)];rfl
       · rw[br,decide_eq_false_iff_not] at h3
         refine Tr.ah ?_
         rw[if_neg (by rw[hs];simp;omega)];exact ⟨rfl,rfl⟩
 · obtain ⟨x,h1,rfl⟩:=aY (Q:=fun x=>x=(.exit 0,Ce l z (Int.ofNat l)++[(9,.bool false)],aR::H)) (t85 n l z H (Int.ofNat l)) (PJ n 2) (ak _ _) (al _ _) (by
    refine Tr.ag (fun h0=>by simp (disch:=omega) only[nV,nW] at h0;omega) (fun h0=>Tr.ah rfl))
   exact h1
theorem Qg (hl:l≤1000):cd (n+10) (.fn 60) [slA 4 l z,.fn (.func 58) [] []] H=some (.bool (eV (iR z) l),H):=by
 have h:=fun H=>Qo n l z H hl
 refine bN (n:=n+9) Tryd.func60 rfl rfl rfl (SJ n l z H (A2 (iR z) l)) (cK _ (n+9) (jc (bG _) h)) (ak _ _) (al _ _) ?_
 refine Tr.an rfl (Tr.ah ⟨?_,rfl⟩)
 rw[zD]
end
end Go.Eng
end
