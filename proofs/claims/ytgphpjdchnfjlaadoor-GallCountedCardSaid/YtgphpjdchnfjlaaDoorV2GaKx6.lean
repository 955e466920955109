/- Gall: closed calls: what they lean on; counts of shelves that are known. -/
import Derived.Test.YtgphpjdchnfjlaaDoorV2Gq5x5
import Derived.Test.YtgphpjdchnfjlaaDoorV2Gp1x4
import Derived.Test.YtgphpjdchnfjlaaDoorV2EngRnOx7
import Derived.Test.YtgphpjdchnfjlaaDoorV2EngThx10
import Derived.Test.YtgphpjdchnfjlaaDoorV2EngTkx2
import Derived.Test.YtgphpjdchnfjlaaDoorV2EngRnFx7
set_option linter.unusedVariables false
set_option linter.unusedSimpArgs false
set_option maxRecDepth 100000
section
namespace Go.Eng.Gall
open Go.Proofs Go.Eng.Q
theorem named:dp Tryd.prog:=by
 have h:(Tryd.prog.funcs.toList.all fun fn=>fn.body.isNone || !(fn.name == "runtime.NumGoroutine"))=true:=by kernel_rfl
 intro f fn hf hb
 have:=List.all_eq_true.1 h fn (by simpa using Array.mem_of_getElem? hf)
 rw[hb] at this
 simpa using this
theorem mixed:Tryd.prog.follows .mixedOrders=true:=by kernel_rfl
theorem Hs:∀ e ∈ ([]:List b5),aA Tryd.prog e:=fun e h=>by cases h
theorem aQ {e:b5} {t:List b5} (h:aA Tryd.prog e) (k:∀ x ∈ t,aA Tryd.prog x):∀ x ∈ e::t,aA Tryd.prog x:=fun x hx=>by
 rcases List.mem_cons.1 hx with rfl | hx
 · exact h
 · exact k x hx
def RI:List AV→Bool
 | .ptr _ _ _ _::_=>true
 | _=>false
noncomputable def uq (c:aB) (f:FuncId) (args:List AV) (H:aa):Option (AV×aa) :=
 cond (Nat.beq f 82) (En args H) (cond (Nat.beq f 62) (N3 (pZ Tryd.prog KtG.kt 100000 62 c args H)) (cond ((Nat.beq f 63 || Nat.beq f 65) && RI args) (Ni c f args H) (cond (Nat.beq f 47) (pZ Tryd.prog KtG.kt 100000 47 (A3 Tryd.prog KtG.kt 100000 46 c) args H) (cond (Nat.beq f 94 || Nat.beq f 100) (Fq Tryd.prog KtG.kt 100000 f c args H) none))))
theorem Ce (hN:dp Tryd.prog) (hD:gp Tryd.prog):rC Tryd.prog uq:=fun call hC f args H v H' h hne p M w cargs hH hA=>by
 unfold uq at h
 cases h82:Nat.beq f 82 with
 | true =>
   rw[h82,cond_true] at h
   have:=Nat.eq_of_beq_eq_true h82
   subst this
   exact GO h hH hA
 | false =>
 rw[h82,cond_false] at h
 cases h62:Nat.beq f 62 with
 | true =>
   rw[h62,cond_true] at h
   have:=Nat.eq_of_beq_eq_true h62
   subst this
   unfold N3 at h
   split at h
   case h_2=>simp at h
   rename_i v1 H1 he
   simp only[nP] at h
   obtain ⟨rfl,rfl⟩:=h
   obtain ⟨h1,h2⟩:=rr hN hD KtG.kt 100000 hC he hH hA
   exact ⟨h1,h2.mono (fun _ _ h=>fG.LG h)⟩
 | false =>
 rw[h62,cond_false] at h
 cases hr:((Nat.beq f 63 || Nat.beq f 65) && RI args) with
 | true =>
   rw[hr,cond_true] at h
   exact K9 hC h hH hA
 | false =>
 rw[hr,cond_false] at h
 cases h47:Nat.beq f 47 with
 | true =>
   rw[h47,cond_true] at h
   have:=Nat.eq_of_beq_eq_true h47
   subst this
   exact rr hN hD KtG.kt 100000 (DK hN hD KtG.kt 100000 46 hC) h hH hA
 | false =>
 rw[h47,cond_false] at h
 cases h94:(Nat.beq f 94 || Nat.beq f 100) with
 | true =>
   rw[h94,cond_true] at h
   exact Fs hN hD KtG.kt 100000 hC h hH hA
 | false=>rw[h94,cond_false] at h;cases h
noncomputable def K0 (tab:List b5):aB→FuncId→List AV→aa→Option (AV×aa):=fun c f args H=>match AH tab c f args H with
 | some x=>some x
 | none=>uq c f args H
theorem Hy (hN:dp Tryd.prog) (hD:gp Tryd.prog) {tab:List b5} (hT:∀ e ∈ tab,aA Tryd.prog e):rC Tryd.prog (K0 tab):=fun call hC f args H v H' h hne p M w cargs hH hA=>by
 unfold K0 at h
 split at h
 · rename_i x hx
   simp only[Option.some.injEq] at h
   subst h
   exact wx tab hT call hC f args H v H' hx hne p M w cargs hH hA
 · exact Ce hN hD call hC f args H v H' h hne p M w cargs hH hA
theorem aR {tab:List b5} (hT:∀ e ∈ tab,aA Tryd.prog e) {e:b5} {H':aa}
 (h:kA Tryd.prog (K0 tab) KtG.kt 100000 40 (.fn e.f) e.args [⟨true,[]⟩]=some (e.v,H')) (hn:e.args.all (sN 9)=true):aA Tryd.prog e:=by
 rw[uH] at h
 exact yk (mD named (pw named mixed) (Hy named (pw named mixed) hT) KtG.kt 100000 40) h hn
theorem Ec (n:Nat):bN Tryd.prog (cd n):=mD named (pw named mixed) wu KtG.kt 100000 n
theorem Eh (dr:Int) (lc:Nat) (zc:Nat→Int) (lb:Nat) (zb:Nat→Int) (W B:Nat→Int) (hl:lc≤10) {p:aD} {M:Mu} {H:aa} {w:World} {cargs:Array Value} (hH:a7 p M H w) (hA:ey p M [shV dr lc zc lb zb W B] cargs) :
 (∃ fn,Tryd.prog.funcs[73]?=some fn∧fn.body.isNone=false)∧CallsIn Fence.wide 0 Tryd.prog 73 cargs w (fG p M H w (.int .i64 (cntF lc W B)) H) :=
 Dq named (pw named mixed) L8 KtG.kt 100000 (Ec 3) (Ol 2 dr lc zc lb zb W B hl H) hH hA
noncomputable def RQ (dr:Int) (lc:Nat) (zl:List Int) (lb:Nat) (bl:List Int) (f1 f2:Bool) (Wl Bl:List Int):AV:=.ptrT none (.G (.int .i64 dr::.slcT none (.I .i64 zl) 4 lc f1::.slcT none (.I .i64 bl) 2 lb f2::(Wl.map (.int .i64)++Bl.map (.int .u64)))) 0
theorem yJ {p:aD} {M:Mu} {zl:List Int} {sz lc:Nat} {f:Bool} {c:Value} (hl:zl.length=ar lc sz) (h:ai p M (.slcT none (.I .i64 zl) sz lc f) c):ai p M (.slcT none (.M [.arr .i64 (aS zl) (ar lc sz)]) sz lc false) c:=by
 cases h with
 | slcT vs hp h1 hv h2 h3 h4 =>
   have hlen:(Row.M [.arr .i64 (aS zl) (ar lc sz)]).len=(Row.I .i64 zl).len:=by
    show ar lc sz+0=zl.length
    omega
   refine .slcT vs (fun j hj=>hp j (by rw[← hlen];exact hj)) (fun j hj=>h1 j (by rw[← hlen];exact hj)) (fun j hj=>?_) h2 (fun e=>by cases e) h4
   have hj':j<zl.length:=by rw[hlen] at hj;exact hj
   have:=hv j (by rw[← hlen];exact hj)
   have e:getM [.arr .i64 (aS zl) (ar lc sz)] j=.int .i64 (zl.getD j 0):=by
    show (if j<ar lc sz then AV.int .i64 (aS zl j) else _)=_
    rw[if_pos (by omega),gK]
   show ai p _ (getM [.arr .i64 (aS zl) (ar lc sz)] j) (vs j)
   rw[e]
   exact this.bj _ _
 | slcN=>exact .slcN
theorem H5 {p:aD} {M:Mu} {dr:Int} {lc:Nat} {zl:List Int} {lb:Nat} {bl:List Int} {f1 f2:Bool} {Wl Bl:List Int} {c:Value} (hz:zl.length=ar lc 4) (hb:bl.length=ar lb 2) (hW:Wl.length=20) (hB:Bl.length=10) (h:ai p M (RQ dr lc zl lb bl f1 f2 Wl Bl) c):ai p M (shV dr lc (aS zl) lb (aS bl) (aS Wl) (aS Bl)) c:=by
 cases h with
 | ptrT vs hp h1 hv =>
   have hlen:(shR dr lc (aS zl) lb (aS bl) (aS Wl) (aS Bl)).len=33:=rfl
   have hlen':(Row.G (.int .i64 dr::.slcT none (.I .i64 zl) 4 lc f1::.slcT none (.I .i64 bl) 2 lb f2::(Wl.map (.int .i64)++Bl.map (.int .u64)))).len=33:=by simp[Row.len,hW,hB]
   refine .ptrT vs (fun j hj=>hp j (by rw[hlen'] ; rw[hlen] at hj;exact hj)) (fun j hj=>h1 j (by rw[hlen'] ; rw[hlen] at hj;exact hj)) (fun j hj=>?_)
   rw[hlen] at hj
   have:=hv j (by rw[hlen'];exact hj)
   match j,hj,this with
   | 0,_,this=>exact this
   | 1,_,this=>exact yJ hz this
   | 2,_,this=>exact yJ hb this
   | j + 3,hj,this =>
     have this:ai p _ ((Wl.map (AV.int .i64)++Bl.map (AV.int .u64)).getD j .undef) (vs (j+3)):=this
     show ai p _ (getM [.arr .i64 (aS Wl) 20,.arr .u64 (aS Bl) 10] j) (vs (j+3))
     by_cases hj20:j<20
     · have e:getM [.arr .i64 (aS Wl) 20,.arr .u64 (aS Bl) 10] j=.int .i64 (Wl.getD j 0):=by
        show (if j<20 then AV.int .i64 (aS Wl j) else _)=_
        rw[if_pos hj20,gK]
       have e2:(Wl.map (AV.int .i64)++Bl.map (AV.int .u64)).getD j .undef=.int .i64 (Wl.getD j 0):=by
        rw[List.getD_eq_getElem?_getD,List.getElem?_append_left (by simp;omega),List.getElem?_map,List.getD_eq_getElem?_getD,List.getElem?_eq_getElem (by omega)];rfl
       rw[e];rw[e2] at this
       exact this.bj _ _
     · have e:getM [.arr .i64 (aS Wl) 20,.arr .u64 (aS Bl) 10] j=.int .u64 (Bl.getD (j-20) 0):=by
        show (if j<20 then AV.int .i64 (aS Wl j) else (if j-20<10 then AV.int .u64 (aS Bl (j-20)) else _))=_
        rw[if_neg hj20,if_pos (by omega),gK]
       have e2:(Wl.map (AV.int .i64)++Bl.map (AV.int .u64)).getD j .undef=.int .u64 (Bl.getD (j-20) 0):=by
        rw[List.getD_eq_getElem?_getD,List.getElem?_append_right (by simp;omega),List.getElem?_map,List.length_map,hW,List.getD_eq_getElem?_getD,List.getElem?_eq_getElem (by omega)];rfl
       rw[e];rw[e2] at this
       exact this.bj _ _
def Qj (Wl Bl:List Int) (k X c:Nat):Bool:=(BitVec.ofInt 64 (Bl.getD c 0) &&& ~~~(BitVec.ofNat 64 X)).toNat == 0 && (decide (Wl.getD (2*c) 0≤(k:Int)) && decide ((k:Int)≤Wl.getD (2*c+1) 0))
theorem Fu (Wl Bl:List Int):okW (aS Wl) (aS Bl)=Qj Wl Bl:=by
 funext k X c
 unfold okW Qj
 rw[gK,gK,rF,bt,bt,aT]
 congr 1
 show (IntKind.u64.wrap (((BitVec.ofInt 64 (Bl.getD c 0) &&& ~~~(BitVec.ofInt 64 (X:Int))).toNat:Nat):Int) == 0)=_
 rw[J4,jE (BitVec.isLt _)]
 generalize (BitVec.ofInt 64 (Bl.getD c 0) &&& ~~~(BitVec.ofNat 64 X)).toNat=t
 rw[Bool.eq_iff_iff,beq_iff_eq,beq_iff_eq]
 omega
def On (lc:Nat) (Wl Bl:List Int):Nat:=(ro lc (Qj Wl Bl) lc).length
theorem Fv {dr:Int} {lc:Nat} {zl:List Int} {lb:Nat} {bl:List Int} {f1 f2:Bool} {Wl Bl:List Int} {A:AV} {v:Nat} (hA:A=RQ dr lc zl lb bl f1 f2 Wl Bl) (hl:lc≤10) (hz:zl.length=lc*4) (hb:bl.length=lb*2) (hW:Wl.length=20) (hB:Bl.length=10) (hv:On lc Wl Bl=v):aA Tryd.prog ⟨73,[A],.int .i64 (v:Int)⟩:=by
 intro H hne p M w cargs hH hC
 have e:cntF lc (aS Wl) (aS Bl)=(v:Int):=by unfold cntF;rw[Fu];exact congrArg Int.ofNat hv
 rw[← e]
 refine Eh dr lc (aS zl) lb (aS bl) (aS Wl) (aS Bl) hl hH ⟨hC.1,fun j hj=>?_⟩
 have hC2:=hC.2 j hj
 subst hA
 have:j=0:=by simp at hj;omega
 subst this
 exact H5 (by rw[oS];exact hz) (by rw[oS];exact hb) hW hB hC2
end Go.Eng.Gall
end
section
namespace Go.Eng
open Go.Proofs Go.ChangeShapes
open Go.Eng.Q (shV shR slA cntF okW)
noncomputable def GK (args:List AV) (H:aa):Option (AV×aa) :=
 match args with
 | [.ptrT none (.M [.one (.int .i64 dr),.one (.slcT none (.M [.arr .i64 zc n1]) 4 lc false),.one (.slcT none (.M [.arr .i64 zb n2]) 2 lb false),.arr .i64 W 20,.arr .u64 B 10]) 0]=>if lc≤10∧n1=fE lc 4∧n2=fE lb 2 then some (.int .i64 (cntF lc W B),H) else none
 | _=>none
theorem GL {dr:Int} {lc:Nat} {zc:Nat→Int} {lb:Nat} {zb:Nat→Int} {W B:Nat→Int} {H:aa} (hl:lc≤10):GK [shV dr lc zc lb zb W B] H=some (.int .i64 (cntF lc W B),H):=by
 show (if lc≤10∧fE lc 4=fE lc 4∧fE lb 2=fE lb 2 then some (AV.int .i64 (cntF lc W B),H) else none)=_
 rw[if_pos ⟨hl,rfl,rfl⟩]
theorem GM {args:List AV} {H:aa} {v:AV} {H':aa} (h:GK args H=some (v,H')) {p:aD} {M:Mu} {w:World} {cargs:Array Value} (hH:a7 p M H w) (hA:ey p M args cargs):(∃ fn,Tryd.prog.funcs[73]?=some fn∧fn.body.isNone=false)∧CallsIn Fence.wide 0 Tryd.prog 73 cargs w (fG p M H w v H'):=by
 unfold GK at h
 split at h
 case h_2=>simp at h
 rename_i dr zc n1 lc zb n2 lb W B
 split at h
 case isFalse=>simp at h
 rename_i hc
 obtain ⟨hl,rfl,rfl⟩:=hc
 simp only[nP] at h
 obtain ⟨rfl,rfl⟩:=h
 exact Gall.Eh dr lc zc lb zb W B hl hH hA
def IJ:List AV→Bool
 | [_,_,.slc _ _ _ _ _ _ _]=>true
 | _=>false
noncomputable def ka:aB→FuncId→List AV→aa→Option (AV×aa):=fun call f args H=>cond (Nat.beq f 59 && IJ args) (Nj call f args H) (cond (Nat.beq f 73) (GK args H) (cond (Nat.beq f 95) (Lc Nl args H) (match Gall.uq call f args H with
 | some x=>some x
 | none=>wv [⟨15,[],.bool true⟩] call f args H)))
def Gi (f:FuncId):Bool:=Nat.beq f 15 || Nat.beq f 1000000 || Nat.beq f 59 || Nat.beq f 73 || Nat.beq f 95 || Nat.beq f 82 || Nat.beq f 62 || Nat.beq f 63 || Nat.beq f 65 || Nat.beq f 47 || Nat.beq f 94 || Nat.beq f 100
noncomputable def cd (n:Nat):aB:=c6 Tryd.prog ka KtG.kt 100000 n
noncomputable def il (tab:mZ) (n k:Nat):bo:=Am Tryd.prog ka KtG.kt 100000 Gi tab n k
noncomputable def cj (n:Nat) (f nt:Nat):Cx:=⟨Tryd.prog,cd n,100000,f,nt,KtG.kt f,none⟩
theorem Nd {g:FuncId} (h:Nat.beq g 15=false) (h1:Nat.beq g 1000000=false) (c:aB) (args:List AV) (H:aa):wv [⟨15,[],.bool true⟩] c g args H=none:=by
 unfold wv
 rw[h1,cond_false]
 simp only[AH]
 have:Nat.beq 15 g=false:=by
  cases hb:Nat.beq 15 g with
  | false=>rfl
  | true=>have:=Nat.eq_of_beq_eq_true hb;subst this;simp at h
 rw[this];rfl
theorem wk (g:FuncId) (h:Gi g=false) (c:aB) (args:List AV) (H:aa):ka c g args H=none:=by
 unfold Gi at h
 simp only[Bool.or_eq_false_iff] at h
 obtain ⟨⟨⟨⟨⟨⟨⟨⟨⟨⟨⟨h15,h0⟩,h59⟩,h73⟩,h95⟩,h82⟩,h62⟩,h63⟩,h65⟩,h47⟩,h94⟩,h100⟩:=h
 have e:Gall.uq c g args H=none:=by
  unfold Gall.uq
  rw[h82,h62,h63,h65,h47,h94,h100];rfl
 unfold ka
 rw[h59,h73,h95,e]
 exact Nd h15 h0 c args H
theorem mK (n:Nat):∃ x,c6 Tryd.prog ka KtG.kt 100000 n .mode [] []=some x:=by
 cases n<;>exact ⟨_,rfl⟩
theorem wu (hN:dp Tryd.prog) (hD:gp Tryd.prog) (hW:aA Tryd.prog ⟨15,[],.bool true⟩):rC Tryd.prog ka :=
 fun call hC f args H v H' h hne p M w cargs hH hA=>by
  unfold ka at h
  cases h59:(Nat.beq f 59 && IJ args) with
  | true =>
    rw[h59,cond_true] at h
    exact La hC h hH hA
  | false =>
  rw[h59,cond_false] at h
  cases h73:Nat.beq f 73 with
  | true =>
    rw[h73,cond_true] at h
    have:=Nat.eq_of_beq_eq_true h73
    subst this
    exact GM h hH hA
  | false =>
  rw[h73,cond_false] at h
  cases h95:Nat.beq f 95 with
  | true =>
    rw[h95,cond_true] at h
    have:=Nat.eq_of_beq_eq_true h95
    subst this
    exact HQ Lj h hne hH hA
  | false =>
  rw[h95,cond_false] at h
  split at h
  · rename_i x hx
    simp only[Option.some.injEq] at h
    subst h
    exact Gall.Ce hN hD call hC f args H v H' hx hne p M w cargs hH hA
  · exact Cf _ (fun e he=>by
     simp only[List.mem_singleton] at he
     subst he
     exact hW) call hC f args H v H' h hne p M w cargs hH hA
theorem m6 (tab:mZ) (n k:Nat) (ht:∀ k,tab.Ok (cd (n+k))):(il tab n k).Ok (cd (n+k)):=wb _ _ _ _ _ _ _ wk (fun k=>mK _) ht k
theorem iv (n k:Nat):(il a6 n k).Ok (cd (n+k)):=m6 _ _ _ (fun k=>bx _)
theorem aJ (n:Nat):(il a6 n 0).Ok (cd n):=iv n 0
theorem Mn {f:FuncId} {fn:Func} {n:Nat} (hf:Tryd.prog.funcs[f]?=some fn) (hb:fn.body.isSome=true) (hn:Gi f=false) {args:List HV} (hle:Nat.ble args.length fn.ntmps=true) {H:aa} {callR:bo} (hC:callR.Ok (cd n)) {bl:eP} (hB:bl.Ok (cj n f fn.ntmps) (bz fn)) {rg:od} (hR:rg.Ok (cj n f fn.ntmps) (bz fn)) {y:HV×aa}
 (h:(bE Tryd.prog (cd n) 100000 f fn (KtG.kt f) callR bl rg args H).run=some y):cd (n+1) (.fn f) (mz args) H=some (y.1.1,y.2) :=
 rM hf hb (wk f hn _ _ _) hle hC hB hR h
theorem Ko {f:FuncId} {fn:Func} {n:Nat} (hf:Tryd.prog.funcs[f]?=some fn) (hb:fn.body.isSome=true) {args:List HV} (ho:∀ c H,ka c f (mz args) H=none) (hle:Nat.ble args.length fn.ntmps=true) {H:aa} {callR:bo} (hC:callR.Ok (cd n)) {bl:eP} (hB:bl.Ok (cj n f fn.ntmps) (bz fn)) {rg:od} (hR:rg.Ok (cj n f fn.ntmps) (bz fn)) {y:HV×aa}
 (h:(bE Tryd.prog (cd n) 100000 f fn (KtG.kt f) callR bl rg args H).run=some y):cd (n+1) (.fn f) (mz args) H=some (y.1.1,y.2) :=
 rM hf hb (ho _ _) hle hC hB hR h
theorem Mm {f:FuncId} {fn:Func} {n:Nat} (hf:Tryd.prog.funcs[f]?=some fn) (hb:fn.body.isSome=true) (hn:Gi f=false) {args:List HV} (hle:Nat.ble args.length fn.ntmps=true) {H:aa} {callR:bo} {bl:eP} {rg:od} {T:Tr (HV×aa)}
 (e:bE Tryd.prog (cd n) 100000 f fn (KtG.kt f) callR bl rg args H=T) (hC:callR.Ok (cd n)) (hB:bl.Ok (cj n f fn.ntmps) (bz fn)) (hR:rg.Ok (cj n f fn.ntmps) (bz fn)) {y:HV×aa} (hr:T.run=some y):cd (n+1) (.fn f) (mz args) H=some (y.1.1,y.2) :=
 Mn hf hb hn hle hC hB hR (by rw[e];exact hr)
theorem Mj {n f nt:Nat} {c:Code} {callR:bo} (hC:callR.Ok (cd n)) {bl:eP} (hB:bl.Ok (cj n f nt) c) {rg:od} (hR:rg.Ok (cj n f nt) c) {fr:az} {H:aa} {x:fq} (h:(aW (cj n f nt) callR bl rg c (hints fr) H).run=some x):exec (cj n f nt) c fr H=some x.st:=by
 have:=fP hC c hB hR _ _ _ h
 rw[aV] at this
 exact this

def jB (bl:eP) (id0:Nat):eP:=fun id fr H=>cond (Nat.beq id id0) (some .bad) (bl id fr H)
theorem dJ {bl:eP} {cx:Cx} {c:Code} (h:bl.Ok cx c) (id0:Nat):(jB bl id0).Ok cx c:=by
 intro id b hm fr H t y ht hy
 unfold jB at ht
 cases hb:Nat.beq id id0 with
 | true =>
   rw[hb,cond_true,Option.some.injEq] at ht
   subst ht
   exact (Tr.ag hy).elim
 | false =>
   rw[hb,cond_false] at ht
   exact h id b hm fr H t y ht hy
theorem Mi {n f nt:Nat} {c:Code} {callR:bo} {bl:eP} {rg:od} {fr:az} {H:aa} {T:Tr fq} (e:aW (cj n f nt) callR bl rg c (hints fr) H=T) (hC:callR.Ok (cd n)) (hB:bl.Ok (cj n f nt) c) (hR:rg.Ok (cj n f nt) c) {x:fq} (hr:T.run=some x):exec (cj n f nt) c fr H=some x.st :=
 Mj hC hB hR (by rw[e];exact hr)
section
variable {n f nt:Nat} {c:Code} {callR:bo} {bl:eP} {rg:od}
end
end Go.Eng
end
section
namespace Go.Eng
open Go.Proofs
theorem bV {f:FuncId} {fn:Func} {n:Nat} (hf:Tryd.prog.funcs[f]?=some fn) (hb:fn.body.isSome=true) (hn:Gi f=false) {args:List HV} (hle:Nat.ble args.length fn.ntmps=true) {H:aa} {callR:bo} {bl:eP} {rg:od} {T:Tr (HV×aa)}
 (e:bE Tryd.prog (cd n) 100000 f fn (KtG.kt f) callR bl rg args H=T) (hC:callR.Ok (cd n)) (hB:bl.Ok (cj n f fn.ntmps) (bz fn)) (hR:rg.Ok (cj n f fn.ntmps) (bz fn)) {v:AV} {H':aa} (h:T.all fun y=>y.1.1=v∧y.2=H'):cd (n+1) (.fn f) (mz args) H=some (v,H'):=by
 obtain ⟨y,h1,h2,h3⟩:=h
 have:=Mm hf hb hn hle e hC hB hR h1
 rw[this,h2,h3]
theorem q9 {f:FuncId} {fn:Func} {n:Nat} (hf:Tryd.prog.funcs[f]?=some fn) (hb:fn.body.isSome=true) {args:List HV} (ho:∀ c H,ka c f (mz args) H=none) (hle:Nat.ble args.length fn.ntmps=true) {H:aa} {callR:bo} {bl:eP} {rg:od} {T:Tr (HV×aa)}
 (e:bE Tryd.prog (cd n) 100000 f fn (KtG.kt f) callR bl rg args H=T) (hC:callR.Ok (cd n)) (hB:bl.Ok (cj n f fn.ntmps) (bz fn)) (hR:rg.Ok (cj n f fn.ntmps) (bz fn)) {v:AV} {H':aa} (h:T.all fun y=>y.1.1=v∧y.2=H'):cd (n+1) (.fn f) (mz args) H=some (v,H'):=by
 obtain ⟨y,h1,h2,h3⟩:=h
 have:=Ko hf hb ho hle hC hB hR (by rw[e];exact h1)
 rw[this,h2,h3]
theorem aK {n f nt:Nat} {c:Code} {callR:bo} {bl:eP} {rg:od} {fr:az} {H:aa} {T:Tr fq} (e:aW (cj n f nt) callR bl rg c (hints fr) H=T) (hC:callR.Ok (cd n)) (hB:bl.Ok (cj n f nt) c) (hR:rg.Ok (cj n f nt) c) {Q:Ex×az×aa→Prop} (h:T.all fun x=>Q x.st):∃ x,exec (cj n f nt) c fr H=some x∧Q x:=by
 obtain ⟨x,h1,h2⟩:=h
 exact ⟨_,Mi e hC hB hR h1,h2⟩
section
variable {n f nt:Nat} {c:Code} {callR:bo} {bl:eP} {rg:od}
theorem lK (id:Nat) (F:Nat→az) (G:Nat→aa) (N:Nat) (p:Nat→Bool) (X:Nat→az×aa) (Y:az×aa) (hN:N<99999)
 (hs:∀ j,j<N→∃ x,exec (cj n f nt) c (F j) (G j)=some x∧if p j=true then x=(.ret,X j) else x.1=.normal∧tidy (aN (G 0)) x.2.1 x.2.2=(F (j+1),G (j+1)))
 (he:exec (cj n f nt) c (F N) (G N)=some (.exit id,Y)):exec (cj n f nt) (.block id (.loop c)) (F 0) (G 0)=some (cond (eK p N) (.ret,X (fN p N 0)) (.normal,Y)):=by
 have key:=iM (body:=exec (cj n f nt) c) (n:=aN (G 0)) F G N p (fun j=>if j<N then (.ret,X j) else (.exit id,Y))
  (fun j hj hp=>by
    obtain ⟨x,h1,h2⟩:=hs j hj
    rw[if_neg (by rw[hp];simp)] at h2
    obtain ⟨e,f1,g1⟩:=x
    obtain ⟨rfl,h3⟩:=h2
    exact ⟨_,_,h1,h3⟩)
  (fun j hj hp=>by
    obtain ⟨x,h1,h2⟩:=hs j hj
    rw[if_pos hp] at h2
    subst h2
    rw[if_pos hj]
    exact ⟨h1,by simp⟩)
  (by
    rw[if_neg (by omega)]
    exact ⟨he,by simp⟩) N 0 100000 (by omega) (by omega)
 cases hc:eK p N with
 | true =>
   have:=r6 hc
   rw[if_pos this] at key
   exact cX (fun id' h=>by cases h) key
 | false =>
   have:=uN hc
   rw[if_neg (by omega)] at key
   exact ib key
end
theorem kG {n f nt:Nat} {c:Code} (id:Nat) (F:Nat→az) (G:Nat→aa) (N:Nat) (Y:az×aa) (hN:N<99999)
 (hs:∀ j,j<N→∃ x,exec (cj n f nt) c (F j) (G j)=some x∧(x.1=.normal∧tidy (aN (G 0)) x.2.1 x.2.2=(F (j+1),G (j+1))))
 (he:exec (cj n f nt) c (F N) (G N)=some (.exit id,Y)):exec (cj n f nt) (.block id (.loop c)) (F 0) (G 0)=some (.normal,Y):=by
 have:=lK id F G N (fun _=>false) (fun _=>Y) Y hN (fun j hj=>by
  obtain ⟨x,h1,h2⟩:=hs j hj
  exact ⟨x,h1,by rw[if_neg (by simp)];exact h2⟩) he
 have h0:eK (fun _=>false) N=false:=by
  cases h:eK (fun _=>false) N with
  | false=>rfl
  | true=>obtain ⟨i,_,h2⟩:=(dq _ _).1 h;cases h2
 rw[h0] at this
 exact this
end Go.Eng
end
section
namespace Go.Eng
open Go.Proofs
noncomputable def aZ:bA:=⟨false,[]⟩
noncomputable def gn (k:Nat) (b:Nat→Int) (full:Bool):AV:=.slcT none (.M [.arr .i64 b k]) 1 k full
noncomputable def jO (v k:Nat) (y:Nat→Int):bA:=⟨false,[(v,.row (.M [.arr .i64 y k]))]⟩
theorem bZ (tab:mZ) (n:Nat) (ht:tab.Ok (cd n)):(il tab n 0).Ok (cd n) :=
 ⟨mK _,fun tgt args H x h=>by
   unfold il Am at h
   split at h
   · split at h
     · rename_i c hc
       exact ht _ _ hc _ _ _ h
     · exact (Tr.ag h).elim
   · exact (Tr.ag h).elim⟩
theorem eX {cx:Cx} {id:Nat} {B:Code} {fr:az} {H:aa} {e:Bool} {X Y x:fq} (h:(Tr.ite e (Tr.ok X) (Tr.ok Y)).run=some x) (hx:exec cx (.block id B) fr H=some (cond e X.st Y.st)):exec cx (.block id B) fr H=some x.st:=by
 rw[hx]
 rcases Tr.j7 h with ⟨hc,h⟩ | ⟨hc,h⟩
 · rw[hc,← Tr.ae h];rfl
 · rw[hc,← Tr.ae h];rfl
theorem fL {cx:Cx} {id:Nat} {B:Code} {fr:az} {H:aa} {X x:fq} (h:(Tr.ok X).run=some x) (hx:exec cx (.block id B) fr H=some X.st):exec cx (.block id B) fr H=some x.st:=by
 rw[hx,← Tr.ae h]
theorem gr {j:Nat} (h:j<2 ^ 31):bg .i64 (j:Int) (Int.ofNat 1)=((j+1:Nat):Int):=by rw[fI,show Int.ofNat 1=1 from rfl];exact jG (by omega) (by omega)
theorem DN (j:Nat):aC 0 (j:Int) 1=j:=by rw[bY];omega
theorem Gc {x:Int} (h0:-9223372036854775808≤x) (h1:x≤9223372036854775807):CI .i64 x=x:=by rw[Gb,jG h0 h1]
theorem Gm {x y:Int} (h0:-9223372036854775808≤x+y) (h1:x+y≤9223372036854775807):bg .i64 x y=x+y:=by rw[fI,jG h0 h1]
theorem Ld {x y:Int} (h0:-9223372036854775808≤x-y) (h1:x-y≤9223372036854775807):bX .i64 x y=x-y:=by rw[dT,jG h0 h1]
theorem we (L:List Int) (j:Nat):aS L j=L.getD j 0:=congrFun (gK L) j
theorem rf (L:List Int) (v:Int):po (rv (aS L) 0) L.length (aS [v])=aS (L++[v]):=by
 rw[jj,my,kO];funext i
 by_cases h:i<L.length
 · simp[h,List.getElem?_append]
 · by_cases h2:i=L.length
   · subst h2;simp
   · have e1:[v][i-L.length]?=none:=List.getElem?_eq_none (by simp;omega)
     have e2:(L++[v])[i]?=none:=List.getElem?_eq_none (by simp;omega)
     simp only[h,if_false,List.getD_eq_getElem?_getD,e1,e2]
noncomputable def gX (A:List AV) (V:AV):List AV→Option (Prop×AV):=fun x=>some (x=A,V)
noncomputable def tX (t:mZ) (f:FuncId) (A:List AV) (V:AV):mZ:=oa t f (gX A V)
theorem iz {c f:Nat} {t:mZ} {A:List AV} {V:AV} (ht:t.Ok (cd c)) (h:∀ H,cd c (.fn f) A H=some (V,H)):(tX t f A V).Ok (cd c):=by
 refine lH ht (fun args p v hg hp H=>?_)
 unfold gX at hg
 simp only[nP] at hg
 obtain ⟨rfl,rfl⟩:=hg
 rw[hp];exact h H
noncomputable def gV (C:List AV→Prop) (R:List AV→AV):List AV→Option (Prop×AV):=fun x=>some (C x,R x)
noncomputable def tV (t:mZ) (f:FuncId) (C:List AV→Prop) (R:List AV→AV):mZ:=oa t f (gV C R)
theorem I3 {c f:Nat} {t:mZ} {C:List AV→Prop} {R:List AV→AV} (ht:t.Ok (cd c)) (h:∀ A H,C A→cd c (.fn f) A H=some (R A,H)):(tV t f C R).Ok (cd c):=by
 refine lH ht (fun args p v hg hp H=>?_)
 unfold gV at hg
 simp only[nP] at hg
 obtain ⟨rfl,rfl⟩:=hg
 exact h _ H hp
noncomputable def tN (t:mZ) (f:FuncId):mZ:=oa t f (fun _=>none)
theorem qI {c f:Nat} {t:mZ} (ht:t.Ok (cd c)):(tN t f).Ok (cd c):=lH ht (fun args p v hg hp H=>by cases hg)
noncomputable def gC (P:Int→Bool) (Q:Int→List AV→aa→Prop) (args:List AV) (H:aa):Tr (AV×aa) :=
 match args with
 | .int .i64 x::C=>.reqP (Q x C H) (.ok (.bool (P x),H))
 | _=>.bad
noncomputable def RE (f:FuncId) (P:Int→Bool) (Q:Int→List AV→aa→Prop):mZ:=m4 a6 f (gC P Q)
theorem Em {k:Nat} {f:FuncId} {P:Int→Bool} {Q:Int→List AV→aa→Prop} (h:∀ x C H,Q x C H→cd k (.fn f) (.int .i64 x::C) H=some (.bool (P x),H)):(RE f P Q).Ok (cd k):=by
 refine w6 (bx _) (fun args H x hx=>?_)
 unfold gC at hx
 split at hx
 · obtain ⟨h1,h2⟩:=Tr.gz hx
   rw[h _ _ _ h1,← Tr.ae h2]
 · exact (Tr.ag hx).elim
def BP (p:Nat→Bool) (m:Nat):Int:=if eK p m=true then (fN p m 0:Int) else -1
theorem Ap (p:Nat→Bool) (k:Nat):dN (Int.ofNat 0) (BP p k)=eK p k:=by
 rw[bt];unfold BP
 cases h:eK p k with
 | true =>
   rw[if_pos rfl]
   simp only[Int.ofNat_eq_natCast,decide_eq_true_eq];omega
 | false=>rw[if_neg (by decide)];rfl
theorem Kh {p:Nat→Bool} {k:Nat} (h:∀ j,j<k→p j=false):eK p k=false:=by
 cases e:eK p k with
 | false=>rfl
 | true =>
   obtain ⟨j,hj,e2⟩:=(dq _ _).1 e
   rw[h j hj] at e2;cases e2
theorem q8 {p:Nat→Bool} {k:Nat} (h:eK p k=false):∀ j,j<k→p j=false:=fun j hj=>by
 cases e:p j with
 | false=>rfl
 | true=>rw[(dq _ _).2 ⟨j,hj,e⟩] at h;cases h
theorem uM {p q:Nat→Bool} {k:Nat} (h:∀ j,j<k→p j=q j):eK p k=eK q k:=by
 rw[Bool.eq_iff_iff,dq,dq]
 constructor
 · rintro ⟨j,hj,e⟩;exact ⟨j,hj,by rw[← h j hj];exact e⟩
 · rintro ⟨j,hj,e⟩;exact ⟨j,hj,by rw[h j hj];exact e⟩
def Mp:List AV→Option (Prop×AV)
 | []=>some (True,.bool true)
 | _=>none
theorem R4 (n:Nat) (H:aa):cd (n+1) (.fn 15) [] H=some (.bool true,H):=by unfold cd c6;rfl
theorem RF {c:Nat} {t:mZ} (h:0<c) (ht:t.Ok (cd c)):(oa t 15 Mp).Ok (cd c):=by
 obtain ⟨m,rfl⟩:∃ m,c=m+1:=⟨c-1,by omega⟩
 refine lH ht (fun args p v hg hp H=>?_)
 unfold Mp at hg
 split at hg
 · simp only[nP] at hg
   obtain ⟨_,rfl⟩:=hg
   exact R4 _ H
 · cases hg
noncomputable def slA (n len:Nat) (z:Nat→Int):AV:=.slcT none (.M [.arr .i64 z (fE len n)]) n len false
noncomputable def di (dr:Int) (lc:Nat) (zc:Nat→Int) (lb:Nat) (zb:Nat→Int):AV:=.agg (.G [.int .i64 dr,slA 4 lc zc,slA 2 lb zb])
noncomputable def shR (dr:Int) (lc:Nat) (zc:Nat→Int) (lb:Nat) (zb:Nat→Int) (W B:Nat→Int):Row:=.M [.one (.int .i64 dr),.one (slA 4 lc zc),.one (slA 2 lb zb),.arr .i64 W 20,.arr .u64 B 10]
noncomputable def shV (dr:Int) (lc:Nat) (zc:Nat→Int) (lb:Nat) (zb:Nat→Int) (W B:Nat→Int):AV:=.ptrT none (shR dr lc zc lb zb W B) 0
theorem rP {c:Nat} {f:FuncId} {args:List AV} {H:aa} {x:AV×aa} (h:ka (cd c) f args H=some x):cd (c+1) (.fn f) args H=some x:=by
 unfold cd c6
 unfold cd at h
 rw[h]
theorem Ol (n:Nat) (dr:Int) (lc:Nat) (zc:Nat→Int) (lb:Nat) (zb:Nat→Int) (W B:Nat→Int) (H:aa) (hl:lc≤10):cd (n+1) (.fn 73) [shV dr lc zc lb zb W B] H=some (.int .i64 (Q.cntF lc W B),H) :=
 rP (GL (dr:=dr) (zc:=zc) (lb:=lb) (zb:=zb) (W:=W) (B:=B) hl)
end Go.Eng
end
section
namespace Go.Eng
open Go.Proofs
noncomputable def tK (lo hi:Int):bA:=⟨false,[(0,.row (.I .i64 [lo])),(0,.row (.I .i64 [hi]))]⟩
noncomputable def f84 (d:Nat):AV:=.fn (.func 84) [] [.ptr d 0 0 0,.ptr d 1 0 0]
noncomputable def C7 (k:Nat) (b:Nat→Int) (full:Bool) (j:Int):az:=[(0,gn k b full),(1,f84 2),(7,.int .i64 (Int.ofNat k)),(8,.int .i64 j)]
theorem Uz (n:Nat) (lo hi:Int) (H:aa) (x:Int):bE Tryd.prog (cd n) 100000 84 Tryd.f84 (KtG.kt 84) (il a6 n 0) bp br [(.int .i64 x,none),(.ptr 2 0 0 0,none),(.ptr 2 1 0 0,none)] (aZ::aZ::tK lo hi::H) =
 (fun (Z0:bA)=>Tr.ite (bO x lo) (Tr.ok ((AV.bool true,some 1),aZ::aZ::Z0::H)) (Tr.ok ((AV.bool (bO hi x),none),aZ::aZ::Z0::H))) { lock:=false,bs:=[(0,aq.row (Row.I .i64 [lo])),(0,aq.row (Row.I .i64 [hi]))] }:=by kernel_rfl
theorem t99 (n k:Nat) (b:Nat→Int) (full:Bool) (lo hi:Int) (P:Int→Bool) (Q:Int→List AV→aa→Prop) (H:aa) (j:Int):aW (cj n 99 19) (il (RE 84 P Q) n 0) bp br (part Tryd.f99 [1,0,1,0,0]) (hints (C7 k b full j)) (aZ::aZ::tK lo hi::H) =
 (fun (Z0:bA)=>Tr.ite (bO j (Int.ofNat k)) (Tr.req (dj j k) (Tr.req (cZ (aC 0 j 1) k) (Tr.reqP (Q (b (aC 0 j 1)) [AV.ptr 2 0 0 0,AV.ptr 2 1 0 0] (aZ::aZ::Z0::H)) (Tr.ite (P (b (aC 0 j 1))) (Tr.ok (Ex.ret,[(4,AV.int .i64 j,none)],aZ::aZ::Z0::H)) (Tr.ok (Ex.normal,[(0,AV.slcT none (Row.M [an.arr .i64 b k]) 1 k full,none),(1,AV.fn (Fn.func 84) [] [AV.ptr 2 0 0 0,AV.ptr 2 1 0 0],none),(7,AV.int .i64 (Int.ofNat k),none),(8,AV.int .i64 (bg .i64 j (Int.ofNat 1)),none)],aZ::aZ::Z0::H)))))) (Tr.ok (Ex.exit 0,[(0,AV.slcT none (Row.M [an.arr .i64 b k]) 1 k full,none),(1,AV.fn (Fn.func 84) [] [AV.ptr 2 0 0 0,AV.ptr 2 1 0 0],none),(7,AV.int .i64 (Int.ofNat k),none),(8,AV.int .i64 j,none),(9,AV.bool false,some 1)],aZ::aZ::Z0::H))) { lock:=false,bs:=[(0,aq.row (Row.I .i64 [lo])),(0,aq.row (Row.I .i64 [hi]))] }:=by kernel_rfl
theorem UD (n k:Nat) (b:Nat→Int) (full:Bool) (lo hi:Int) (H:aa) (x:Bool) (r:Nat):bE Tryd.prog (cd n) 100000 99 Tryd.f99 (KtG.kt 99) (il a6 n 0) (dc bp 0 (C7 k b full 0) (aZ::aZ::tK lo hi::H) (.ite x (.ok (.ret,[(4,.int .i64 (Int.ofNat r),none)],aZ::aZ::tK lo hi::H)) (.ok (.normal,hints (C7 k b full (Int.ofNat k)++[(9,.bool false)]),aZ::aZ::tK lo hi::H)))) br [(gn k b full,none),(f84 1,none)] (aZ::tK lo hi::H) =
 (fun (Z0:bA)=>((fun (Z1:az)=>Tr.reqP (Z1=Z1∧aZ::aZ::Z0::H=aZ::aZ::Z0::H) (Tr.ite x (Tr.ok ((AV.int .i64 (Int.ofNat r),none),aZ::Z0::H)) (Tr.ok ((AV.int .i64 (Int.negSucc 0),some 1),aZ::Z0::H)))) [(0,AV.slcT none (Row.M [an.arr .i64 b k]) 1 k full),(1,AV.fn (Fn.func 84) [] [AV.ptr 2 0 0 0,AV.ptr 2 1 0 0]),(7,AV.int .i64 (Int.ofNat k)),(8,AV.int .i64 (Int.ofNat 0))])) { lock:=false,bs:=[(0,aq.row (Row.I .i64 [lo])),(0,aq.row (Row.I .i64 [hi]))] }:=by kernel_rfl
theorem Uy (n k:Nat) (b:Nat→Int) (full:Bool) (lo hi:Int) (H:aa) (r:Int):bE Tryd.prog (cd n) 100000 83 Tryd.f83 (KtG.kt 83) (il (Bq a6 99 [gn k b full,f84 1] (aZ::tK lo hi::H) (.ok (.int .i64 r,aZ::tK lo hi::H))) n 0) bp br [(gn k b full,none),(f84 0,none)] (tK lo hi::H) =
 (fun (Z0:bA)=>((fun (Z1:List AV)=>Tr.reqP (Z1=Z1∧aZ::Z0::H=aZ::Z0::H) (Tr.ok ((AV.bool (dN (Int.ofNat 0) r),none),Z0::H))) [AV.slcT none (Row.M [an.arr .i64 b k]) 1 k full,AV.fn (Fn.func 84) [] [AV.ptr 1 0 0 0,AV.ptr 1 1 0 0]])) { lock:=false,bs:=[(0,aq.row (Row.I .i64 [lo])),(0,aq.row (Row.I .i64 [hi]))] }:=by kernel_rfl
theorem Ur (n k:Nat) (b:Nat→Int) (full:Bool) (lo hi:Int) (H:aa) (e:Bool):bE Tryd.prog (cd n) 100000 59 Tryd.f59 (KtG.kt 59) (il (Bq a6 83 [gn k b full,f84 0] (tK lo hi::H) (.ok (.bool e,tK lo hi::H))) n 0) bp br [(.int .i64 lo,none),(.int .i64 hi,none),(gn k b full,none)] H =
 (fun (Z0:List AV)=>((fun (Z1:bA)=>Tr.reqP (Z0=Z0∧Z1::H=Z1::H) (Tr.ok ((AV.bool (bL e),none),H))) { lock:=false,bs:=[(0,aq.row (Row.I .i64 [lo])),(0,aq.row (Row.I .i64 [hi]))] })) [AV.slcT none (Row.M [an.arr .i64 b k]) 1 k full,AV.fn (Fn.func 84) [] [AV.ptr 0 0 0 0,AV.ptr 0 1 0 0]]:=by kernel_rfl
theorem R2:∀ b,(0,b) ∈ aO (bz Tryd.f99)→b=.loop (part Tryd.f99 [1,0,1,0,0]):=gk (by kernel_rfl)
def kb (lo hi x:Int):Bool:=decide (x<lo) || decide (hi<x)
section
variable (n k:Nat) (b:Nat→Int) (full:Bool) (lo hi:Int) (H:aa)
theorem Se (x:Int):cd (n+1) (.fn 84) [.int .i64 x,.ptr 2 0 0 0,.ptr 2 1 0 0] (aZ::aZ::tK lo hi::H)=some (.bool (kb lo hi x),aZ::aZ::tK lo hi::H):=by
 have hp:kb lo hi x=(decide (x<lo) || decide (hi<x)):=rfl
 rw[hp]
 refine bV (n:=n) Tryd.func84 rfl rfl rfl (Uz n lo hi H x) (aJ n) (ak _ _) (al _ _) ?_
 rw[bF,bF]
 refine Tr.af (fun hc=>Tr.ah ⟨?_,rfl⟩) (fun hc=>Tr.ah ⟨?_,rfl⟩)
 · rw[hc];rfl
 · rw[hc];rfl
theorem Sd (hk:k≤1000):cd (n+4) (.fn 83) [gn k b full,f84 0] (tK lo hi::H)=some (.bool (eK (fun j=>kb lo hi (b j)) k),tK lo hi::H):=by
 have hQ:∀ q x C H',(C=[.ptr 2 0 0 0,.ptr 2 1 0 0]∧H'=aZ::aZ::tK lo hi::H)→cd (n+2+q) (.fn 84) (.int .i64 x::C) H'=some (.bool (kb lo hi x),H'):=by
  rintro q x C H' ⟨rfl,rfl⟩
  rw[show n+2+q=n+1+q+1 by omega]
  exact Se _ lo hi H x
 have hx:=lK (n:=n+2) (f:=99) (nt:=19) (c:=part Tryd.f99 [1,0,1,0,0]) 0 (fun j=>C7 k b full (j:Int)) (fun _=>aZ::aZ::tK lo hi::H) k (fun j=>kb lo hi (b j)) (fun j=>([(4,.int .i64 (j:Nat))],aZ::aZ::tK lo hi::H)) (C7 k b full (Int.ofNat k)++[(9,.bool false)],aZ::aZ::tK lo hi::H) (by omega) (fun j hj=>?_) ?_
 · have h99:cd (n+3) (.fn 99) [gn k b full,f84 1] (aZ::tK lo hi::H)=some (.int .i64 (BP (fun j=>kb lo hi (b j)) k),aZ::tK lo hi::H):=by
    refine bV (n:=n+2) Tryd.func99 rfl rfl rfl (UD (n+2) k b full lo hi H (eK (fun j=>kb lo hi (b j)) k) (fN (fun j=>kb lo hi (b j)) k 0)) (aJ _) (a8 (ak _ _) R2 (fun x h=>eX h hx)) (al _ _) ?_
    refine Tr.aj ⟨rfl,rfl⟩ (Tr.af (fun hc=>Tr.ah ⟨?_,rfl⟩) (fun hc=>Tr.ah ⟨?_,rfl⟩))
    · unfold BP;rw[if_pos hc];rfl
    · unfold BP;rw[if_neg (by rw[hc];decide)];rfl
   refine bV (n:=n+3) Tryd.func83 rfl rfl rfl (Uy (n+3) k b full lo hi H (BP (fun j=>kb lo hi (b j)) k)) (bZ _ (n+3) (ia (bx _) (fun x hy=>by rw[← Tr.ae hy];exact h99))) (ak _ _) (al _ _) ?_
   refine Tr.aj ⟨rfl,rfl⟩ (Tr.ah ⟨?_,rfl⟩)
   rw[Ap]
 · refine aK (t99 (n+2) k b full lo hi (kb lo hi) _ H (j:Int)) (m6 _ (n+2) 0 (fun q=>Em (hQ q))) (ak _ _) (al _ _) ?_
   show Tr.all _ (fun x=>if kb lo hi (b j)=true then _ else _)
   rw[gr (by omega),DN]
   cases hp:kb lo hi (b j) with
   | true =>
     simp only[if_true]
     refine Tr.af (fun hc=>?_) (fun hc=>?_)
     · repeat' first | (refine Tr.af (fun hc=>?_) (fun hc=>?_)<;>(try simp (disch:=omega) only[nV,nW] at hc)<;>(try (exfalso;omega))) | (refine Tr.ab ?_ ?_;· ((try simp (disch:=omega) only[nV,nW]);try omega)) | (refine Tr.aj ?_ ?_;· first | exact trivial | rfl | exact ⟨rfl,rfl⟩ | exact ⟨trivial,rfl⟩ | exact ⟨rfl,by assumption⟩ | exact ⟨trivial,by assumption⟩ | exact ⟨rfl,rfl,rfl⟩ | (simp (disch:=omega) only[nV,nW];done) | ((try simp (disch:=omega) only[nV,nW]);omega)) | fail
       all_goals first
        | exact ⟨rfl,rfl⟩
        | (refine Tr.aj ⟨trivial,rfl⟩ ?_
           exact wF)
        | exact Tr.ah rfl
        | fail
     · simp (disch:=omega) only[nV,nW] at hc;omega
   | false =>
     simp only[Bool.false_eq_true,if_false]
     refine Tr.af (fun hc=>?_) (fun hc=>?_)
     · repeat' first | (refine Tr.af (fun hc=>?_) (fun hc=>?_)<;>(try simp (disch:=omega) only[nV,nW] at hc)<;>(try (exfalso;omega))) | (refine Tr.ab ?_ ?_;· ((try simp (disch:=omega) only[nV,nW]);try omega)) | (refine Tr.aj ?_ ?_;· first | exact trivial | rfl | exact ⟨rfl,rfl⟩ | exact ⟨trivial,rfl⟩ | exact ⟨rfl,by assumption⟩ | exact ⟨trivial,by assumption⟩ | exact ⟨rfl,rfl,rfl⟩ | (simp (disch:=omega) only[nV,nW];done) | ((try simp (disch:=omega) only[nV,nW]);omega)) | fail
       all_goals first
        | exact ⟨rfl,rfl⟩
        | (refine Tr.aj ⟨trivial,rfl⟩ ?_
           exact wF)
        | exact Tr.ah ⟨rfl,rfl⟩
        | fail
     · simp (disch:=omega) only[nV,nW] at hc;omega
 · obtain ⟨x,h1,rfl⟩:=aK (Q:=fun x=>x=(.exit 0,C7 k b full (Int.ofNat k)++[(9,.bool false)],aZ::aZ::tK lo hi::H)) (t99 (n+2) k b full lo hi (kb lo hi) _ H (Int.ofNat k)) (m6 _ (n+2) 0 (fun q=>Em (hQ q))) (ak _ _) (al _ _) (by
    refine Tr.af (fun hc=>?_) (fun hc=>Tr.ah rfl)
    simp (disch:=omega) only[nV,nW] at hc;omega)
   exact h1
theorem R8 (hk:k≤1000):cd (n+5) (.fn 59) [.int .i64 lo,.int .i64 hi,gn k b full] H=some (.bool (!eK (fun j=>kb lo hi (b j)) k),H):=by
 have h:=Sd n k b full lo hi H hk
 refine q9 (n:=n+4) Tryd.func59 rfl (fun _ _=>rfl) rfl (Ur (n+4) k b full lo hi H (eK (fun j=>kb lo hi (b j)) k)) (bZ _ (n+4) (ia (bx _) (fun x hy=>by rw[← Tr.ae hy];exact h))) (ak _ _) (al _ _) ?_
 rw[aY]
 exact wF
end
noncomputable def NZ (lo hi:Int):List Int→Bool
 | []=>true
 | x::r=>b7 (b7 (dN lo x) (dN x hi)) (NZ lo hi r)
theorem KA (lo hi:Int) (l:List Int):(!eK (fun j=>kb lo hi (aS l j)) l.length)=NZ lo hi l:=by
 rw[gK]
 induction l with
 | nil=>rfl
 | cons x r ih =>
   have e:eK (fun j=>kb lo hi ((fun j=>(x::r).getD j 0) j)) (r.length+1)=(kb lo hi x || eK (fun j=>kb lo hi ((fun j=>r.getD j 0) j)) r.length):=by
    rw[Bool.eq_iff_iff,Bool.or_eq_true,dq,dq]
    constructor
    · rintro ⟨i,h1,h2⟩
      cases i with
      | zero=>exact .inl h2
      | succ i=>exact .inr ⟨i,by omega,h2⟩
    · rintro (h | ⟨i,h1,h2⟩)
      · exact ⟨0,by omega,h⟩
      · exact ⟨i+1,by omega,h2⟩
   show (!eK _ (r.length+1))=_
   rw[e,Bool.not_or,ih]
   show _=b7 (b7 (dN lo x) (dN x hi)) (NZ lo hi r)
   rw[bS,bS,bt,bt]
   congr 1
   unfold kb
   by_cases h1:lo≤x
   · rw[decide_eq_true h1,decide_eq_false (by omega)]
     by_cases h2:x≤hi
     · rw[decide_eq_true h2,decide_eq_false (by omega)];rfl
     · rw[decide_eq_false h2,decide_eq_true (by omega)];rfl
   · rw[decide_eq_false h1,decide_eq_true (by omega)];rfl
noncomputable def gW (args:List AV) (H:aa):Tr (AV×aa) :=
 match args with
 | [.int .i64 lo,.int .i64 hi,.slc d i ver 0 1 k cap]=>match cK H d i ver with
   | some (.I .i64 l)=>cond (Nat.beq l.length k && Nat.ble k 1000) (.ok (.bool (NZ lo hi l),H)) .bad
   | _=>.bad
 | _=>.bad
theorem xB {n:Nat} {t:mZ} (ht:t.Ok (cd (n+6))):(m4 t 59 gW).Ok (cd (n+6)):=by
 refine w6 ht (fun args H x hx=>?_)
 unfold gW at hx
 split at hx
 case h_2=>exact (Tr.ag hx).elim
 rename_i lo hi d i ver k cap
 split at hx
 case h_2=>exact (Tr.ag hx).elim
 rename_i l hr
 cases hc:(Nat.beq l.length k && Nat.ble k 1000) with
 | false=>rw[hc] at hx;exact (Tr.ag hx).elim
 | true =>
   rw[hc,cond_true] at hx
   rw[Bool.and_eq_true] at hc
   have hk:l.length=k:=Nat.eq_of_beq_eq_true hc.1
   have hk2:=Nat.le_of_ble_eq_true hc.2
   subst hk
   rw[← Tr.ae hx]
   refine rP ?_
   show Nj (cd (n+5)) 59 [.int .i64 lo,.int .i64 hi,.slc d i ver 0 1 l.length cap] H=_
   unfold Nj
   simp only[hr,if_true]
   have:=R8 n l.length (aS l) false lo hi [⟨true,[]⟩] hk2
   have e:gn l.length (aS l) false=.slcT none (.M [.arr .i64 (aS l) l.length]) 1 l.length false:=rfl
   rw[e] at this
   rw[this,KA]
   rfl
end Go.Eng
end
section
namespace Go.Eng
open Go.Proofs
noncomputable def C5 (l:Nat) (z:Nat→Int) (j:Int):az:=[(0,slA 4 l z),(1,.fn (.func 58) [] []),(7,.int .i64 (Int.ofNat l)),(8,.int .i64 j)]
theorem t85 (n:Nat) (l:Nat) (z:Nat→Int) (H:aa) (j:Int):aW (cj (n+8) 85 19) (il (m4 a6 59 gW) (n+6) 2) bp br (part Tryd.f85 [1,0,1,0,0]) (hints (C5 l z j)) (aZ::H) =
 Tr.ite (bO j (Int.ofNat l)) (Tr.req (dj j l) (Tr.req (cZ (aC 0 j 4) (ar l 4)) (Tr.req (cZ (av (aC 0 j 4) 1) (ar l 4)) (Tr.req (cZ (av (aC 0 j 4) 2) (ar l 4)) (Tr.req (cZ (av (aC 0 j 4) 3) (ar l 4)) (Tr.ite (bL (b7 (b7 (dN (Int.ofNat 0) (z (aC 0 j 4))) (dN (z (aC 0 j 4)) (Int.ofNat 1000))) (b7 (b7 (dN (Int.ofNat 0) (z (av (aC 0 j 4) 1))) (dN (z (av (aC 0 j 4) 1)) (Int.ofNat 1000))) (b7 (b7 (dN (Int.ofNat 0) (z (av (aC 0 j 4) 2))) (dN (z (av (aC 0 j 4) 2)) (Int.ofNat 1000))) (b7 (b7 (dN (Int.ofNat 0) (z (av (aC 0 j 4) 3))) (dN (z (av (aC 0 j 4) 3)) (Int.ofNat 1000))) true))))) (Tr.ok (Ex.ret,[(4,AV.int .i64 j,none)],aZ::H)) (Tr.ite (bO (z (av (aC 0 j 4) 1)) (z (aC 0 j 4))) (Tr.ok (Ex.ret,[(4,AV.int .i64 j,none)],aZ::H)) (Tr.ite (bO (z (av (aC 0 j 4) 3)) (z (av (aC 0 j 4) 2))) (Tr.ok (Ex.ret,[(4,AV.int .i64 j,none)],aZ::H)) (Tr.ok (Ex.normal,[(0,slA 4 l z,none),(1,AV.fn (Fn.func 58) [] [],none),(7,AV.int .i64 (Int.ofNat l),none),(8,AV.int .i64 (bg .i64 j (Int.ofNat 1)),none)],aZ::H)))))))))) (Tr.ok (Ex.exit 0,[(0,slA 4 l z,none),(1,AV.fn (Fn.func 58) [] [],none),(7,AV.int .i64 (Int.ofNat l),none),(8,AV.int .i64 j,none),(9,AV.bool false,some 1)],aZ::H)):=by kernel_rfl
theorem UA (n:Nat) (l:Nat) (z:Nat→Int) (H:aa) (i:Int) (e:Bool):bE Tryd.prog (cd (n+8)) 100000 85 Tryd.f85 (KtG.kt 85) (il a6 (n+8) 0) (dc bp 0 (C5 l z 0) (aZ::H) (.ite e (.ok (.ret,[(4,.int .i64 i,none)],aZ::H)) (.ok (.normal,hints (C5 l z (Int.ofNat l)++[(9,.bool false)]),aZ::H)))) br [(slA 4 l z,none),(.fn (.func 58) [] [],none)] H =
 (fun (Z0:az)=>Tr.reqP (Z0=Z0∧aZ::H=aZ::H) (Tr.ite e (Tr.ok ((AV.int .i64 i,none),H)) (Tr.ok ((AV.int .i64 (Int.negSucc 0),some 1),H)))) [(0,slA 4 l z),(1,AV.fn (Fn.func 58) [] []),(7,AV.int .i64 (Int.ofNat l)),(8,AV.int .i64 (Int.ofNat 0))]:=by kernel_rfl
theorem Us (n:Nat) (l:Nat) (z:Nat→Int) (H:aa) (i:Int):bE Tryd.prog (cd (n+9)) 100000 60 Tryd.f60 (KtG.kt 60) (il (tX a6 85 [slA 4 l z,.fn (.func 58) [] []] (.int .i64 i)) (n+9) 0) bp br [(slA 4 l z,none),(.fn (.func 58) [] [],none)] H =
 Tr.reqP ([slA 4 l z,AV.fn (Fn.func 58) [] []]=[slA 4 l z,AV.fn (Fn.func 58) [] []]) (Tr.ok ((AV.bool (dN (Int.ofNat 0) i),none),H)):=by kernel_rfl
def jo (z:Nat→Int) (j:Nat):Bool:=!(decide (0≤z (j*4)) && (decide (z (j*4)≤z (j*4+1)) && (decide (z (j*4+1)≤1000) && (decide (0≤z (j*4+2)) && (decide (z (j*4+2)≤z (j*4+3)) && decide (z (j*4+3)≤1000))))))
theorem RX:∀ b,(0,b) ∈ aO (bz Tryd.f85)→b=.loop (part Tryd.f85 [1,0,1,0,0]):=gk (by kernel_rfl)
section
variable (n:Nat) (l:Nat) (z:Nat→Int) (H:aa)
theorem RH (n k:Nat):(il (m4 a6 59 gW) (n+6) k).Ok (cd (n+6+k)):=m6 _ _ _ (fun q=>by rw[show n+6+q=n+q+6 by omega];exact xB (bx _))
theorem Sf (hl:l≤1000):cd (n+9) (.fn 85) [slA 4 l z,.fn (.func 58) [] []] H=some (.int .i64 (BP (jo z) l),H):=by
 have lp:=lK (n:=n+8) (f:=85) (nt:=19) (c:=part Tryd.f85 [1,0,1,0,0]) 0 (fun j=>C5 l z (j:Int)) (fun _=>aZ::H) l (jo z) (fun j=>([(4,.int .i64 (j:Int))],aZ::H)) (C5 l z (Int.ofNat l)++[(9,.bool false)],aZ::H) (by omega) (fun j hj=>?_) ?_
 · refine bV (n:=n+8) Tryd.func85 rfl rfl rfl (UA n l z H ((fN (jo z) l 0:Nat):Int) (eK (jo z) l)) (iv (n+8) 0) (a8 (ak _ _) RX (fun x hx=>eX hx lp)) (al _ _) ?_
   repeat' first | (refine Tr.af (fun hc=>?_) (fun hc=>?_)<;>(try simp (disch:=omega) only[nV,nW] at hc)<;>(try (exfalso;omega))) | (refine Tr.ab ?_ ?_;· ((try simp (disch:=omega) only[nV,nW]);try omega)) | (refine Tr.aj ?_ ?_;· first | exact trivial | rfl | exact ⟨rfl,rfl⟩ | exact ⟨trivial,rfl⟩ | exact ⟨rfl,by assumption⟩ | exact ⟨trivial,by assumption⟩ | exact ⟨rfl,rfl,rfl⟩ | (simp (disch:=omega) only[nV,nW];done) | ((try simp (disch:=omega) only[nV,nW]);omega)) | fail
   all_goals refine Tr.ah ⟨?_,rfl⟩
   · unfold BP;rw[if_pos hc]
   · unfold BP;rw[if_neg (by rw[hc];decide)];rfl
 · have ej:bg .i64 (j:Int) (Int.ofNat 1)=((j+1:Nat):Int):=gr (by omega)
   have ei:aC 0 (j:Int) 4=j*4:=by rw[bY];omega
   have hs:jo z j=!(decide (0≤z (j*4)) && (decide (z (j*4)≤z (j*4+1)) && (decide (z (j*4+1)≤1000) && (decide (0≤z (j*4+2)) && (decide (z (j*4+2)≤z (j*4+3)) && decide (z (j*4+3)≤1000)))))):=rfl
   refine aK (t85 n l z H (j:Int)) (RH n 2) (ak _ _) (al _ _) ?_
   refine Tr.af (fun h0=>?_) (fun h0=>by simp (disch:=omega) only[nV,nW] at h0;omega)
   refine Tr.ab (by simp (disch:=omega) only[nV,nW];omega) (Tr.ab (by rw[ei];simp (disch:=omega) only[nV,nW];omega) (Tr.ab (by rw[ei];simp (disch:=omega) only[nV,nW];omega) (Tr.ab (by rw[ei];simp (disch:=omega) only[nV,nW];omega) (Tr.ab (by rw[ei];simp (disch:=omega) only[nV,nW];omega) ?_))))
   rw[ei,aH,aH,aH,ej]
   refine Tr.af (fun h1=>?_) (fun h1=>?_)
   · refine Tr.ah ?_
     rw[if_pos (by rw[hs];simp[aY,bS,bt] at h1 ⊢;omega)];rfl
   · simp only[aY,bS,bt] at h1
     simp at h1
     refine Tr.af (fun h2=>?_) (fun h2=>?_)
     · rw[bF,decide_eq_true_eq] at h2
       refine Tr.ah ?_
       rw[if_pos (by rw[hs];simp;omega)];rfl
     · rw[bF,decide_eq_false_iff_not] at h2
       refine Tr.af (fun h3=>?_) (fun h3=>?_)
       · rw[bF,decide_eq_true_eq] at h3
         refine Tr.ah ?_
         rw[if_pos (by rw[hs];simp;omega)];rfl
       · rw[bF,decide_eq_false_iff_not] at h3
         refine Tr.ah ?_
         rw[if_neg (by rw[hs];simp;omega)];exact ⟨rfl,rfl⟩
 · obtain ⟨x,h1,rfl⟩:=aK (Q:=fun x=>x=(.exit 0,C5 l z (Int.ofNat l)++[(9,.bool false)],aZ::H)) (t85 n l z H (Int.ofNat l)) (RH n 2) (ak _ _) (al _ _) (by
    refine Tr.af (fun h0=>by simp (disch:=omega) only[nV,nW] at h0;omega) (fun h0=>Tr.ah rfl))
   exact h1
theorem R9 (hl:l≤1000):cd (n+10) (.fn 60) [slA 4 l z,.fn (.func 58) [] []] H=some (.bool (eK (jo z) l),H):=by
 have h:=fun H=>Sf n l z H hl
 refine bV (n:=n+9) Tryd.func60 rfl rfl rfl (Us n l z H (BP (jo z) l)) (bZ _ (n+9) (iz (bx _) h)) (ak _ _) (al _ _) ?_
 refine Tr.aj rfl (Tr.ah ⟨?_,rfl⟩)
 rw[Ap]
end
end Go.Eng
end
