/- Gall: closed calls: what they lean on; counts of shelves that are known. -/
import Derived.Test.YtgphpjdchnfjlaaDoorV4Gq5x5
import Derived.Test.YtgphpjdchnfjlaaDoorV4Gp2x6
import Derived.Test.YtgphpjdchnfjlaaDoorV4EngThx10
import Derived.Test.YtgphpjdchnfjlaaDoorV4EngTkx3
import Derived.Test.YtgphpjdchnfjlaaDoorV4EngRnFx7
import Derived.Test.YtgphpjdchnfjlaaDoorV4EngRoSx4
set_option linter.unusedVariables false
set_option linter.unusedSimpArgs false
set_option maxRecDepth 100000
section
namespace Go.Eng.Gall
open Go.Proofs Go.Eng.Q
theorem named:dC Tryd.prog:=by
 have h:(Tryd.prog.funcs.toList.all fun fn=>fn.body.isNone || !(fn.name == "runtime.NumGoroutine"))=true:=by kernel_rfl
 intro f fn hf hb;have:=List.all_eq_true.1 h fn (by simpa using Array.mem_of_getElem? hf);rw[hb] at this;simpa using this
theorem mixed:Tryd.prog.follows .mixedOrders=true:=by kernel_rfl
theorem IE:∀ e ∈ ([]:List cq),aC Tryd.prog e:=fun e h=>by cases h
theorem aX {e:cq} {t:List cq} (h:aC Tryd.prog e) (k:∀ x ∈ t,aC Tryd.prog x):∀ x ∈ e::t,aC Tryd.prog x:=fun x hx=>by
 rcases List.mem_cons.1 hx with rfl | hx
 · exact h
 · exact k x hx
def TN:List AV→Bool
 | .ptr _ _ _ _::_=>true
 | _=>false
noncomputable def uJ (c:aI) (f:FuncId) (args:List AV) (H:aa):Option (AV×aa) :=
 cond (Nat.beq f 82) (Fj args H) (cond (Nat.beq f 62) (PD (om Tryd.prog KtG.kt 100000 62 c args H)) (cond ((Nat.beq f 63 || Nat.beq f 65) && TN args) (OL c f args H) (cond (Nat.beq f 47) (om Tryd.prog KtG.kt 100000 47 (BE Tryd.prog KtG.kt 100000 46 c) args H) (cond (Nat.beq f 94 || Nat.beq f 100) (nu Tryd.prog KtG.kt 100000 f c args H) none))))
theorem CO (hN:dC Tryd.prog) (hD:gb Tryd.prog):rQ Tryd.prog uJ:=fun call hC f args H v H' h hne p M w cargs hH hA=>by
 unfold uJ at h;cases h82:Nat.beq f 82 with
 | true =>
   rw[h82,cond_true] at h;have:=Nat.eq_of_beq_eq_true h82;subst this;exact HT h hH hA
 | false =>
 rw[h82,cond_false] at h;cases h62:Nat.beq f 62 with
 | true =>
   rw[h62,cond_true] at h;have:=Nat.eq_of_beq_eq_true h62;subst this;unfold PD at h;split at h;case h_2=>simp at h
   rename_i v1 H1 he;simp only[nP] at h;obtain ⟨rfl,rfl⟩:=h;obtain ⟨h1,h2⟩:=pw hN hD KtG.kt 100000 hC he hH hA;exact ⟨h1,h2.mono (fun _ _ h=>eU.M9 h)⟩
 | false =>
 rw[h62,cond_false] at h;cases hr:((Nat.beq f 63 || Nat.beq f 65) && TN args) with
 | true =>
   rw[hr,cond_true] at h;exact Mp hC h hH hA
 | false =>
 rw[hr,cond_false] at h;cases h47:Nat.beq f 47 with
 | true =>
   rw[h47,cond_true] at h;have:=Nat.eq_of_beq_eq_true h47;subst this;exact pw hN hD KtG.kt 100000 (Er hN hD KtG.kt 100000 46 hC) h hH hA
 | false =>
 rw[h47,cond_false] at h;cases h94:(Nat.beq f 94 || Nat.beq f 100) with
 | true =>
   rw[h94,cond_true] at h;exact Gi hN hD KtG.kt 100000 hC h hH hA
 | false=>rw[h94,cond_false] at h;cases h
noncomputable def Mg (tab:List cq):aI→FuncId→List AV→aa→Option (AV×aa):=fun c f args H=>match Bh tab c f args H with
 | some x=>some x
 | none=>uJ c f args H
theorem IP (hN:dC Tryd.prog) (hD:gb Tryd.prog) {tab:List cq} (hT:∀ e ∈ tab,aC Tryd.prog e):rQ Tryd.prog (Mg tab):=fun call hC f args H v H' h hne p M w cargs hH hA=>by
 unfold Mg at h;split at h
 · rename_i x hx;simp only[Option.some.injEq] at h;subst h;exact wY tab hT call hC f args H v H' hx hne p M w cargs hH hA
 · exact CO hN hD call hC f args H v H' h hne p M w cargs hH hA
theorem aZ {tab:List cq} (hT:∀ e ∈ tab,aC Tryd.prog e) {e:cq} {H':aa}
 (h:EX Tryd.prog (Mg tab) KtG.kt 100000 40 (.fn e.f) e.args [⟨true,[]⟩]=some (e.v,H')) (hn:e.args.all (sZ 9)=true):aC Tryd.prog e:=by
 rw[Dv] at h
 exact yC (mK named (pM named mixed) (IP named (pM named mixed) hT) KtG.kt 100000 40) h hn
theorem EY (n:Nat):bY Tryd.prog (cd n):=mK named (pM named mixed) wX KtG.kt 100000 n
theorem Fc (dr:Int) (lc:Nat) (zc:Nat→Int) (lb:Nat) (zb:Nat→Int) (W B:Nat→Int) (hl:lc≤10) {p:aF} {M:Mu} {H:aa} {w:World} {cargs:Array Value} (hH:bh p M H w) (hA:eK p M [shV dr lc zc lb zb W B] cargs) :
 (∃ fn,Tryd.prog.funcs[73]?=some fn∧fn.body.isNone=false)∧CallsIn Fence.wide 0 Tryd.prog 73 cargs w (eU p M H w (.int .i64 (cntF lc W B)) H) :=
 D8 named (pM named mixed) ND KtG.kt 100000 (EY 3) (P0 2 dr lc zc lb zb W B hl H) hH hA
noncomputable def TV (dr:Int) (lc:Nat) (zl:List Int) (lb:Nat) (bl:List Int) (f1 f2:Bool) (Wl Bl:List Int):AV:=.ptrT none (.G (.int .i64 dr::.slcT none (.I .i64 zl) 4 lc f1::.slcT none (.I .i64 bl) 2 lb f2::(Wl.map (.int .i64)++Bl.map (.int .u64)))) 0
theorem za {p:aF} {M:Mu} {zl:List Int} {sz lc:Nat} {f:Bool} {c:Value} (hl:zl.length=bU lc sz) (h:ak p M (.slcT none (.I .i64 zl) sz lc f) c):ak p M (.slcT none (.M [.arr .i64 (az zl) (bU lc sz)]) sz lc false) c:=by
 cases h with
 | slcT vs hp h1 hv h2 h3 h4 =>
   have hlen:(Row.M [.arr .i64 (az zl) (bU lc sz)]).len=(Row.I .i64 zl).len:=by
    show bU lc sz+0=zl.length;omega
   refine .slcT vs (fun j hj=>hp j (by rw[← hlen];exact hj)) (fun j hj=>h1 j (by rw[← hlen];exact hj)) (fun j hj=>?_) h2 (fun e=>by cases e) h4;have hj':j<zl.length:=by rw[hlen] at hj;exact hj
   have:=hv j (by rw[← hlen];exact hj);have e:getM [.arr .i64 (az zl) (bU lc sz)] j=.int .i64 (zl.getD j 0):=by
    show (if j<bU lc sz then AV.int .i64 (az zl j) else _)=_;rw[if_pos (by omega),fT]
   show ak p _ (getM [.arr .i64 (az zl) (bU lc sz)] j) (vs j);rw[e];exact this.br _ _
 | slcN=>exact .slcN
theorem Jc {p:aF} {M:Mu} {dr:Int} {lc:Nat} {zl:List Int} {lb:Nat} {bl:List Int} {f1 f2:Bool} {Wl Bl:List Int} {c:Value} (hz:zl.length=bU lc 4) (hb:bl.length=bU lb 2) (hW:Wl.length=20) (hB:Bl.length=10) (h:ak p M (TV dr lc zl lb bl f1 f2 Wl Bl) c):ak p M (shV dr lc (az zl) lb (az bl) (az Wl) (az Bl)) c:=by
 cases h with
 | ptrT vs hp h1 hv =>
   have hlen:(shR dr lc (az zl) lb (az bl) (az Wl) (az Bl)).len=33:=rfl;have hlen':(Row.G (.int .i64 dr::.slcT none (.I .i64 zl) 4 lc f1::.slcT none (.I .i64 bl) 2 lb f2::(Wl.map (.int .i64)++Bl.map (.int .u64)))).len=33:=by simp[Row.len,hW,hB]
   refine .ptrT vs (fun j hj=>hp j (by rw[hlen'] ; rw[hlen] at hj;exact hj)) (fun j hj=>h1 j (by rw[hlen'] ; rw[hlen] at hj;exact hj)) (fun j hj=>?_);rw[hlen] at hj;have:=hv j (by rw[hlen'];exact hj);match j,hj,this with
   | 0,_,this=>exact this
   | 1,_,this=>exact za hz this
   | 2,_,this=>exact za hb this
   | j + 3,hj,this =>
     have this:ak p _ ((Wl.map (AV.int .i64)++Bl.map (AV.int .u64)).getD j .undef) (vs (j+3)):=this;show ak p _ (getM [.arr .i64 (az Wl) 20,.arr .u64 (az Bl) 10] j) (vs (j+3));by_cases hj20:j<20
     · have e:getM [.arr .i64 (az Wl) 20,.arr .u64 (az Bl) 10] j=.int .i64 (Wl.getD j 0):=by
        show (if j<20 then AV.int .i64 (az Wl j) else _)=_;rw[if_pos hj20,fT]
       have e2:(Wl.map (AV.int .i64)++Bl.map (AV.int .u64)).getD j .undef=.int .i64 (Wl.getD j 0):=by
        rw[List.getD_eq_getElem?_getD,List.getElem?_append_left (by simp;omega),List.getElem?_map,List.getD_eq_getElem?_getD,List.getElem?_eq_getElem (by omega)];rfl
       rw[e];rw[e2] at this;exact this.br _ _
     · have e:getM [.arr .i64 (az Wl) 20,.arr .u64 (az Bl) 10] j=.int .u64 (Bl.getD (j-20) 0):=by
        show (if j<20 then AV.int .i64 (az Wl j) else (if j-20<10 then AV.int .u64 (az Bl (j-20)) else _))=_;rw[if_neg hj20,if_pos (by omega),fT]
       have e2:(Wl.map (AV.int .i64)++Bl.map (AV.int .u64)).getD j .undef=.int .u64 (Bl.getD (j-20) 0):=by
        rw[List.getD_eq_getElem?_getD,List.getElem?_append_right (by simp;omega),List.getElem?_map,List.length_map,hW,List.getD_eq_getElem?_getD,List.getElem?_eq_getElem (by omega)];rfl
       rw[e];rw[e2] at this;exact this.br _ _
def R2 (Wl Bl:List Int) (k X c:Nat):Bool:=(BitVec.ofInt 64 (Bl.getD c 0) &&& ~~~(BitVec.ofNat 64 X)).toNat == 0 && (decide (Wl.getD (2*c) 0≤(k:Int)) && decide ((k:Int)≤Wl.getD (2*c+1) 0))
theorem Gl (Wl Bl:List Int):okW (az Wl) (az Bl)=R2 Wl Bl:=by
 funext k X c;unfold okW R2;rw[fT,fT,rU,bn,bn,bm];congr 1;show (IntKind.u64.wrap (((BitVec.ofInt 64 (Bl.getD c 0) &&& ~~~(BitVec.ofInt 64 (X:Int))).toNat:Nat):Int) == 0)=_;rw[Lh,jG (BitVec.isLt _)];generalize (BitVec.ofInt 64 (Bl.getD c 0) &&& ~~~(BitVec.ofNat 64 X)).toNat=t;rw[Bool.eq_iff_iff,beq_iff_eq,beq_iff_eq];omega
def P4 (lc:Nat) (Wl Bl:List Int):Nat:=(ro lc (R2 Wl Bl) lc).length
theorem Gm {dr:Int} {lc:Nat} {zl:List Int} {lb:Nat} {bl:List Int} {f1 f2:Bool} {Wl Bl:List Int} {A:AV} {v:Nat} (hA:A=TV dr lc zl lb bl f1 f2 Wl Bl) (hl:lc≤10) (hz:zl.length=lc*4) (hb:bl.length=lb*2) (hW:Wl.length=20) (hB:Bl.length=10) (hv:P4 lc Wl Bl=v):aC Tryd.prog ⟨73,[A],.int .i64 (v:Int)⟩:=by
 intro H hne p M w cargs hH hC;have e:cntF lc (az Wl) (az Bl)=(v:Int):=by unfold cntF;rw[Gl];exact congrArg Int.ofNat hv
 rw[← e];refine Fc dr lc (az zl) lb (az bl) (az Wl) (az Bl) hl hH ⟨hC.1,fun j hj=>?_⟩;have hC2:=hC.2 j hj;subst hA;have:j=0:=by simp at hj;omega
 subst this;exact Jc (by rw[pg];exact hz) (by rw[pg];exact hb) hW hB hC2
end Go.Eng.Gall
end
section
namespace Go.Eng
open Go.Proofs Go.ChangeShapes
open Go.Eng.Q (shV shR slA cntF okW)
noncomputable def HN (args:List AV) (H:aa):Option (AV×aa) :=
 match args with
 | [.ptrT none (.M [.one (.int .i64 dr),.one (.slcT none (.M [.arr .i64 zc n1]) 4 lc false),.one (.slcT none (.M [.arr .i64 zb n2]) 2 lb false),.arr .i64 W 20,.arr .u64 B 10]) 0]=>if lc≤10∧n1=fF lc 4∧n2=fF lb 2 then some (.int .i64 (cntF lc W B),H) else none
 | _=>none
theorem HO {dr:Int} {lc:Nat} {zc:Nat→Int} {lb:Nat} {zb:Nat→Int} {W B:Nat→Int} {H:aa} (hl:lc≤10):HN [shV dr lc zc lb zb W B] H=some (.int .i64 (cntF lc W B),H):=by
 show (if lc≤10∧fF lc 4=fF lc 4∧fF lb 2=fF lb 2 then some (AV.int .i64 (cntF lc W B),H) else none)=_;rw[if_pos ⟨hl,rfl,rfl⟩]
theorem HP {args:List AV} {H:aa} {v:AV} {H':aa} (h:HN args H=some (v,H')) {p:aF} {M:Mu} {w:World} {cargs:Array Value} (hH:bh p M H w) (hA:eK p M args cargs):(∃ fn,Tryd.prog.funcs[73]?=some fn∧fn.body.isNone=false)∧CallsIn Fence.wide 0 Tryd.prog 73 cargs w (eU p M H w v H'):=by
 unfold HN at h;split at h;case h_2=>simp at h
 rename_i dr zc n1 lc zb n2 lb W B;split at h;case isFalse=>simp at h
 rename_i hc;obtain ⟨hl,rfl,rfl⟩:=hc;simp only[nP] at h;obtain ⟨rfl,rfl⟩:=h;exact Gall.Fc dr lc zc lb zb W B hl hH hA
def JO:List AV→Bool
 | [_,_,.slc _ _ _ _ _ _ _]=>true
 | _=>false
def D1:AV→AV
 | .tup l=>.tup (l.map jA)
 | v=>jA v
theorem Gg {p:aF} {M:Mu} {v:AV} {c:Value} (h:ak p M v c):ak p M (D1 v) c:=by
 unfold D1;split
 · rename_i l;cases h with
   | tup hs hv =>
     refine .tup (by simpa using hs) (fun j hj=>?_);have hj':j<l.length:=by simpa using hj
     have:=kr (hv j hj');simpa[List.getD_eq_getElem?_getD,hj'] using this
 · exact kr h
def Ma (c:Option (AV×aa)):Option (AV×aa) :=
 match c with
 | some (v,H)=>some (D1 v,H)
 | none=>none
theorem eU.Wr {p:aF} {M:Mu} {H H':aa} {w:World} {v:AV} {e:Ending} {w':World} (h:eU p M H w v H' e w'):eU p M H w (D1 v) H' e w':=by
 obtain ⟨cv,h1,st,p',M',hE,hv⟩:=h;exact ⟨cv,h1,st,p',M',hE,Gg hv⟩
noncomputable def gO:aI→FuncId→List AV→aa→Option (AV×aa):=fun call f args H=>cond (Nat.beq f 30 || Nat.beq f 38) (Ma (om Tryd.prog KtG.kt 100000 f call args H)) <| cond (Nat.beq f 59 && JO args) (OM call f args H) (cond (Nat.beq f 73) (HN args H) (cond (Nat.beq f 95) (GJ ga args H) (match Gall.uJ call f args H with
 | some x=>some x
 | none=>tj [⟨15,[],.bool true⟩] call f args H)))
def Hk (f:FuncId):Bool:=(Nat.beq f 30 || Nat.beq f 38) || Nat.beq f 15 || Nat.beq f 1000000 || Nat.beq f 59 || Nat.beq f 73 || Nat.beq f 95 || Nat.beq f 82 || Nat.beq f 62 || Nat.beq f 63 || Nat.beq f 65 || Nat.beq f 47 || Nat.beq f 94 || Nat.beq f 100
noncomputable def cd (n:Nat):aI:=c6 Tryd.prog gO KtG.kt 100000 n
noncomputable def il (tab:ni) (n k:Nat):bp:=AZ Tryd.prog gO KtG.kt 100000 Hk tab n k
noncomputable def bP (n:Nat) (f nt:Nat):Cx:=⟨Tryd.prog,cd n,100000,f,nt,KtG.kt f,none⟩
theorem JZ {g:FuncId} (h:Nat.beq g 15=false) (h1:Nat.beq g 1000000=false) (c:aI) (args:List AV) (H:aa):tj [⟨15,[],.bool true⟩] c g args H=none:=by
 unfold tj;rw[h1,cond_false];simp only[Bh];have:Nat.beq 15 g=false:=by
  cases hb:Nat.beq 15 g with
  | false=>rfl
  | true=>have:=Nat.eq_of_beq_eq_true hb;subst this;simp at h
 rw[this];rfl
theorem wT (g:FuncId) (h:Hk g=false) (c:aI) (args:List AV) (H:aa):gO c g args H=none:=by
 unfold Hk at h;simp only[Bool.or_eq_false_iff] at h;obtain ⟨⟨⟨⟨⟨⟨⟨⟨⟨⟨⟨⟨⟨h30,h38⟩,h15⟩,h0⟩,h59⟩,h73⟩,h95⟩,h82⟩,h62⟩,h63⟩,h65⟩,h47⟩,h94⟩,h100⟩:=h;have e:Gall.uJ c g args H=none:=by
  unfold Gall.uJ;rw[h82,h62,h63,h65,h47,h94,h100];rfl
 unfold gO;rw[h30,h38,h59,h73,h95,e];exact JZ h15 h0 c args H
theorem mT (n:Nat):∃ x,c6 Tryd.prog gO KtG.kt 100000 n .mode [] []=some x:=by
 cases n<;>exact ⟨_,rfl⟩
theorem wX (hN:dC Tryd.prog) (hD:gb Tryd.prog) (hW:aC Tryd.prog ⟨15,[],.bool true⟩):rQ Tryd.prog gO :=
 fun call hC f args H v H' h hne p M w cargs hH hA=>by
  unfold gO at h;cases h30:(Nat.beq f 30 || Nat.beq f 38) with
  | true =>
    rw[h30,cond_true] at h;unfold Ma at h;split at h;case h_2=>simp at h
    rename_i v1 H1 he;simp only[nP] at h;obtain ⟨rfl,rfl⟩:=h;obtain ⟨h1,h2⟩:=pw hN hD KtG.kt 100000 hC he hH hA;exact ⟨h1,h2.mono (fun _ _ h=>eU.Wr h)⟩
  | false =>
  rw[h30,cond_false] at h;cases h59:(Nat.beq f 59 && JO args) with
  | true =>
    rw[h59,cond_true] at h;exact Mq hC h hH hA
  | false =>
  rw[h59,cond_false] at h;cases h73:Nat.beq f 73 with
  | true =>
    rw[h73,cond_true] at h;have:=Nat.eq_of_beq_eq_true h73;subst this;exact HP h hH hA
  | false =>
  rw[h73,cond_false] at h;cases h95:Nat.beq f 95 with
  | true =>
    rw[h95,cond_true] at h;have:=Nat.eq_of_beq_eq_true h95;subst this;exact I3 MC h hne hH hA
  | false =>
  rw[h95,cond_false] at h;split at h
  · rename_i x hx;simp only[Option.some.injEq] at h;subst h;exact Gall.CO hN hD call hC f args H v H' hx hne p M w cargs hH hA
  · exact CP _ (fun e he=>by
     simp only[List.mem_singleton] at he;subst he;exact hW) call hC f args H v H' h hne p M w cargs hH hA
theorem kg (tab:ni) (n k:Nat) (ht:∀ k,tab.Ok (cd (n+k))):(il tab n k).Ok (cd (n+k)):=wH _ _ _ _ _ _ _ wT (fun k=>mT _) ht k
theorem fc (n k:Nat):(il aH n k).Ok (cd (n+k)):=kg _ _ _ (fun k=>bj _)
theorem aw (n:Nat):(il aH n 0).Ok (cd n):=fc n 0
theorem NS {f:FuncId} {fn:Func} {n:Nat} (hf:Tryd.prog.funcs[f]?=some fn) (hb:fn.body.isSome=true) (hn:Hk f=false) {args:List HV} (hle:Nat.ble args.length fn.ntmps=true) {H:aa} {callR:bp} (hC:callR.Ok (cd n)) {bl:eJ} (hB:bl.Ok (bP n f fn.ntmps) (aV fn)) {rg:nA} (hR:rg.Ok (bP n f fn.ntmps) (aV fn)) {y:HV×aa}
 (h:(bk Tryd.prog (cd n) 100000 f fn (KtG.kt f) callR bl rg args H).run=some y):cd (n+1) (.fn f) (jL args) H=some (y.1.1,y.2) :=
 oH hf hb (wT f hn _ _ _) hle hC hB hR h
theorem LC {f:FuncId} {fn:Func} {n:Nat} (hf:Tryd.prog.funcs[f]?=some fn) (hb:fn.body.isSome=true) {args:List HV} (ho:∀ c H,gO c f (jL args) H=none) (hle:Nat.ble args.length fn.ntmps=true) {H:aa} {callR:bp} (hC:callR.Ok (cd n)) {bl:eJ} (hB:bl.Ok (bP n f fn.ntmps) (aV fn)) {rg:nA} (hR:rg.Ok (bP n f fn.ntmps) (aV fn)) {y:HV×aa}
 (h:(bk Tryd.prog (cd n) 100000 f fn (KtG.kt f) callR bl rg args H).run=some y):cd (n+1) (.fn f) (jL args) H=some (y.1.1,y.2) :=
 oH hf hb (ho _ _) hle hC hB hR h
theorem NR {f:FuncId} {fn:Func} {n:Nat} (hf:Tryd.prog.funcs[f]?=some fn) (hb:fn.body.isSome=true) (hn:Hk f=false) {args:List HV} (hle:Nat.ble args.length fn.ntmps=true) {H:aa} {callR:bp} {bl:eJ} {rg:nA} {T:Tr (HV×aa)}
 (e:bk Tryd.prog (cd n) 100000 f fn (KtG.kt f) callR bl rg args H=T) (hC:callR.Ok (cd n)) (hB:bl.Ok (bP n f fn.ntmps) (aV fn)) (hR:rg.Ok (bP n f fn.ntmps) (aV fn)) {y:HV×aa} (hr:T.run=some y):cd (n+1) (.fn f) (jL args) H=some (y.1.1,y.2) :=
 NS hf hb hn hle hC hB hR (by rw[e];exact hr)
theorem NO {n f nt:Nat} {c:Code} {callR:bp} (hC:callR.Ok (cd n)) {bl:eJ} (hB:bl.Ok (bP n f nt) c) {rg:nA} (hR:rg.Ok (bP n f nt) c) {fr:aD} {H:aa} {x:eC} (h:(aJ (bP n f nt) callR bl rg c (hints fr) H).run=some x):exec (bP n f nt) c fr H=some x.st:=by
 have:=fK hC c hB hR _ _ _ h;rw[aP] at this;exact this

def fC (bl:eJ) (id0:Nat):eJ:=fun id fr H=>cond (Nat.beq id id0) (some .bad) (bl id fr H)
theorem cD {bl:eJ} {cx:Cx} {c:Code} (h:bl.Ok cx c) (id0:Nat):(fC bl id0).Ok cx c:=by
 intro id b hm fr H t y ht hy;unfold fC at ht;cases hb:Nat.beq id id0 with
 | true =>
   rw[hb,cond_true,Option.some.injEq] at ht;subst ht;exact (Tr.ag hy).elim
 | false =>
   rw[hb,cond_false] at ht;exact h id b hm fr H t y ht hy
theorem NN {n f nt:Nat} {c:Code} {callR:bp} {bl:eJ} {rg:nA} {fr:aD} {H:aa} {T:Tr eC} (e:aJ (bP n f nt) callR bl rg c (hints fr) H=T) (hC:callR.Ok (cd n)) (hB:bl.Ok (bP n f nt) c) (hR:rg.Ok (bP n f nt) c) {x:eC} (hr:T.run=some x):exec (bP n f nt) c fr H=some x.st :=
 NO hC hB hR (by rw[e];exact hr)
section
variable {n f nt:Nat} {c:Code} {callR:bp} {bl:eJ} {rg:nA}
end
end Go.Eng
end
section
namespace Go.Eng
open Go.Proofs
theorem bB {f:FuncId} {fn:Func} {n:Nat} (hf:Tryd.prog.funcs[f]?=some fn) (hb:fn.body.isSome=true) (hn:Hk f=false) {args:List HV} (hle:Nat.ble args.length fn.ntmps=true) {H:aa} {callR:bp} {bl:eJ} {rg:nA} {T:Tr (HV×aa)}
 (e:bk Tryd.prog (cd n) 100000 f fn (KtG.kt f) callR bl rg args H=T) (hC:callR.Ok (cd n)) (hB:bl.Ok (bP n f fn.ntmps) (aV fn)) (hR:rg.Ok (bP n f fn.ntmps) (aV fn)) {v:AV} {H':aa} (h:T.all fun y=>y.1.1=v∧y.2=H'):cd (n+1) (.fn f) (jL args) H=some (v,H'):=by
 obtain ⟨y,h1,h2,h3⟩:=h
 have:=NR hf hb hn hle e hC hB hR h1
 rw[this,h2,h3]
theorem oU {f:FuncId} {fn:Func} {n:Nat} (hf:Tryd.prog.funcs[f]?=some fn) (hb:fn.body.isSome=true) {args:List HV} (ho:∀ c H,gO c f (jL args) H=none) (hle:Nat.ble args.length fn.ntmps=true) {H:aa} {callR:bp} {bl:eJ} {rg:nA} {T:Tr (HV×aa)}
 (e:bk Tryd.prog (cd n) 100000 f fn (KtG.kt f) callR bl rg args H=T) (hC:callR.Ok (cd n)) (hB:bl.Ok (bP n f fn.ntmps) (aV fn)) (hR:rg.Ok (bP n f fn.ntmps) (aV fn)) {v:AV} {H':aa} (h:T.all fun y=>y.1.1=v∧y.2=H'):cd (n+1) (.fn f) (jL args) H=some (v,H'):=by
 obtain ⟨y,h1,h2,h3⟩:=h
 have:=LC hf hb ho hle hC hB hR (by rw[e];exact h1)
 rw[this,h2,h3]
theorem aB {n f nt:Nat} {c:Code} {callR:bp} {bl:eJ} {rg:nA} {fr:aD} {H:aa} {T:Tr eC} (e:aJ (bP n f nt) callR bl rg c (hints fr) H=T) (hC:callR.Ok (cd n)) (hB:bl.Ok (bP n f nt) c) (hR:rg.Ok (bP n f nt) c) {Q:Ex×aD×aa→Prop} (h:T.all fun x=>Q x.st):∃ x,exec (bP n f nt) c fr H=some x∧Q x:=by
 obtain ⟨x,h1,h2⟩:=h;exact ⟨_,NN e hC hB hR h1,h2⟩
section
variable {n f nt:Nat} {c:Code} {callR:bp} {bl:eJ} {rg:nA}
theorem iu (id:Nat) (F:Nat→aD) (G:Nat→aa) (N:Nat) (p:Nat→Bool) (X:Nat→aD×aa) (Y:aD×aa) (hN:N<99999)
 (hs:∀ j,j<N→∃ x,exec (bP n f nt) c (F j) (G j)=some x∧if p j=true then x=(.ret,X j) else x.1=.normal∧tidy (a7 (G 0)) x.2.1 x.2.2=(F (j+1),G (j+1)))
 (he:exec (bP n f nt) c (F N) (G N)=some (.exit id,Y)):exec (bP n f nt) (.block id (.loop c)) (F 0) (G 0)=some (cond (dx p N) (.ret,X (fN p N 0)) (.normal,Y)):=by
 have key:=iM (body:=exec (bP n f nt) c) (n:=a7 (G 0)) F G N p (fun j=>if j<N then (.ret,X j) else (.exit id,Y))
  (fun j hj hp=>by
    obtain ⟨x,h1,h2⟩:=hs j hj;rw[if_neg (by rw[hp];simp)] at h2;obtain ⟨e,f1,g1⟩:=x;obtain ⟨rfl,h3⟩:=h2;exact ⟨_,_,h1,h3⟩)
  (fun j hj hp=>by
    obtain ⟨x,h1,h2⟩:=hs j hj;rw[if_pos hp] at h2;subst h2;rw[if_pos hj];exact ⟨h1,by simp⟩)
  (by
    rw[if_neg (by omega)];exact ⟨he,by simp⟩) N 0 100000 (by omega) (by omega)
 cases hc:dx p N with
 | true =>
   have:=oQ hc
   rw[if_pos this] at key
   exact dh (fun id' h=>by cases h) key
 | false =>
   have:=u0 hc
   rw[if_neg (by omega)] at key
   exact hJ key
end
theorem jM {n f nt:Nat} {c:Code} (id:Nat) (F:Nat→aD) (G:Nat→aa) (N:Nat) (Y:aD×aa) (hN:N<99999)
 (hs:∀ j,j<N→∃ x,exec (bP n f nt) c (F j) (G j)=some x∧(x.1=.normal∧tidy (a7 (G 0)) x.2.1 x.2.2=(F (j+1),G (j+1))))
 (he:exec (bP n f nt) c (F N) (G N)=some (.exit id,Y)):exec (bP n f nt) (.block id (.loop c)) (F 0) (G 0)=some (.normal,Y):=by
 have:=iu id F G N (fun _=>false) (fun _=>Y) Y hN (fun j hj=>by
  obtain ⟨x,h1,h2⟩:=hs j hj;exact ⟨x,h1,by rw[if_neg (by simp)];exact h2⟩) he
 have h0:dx (fun _=>false) N=false:=by
  cases h:dx (fun _=>false) N with
  | false=>rfl
  | true=>obtain ⟨i,_,h2⟩:=(cP _ _).1 h;cases h2
 rw[h0] at this
 exact this
end Go.Eng
end
section
namespace Go.Eng
open Go.Proofs
/-- A level of blocks. -/
noncomputable def iI (n:Nat):AV:=.int .i64 (Int.ofNat n)
noncomputable def rM (z:Nat→Int) (n:Nat):Row:=.M [.arr .i64 z n]
noncomputable def bC (l:List (Nat×an)):bF:=⟨false,l⟩
noncomputable def ar:bF:=⟨false,[]⟩
noncomputable def aY (k:Nat) (b:Nat→Int) (full:Bool):AV:=.slcT none (.M [.arr .i64 b k]) 1 k full
noncomputable def fZ (v k:Nat) (y:Nat→Int):bF:=⟨false,[(v,.row (.M [.arr .i64 y k]))]⟩
theorem bM (tab:ni) (n:Nat) (ht:tab.Ok (cd n)):(il tab n 0).Ok (cd n) :=
 ⟨mT _,fun tgt args H x h=>by
   unfold il AZ at h;split at h
   · split at h
     · rename_i c hc;exact ht _ _ hc _ _ _ h
     · exact (Tr.ag h).elim
   · exact (Tr.ag h).elim⟩
theorem dq {cx:Cx} {id:Nat} {B:Code} {fr:aD} {H:aa} {e:Bool} {X Y x:eC} (h:(Tr.ite e (Tr.ok X) (Tr.ok Y)).run=some x) (hx:exec cx (.block id B) fr H=some (cond e X.st Y.st)):exec cx (.block id B) fr H=some x.st:=by
 rw[hx];rcases Tr.kh h with ⟨hc,h⟩ | ⟨hc,h⟩
 · rw[hc,← Tr.ab h];rfl
 · rw[hc,← Tr.ab h];rfl
theorem fk {cx:Cx} {id:Nat} {B:Code} {fr:aD} {H:aa} {X x:eC} (h:(Tr.ok X).run=some x) (hx:exec cx (.block id B) fr H=some X.st):exec cx (.block id B) fr H=some x.st:=by
 rw[hx,← Tr.ab h]
theorem eN {j:Nat} (h:j<2 ^ 31):a6 .i64 (j:Int) (Int.ofNat 1)=((j+1:Nat):Int):=by rw[fH,show Int.ofNat 1=1 from rfl];exact gU (by omega) (by omega)
theorem Aj (j:Nat):av 0 (j:Int) 1=j:=by rw[bE];omega
theorem oA {x:Int} (h0:-9223372036854775808≤x) (h1:x≤9223372036854775807):nh .i64 x=x:=by rw[Hc,gU h0 h1]
theorem Ez {x y:Int} (h0:-9223372036854775808≤x+y) (h1:x+y≤9223372036854775807):a6 .i64 x y=x+y:=by rw[fH,gU h0 h1]
theorem ON {x y:Int} (h0:-9223372036854775808≤x-y) (h1:x-y≤9223372036854775807):ct .i64 x y=x-y:=by rw[ew,gU h0 h1]
theorem qd (L:List Int) (j:Nat):az L j=L.getD j 0:=congrFun (fT L) j
theorem mQ (L:List Int) (v:Int):oD (dZ (az L) 0) L.length (az [v])=az (L++[v]):=by
 rw[dH,mG,kW];funext i;by_cases h:i<L.length
 · simp[h,List.getElem?_append]
 · by_cases h2:i=L.length
   · subst h2;simp
   · have e1:[v][i-L.length]?=none:=List.getElem?_eq_none (by simp;omega);have e2:(L++[v])[i]?=none:=List.getElem?_eq_none (by simp;omega);simp only[h,if_false,List.getD_eq_getElem?_getD,e1,e2]
theorem sM (S:List Int) (j:Nat) (hj:j<S.length):az S j=S[j]:=by
 rw[qd,List.getD_eq_getElem?_getD,List.getElem?_eq_getElem hj];rfl
noncomputable def dA:List Int→AV
 | []=>.nils
 | a::r=>.slcT none (.M [.arr .i64 (az (a::r)) (r.length+1)]) 1 (r.length+1) false
theorem JG (L:List Int) (k:Nat) (h:L.length=k+1):dA L=aY (k+1) (az L) false:=by
 cases L with
 | nil=>simp at h
 | cons a r =>
   simp only[List.length_cons] at h;have:r.length=k:=by omega
   subst this;rfl
noncomputable def gX (A:List AV) (V:AV):List AV→Option (Prop×AV):=fun x=>some (x=A,V)
noncomputable def tX (t:ni) (f:FuncId) (A:List AV) (V:AV):ni:=jV t f (gX A V)
theorem dk {c f:Nat} {t:ni} {A:List AV} {V:AV} (ht:t.Ok (cd c)) (h:∀ H,cd c (.fn f) A H=some (V,H)):(tX t f A V).Ok (cd c):=by
 refine lV ht (fun args p v hg hp H=>?_);unfold gX at hg;simp only[nP] at hg;obtain ⟨rfl,rfl⟩:=hg;rw[hp];exact h H
noncomputable def gV (C:List AV→Prop) (R:List AV→AV):List AV→Option (Prop×AV):=fun x=>some (C x,R x)
noncomputable def tV (t:ni) (f:FuncId) (C:List AV→Prop) (R:List AV→AV):ni:=jV t f (gV C R)
theorem Pa {c f:Nat} {t:ni} {C:List AV→Prop} {R:List AV→AV} (ht:t.Ok (cd c)) (h:∀ A H,C A→cd c (.fn f) A H=some (R A,H)):(tV t f C R).Ok (cd c):=by
 refine lV ht (fun args p v hg hp H=>?_);unfold gV at hg;simp only[nP] at hg;obtain ⟨rfl,rfl⟩:=hg;exact h _ H hp
noncomputable def tN (t:ni) (f:FuncId):ni:=jV t f (fun _=>none)
theorem G2 {c f:Nat} {t:ni} (ht:t.Ok (cd c)):(tN t f).Ok (cd c):=lV ht (fun args p v hg hp H=>by cases hg)
noncomputable def gC (P:Int→Bool) (Q:Int→List AV→aa→Prop) (args:List AV) (H:aa):Tr (AV×aa) :=
 match args with
 | .int .i64 x::C=>.reqP (Q x C H) (.ok (.bool (P x),H))
 | _=>.bad
noncomputable def TJ (f:FuncId) (P:Int→Bool) (Q:Int→List AV→aa→Prop):ni:=nj aH f (gC P Q)
theorem Fi {k:Nat} {f:FuncId} {P:Int→Bool} {Q:Int→List AV→aa→Prop} (h:∀ x C H,Q x C H→cd k (.fn f) (.int .i64 x::C) H=some (.bool (P x),H)):(TJ f P Q).Ok (cd k):=by
 refine xA (bj _) (fun args H x hx=>?_);unfold gC at hx;split at hx
 · obtain ⟨h1,h2⟩:=Tr.gp hx;rw[h _ _ _ h1,← Tr.ab h2]
 · exact (Tr.ag hx).elim
def Cr (p:Nat→Bool) (m:Nat):Int:=if dx p m=true then (fN p m 0:Int) else -1
theorem A2 (p:Nat→Bool) (k:Nat):dJ (Int.ofNat 0) (Cr p k)=dx p k:=by
 rw[bn];unfold Cr;cases h:dx p k with
 | true =>
   rw[if_pos rfl];simp only[Int.ofNat_eq_natCast,decide_eq_true_eq];omega
 | false=>rw[if_neg (by decide)];rfl
theorem wa {p:Nat→Bool} {k:Nat} (h:∀ j,j<k→p j=false):dx p k=false:=by
 cases e:dx p k with
 | false=>rfl
 | true =>
   obtain ⟨j,hj,e2⟩:=(cP _ _).1 e;rw[h j hj] at e2;cases e2
theorem oP {p:Nat→Bool} {k:Nat} (h:dx p k=false):∀ j,j<k→p j=false:=fun j hj=>by
 cases e:p j with
 | false=>rfl
 | true=>rw[(cP _ _).2 ⟨j,hj,e⟩] at h;cases h
def MX:List AV→Option (Prop×AV)
 | []=>some (True,.bool true)
 | _=>none
theorem Uh (n:Nat) (H:aa):cd (n+1) (.fn 15) [] H=some (.bool true,H):=by unfold cd c6;rfl
theorem TK {c:Nat} {t:ni} (h:0<c) (ht:t.Ok (cd c)):(jV t 15 MX).Ok (cd c):=by
 obtain ⟨m,rfl⟩:∃ m,c=m+1:=⟨c-1,by omega⟩
 refine lV ht (fun args p v hg hp H=>?_);unfold MX at hg;split at hg
 · simp only[nP] at hg;obtain ⟨_,rfl⟩:=hg;exact Uh _ H
 · cases hg
noncomputable def slA (n len:Nat) (z:Nat→Int):AV:=.slcT none (.M [.arr .i64 z (fF len n)]) n len false
noncomputable def bG (dr:Int) (lc:Nat) (zc:Nat→Int) (lb:Nat) (zb:Nat→Int):AV:=.agg (.G [.int .i64 dr,slA 4 lc zc,slA 2 lb zb])
noncomputable def shR (dr:Int) (lc:Nat) (zc:Nat→Int) (lb:Nat) (zb:Nat→Int) (W B:Nat→Int):Row:=.M [.one (.int .i64 dr),.one (slA 4 lc zc),.one (slA 2 lb zb),.arr .i64 W 20,.arr .u64 B 10]
noncomputable def shV (dr:Int) (lc:Nat) (zc:Nat→Int) (lb:Nat) (zb:Nat→Int) (W B:Nat→Int):AV:=.ptrT none (shR dr lc zc lb zb W B) 0
noncomputable def eV (dr:Int) (lc:Nat) (zc:Nat→Int) (lb:Nat) (zb:Nat→Int):an:=.row (.G [.int .i64 dr,slA 4 lc zc,slA 2 lb zb])
theorem oI {c:Nat} {f:FuncId} {args:List AV} {H:aa} {x:AV×aa} (h:gO (cd c) f args H=some x):cd (c+1) (.fn f) args H=some x:=by
 unfold cd c6;unfold cd at h;rw[h]
theorem P0 (n:Nat) (dr:Int) (lc:Nat) (zc:Nat→Int) (lb:Nat) (zb:Nat→Int) (W B:Nat→Int) (H:aa) (hl:lc≤10):cd (n+1) (.fn 73) [shV dr lc zc lb zb W B] H=some (.int .i64 (Q.cntF lc W B),H) :=
 oI (HO (dr:=dr) (zc:=zc) (lb:=lb) (zb:=zb) (W:=W) (B:=B) hl)
end Go.Eng
end
section
namespace Go.Eng
open Go.Proofs
noncomputable def uh (lo hi:Int):bF:=⟨false,[(0,.row (.I .i64 [lo])),(0,.row (.I .i64 [hi]))]⟩
noncomputable def f84 (d:Nat):AV:=.fn (.func 84) [] [.ptr d 0 0 0,.ptr d 1 0 0]
noncomputable def DM (k:Nat) (b:Nat→Int) (full:Bool) (j:Int):aD:=[(0,aY k b full),(1,f84 2),(7,.int .i64 (Int.ofNat k)),(8,.int .i64 j)]
theorem W8 (n:Nat) (lo hi:Int) (H:aa) (x:Int):bk Tryd.prog (cd n) 100000 84 Tryd.f84 (KtG.kt 84) (il aH n 0) aS aR [(.int .i64 x,none),(.ptr 2 0 0 0,none),(.ptr 2 1 0 0,none)] (ar::ar::uh lo hi::H) =
 Tr.ite (bH x lo) (Tr.ok ((AV.bool true,some 1),ar::ar::(bC [(0,an.row (Row.I .i64 [lo])),(0,an.row (Row.I .i64 [hi]))])::H)) (Tr.ok ((AV.bool (bH hi x),none),ar::ar::(bC [(0,an.row (Row.I .i64 [lo])),(0,an.row (Row.I .i64 [hi]))])::H)):=by kernel_rfl
theorem t99 (n k:Nat) (b:Nat→Int) (full:Bool) (lo hi:Int) (P:Int→Bool) (Q:Int→List AV→aa→Prop) (H:aa) (j:Int):aJ (bP n 99 19) (il (TJ 84 P Q) n 0) aS aR (part Tryd.f99 [1,0,1,0,0]) (hints (DM k b full j)) (ar::ar::uh lo hi::H) =
 (fun (Z0:bF)=>Tr.ite (bH j (Int.ofNat k)) (Tr.req (bR j k) (Tr.req (cH (av 0 j 1) k) (Tr.reqP (Q (b (av 0 j 1)) [AV.ptr 2 0 0 0,AV.ptr 2 1 0 0] (ar::ar::Z0::H)) (Tr.ite (P (b (av 0 j 1))) (Tr.ok (Ex.ret,[(4,AV.int .i64 j,none)],ar::ar::Z0::H)) (Tr.ok (Ex.normal,[(0,AV.slcT none (rM b k) 1 k full,none),(1,AV.fn (Fn.func 84) [] [AV.ptr 2 0 0 0,AV.ptr 2 1 0 0],none),(7,iI k,none),(8,AV.int .i64 (a6 .i64 j (Int.ofNat 1)),none)],ar::ar::Z0::H)))))) (Tr.ok (Ex.exit 0,[(0,AV.slcT none (rM b k) 1 k full,none),(1,AV.fn (Fn.func 84) [] [AV.ptr 2 0 0 0,AV.ptr 2 1 0 0],none),(7,iI k,none),(8,AV.int .i64 j,none),(9,AV.bool false,some 1)],ar::ar::Z0::H))) (bC [(0,an.row (Row.I .i64 [lo])),(0,an.row (Row.I .i64 [hi]))]):=by kernel_rfl
theorem Xg (n k:Nat) (b:Nat→Int) (full:Bool) (lo hi:Int) (H:aa) (x:Bool) (r:Nat):bk Tryd.prog (cd n) 100000 99 Tryd.f99 (KtG.kt 99) (il aH n 0) (cM aS 0 (DM k b full 0) (ar::ar::uh lo hi::H) (.ite x (.ok (.ret,[(4,.int .i64 (Int.ofNat r),none)],ar::ar::uh lo hi::H)) (.ok (.normal,hints (DM k b full (Int.ofNat k)++[(9,.bool false)]),ar::ar::uh lo hi::H)))) aR [(aY k b full,none),(f84 1,none)] (ar::uh lo hi::H) =
 (fun (Z0:bF)=>((fun (Z1:aD)=>Tr.reqP (Z1=Z1∧ar::ar::Z0::H=ar::ar::Z0::H) (Tr.ite x (Tr.ok ((iI r,none),ar::Z0::H)) (Tr.ok ((AV.int .i64 (Int.negSucc 0),some 1),ar::Z0::H)))) [(0,AV.slcT none (rM b k) 1 k full),(1,AV.fn (Fn.func 84) [] [AV.ptr 2 0 0 0,AV.ptr 2 1 0 0]),(7,iI k),(8,iI 0)])) (bC [(0,an.row (Row.I .i64 [lo])),(0,an.row (Row.I .i64 [hi]))]):=by kernel_rfl
theorem W7 (n k:Nat) (b:Nat→Int) (full:Bool) (lo hi:Int) (H:aa) (r:Int):bk Tryd.prog (cd n) 100000 83 Tryd.f83 (KtG.kt 83) (il (se aH 99 [aY k b full,f84 1] (ar::uh lo hi::H) (.ok (.int .i64 r,ar::uh lo hi::H))) n 0) aS aR [(aY k b full,none),(f84 0,none)] (uh lo hi::H) =
 (fun (Z0:bF)=>((fun (Z1:List AV)=>Tr.reqP (Z1=Z1∧ar::Z0::H=ar::Z0::H) (Tr.ok ((AV.bool (dJ (Int.ofNat 0) r),none),Z0::H))) [AV.slcT none (rM b k) 1 k full,AV.fn (Fn.func 84) [] [AV.ptr 1 0 0 0,AV.ptr 1 1 0 0]])) (bC [(0,an.row (Row.I .i64 [lo])),(0,an.row (Row.I .i64 [hi]))]):=by kernel_rfl
theorem WV (n k:Nat) (b:Nat→Int) (full:Bool) (lo hi:Int) (H:aa) (e:Bool):bk Tryd.prog (cd n) 100000 59 Tryd.f59 (KtG.kt 59) (il (se aH 83 [aY k b full,f84 0] (uh lo hi::H) (.ok (.bool e,uh lo hi::H))) n 0) aS aR [(.int .i64 lo,none),(.int .i64 hi,none),(aY k b full,none)] H =
 (fun (Z0:List AV)=>Tr.reqP (Z0=Z0∧(bC [(0,an.row (Row.I .i64 [lo])),(0,an.row (Row.I .i64 [hi]))])::H=(bC [(0,an.row (Row.I .i64 [lo])),(0,an.row (Row.I .i64 [hi]))])::H) (Tr.ok ((AV.bool (aE e),none),H))) [AV.slcT none (rM b k) 1 k full,AV.fn (Fn.func 84) [] [AV.ptr 0 0 0 0,AV.ptr 0 1 0 0]]:=by kernel_rfl
theorem Ue:∀ b,(0,b) ∈ aL (aV Tryd.f99)→b=.loop (part Tryd.f99 [1,0,1,0,0]):=ey (by kernel_rfl)
def ku (lo hi x:Int):Bool:=decide (x<lo) || decide (hi<x)
section
variable (n k:Nat) (b:Nat→Int) (full:Bool) (lo hi:Int) (H:aa)
theorem Uz (x:Int):cd (n+1) (.fn 84) [.int .i64 x,.ptr 2 0 0 0,.ptr 2 1 0 0] (ar::ar::uh lo hi::H)=some (.bool (ku lo hi x),ar::ar::uh lo hi::H):=by
 have hp:ku lo hi x=(decide (x<lo) || decide (hi<x)):=rfl;rw[hp];refine bB (n:=n) Tryd.func84 rfl rfl rfl (W8 n lo hi H x) (aw n) (ai _ _) (aj _ _) ?_;rw[bK,bK];refine Tr.af (fun hc=>Tr.ah ⟨?_,rfl⟩) (fun hc=>Tr.ah ⟨?_,rfl⟩)
 · rw[hc];rfl
 · rw[hc];rfl
theorem Uy (hk:k≤1000):cd (n+4) (.fn 83) [aY k b full,f84 0] (uh lo hi::H)=some (.bool (dx (fun j=>ku lo hi (b j)) k),uh lo hi::H):=by
 have hQ:∀ q x C H',(C=[.ptr 2 0 0 0,.ptr 2 1 0 0]∧H'=ar::ar::uh lo hi::H)→cd (n+2+q) (.fn 84) (.int .i64 x::C) H'=some (.bool (ku lo hi x),H'):=by
  rintro q x C H' ⟨rfl,rfl⟩;rw[show n+2+q=n+1+q+1 by omega];exact Uz _ lo hi H x
 have hx:=iu (n:=n+2) (f:=99) (nt:=19) (c:=part Tryd.f99 [1,0,1,0,0]) 0 (fun j=>DM k b full (j:Int)) (fun _=>ar::ar::uh lo hi::H) k (fun j=>ku lo hi (b j)) (fun j=>([(4,.int .i64 (j:Nat))],ar::ar::uh lo hi::H)) (DM k b full (Int.ofNat k)++[(9,.bool false)],ar::ar::uh lo hi::H) (by omega) (fun j hj=>?_) ?_
 · have h99:cd (n+3) (.fn 99) [aY k b full,f84 1] (ar::uh lo hi::H)=some (.int .i64 (Cr (fun j=>ku lo hi (b j)) k),ar::uh lo hi::H):=by
    refine bB (n:=n+2) Tryd.func99 rfl rfl rfl (Xg (n+2) k b full lo hi H (dx (fun j=>ku lo hi (b j)) k) (fN (fun j=>ku lo hi (b j)) k 0)) (aw _) (a8 (ai _ _) Ue (fun x h=>dq h hx)) (aj _ _) ?_;refine Tr.al ⟨rfl,rfl⟩ (Tr.af (fun hc=>Tr.ah ⟨?_,rfl⟩) (fun hc=>Tr.ah ⟨?_,rfl⟩))
    · unfold Cr;rw[if_pos hc];rfl
    · unfold Cr;rw[if_neg (by rw[hc];decide)];rfl
   refine bB (n:=n+3) Tryd.func83 rfl rfl rfl (W7 (n+3) k b full lo hi H (Cr (fun j=>ku lo hi (b j)) k)) (bM _ (n+3) (dN (bj _) (fun x hy=>by rw[← Tr.ab hy];exact h99))) (ai _ _) (aj _ _) ?_;refine Tr.al ⟨rfl,rfl⟩ (Tr.ah ⟨?_,rfl⟩);rw[A2]
 · refine aB (t99 (n+2) k b full lo hi (ku lo hi) _ H (j:Int)) (kg _ (n+2) 0 (fun q=>Fi (hQ q))) (ai _ _) (aj _ _) ?_;show Tr.all _ (fun x=>if ku lo hi (b j)=true then _ else _);rw[eN (by omega),Aj];cases hp:ku lo hi (b j) with
   | true =>
     simp only[if_true];refine Tr.af (fun hc=>?_) (fun hc=>?_)
     · repeat' first | (refine Tr.af (fun hc=>?_) (fun hc=>?_)<;>(try simp (disch:=omega) only[nV,nW] at hc)<;>(try (exfalso;omega))) | (refine Tr.ae ?_ ?_;· ((try simp (disch:=omega) only[nV,nW]);try omega)) | (refine Tr.al ?_ ?_;· first | exact trivial | rfl | exact ⟨rfl,rfl⟩ | exact ⟨trivial,rfl⟩ | exact ⟨rfl,by assumption⟩ | exact ⟨trivial,by assumption⟩ | exact ⟨rfl,rfl,rfl⟩ | (simp (disch:=omega) only[nV,nW];done) | ((try simp (disch:=omega) only[nV,nW]);omega)) | fail
       all_goals first
        | exact ⟨rfl,rfl⟩
        | (refine Tr.al ⟨trivial,rfl⟩ ?_
           exact wF)
        | exact Tr.ah rfl
        | fail
     · simp (disch:=omega) only[nV,nW] at hc;omega
   | false =>
     simp only[Bool.false_eq_true,if_false];refine Tr.af (fun hc=>?_) (fun hc=>?_)
     · repeat' first | (refine Tr.af (fun hc=>?_) (fun hc=>?_)<;>(try simp (disch:=omega) only[nV,nW] at hc)<;>(try (exfalso;omega))) | (refine Tr.ae ?_ ?_;· ((try simp (disch:=omega) only[nV,nW]);try omega)) | (refine Tr.al ?_ ?_;· first | exact trivial | rfl | exact ⟨rfl,rfl⟩ | exact ⟨trivial,rfl⟩ | exact ⟨rfl,by assumption⟩ | exact ⟨trivial,by assumption⟩ | exact ⟨rfl,rfl,rfl⟩ | (simp (disch:=omega) only[nV,nW];done) | ((try simp (disch:=omega) only[nV,nW]);omega)) | fail
       all_goals first
        | exact ⟨rfl,rfl⟩
        | (refine Tr.al ⟨trivial,rfl⟩ ?_
           exact wF)
        | exact Tr.ah ⟨rfl,rfl⟩
        | fail
     · simp (disch:=omega) only[nV,nW] at hc;omega
 · obtain ⟨x,h1,rfl⟩:=aB (Q:=fun x=>x=(.exit 0,DM k b full (Int.ofNat k)++[(9,.bool false)],ar::ar::uh lo hi::H)) (t99 (n+2) k b full lo hi (ku lo hi) _ H (Int.ofNat k)) (kg _ (n+2) 0 (fun q=>Fi (hQ q))) (ai _ _) (aj _ _) (by
    refine Tr.af (fun hc=>?_) (fun hc=>Tr.ah rfl);simp (disch:=omega) only[nV,nW] at hc;omega)
   exact h1
theorem Uo (hk:k≤1000):cd (n+5) (.fn 59) [.int .i64 lo,.int .i64 hi,aY k b full] H=some (.bool (!dx (fun j=>ku lo hi (b j)) k),H):=by
 have h:=Uy n k b full lo hi H hk;refine oU (n:=n+4) Tryd.func59 rfl (fun _ _=>rfl) rfl (WV (n+4) k b full lo hi H (dx (fun j=>ku lo hi (b j)) k)) (bM _ (n+4) (dN (bj _) (fun x hy=>by rw[← Tr.ab hy];exact h))) (ai _ _) (aj _ _) ?_;rw[aM];exact wF
end
noncomputable def PA (lo hi:Int):List Int→Bool
 | []=>true
 | x::r=>bJ (bJ (dJ lo x) (dJ x hi)) (PA lo hi r)
theorem LO (lo hi:Int) (l:List Int):(!dx (fun j=>ku lo hi (az l j)) l.length)=PA lo hi l:=by
 rw[fT];induction l with
 | nil=>rfl
 | cons x r ih =>
   have e:dx (fun j=>ku lo hi ((fun j=>(x::r).getD j 0) j)) (r.length+1)=(ku lo hi x || dx (fun j=>ku lo hi ((fun j=>r.getD j 0) j)) r.length):=by
    rw[Bool.eq_iff_iff,Bool.or_eq_true,cP,cP];constructor
    · rintro ⟨i,h1,h2⟩;cases i with
      | zero=>exact .inl h2
      | succ i=>exact .inr ⟨i,by omega,h2⟩
    · rintro (h | ⟨i,h1,h2⟩)
      · exact ⟨0,by omega,h⟩
      · exact ⟨i+1,by omega,h2⟩
   show (!dx _ (r.length+1))=_;rw[e,Bool.not_or,ih];show _=bJ (bJ (dJ lo x) (dJ x hi)) (PA lo hi r);rw[cg,cg,bn,bn];congr 1;unfold ku;by_cases h1:lo≤x
   · rw[decide_eq_true h1,decide_eq_false (by omega)];by_cases h2:x≤hi
     · rw[decide_eq_true h2,decide_eq_false (by omega)];rfl
     · rw[decide_eq_false h2,decide_eq_true (by omega)];rfl
   · rw[decide_eq_false h1,decide_eq_true (by omega)];rfl
noncomputable def gW (args:List AV) (H:aa):Tr (AV×aa) :=
 match args with
 | [.int .i64 lo,.int .i64 hi,.slc d i ver 0 1 k cap]=>match cO H d i ver with
   | some (.I .i64 l)=>cond (Nat.beq l.length k && Nat.ble k 1000) (.ok (.bool (PA lo hi l),H)) .bad
   | _=>.bad
 | _=>.bad
theorem xY {n:Nat} {t:ni} (ht:t.Ok (cd (n+6))):(nj t 59 gW).Ok (cd (n+6)):=by
 refine xA ht (fun args H x hx=>?_);unfold gW at hx;split at hx;case h_2=>exact (Tr.ag hx).elim
 rename_i lo hi d i ver k cap;split at hx;case h_2=>exact (Tr.ag hx).elim
 rename_i l hr;cases hc:(Nat.beq l.length k && Nat.ble k 1000) with
 | false=>rw[hc] at hx;exact (Tr.ag hx).elim
 | true =>
   rw[hc,cond_true] at hx;rw[Bool.and_eq_true] at hc;have hk:l.length=k:=Nat.eq_of_beq_eq_true hc.1;have hk2:=Nat.le_of_ble_eq_true hc.2;subst hk;rw[← Tr.ab hx];refine oI ?_;show OM (cd (n+5)) 59 [.int .i64 lo,.int .i64 hi,.slc d i ver 0 1 l.length cap] H=_;unfold OM;simp only[hr,if_true];have:=Uo n l.length (az l) false lo hi [⟨true,[]⟩] hk2;have e:aY l.length (az l) false=.slcT none (.M [.arr .i64 (az l) l.length]) 1 l.length false:=rfl;rw[e] at this;rw[this,LO];rfl
end Go.Eng
end
section
namespace Go.Eng
open Go.Proofs
noncomputable def DK (l:Nat) (z:Nat→Int) (j:Int):aD:=[(0,slA 4 l z),(1,.fn (.func 58) [] []),(7,.int .i64 (Int.ofNat l)),(8,.int .i64 j)]
theorem t85 (n:Nat) (l:Nat) (z:Nat→Int) (H:aa) (j:Int):aJ (bP (n+8) 85 19) (il (nj aH 59 gW) (n+6) 2) aS aR (part Tryd.f85 [1,0,1,0,0]) (hints (DK l z j)) (ar::H) =
 Tr.ite (bH j (Int.ofNat l)) (Tr.req (bR j l) (Tr.req (cH (av 0 j 4) (bU l 4)) (Tr.req (cH (aq (av 0 j 4) 1) (bU l 4)) (Tr.req (cH (aq (av 0 j 4) 2) (bU l 4)) (Tr.req (cH (aq (av 0 j 4) 3) (bU l 4)) (Tr.ite (aE (bJ (bJ (dJ (Int.ofNat 0) (z (av 0 j 4))) (dJ (z (av 0 j 4)) (Int.ofNat 1000))) (bJ (bJ (dJ (Int.ofNat 0) (z (aq (av 0 j 4) 1))) (dJ (z (aq (av 0 j 4) 1)) (Int.ofNat 1000))) (bJ (bJ (dJ (Int.ofNat 0) (z (aq (av 0 j 4) 2))) (dJ (z (aq (av 0 j 4) 2)) (Int.ofNat 1000))) (bJ (bJ (dJ (Int.ofNat 0) (z (aq (av 0 j 4) 3))) (dJ (z (aq (av 0 j 4) 3)) (Int.ofNat 1000))) true))))) (Tr.ok (Ex.ret,[(4,AV.int .i64 j,none)],ar::H)) (Tr.ite (bH (z (aq (av 0 j 4) 1)) (z (av 0 j 4))) (Tr.ok (Ex.ret,[(4,AV.int .i64 j,none)],ar::H)) (Tr.ite (bH (z (aq (av 0 j 4) 3)) (z (aq (av 0 j 4) 2))) (Tr.ok (Ex.ret,[(4,AV.int .i64 j,none)],ar::H)) (Tr.ok (Ex.normal,[(0,slA 4 l z,none),(1,AV.fn (Fn.func 58) [] [],none),(7,iI l,none),(8,AV.int .i64 (a6 .i64 j (Int.ofNat 1)),none)],ar::H)))))))))) (Tr.ok (Ex.exit 0,[(0,slA 4 l z,none),(1,AV.fn (Fn.func 58) [] [],none),(7,iI l,none),(8,AV.int .i64 j,none),(9,AV.bool false,some 1)],ar::H)):=by kernel_rfl
theorem W9 (n:Nat) (l:Nat) (z:Nat→Int) (H:aa) (i:Int) (e:Bool):bk Tryd.prog (cd (n+8)) 100000 85 Tryd.f85 (KtG.kt 85) (il aH (n+8) 0) (cM aS 0 (DK l z 0) (ar::H) (.ite e (.ok (.ret,[(4,.int .i64 i,none)],ar::H)) (.ok (.normal,hints (DK l z (Int.ofNat l)++[(9,.bool false)]),ar::H)))) aR [(slA 4 l z,none),(.fn (.func 58) [] [],none)] H =
 Tr.reqP ([(0,slA 4 l z),(1,AV.fn (Fn.func 58) [] []),(7,iI l),(8,iI 0)]=[(0,slA 4 l z),(1,AV.fn (Fn.func 58) [] []),(7,iI l),(8,iI 0)]∧ar::H=ar::H) (Tr.ite e (Tr.ok ((AV.int .i64 i,none),H)) (Tr.ok ((AV.int .i64 (Int.negSucc 0),some 1),H))):=by kernel_rfl
theorem WW (n:Nat) (l:Nat) (z:Nat→Int) (H:aa) (i:Int):bk Tryd.prog (cd (n+9)) 100000 60 Tryd.f60 (KtG.kt 60) (il (tX aH 85 [slA 4 l z,.fn (.func 58) [] []] (.int .i64 i)) (n+9) 0) aS aR [(slA 4 l z,none),(.fn (.func 58) [] [],none)] H =
 Tr.reqP ([slA 4 l z,AV.fn (Fn.func 58) [] []]=[slA 4 l z,AV.fn (Fn.func 58) [] []]) (Tr.ok ((AV.bool (dJ (Int.ofNat 0) i),none),H)):=by kernel_rfl
def jn (z:Nat→Int) (j:Nat):Bool:=!(decide (0≤z (j*4)) && (decide (z (j*4)≤z (j*4+1)) && (decide (z (j*4+1)≤1000) && (decide (0≤z (j*4+2)) && (decide (z (j*4+2)≤z (j*4+3)) && decide (z (j*4+3)≤1000))))))
theorem T8:∀ b,(0,b) ∈ aL (aV Tryd.f85)→b=.loop (part Tryd.f85 [1,0,1,0,0]):=ey (by kernel_rfl)
section
variable (n:Nat) (l:Nat) (z:Nat→Int) (H:aa)
theorem TM (n k:Nat):(il (nj aH 59 gW) (n+6) k).Ok (cd (n+6+k)):=kg _ _ _ (fun q=>by rw[show n+6+q=n+q+6 by omega];exact xY (bj _))
theorem UA (hl:l≤1000):cd (n+9) (.fn 85) [slA 4 l z,.fn (.func 58) [] []] H=some (.int .i64 (Cr (jn z) l),H):=by
 have lp:=iu (n:=n+8) (f:=85) (nt:=19) (c:=part Tryd.f85 [1,0,1,0,0]) 0 (fun j=>DK l z (j:Int)) (fun _=>ar::H) l (jn z) (fun j=>([(4,.int .i64 (j:Int))],ar::H)) (DK l z (Int.ofNat l)++[(9,.bool false)],ar::H) (by omega) (fun j hj=>?_) ?_
 · refine bB (n:=n+8) Tryd.func85 rfl rfl rfl (W9 n l z H ((fN (jn z) l 0:Nat):Int) (dx (jn z) l)) (fc (n+8) 0) (a8 (ai _ _) T8 (fun x hx=>dq hx lp)) (aj _ _) ?_;repeat' first | (refine Tr.af (fun hc=>?_) (fun hc=>?_)<;>(try simp (disch:=omega) only[nV,nW] at hc)<;>(try (exfalso;omega))) | (refine Tr.ae ?_ ?_;· ((try simp (disch:=omega) only[nV,nW]);try omega)) | (refine Tr.al ?_ ?_;· first | exact trivial | rfl | exact ⟨rfl,rfl⟩ | exact ⟨trivial,rfl⟩ | exact ⟨rfl,by assumption⟩ | exact ⟨trivial,by assumption⟩ | exact ⟨rfl,rfl,rfl⟩ | (simp (disch:=omega) only[nV,nW];done) | ((try simp (disch:=omega) only[nV,nW]);omega)) | fail
   all_goals refine Tr.ah ⟨?_,rfl⟩
   · unfold Cr;rw[if_pos hc]
   · unfold Cr;rw[if_neg (by rw[hc];decide)];rfl
 · have ej:a6 .i64 (j:Int) (Int.ofNat 1)=((j+1:Nat):Int):=eN (by omega);have ei:av 0 (j:Int) 4=j*4:=by rw[bE];omega
   have hs:jn z j=!(decide (0≤z (j*4)) && (decide (z (j*4)≤z (j*4+1)) && (decide (z (j*4+1)≤1000) && (decide (0≤z (j*4+2)) && (decide (z (j*4+2)≤z (j*4+3)) && decide (z (j*4+3)≤1000)))))):=rfl;refine aB (t85 n l z H (j:Int)) (TM n 2) (ai _ _) (aj _ _) ?_;refine Tr.af (fun h0=>?_) wJ;refine Tr.ae wG (Tr.ae (by rw[ei];simp (disch:=omega) only[nV,nW];omega) (Tr.ae (by rw[ei];simp (disch:=omega) only[nV,nW];omega) (Tr.ae (by rw[ei];simp (disch:=omega) only[nV,nW];omega) (Tr.ae (by rw[ei];simp (disch:=omega) only[nV,nW];omega) ?_))));rw[ei,aK,aK,aK,ej];refine Tr.af (fun h1=>?_) (fun h1=>?_)
   · refine Tr.ah ?_;rw[if_pos (by rw[hs];simp[aM,cg,bn] at h1 ⊢;omega)];rfl
   · simp only[aM,cg,bn] at h1;simp at h1;refine Tr.af (fun h2=>?_) (fun h2=>?_)
     · rw[bK,decide_eq_true_eq] at h2;refine Tr.ah ?_;rw[if_pos (by rw[hs];simp;omega)];rfl
     · rw[bK,decide_eq_false_iff_not] at h2;refine Tr.af (fun h3=>?_) (fun h3=>?_)
       · rw[bK,decide_eq_true_eq] at h3;refine Tr.ah ?_;rw[if_pos (by rw[hs];simp;omega)];rfl
       · rw[bK,decide_eq_false_iff_not] at h3;refine Tr.ah ?_;rw[if_neg (by rw[hs];simp;omega)];exact ⟨rfl,rfl⟩
 · obtain ⟨x,h1,rfl⟩:=aB (Q:=fun x=>x=(.exit 0,DK l z (Int.ofNat l)++[(9,.bool false)],ar::H)) (t85 n l z H (Int.ofNat l)) (TM n 2) (ai _ _) (aj _ _) (by
    refine Tr.af wJ (fun h0=>Tr.ah rfl))
   exact h1
theorem Up (hl:l≤1000):cd (n+10) (.fn 60) [slA 4 l z,.fn (.func 58) [] []] H=some (.bool (dx (jn z) l),H):=by
 have h:=fun H=>UA n l z H hl;refine bB (n:=n+9) Tryd.func60 rfl rfl rfl (WW n l z H (Cr (jn z) l)) (bM _ (n+9) (dk (bj _) h)) (ai _ _) (aj _ _) ?_;refine Tr.al rfl (Tr.ah ⟨?_,rfl⟩);rw[A2]
end
end Go.Eng
end
