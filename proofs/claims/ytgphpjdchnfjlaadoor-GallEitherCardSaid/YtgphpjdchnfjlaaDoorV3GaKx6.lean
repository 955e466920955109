/- Gall: closed calls: what they lean on; counts of shelves that are known. -/
import Derived.Test.YtgphpjdchnfjlaaDoorV3Gq5x5
import Derived.Test.YtgphpjdchnfjlaaDoorV3Gp2x6
import Derived.Test.YtgphpjdchnfjlaaDoorV3EngThx10
import Derived.Test.YtgphpjdchnfjlaaDoorV3EngTkx3
import Derived.Test.YtgphpjdchnfjlaaDoorV3EngRnFx7
import Derived.Test.YtgphpjdchnfjlaaDoorV3EngRoSx4
set_option linter.unusedVariables false
set_option linter.unusedSimpArgs false
set_option maxRecDepth 100000
section
namespace Go.Eng.Gall
open Go.Proofs Go.Eng.Q
theorem named:dM Tryd.prog:=by
 have h:(Tryd.prog.funcs.toList.all fun fn=>fn.body.isNone || !(fn.name == "runtime.NumGoroutine"))=true:=by kernel_rfl
 intro f fn hf hb;have:=List.all_eq_true.1 h fn (by simpa using Array.mem_of_getElem? hf);rw[hb] at this;simpa using this
theorem mixed:Tryd.prog.follows .mixedOrders=true:=by kernel_rfl
theorem Jh:∀ e ∈ ([]:List cE),aG Tryd.prog e:=fun e h=>by cases h
theorem a6 {e:cE} {t:List cE} (h:aG Tryd.prog e) (k:∀ x ∈ t,aG Tryd.prog x):∀ x ∈ e::t,aG Tryd.prog x:=fun x hx=>by
 rcases List.mem_cons.1 hx with rfl | hx
 · exact h
 · exact k x hx
def U7:List AV→Bool
 | .ptr _ _ _ _::_=>true
 | _=>false
noncomputable def vi (c:aO) (f:FuncId) (args:List AV) (H:ab):Option (AV×ab) :=
 cond (Nat.beq f 82) (FX args H) (cond (Nat.beq f 62) (Qy (oL Tryd.prog KtG.kt 100000 62 c args H)) (cond ((Nat.beq f 63 || Nat.beq f 65) && U7 args) (Pr c f args H) (cond (Nat.beq f 47) (oL Tryd.prog KtG.kt 100000 47 (Cl Tryd.prog KtG.kt 100000 46 c) args H) (cond (Nat.beq f 94 || Nat.beq f 100) (nR Tryd.prog KtG.kt 100000 f c args H) none))))
theorem Dy (hN:dM Tryd.prog) (hD:gn Tryd.prog):sg Tryd.prog vi:=fun call hC f args H v H' h hne p M w cargs hH hA=>by
 unfold vi at h;cases h82:Nat.beq f 82 with
 | true =>
   rw[h82,cond_true] at h;have:=Nat.eq_of_beq_eq_true h82;subst this;exact IC h hH hA
 | false =>
 rw[h82,cond_false] at h;cases h62:Nat.beq f 62 with
 | true =>
   rw[h62,cond_true] at h;have:=Nat.eq_of_beq_eq_true h62;subst this;unfold Qy at h;split at h;case h_2=>simp at h
   rename_i v1 H1 he;simp only[nP] at h;obtain ⟨rfl,rfl⟩:=h;obtain ⟨h1,h2⟩:=pN hN hD KtG.kt 100000 hC he hH hA;exact ⟨h1,h2.mono (fun _ _ h=>fc.NJ h)⟩
 | false =>
 rw[h62,cond_false] at h;cases hr:((Nat.beq f 63 || Nat.beq f 65) && U7 args) with
 | true =>
   rw[hr,cond_true] at h;exact MX hC h hH hA
 | false =>
 rw[hr,cond_false] at h;cases h47:Nat.beq f 47 with
 | true =>
   rw[h47,cond_true] at h;have:=Nat.eq_of_beq_eq_true h47;subst this;exact pN hN hD KtG.kt 100000 (Fe hN hD KtG.kt 100000 46 hC) h hH hA
 | false =>
 rw[h47,cond_false] at h;cases h94:(Nat.beq f 94 || Nat.beq f 100) with
 | true =>
   rw[h94,cond_true] at h;exact GX hN hD KtG.kt 100000 hC h hH hA
 | false=>rw[h94,cond_false] at h;cases h
noncomputable def MP (tab:List cE):aO→FuncId→List AV→ab→Option (AV×ab):=fun c f args H=>match BW tab c f args H with
 | some x=>some x
 | none=>vi c f args H
theorem Jq (hN:dM Tryd.prog) (hD:gn Tryd.prog) {tab:List cE} (hT:∀ e ∈ tab,aG Tryd.prog e):sg Tryd.prog (MP tab):=fun call hC f args H v H' h hne p M w cargs hH hA=>by
 unfold MP at h;split at h
 · rename_i x hx;simp only[Option.some.injEq] at h;subst h;exact xA tab hT call hC f args H v H' hx hne p M w cargs hH hA
 · exact Dy hN hD call hC f args H v H' h hne p M w cargs hH hA
theorem a7 {tab:List cE} (hT:∀ e ∈ tab,aG Tryd.prog e) {e:cE} {H':ab}
 (h:FJ Tryd.prog (MP tab) KtG.kt 100000 40 (.fn e.f) e.args [⟨true,[]⟩]=some (e.v,H')) (hn:e.args.all (tz 9)=true):aG Tryd.prog e:=by
 rw[D9] at h
 exact zu (m4 named (qg named mixed) (Jq named (qg named mixed) hT) KtG.kt 100000 40) h hn
theorem FK (n:Nat):b9 Tryd.prog (cd n):=m4 named (qg named mixed) xz KtG.kt 100000 n
theorem FQ (dr:Int) (lc:Nat) (zc:Nat→Int) (lb:Nat) (zb:Nat→Int) (W B:Nat→Int) (hl:lc≤10) {p:aM} {M:Mu} {H:ab} {w:World} {cargs:Array Value} (hH:bm p M H w) (hA:eT p M [shV dr lc zc lb zb W B] cargs) :
 (∃ fn,Tryd.prog.funcs[73]?=some fn∧fn.body.isNone=false)∧CallsIn Fence.wide 0 Tryd.prog 73 cargs w (fc p M H w (.int .i64 (cntF lc W B)) H) :=
 EL named (qg named mixed) Of KtG.kt 100000 (FK 3) (QX 2 dr lc zc lb zb W B hl H) hH hA
noncomputable def Vf (dr:Int) (lc:Nat) (zl:List Int) (lb:Nat) (bl:List Int) (f1 f2:Bool) (Wl Bl:List Int):AV:=.ptrT none (.G (.int .i64 dr::.slcT none (.I .i64 zl) 4 lc f1::.slcT none (.I .i64 bl) 2 lb f2::(Wl.map (.int .i64)++Bl.map (.int .u64)))) 0
theorem zX {p:aM} {M:Mu} {zl:List Int} {sz lc:Nat} {f:Bool} {c:Value} (hl:zl.length=bU lc sz) (h:al p M (.slcT none (.I .i64 zl) sz lc f) c):al p M (.slcT none (.M [.arr .i64 (az zl) (bU lc sz)]) sz lc false) c:=by
 cases h with
 | slcT vs hp h1 hv h2 h3 h4 =>
   have hlen:(Row.M [.arr .i64 (az zl) (bU lc sz)]).len=(Row.I .i64 zl).len:=by
    show bU lc sz+0=zl.length;omega
   refine .slcT vs (fun j hj=>hp j (by rw[← hlen];exact hj)) (fun j hj=>h1 j (by rw[← hlen];exact hj)) (fun j hj=>?_) h2 (fun e=>by cases e) h4;have hj':j<zl.length:=by rw[hlen] at hj;exact hj
   have:=hv j (by rw[← hlen];exact hj);have e:getM [.arr .i64 (az zl) (bU lc sz)] j=.int .i64 (zl.getD j 0):=by
    show (if j<bU lc sz then AV.int .i64 (az zl j) else _)=_;rw[if_pos (by omega),gN]
   show al p _ (getM [.arr .i64 (az zl) (bU lc sz)] j) (vs j);rw[e];exact this.bu _ _
 | slcN=>exact .slcN
theorem JL {p:aM} {M:Mu} {dr:Int} {lc:Nat} {zl:List Int} {lb:Nat} {bl:List Int} {f1 f2:Bool} {Wl Bl:List Int} {c:Value} (hz:zl.length=bU lc 4) (hb:bl.length=bU lb 2) (hW:Wl.length=20) (hB:Bl.length=10) (h:al p M (Vf dr lc zl lb bl f1 f2 Wl Bl) c):al p M (shV dr lc (az zl) lb (az bl) (az Wl) (az Bl)) c:=by
 cases h with
 | ptrT vs hp h1 hv =>
   have hlen:(shR dr lc (az zl) lb (az bl) (az Wl) (az Bl)).len=33:=rfl;have hlen':(Row.G (.int .i64 dr::.slcT none (.I .i64 zl) 4 lc f1::.slcT none (.I .i64 bl) 2 lb f2::(Wl.map (.int .i64)++Bl.map (.int .u64)))).len=33:=by simp[Row.len,hW,hB]
   refine .ptrT vs (fun j hj=>hp j (by rw[hlen'] ; rw[hlen] at hj;exact hj)) (fun j hj=>h1 j (by rw[hlen'] ; rw[hlen] at hj;exact hj)) (fun j hj=>?_);rw[hlen] at hj;have:=hv j (by rw[hlen'];exact hj);match j,hj,this with
   | 0,_,this=>exact this
   | 1,_,this=>exact zX hz this
   | 2,_,this=>exact zX hb this
   | j + 3,hj,this =>
     have this:al p _ ((Wl.map (AV.int .i64)++Bl.map (AV.int .u64)).getD j .undef) (vs (j+3)):=this;show al p _ (getM [.arr .i64 (az Wl) 20,.arr .u64 (az Bl) 10] j) (vs (j+3));by_cases hj20:j<20
     · have e:getM [.arr .i64 (az Wl) 20,.arr .u64 (az Bl) 10] j=.int .i64 (Wl.getD j 0):=by
        show (if j<20 then AV.int .i64 (az Wl j) else _)=_;rw[if_pos hj20,gN]
       have e2:(Wl.map (AV.int .i64)++Bl.map (AV.int .u64)).getD j .undef=.int .i64 (Wl.getD j 0):=by
        rw[List.getD_eq_getElem?_getD,List.getElem?_append_left (by simp;omega),List.getElem?_map,List.getD_eq_getElem?_getD,List.getElem?_eq_getElem (by omega)];rfl
       rw[e];rw[e2] at this;exact this.bu _ _
     · have e:getM [.arr .i64 (az Wl) 20,.arr .u64 (az Bl) 10] j=.int .u64 (Bl.getD (j-20) 0):=by
        show (if j<20 then AV.int .i64 (az Wl j) else (if j-20<10 then AV.int .u64 (az Bl (j-20)) else _))=_;rw[if_neg hj20,if_pos (by omega),gN]
       have e2:(Wl.map (AV.int .i64)++Bl.map (AV.int .u64)).getD j .undef=.int .u64 (Bl.getD (j-20) 0):=by
        rw[List.getD_eq_getElem?_getD,List.getElem?_append_right (by simp;omega),List.getElem?_map,List.length_map,hW,List.getD_eq_getElem?_getD,List.getElem?_eq_getElem (by omega)];rfl
       rw[e];rw[e2] at this;exact this.bu _ _
def S9 (Wl Bl:List Int) (k X c:Nat):Bool:=(BitVec.ofInt 64 (Bl.getD c 0) &&& ~~~(BitVec.ofNat 64 X)).toNat == 0 && (decide (Wl.getD (2*c) 0≤(k:Int)) && decide ((k:Int)≤Wl.getD (2*c+1) 0))
theorem G1 (Wl Bl:List Int):okW (az Wl) (az Bl)=S9 Wl Bl:=by
 funext k X c;unfold okW S9;rw[gN,gN,sj,bf,bf,aQ];congr 1;show (IntKind.u64.wrap (((BitVec.ofInt 64 (Bl.getD c 0) &&& ~~~(BitVec.ofInt 64 (X:Int))).toNat:Nat):Int) == 0)=_;rw[LN,jQ (BitVec.isLt _)];generalize (BitVec.ofInt 64 (Bl.getD c 0) &&& ~~~(BitVec.ofNat 64 X)).toNat=t;rw[Bool.eq_iff_iff,beq_iff_eq,beq_iff_eq];omega
def Q1 (lc:Nat) (Wl Bl:List Int):Nat:=(ro lc (S9 Wl Bl) lc).length
theorem G2 {dr:Int} {lc:Nat} {zl:List Int} {lb:Nat} {bl:List Int} {f1 f2:Bool} {Wl Bl:List Int} {A:AV} {v:Nat} (hA:A=Vf dr lc zl lb bl f1 f2 Wl Bl) (hl:lc≤10) (hz:zl.length=lc*4) (hb:bl.length=lb*2) (hW:Wl.length=20) (hB:Bl.length=10) (hv:Q1 lc Wl Bl=v):aG Tryd.prog ⟨73,[A],.int .i64 (v:Int)⟩:=by
 intro H hne p M w cargs hH hC;have e:cntF lc (az Wl) (az Bl)=(v:Int):=by unfold cntF;rw[G1];exact congrArg Int.ofNat hv
 rw[← e];refine FQ dr lc (az zl) lb (az bl) (az Wl) (az Bl) hl hH ⟨hC.1,fun j hj=>?_⟩;have hC2:=hC.2 j hj;subst hA;have:j=0:=by simp at hj;omega
 subst this;exact JL (by rw[jI];exact hz) (by rw[jI];exact hb) hW hB hC2
end Go.Eng.Gall
end
section
namespace Go.Eng
open Go.Proofs Go.ChangeShapes
open Go.Eng.Q (shV shR slA cntF okW)
noncomputable def Iw (args:List AV) (H:ab):Option (AV×ab) :=
 match args with
 | [.ptrT none (.M [.one (.int .i64 dr),.one (.slcT none (.M [.arr .i64 zc n1]) 4 lc false),.one (.slcT none (.M [.arr .i64 zb n2]) 2 lb false),.arr .i64 W 20,.arr .u64 B 10]) 0]=>if lc≤10∧n1=fP lc 4∧n2=fP lb 2 then some (.int .i64 (cntF lc W B),H) else none
 | _=>none
theorem Ix {dr:Int} {lc:Nat} {zc:Nat→Int} {lb:Nat} {zb:Nat→Int} {W B:Nat→Int} {H:ab} (hl:lc≤10):Iw [shV dr lc zc lb zb W B] H=some (.int .i64 (cntF lc W B),H):=by
 show (if lc≤10∧fP lc 4=fP lc 4∧fP lb 2=fP lb 2 then some (AV.int .i64 (cntF lc W B),H) else none)=_;rw[if_pos ⟨hl,rfl,rfl⟩]
theorem Iy {args:List AV} {H:ab} {v:AV} {H':ab} (h:Iw args H=some (v,H')) {p:aM} {M:Mu} {w:World} {cargs:Array Value} (hH:bm p M H w) (hA:eT p M args cargs):(∃ fn,Tryd.prog.funcs[73]?=some fn∧fn.body.isNone=false)∧CallsIn Fence.wide 0 Tryd.prog 73 cargs w (fc p M H w v H'):=by
 unfold Iw at h;split at h;case h_2=>simp at h
 rename_i dr zc n1 lc zb n2 lb W B;split at h;case isFalse=>simp at h
 rename_i hc;obtain ⟨hl,rfl,rfl⟩:=hc;simp only[nP] at h;obtain ⟨rfl,rfl⟩:=h;exact Gall.FQ dr lc zc lb zb W B hl hH hA
def Kq:List AV→Bool
 | [_,_,.slc _ _ _ _ _ _ _]=>true
 | _=>false
def EF:AV→AV
 | .tup l=>.tup (l.map jJ)
 | v=>jJ v
theorem GV {p:aM} {M:Mu} {v:AV} {c:Value} (h:al p M v c):al p M (EF v) c:=by
 unfold EF;split
 · rename_i l;cases h with
   | tup hs hv =>
     refine .tup (by simpa using hs) (fun j hj=>?_);have hj':j<l.length:=by simpa using hj
     have:=kC (hv j hj');simpa[List.getD_eq_getElem?_getD,hj'] using this
 · exact kC h
def MJ (c:Option (AV×ab)):Option (AV×ab) :=
 match c with
 | some (v,H)=>some (EF v,H)
 | none=>none
theorem fc.XQ {p:aM} {M:Mu} {H H':ab} {w:World} {v:AV} {e:Ending} {w':World} (h:fc p M H w v H' e w'):fc p M H w (EF v) H' e w':=by
 obtain ⟨cv,h1,st,p',M',hE,hv⟩:=h;exact ⟨cv,h1,st,p',M',hE,GV hv⟩
noncomputable def ia:aO→FuncId→List AV→ab→Option (AV×ab):=fun call f args H=>cond (Nat.beq f 30 || Nat.beq f 38) (MJ (oL Tryd.prog KtG.kt 100000 f call args H)) <| cond (Nat.beq f 59 && Kq args) (Ps call f args H) (cond (Nat.beq f 73) (Iw args H) (cond (Nat.beq f 95) (Hp gm args H) (match Gall.vi call f args H with
 | some x=>some x
 | none=>tM [⟨15,[],.bool true⟩] call f args H)))
def H8 (f:FuncId):Bool:=(Nat.beq f 30 || Nat.beq f 38) || Nat.beq f 15 || Nat.beq f 1000000 || Nat.beq f 59 || Nat.beq f 73 || Nat.beq f 95 || Nat.beq f 82 || Nat.beq f 62 || Nat.beq f 63 || Nat.beq f 65 || Nat.beq f 47 || Nat.beq f 94 || Nat.beq f 100
noncomputable def cd (n:Nat):aO:=db Tryd.prog ia KtG.kt 100000 n
noncomputable def il (tab:mW) (n k:Nat):bt:=BE Tryd.prog ia KtG.kt 100000 H8 tab n k
noncomputable def bL (n:Nat) (f nt:Nat):Cx:=⟨Tryd.prog,cd n,100000,f,nt,KtG.kt f,none⟩
theorem KA {g:FuncId} (h:Nat.beq g 15=false) (h1:Nat.beq g 1000000=false) (c:aO) (args:List AV) (H:ab):tM [⟨15,[],.bool true⟩] c g args H=none:=by
 unfold tM;rw[h1,cond_false];simp only[BW];have:Nat.beq 15 g=false:=by
  cases hb:Nat.beq 15 g with
  | false=>rfl
  | true=>have:=Nat.eq_of_beq_eq_true hb;subst this;simp at h
 rw[this];rfl
theorem xu (g:FuncId) (h:H8 g=false) (c:aO) (args:List AV) (H:ab):ia c g args H=none:=by
 unfold H8 at h;simp only[Bool.or_eq_false_iff] at h;obtain ⟨⟨⟨⟨⟨⟨⟨⟨⟨⟨⟨⟨⟨h30,h38⟩,h15⟩,h0⟩,h59⟩,h73⟩,h95⟩,h82⟩,h62⟩,h63⟩,h65⟩,h47⟩,h94⟩,h100⟩:=h;have e:Gall.vi c g args H=none:=by
  unfold Gall.vi;rw[h82,h62,h63,h65,h47,h94,h100];rfl
 unfold ia;rw[h30,h38,h59,h73,h95,e];exact KA h15 h0 c args H
theorem nq (n:Nat):∃ x,db Tryd.prog ia KtG.kt 100000 n .mode [] []=some x:=by
 cases n<;>exact ⟨_,rfl⟩
theorem xz (hN:dM Tryd.prog) (hD:gn Tryd.prog) (hW:aG Tryd.prog ⟨15,[],.bool true⟩):sg Tryd.prog ia :=
 fun call hC f args H v H' h hne p M w cargs hH hA=>by
  unfold ia at h;cases h30:(Nat.beq f 30 || Nat.beq f 38) with
  | true =>
    rw[h30,cond_true] at h;unfold MJ at h;split at h;case h_2=>simp at h
    rename_i v1 H1 he;simp only[nP] at h;obtain ⟨rfl,rfl⟩:=h;obtain ⟨h1,h2⟩:=pN hN hD KtG.kt 100000 hC he hH hA;exact ⟨h1,h2.mono (fun _ _ h=>fc.XQ h)⟩
  | false =>
  rw[h30,cond_false] at h;cases h59:(Nat.beq f 59 && Kq args) with
  | true =>
    rw[h59,cond_true] at h;exact MY hC h hH hA
  | false =>
  rw[h59,cond_false] at h;cases h73:Nat.beq f 73 with
  | true =>
    rw[h73,cond_true] at h;have:=Nat.eq_of_beq_eq_true h73;subst this;exact Iy h hH hA
  | false =>
  rw[h73,cond_false] at h;cases h95:Nat.beq f 95 with
  | true =>
    rw[h95,cond_true] at h;have:=Nat.eq_of_beq_eq_true h95;subst this;exact JC Ng h hne hH hA
  | false =>
  rw[h95,cond_false] at h;split at h
  · rename_i x hx;simp only[Option.some.injEq] at h;subst h;exact Gall.Dy hN hD call hC f args H v H' hx hne p M w cargs hH hA
  · exact Dz _ (fun e he=>by
     simp only[List.mem_singleton] at he;subst he;exact hW) call hC f args H v H' h hne p M w cargs hH hA
theorem mA (tab:mW) (n k:Nat) (ht:∀ k,tab.Ok (cd (n+k))):(il tab n k).Ok (cd (n+k)):=xe _ _ _ _ _ _ _ xu (fun k=>nq _) ht k
theorem fa (n k:Nat):(il aD n k).Ok (cd (n+k)):=mA _ _ _ (fun k=>aW _)
theorem av (n:Nat):(il aD n 0).Ok (cd n):=fa n 0
theorem Oy {f:FuncId} {fn:Func} {n:Nat} (hf:Tryd.prog.funcs[f]?=some fn) (hb:fn.body.isSome=true) (hn:H8 f=false) {args:List HV} (hle:Nat.ble args.length fn.ntmps=true) {H:ab} {callR:bt} (hC:callR.Ok (cd n)) {bl:eS} (hB:bl.Ok (bL n f fn.ntmps) (aV fn)) {rg:nY} (hR:rg.Ok (bL n f fn.ntmps) (aV fn)) {y:HV×ab}
 (h:(bj Tryd.prog (cd n) 100000 f fn (KtG.kt f) callR bl rg args H).run=some y):cd (n+1) (.fn f) (jU args) H=some (y.1.1,y.2) :=
 oZ hf hb (xu f hn _ _ _) hle hC hB hR h
theorem L9 {f:FuncId} {fn:Func} {n:Nat} (hf:Tryd.prog.funcs[f]?=some fn) (hb:fn.body.isSome=true) {args:List HV} (ho:∀ c H,ia c f (jU args) H=none) (hle:Nat.ble args.length fn.ntmps=true) {H:ab} {callR:bt} (hC:callR.Ok (cd n)) {bl:eS} (hB:bl.Ok (bL n f fn.ntmps) (aV fn)) {rg:nY} (hR:rg.Ok (bL n f fn.ntmps) (aV fn)) {y:HV×ab}
 (h:(bj Tryd.prog (cd n) 100000 f fn (KtG.kt f) callR bl rg args H).run=some y):cd (n+1) (.fn f) (jU args) H=some (y.1.1,y.2) :=
 oZ hf hb (ho _ _) hle hC hB hR h
theorem Ox {f:FuncId} {fn:Func} {n:Nat} (hf:Tryd.prog.funcs[f]?=some fn) (hb:fn.body.isSome=true) (hn:H8 f=false) {args:List HV} (hle:Nat.ble args.length fn.ntmps=true) {H:ab} {callR:bt} {bl:eS} {rg:nY} {T:Tr (HV×ab)}
 (e:bj Tryd.prog (cd n) 100000 f fn (KtG.kt f) callR bl rg args H=T) (hC:callR.Ok (cd n)) (hB:bl.Ok (bL n f fn.ntmps) (aV fn)) (hR:rg.Ok (bL n f fn.ntmps) (aV fn)) {y:HV×ab} (hr:T.run=some y):cd (n+1) (.fn f) (jU args) H=some (y.1.1,y.2) :=
 Oy hf hb hn hle hC hB hR (by rw[e];exact hr)
theorem Ov {n f nt:Nat} {c:Code} {callR:bt} (hC:callR.Ok (cd n)) {bl:eS} (hB:bl.Ok (bL n f nt) c) {rg:nY} (hR:rg.Ok (bL n f nt) c) {fr:aF} {H:ab} {x:eI} (h:(aH (bL n f nt) callR bl rg c (hints fr) H).run=some x):exec (bL n f nt) c fr H=some x.st:=by
 have:=fU hC c hB hR _ _ _ h;rw[aT] at this;exact this

def eF (bl:eS) (id0:Nat):eS:=fun id fr H=>cond (Nat.beq id id0) (some .bad) (bl id fr H)
theorem b8 {bl:eS} {cx:Cx} {c:Code} (h:bl.Ok cx c) (id0:Nat):(eF bl id0).Ok cx c:=by
 intro id b hm fr H t y ht hy;unfold eF at ht;cases hb:Nat.beq id id0 with
 | true =>
   rw[hb,cond_true,Option.some.injEq] at ht;subst ht;exact (Tr.ah hy).elim
 | false =>
   rw[hb,cond_false] at ht;exact h id b hm fr H t y ht hy
theorem Ou {n f nt:Nat} {c:Code} {callR:bt} {bl:eS} {rg:nY} {fr:aF} {H:ab} {T:Tr eI} (e:aH (bL n f nt) callR bl rg c (hints fr) H=T) (hC:callR.Ok (cd n)) (hB:bl.Ok (bL n f nt) c) (hR:rg.Ok (bL n f nt) c) {x:eI} (hr:T.run=some x):exec (bL n f nt) c fr H=some x.st :=
 Ov hC hB hR (by rw[e];exact hr)
section
variable {n f nt:Nat} {c:Code} {callR:bt} {bl:eS} {rg:nY}
end
end Go.Eng
end
section
namespace Go.Eng
open Go.Proofs
theorem br {f:FuncId} {fn:Func} {n:Nat} (hf:Tryd.prog.funcs[f]?=some fn) (hb:fn.body.isSome=true) (hn:H8 f=false) {args:List HV} (hle:Nat.ble args.length fn.ntmps=true) {H:ab} {callR:bt} {bl:eS} {rg:nY} {T:Tr (HV×ab)}
 (e:bj Tryd.prog (cd n) 100000 f fn (KtG.kt f) callR bl rg args H=T) (hC:callR.Ok (cd n)) (hB:bl.Ok (bL n f fn.ntmps) (aV fn)) (hR:rg.Ok (bL n f fn.ntmps) (aV fn)) {v:AV} {H':ab} (h:T.all fun y=>y.1.1=v∧y.2=H'):cd (n+1) (.fn f) (jU args) H=some (v,H'):=by
 obtain ⟨y,h1,h2,h3⟩:=h
 have:=Ox hf hb hn hle e hC hB hR h1
 rw[this,h2,h3]
theorem pg {f:FuncId} {fn:Func} {n:Nat} (hf:Tryd.prog.funcs[f]?=some fn) (hb:fn.body.isSome=true) {args:List HV} (ho:∀ c H,ia c f (jU args) H=none) (hle:Nat.ble args.length fn.ntmps=true) {H:ab} {callR:bt} {bl:eS} {rg:nY} {T:Tr (HV×ab)}
 (e:bj Tryd.prog (cd n) 100000 f fn (KtG.kt f) callR bl rg args H=T) (hC:callR.Ok (cd n)) (hB:bl.Ok (bL n f fn.ntmps) (aV fn)) (hR:rg.Ok (bL n f fn.ntmps) (aV fn)) {v:AV} {H':ab} (h:T.all fun y=>y.1.1=v∧y.2=H'):cd (n+1) (.fn f) (jU args) H=some (v,H'):=by
 obtain ⟨y,h1,h2,h3⟩:=h
 have:=L9 hf hb ho hle hC hB hR (by rw[e];exact h1)
 rw[this,h2,h3]
theorem ay {n f nt:Nat} {c:Code} {callR:bt} {bl:eS} {rg:nY} {fr:aF} {H:ab} {T:Tr eI} (e:aH (bL n f nt) callR bl rg c (hints fr) H=T) (hC:callR.Ok (cd n)) (hB:bl.Ok (bL n f nt) c) (hR:rg.Ok (bL n f nt) c) {Q:Ex×aF×ab→Prop} (h:T.all fun x=>Q x.st):∃ x,exec (bL n f nt) c fr H=some x∧Q x:=by
 obtain ⟨x,h1,h2⟩:=h;exact ⟨_,Ou e hC hB hR h1,h2⟩
section
variable {n f nt:Nat} {c:Code} {callR:bt} {bl:eS} {rg:nY}
theorem eA (id:Nat) (F:Nat→aF) (G:Nat→ab) (N:Nat) (p:Nat→Bool) (X:Nat→aF×ab) (Y:aF×ab) (hN:N<99999)
 (hs:∀ j,j<N→∃ x,exec (bL n f nt) c (F j) (G j)=some x∧if p j=true then x=(.ret,X j) else x.1=.normal∧tidy (a8 (G 0)) x.2.1 x.2.2=(F (j+1),G (j+1)))
 (he:exec (bL n f nt) c (F N) (G N)=some (.exit id,Y)):exec (bL n f nt) (.block id (.loop c)) (F 0) (G 0)=some (cond (cC p N) (.ret,X (fN p N 0)) (.normal,Y)):=by
 have key:=iT (body:=exec (bL n f nt) c) (n:=a8 (G 0)) F G N p (fun j=>if j<N then (.ret,X j) else (.exit id,Y))
  (fun j hj hp=>by
    obtain ⟨x,h1,h2⟩:=hs j hj;rw[if_neg (by rw[hp];simp)] at h2;obtain ⟨e,f1,g1⟩:=x;obtain ⟨rfl,h3⟩:=h2;exact ⟨_,_,h1,h3⟩)
  (fun j hj hp=>by
    obtain ⟨x,h1,h2⟩:=hs j hj;rw[if_pos hp] at h2;subst h2;rw[if_pos hj];exact ⟨h1,by simp⟩)
  (by
    rw[if_neg (by omega)];exact ⟨he,by simp⟩) N 0 100000 (by omega) (by omega)
 cases hc:cC p N with
 | true =>
   have:=mh hc
   rw[if_pos this] at key
   exact dp (fun id' h=>by cases h) key
 | false =>
   have:=vH hc
   rw[if_neg (by omega)] at key
   exact iu key
end
theorem iG {n f nt:Nat} {c:Code} (id:Nat) (F:Nat→aF) (G:Nat→ab) (N:Nat) (Y:aF×ab) (hN:N<99999)
 (hs:∀ j,j<N→∃ x,exec (bL n f nt) c (F j) (G j)=some x∧(x.1=.normal∧tidy (a8 (G 0)) x.2.1 x.2.2=(F (j+1),G (j+1))))
 (he:exec (bL n f nt) c (F N) (G N)=some (.exit id,Y)):exec (bL n f nt) (.block id (.loop c)) (F 0) (G 0)=some (.normal,Y):=by
 have:=eA id F G N (fun _=>false) (fun _=>Y) Y hN (fun j hj=>by
  obtain ⟨x,h1,h2⟩:=hs j hj;exact ⟨x,h1,by rw[if_neg (by simp)];exact h2⟩) he
 have h0:cC (fun _=>false) N=false:=by
  cases h:cC (fun _=>false) N with
  | false=>rfl
  | true=>obtain ⟨i,_,h2⟩:=(cQ _ _).1 h;cases h2
 rw[h0] at this
 exact this
end Go.Eng
end
section
namespace Go.Eng
open Go.Proofs
/-- A level of blocks. -/
noncomputable def iI (n:Nat):AV:=.int .i64 (Int.ofNat n)
noncomputable def rM (z:Nat→Int) (n:Nat):Row:=.M [.arr .i64 z n]
noncomputable def bA (l:List (Nat×an)):bF:=⟨false,l⟩
noncomputable def au:bF:=⟨false,[]⟩
noncomputable def aK (k:Nat) (b:Nat→Int) (full:Bool):AV:=.slcT none (.M [.arr .i64 b k]) 1 k full
noncomputable def gl (v k:Nat) (y:Nat→Int):bF:=⟨false,[(v,.row (.M [.arr .i64 y k]))]⟩
theorem bo (tab:mW) (n:Nat) (ht:tab.Ok (cd n)):(il tab n 0).Ok (cd n) :=
 ⟨nq _,fun tgt args H x h=>by
   unfold il BE at h;split at h
   · split at h
     · rename_i c hc;exact ht _ _ hc _ _ _ h
     · exact (Tr.ah h).elim
   · exact (Tr.ah h).elim⟩
theorem b7 {cx:Cx} {id:Nat} {B:Code} {fr:aF} {H:ab} {e:Bool} {X Y x:eI} (h:(Tr.ite e (Tr.ok X) (Tr.ok Y)).run=some x) (hx:exec cx (.block id B) fr H=some (cond e X.st Y.st)):exec cx (.block id B) fr H=some x.st:=by
 rw[hx];rcases Tr.kx h with ⟨hc,h⟩ | ⟨hc,h⟩
 · rw[hc,← Tr.af h];rfl
 · rw[hc,← Tr.af h];rfl
theorem gq {cx:Cx} {id:Nat} {B:Code} {fr:aF} {H:ab} {X x:eI} (h:(Tr.ok X).run=some x) (hx:exec cx (.block id B) fr H=some X.st):exec cx (.block id B) fr H=some x.st:=by
 rw[hx,← Tr.af h]
theorem dJ {j:Nat} (h:j<2 ^ 31):bh .i64 (j:Int) (Int.ofNat 1)=((j+1:Nat):Int):=by rw[fS,show Int.ofNat 1=1 from rfl];exact im (by omega) (by omega)
theorem qt (j:Nat):aq 0 (j:Int) 1=j:=by rw[bG];omega
theorem Fm {x y:Int} (h0:-9223372036854775808≤x+y) (h1:x+y≤9223372036854775807):bh .i64 x y=x+y:=by rw[fS,im h0 h1]
theorem rJ {x y:Int} (h0:-9223372036854775808≤x-y) (h1:x-y≤9223372036854775807):bN .i64 x y=x-y:=by rw[eG,im h0 h1]
theorem qE (L:List Int) (j:Nat):az L j=L.getD j 0:=congrFun (gN L) j
theorem nh (L:List Int) (v:Int):nZ (pZ (az L) 0) L.length (az [v])=az (L++[v]):=by
 rw[fq,mX,jE];funext i;by_cases h:i<L.length
 · simp[h,List.getElem?_append]
 · by_cases h2:i=L.length
   · subst h2;simp
   · have e1:[v][i-L.length]?=none:=List.getElem?_eq_none (by simp;omega);have e2:(L++[v])[i]?=none:=List.getElem?_eq_none (by simp;omega);simp only[h,if_false,List.getD_eq_getElem?_getD,e1,e2]
theorem mD (S:List Int) (j:Nat) (hj:j<S.length):az S j=S[j]:=by
 rw[qE,List.getD_eq_getElem?_getD,List.getElem?_eq_getElem hj];rfl
noncomputable def dA:List Int→AV
 | []=>.nils
 | a::r=>.slcT none (.M [.arr .i64 (az (a::r)) (r.length+1)]) 1 (r.length+1) false
theorem Kg (L:List Int) (k:Nat) (h:L.length=k+1):dA L=aK (k+1) (az L) false:=by
 cases L with
 | nil=>simp at h
 | cons a r =>
   simp only[List.length_cons] at h;have:r.length=k:=by omega
   subst this;rfl
noncomputable def gX (A:List AV) (V:AV):List AV→Option (Prop×AV):=fun x=>some (x=A,V)
noncomputable def tX (t:mW) (f:FuncId) (A:List AV) (V:AV):mW:=lX t f (gX A V)
theorem bR {c f:Nat} {t:mW} {A:List AV} {V:AV} (ht:t.Ok (cd c)) (h:∀ H,cd c (.fn f) A H=some (V,H)):(tX t f A V).Ok (cd c):=by
 refine jV ht (fun args p v hg hp H=>?_);unfold gX at hg;simp only[nP] at hg;obtain ⟨rfl,rfl⟩:=hg;rw[hp];exact h H
noncomputable def gV (C:List AV→Prop) (R:List AV→AV):List AV→Option (Prop×AV):=fun x=>some (C x,R x)
noncomputable def tV (t:mW) (f:FuncId) (C:List AV→Prop) (R:List AV→AV):mW:=lX t f (gV C R)
theorem HL {c f:Nat} {t:mW} {C:List AV→Prop} {R:List AV→AV} (ht:t.Ok (cd c)) (h:∀ A H,C A→cd c (.fn f) A H=some (R A,H)):(tV t f C R).Ok (cd c):=by
 refine jV ht (fun args p v hg hp H=>?_);unfold gV at hg;simp only[nP] at hg;obtain ⟨rfl,rfl⟩:=hg;exact h _ H hp
noncomputable def tN (t:mW) (f:FuncId):mW:=lX t f (fun _=>none)
theorem pR {c f:Nat} {t:mW} (ht:t.Ok (cd c)):(tN t f).Ok (cd c):=jV ht (fun args p v hg hp H=>by cases hg)
noncomputable def gC (P:Int→Bool) (Q:Int→List AV→ab→Prop) (args:List AV) (H:ab):Tr (AV×ab) :=
 match args with
 | .int .i64 x::C=>.reqP (Q x C H) (.ok (.bool (P x),H))
 | _=>.bad
noncomputable def U1 (f:FuncId) (P:Int→Bool) (Q:Int→List AV→ab→Prop):mW:=lL aD f (gC P Q)
theorem FW {k:Nat} {f:FuncId} {P:Int→Bool} {Q:Int→List AV→ab→Prop} (h:∀ x C H,Q x C H→cd k (.fn f) (.int .i64 x::C) H=some (.bool (P x),H)):(U1 f P Q).Ok (cd k):=by
 refine ya (aW _) (fun args H x hx=>?_);unfold gC at hx;split at hx
 · obtain ⟨h1,h2⟩:=Tr.gz hx;rw[h _ _ _ h1,← Tr.af h2]
 · exact (Tr.ah hx).elim
def yS (p:Nat→Bool) (m:Nat):Int:=if cC p m=true then (fN p m 0:Int) else -1
theorem xf (p:Nat→Bool) (k:Nat):c8 (Int.ofNat 0) (yS p k)=cC p k:=by
 rw[bf];unfold yS;cases h:cC p k with
 | true =>
   rw[if_pos rfl];simp only[Int.ofNat_eq_natCast,decide_eq_true_eq];omega
 | false=>rw[if_neg (by decide)];rfl
theorem F4 {p:Nat→Bool} {k:Nat} (h:∀ j,j<k→p j=false):cC p k=false:=by
 cases e:cC p k with
 | false=>rfl
 | true =>
   obtain ⟨j,hj,e2⟩:=(cQ _ _).1 e;rw[h j hj] at e2;cases e2
theorem iE {p:Nat→Bool} {k:Nat} (h:cC p k=false):∀ j,j<k→p j=false:=fun j hj=>by
 cases e:p j with
 | false=>rfl
 | true=>rw[(cQ _ _).2 ⟨j,hj,e⟩] at h;cases h
def IM:List AV→Option (Prop×AV)
 | []=>some (True,.bool true)
 | _=>none
theorem Vy (n:Nat) (H:ab):cd (n+1) (.fn 15) [] H=some (.bool true,H):=by unfold cd db;rfl
theorem Oi {c:Nat} {t:mW} (h:0<c) (ht:t.Ok (cd c)):(lX t 15 IM).Ok (cd c):=by
 obtain ⟨m,rfl⟩:∃ m,c=m+1:=⟨c-1,by omega⟩
 refine jV ht (fun args p v hg hp H=>?_);unfold IM at hg;split at hg
 · simp only[nP] at hg;obtain ⟨_,rfl⟩:=hg;exact Vy _ H
 · cases hg
noncomputable def slA (n len:Nat) (z:Nat→Int):AV:=.slcT none (.M [.arr .i64 z (fP len n)]) n len false
noncomputable def bn (dr:Int) (lc:Nat) (zc:Nat→Int) (lb:Nat) (zb:Nat→Int):AV:=.agg (.G [.int .i64 dr,slA 4 lc zc,slA 2 lb zb])
noncomputable def shR (dr:Int) (lc:Nat) (zc:Nat→Int) (lb:Nat) (zb:Nat→Int) (W B:Nat→Int):Row:=.M [.one (.int .i64 dr),.one (slA 4 lc zc),.one (slA 2 lb zb),.arr .i64 W 20,.arr .u64 B 10]
noncomputable def shV (dr:Int) (lc:Nat) (zc:Nat→Int) (lb:Nat) (zb:Nat→Int) (W B:Nat→Int):AV:=.ptrT none (shR dr lc zc lb zb W B) 0
noncomputable def dh (dr:Int) (lc:Nat) (zc:Nat→Int) (lb:Nat) (zb:Nat→Int):an:=.row (.G [.int .i64 dr,slA 4 lc zc,slA 2 lb zb])
theorem o5 {c:Nat} {f:FuncId} {args:List AV} {H:ab} {x:AV×ab} (h:ia (cd c) f args H=some x):cd (c+1) (.fn f) args H=some x:=by
 unfold cd db;unfold cd at h;rw[h]
theorem QX (n:Nat) (dr:Int) (lc:Nat) (zc:Nat→Int) (lb:Nat) (zb:Nat→Int) (W B:Nat→Int) (H:ab) (hl:lc≤10):cd (n+1) (.fn 73) [shV dr lc zc lb zb W B] H=some (.int .i64 (Q.cntF lc W B),H) :=
 o5 (Ix (dr:=dr) (zc:=zc) (lb:=lb) (zb:=zb) (W:=W) (B:=B) hl)
end Go.Eng
end
section
namespace Go.Eng
open Go.Proofs
noncomputable def uG (lo hi:Int):bF:=⟨false,[(0,.row (.I .i64 [lo])),(0,.row (.I .i64 [hi]))]⟩
noncomputable def f84 (d:Nat):AV:=.fn (.func 84) [] [.ptr d 0 0 0,.ptr d 1 0 0]
noncomputable def Ep (k:Nat) (b:Nat→Int) (full:Bool) (j:Int):aF:=[(0,aK k b full),(1,f84 2),(7,.int .i64 (Int.ofNat k)),(8,.int .i64 j)]
theorem YF (n:Nat) (lo hi:Int) (H:ab) (x:Int):bj Tryd.prog (cd n) 100000 84 Tryd.f84 (KtG.kt 84) (il aD n 0) aL aJ [(.int .i64 x,none),(.ptr 2 0 0 0,none),(.ptr 2 1 0 0,none)] (au::au::uG lo hi::H) =
 Tr.ite (bD x lo) (Tr.ok ((AV.bool true,some 1),au::au::(bA [(0,an.row (Row.I .i64 [lo])),(0,an.row (Row.I .i64 [hi]))])::H)) (Tr.ok ((AV.bool (bD hi x),none),au::au::(bA [(0,an.row (Row.I .i64 [lo])),(0,an.row (Row.I .i64 [hi]))])::H)):=by kernel_rfl
theorem t99 (n k:Nat) (b:Nat→Int) (full:Bool) (lo hi:Int) (P:Int→Bool) (Q:Int→List AV→ab→Prop) (H:ab) (j:Int):aH (bL n 99 19) (il (U1 84 P Q) n 0) aL aJ (part Tryd.f99 [1,0,1,0,0]) (hints (Ep k b full j)) (au::au::uG lo hi::H) =
 (fun (Z0:bF)=>Tr.ite (bD j (Int.ofNat k)) (Tr.req (cj j k) (Tr.req (bW (aq 0 j 1) k) (Tr.reqP (Q (b (aq 0 j 1)) [AV.ptr 2 0 0 0,AV.ptr 2 1 0 0] (au::au::Z0::H)) (Tr.ite (P (b (aq 0 j 1))) (Tr.ok (Ex.ret,[(4,AV.int .i64 j,none)],au::au::Z0::H)) (Tr.ok (Ex.normal,[(0,AV.slcT none (rM b k) 1 k full,none),(1,AV.fn (Fn.func 84) [] [AV.ptr 2 0 0 0,AV.ptr 2 1 0 0],none),(7,iI k,none),(8,AV.int .i64 (bh .i64 j (Int.ofNat 1)),none)],au::au::Z0::H)))))) (Tr.ok (Ex.exit 0,[(0,AV.slcT none (rM b k) 1 k full,none),(1,AV.fn (Fn.func 84) [] [AV.ptr 2 0 0 0,AV.ptr 2 1 0 0],none),(7,iI k,none),(8,AV.int .i64 j,none),(9,AV.bool false,some 1)],au::au::Z0::H))) (bA [(0,an.row (Row.I .i64 [lo])),(0,an.row (Row.I .i64 [hi]))]):=by kernel_rfl
theorem YM (n k:Nat) (b:Nat→Int) (full:Bool) (lo hi:Int) (H:ab) (x:Bool) (r:Nat):bj Tryd.prog (cd n) 100000 99 Tryd.f99 (KtG.kt 99) (il aD n 0) (cr aL 0 (Ep k b full 0) (au::au::uG lo hi::H) (.ite x (.ok (.ret,[(4,.int .i64 (Int.ofNat r),none)],au::au::uG lo hi::H)) (.ok (.normal,hints (Ep k b full (Int.ofNat k)++[(9,.bool false)]),au::au::uG lo hi::H)))) aJ [(aK k b full,none),(f84 1,none)] (au::uG lo hi::H) =
 (fun (Z0:bF)=>((fun (Z1:aF)=>Tr.reqP (Z1=Z1∧au::au::Z0::H=au::au::Z0::H) (Tr.ite x (Tr.ok ((iI r,none),au::Z0::H)) (Tr.ok ((AV.int .i64 (Int.negSucc 0),some 1),au::Z0::H)))) [(0,AV.slcT none (rM b k) 1 k full),(1,AV.fn (Fn.func 84) [] [AV.ptr 2 0 0 0,AV.ptr 2 1 0 0]),(7,iI k),(8,iI 0)])) (bA [(0,an.row (Row.I .i64 [lo])),(0,an.row (Row.I .i64 [hi]))]):=by kernel_rfl
theorem YE (n k:Nat) (b:Nat→Int) (full:Bool) (lo hi:Int) (H:ab) (r:Int):bj Tryd.prog (cd n) 100000 83 Tryd.f83 (KtG.kt 83) (il (vE aD 99 [aK k b full,f84 1] (au::uG lo hi::H) (.ok (.int .i64 r,au::uG lo hi::H))) n 0) aL aJ [(aK k b full,none),(f84 0,none)] (uG lo hi::H) =
 (fun (Z0:bF)=>((fun (Z1:List AV)=>Tr.reqP (Z1=Z1∧au::Z0::H=au::Z0::H) (Tr.ok ((AV.bool (c8 (Int.ofNat 0) r),none),Z0::H))) [AV.slcT none (rM b k) 1 k full,AV.fn (Fn.func 84) [] [AV.ptr 1 0 0 0,AV.ptr 1 1 0 0]])) (bA [(0,an.row (Row.I .i64 [lo])),(0,an.row (Row.I .i64 [hi]))]):=by kernel_rfl
theorem Ym (n k:Nat) (b:Nat→Int) (full:Bool) (lo hi:Int) (H:ab) (e:Bool):bj Tryd.prog (cd n) 100000 59 Tryd.f59 (KtG.kt 59) (il (vE aD 83 [aK k b full,f84 0] (uG lo hi::H) (.ok (.bool e,uG lo hi::H))) n 0) aL aJ [(.int .i64 lo,none),(.int .i64 hi,none),(aK k b full,none)] H =
 (fun (Z0:List AV)=>Tr.reqP (Z0=Z0∧(bA [(0,an.row (Row.I .i64 [lo])),(0,an.row (Row.I .i64 [hi]))])::H=(bA [(0,an.row (Row.I .i64 [lo])),(0,an.row (Row.I .i64 [hi]))])::H) (Tr.ok ((AV.bool (bx e),none),H))) [AV.slcT none (rM b k) 1 k full,AV.fn (Fn.func 84) [] [AV.ptr 0 0 0 0,AV.ptr 0 1 0 0]]:=by kernel_rfl
theorem Vw:∀ b,(0,b) ∈ aE (aV Tryd.f99)→b=.loop (part Tryd.f99 [1,0,1,0,0]):=dz (by kernel_rfl)
def kE (lo hi x:Int):Bool:=decide (x<lo) || decide (hi<x)
section
variable (n k:Nat) (b:Nat→Int) (full:Bool) (lo hi:Int) (H:ab)
theorem VW (x:Int):cd (n+1) (.fn 84) [.int .i64 x,.ptr 2 0 0 0,.ptr 2 1 0 0] (au::au::uG lo hi::H)=some (.bool (kE lo hi x),au::au::uG lo hi::H):=by
 have hp:kE lo hi x=(decide (x<lo) || decide (hi<x)):=rfl;rw[hp];refine br (n:=n) Tryd.func84 rfl rfl rfl (YF n lo hi H x) (av n) (ai _ _) (aj _ _) ?_;rw[bw,bw];refine Tr.ae (fun hc=>Tr.ag ⟨?_,rfl⟩) (fun hc=>Tr.ag ⟨?_,rfl⟩)
 · rw[hc];rfl
 · rw[hc];rfl
theorem VV (hk:k≤1000):cd (n+4) (.fn 83) [aK k b full,f84 0] (uG lo hi::H)=some (.bool (cC (fun j=>kE lo hi (b j)) k),uG lo hi::H):=by
 have hQ:∀ q x C H',(C=[.ptr 2 0 0 0,.ptr 2 1 0 0]∧H'=au::au::uG lo hi::H)→cd (n+2+q) (.fn 84) (.int .i64 x::C) H'=some (.bool (kE lo hi x),H'):=by
  rintro q x C H' ⟨rfl,rfl⟩;rw[show n+2+q=n+1+q+1 by omega];exact VW _ lo hi H x
 have hx:=eA (n:=n+2) (f:=99) (nt:=19) (c:=part Tryd.f99 [1,0,1,0,0]) 0 (fun j=>Ep k b full (j:Int)) (fun _=>au::au::uG lo hi::H) k (fun j=>kE lo hi (b j)) (fun j=>([(4,.int .i64 (j:Nat))],au::au::uG lo hi::H)) (Ep k b full (Int.ofNat k)++[(9,.bool false)],au::au::uG lo hi::H) (by omega) (fun j hj=>?_) ?_
 · have h99:cd (n+3) (.fn 99) [aK k b full,f84 1] (au::uG lo hi::H)=some (.int .i64 (yS (fun j=>kE lo hi (b j)) k),au::uG lo hi::H):=by
    refine br (n:=n+2) Tryd.func99 rfl rfl rfl (YM (n+2) k b full lo hi H (cC (fun j=>kE lo hi (b j)) k) (fN (fun j=>kE lo hi (b j)) k 0)) (av _) (aP (ai _ _) Vw (fun x h=>b7 h hx)) (aj _ _) ?_;refine Tr.ak ⟨rfl,rfl⟩ (Tr.ae (fun hc=>Tr.ag ⟨?_,rfl⟩) (fun hc=>Tr.ag ⟨?_,rfl⟩))
    · unfold yS;rw[if_pos hc];rfl
    · unfold yS;rw[if_neg (by rw[hc];decide)];rfl
   refine br (n:=n+3) Tryd.func83 rfl rfl rfl (YE (n+3) k b full lo hi H (yS (fun j=>kE lo hi (b j)) k)) (bo _ (n+3) (ew (aW _) (fun x hy=>by rw[← Tr.af hy];exact h99))) (ai _ _) (aj _ _) ?_;refine Tr.ak ⟨rfl,rfl⟩ (Tr.ag ⟨?_,rfl⟩);rw[xf]
 · refine ay (t99 (n+2) k b full lo hi (kE lo hi) _ H (j:Int)) (mA _ (n+2) 0 (fun q=>FW (hQ q))) (ai _ _) (aj _ _) ?_;show Tr.all _ (fun x=>if kE lo hi (b j)=true then _ else _);rw[dJ (by omega),qt];cases hp:kE lo hi (b j) with
   | true =>
     simp only[if_true];refine Tr.ae (fun hc=>?_) (fun hc=>?_)
     · repeat' first | (refine Tr.ae (fun hc=>?_) (fun hc=>?_)<;>(try simp (disch:=omega) only[nV,nW] at hc)<;>(try (exfalso;omega))) | (refine Tr.aa ?_ ?_;· ((try simp (disch:=omega) only[nV,nW]);try omega)) | (refine Tr.ak ?_ ?_;· first | exact trivial | rfl | exact ⟨rfl,rfl⟩ | exact ⟨trivial,rfl⟩ | exact ⟨rfl,by assumption⟩ | exact ⟨trivial,by assumption⟩ | exact ⟨rfl,rfl,rfl⟩ | (simp (disch:=omega) only[nV,nW];done) | ((try simp (disch:=omega) only[nV,nW]);omega)) | fail
       all_goals first
        | exact ⟨rfl,rfl⟩
        | (refine Tr.ak ⟨trivial,rfl⟩ ?_
           exact wF)
        | exact Tr.ag rfl
        | fail
     · simp (disch:=omega) only[nV,nW] at hc;omega
   | false =>
     simp only[Bool.false_eq_true,if_false];refine Tr.ae (fun hc=>?_) (fun hc=>?_)
     · repeat' first | (refine Tr.ae (fun hc=>?_) (fun hc=>?_)<;>(try simp (disch:=omega) only[nV,nW] at hc)<;>(try (exfalso;omega))) | (refine Tr.aa ?_ ?_;· ((try simp (disch:=omega) only[nV,nW]);try omega)) | (refine Tr.ak ?_ ?_;· first | exact trivial | rfl | exact ⟨rfl,rfl⟩ | exact ⟨trivial,rfl⟩ | exact ⟨rfl,by assumption⟩ | exact ⟨trivial,by assumption⟩ | exact ⟨rfl,rfl,rfl⟩ | (simp (disch:=omega) only[nV,nW];done) | ((try simp (disch:=omega) only[nV,nW]);omega)) | fail
       all_goals first
        | exact ⟨rfl,rfl⟩
        | (refine Tr.ak ⟨trivial,rfl⟩ ?_
           exact wF)
        | exact Tr.ag ⟨rfl,rfl⟩
        | fail
     · simp (disch:=omega) only[nV,nW] at hc;omega
 · obtain ⟨x,h1,rfl⟩:=ay (Q:=fun x=>x=(.exit 0,Ep k b full (Int.ofNat k)++[(9,.bool false)],au::au::uG lo hi::H)) (t99 (n+2) k b full lo hi (kE lo hi) _ H (Int.ofNat k)) (mA _ (n+2) 0 (fun q=>FW (hQ q))) (ai _ _) (aj _ _) (by
    refine Tr.ae (fun hc=>?_) (fun hc=>Tr.ag rfl);simp (disch:=omega) only[nV,nW] at hc;omega)
   exact h1
theorem VH (hk:k≤1000):cd (n+5) (.fn 59) [.int .i64 lo,.int .i64 hi,aK k b full] H=some (.bool (!cC (fun j=>kE lo hi (b j)) k),H):=by
 have h:=VV n k b full lo hi H hk;refine pg (n:=n+4) Tryd.func59 rfl (fun _ _=>rfl) rfl (Ym (n+4) k b full lo hi H (cC (fun j=>kE lo hi (b j)) k)) (bo _ (n+4) (ew (aW _) (fun x hy=>by rw[← Tr.af hy];exact h))) (ai _ _) (aj _ _) ?_;rw[aB];exact wF
end
noncomputable def Qv (lo hi:Int):List Int→Bool
 | []=>true
 | x::r=>bO (bO (c8 lo x) (c8 x hi)) (Qv lo hi r)
theorem Mm (lo hi:Int) (l:List Int):(!cC (fun j=>kE lo hi (az l j)) l.length)=Qv lo hi l:=by
 rw[gN];induction l with
 | nil=>rfl
 | cons x r ih =>
   have e:cC (fun j=>kE lo hi ((fun j=>(x::r).getD j 0) j)) (r.length+1)=(kE lo hi x || cC (fun j=>kE lo hi ((fun j=>r.getD j 0) j)) r.length):=by
    rw[Bool.eq_iff_iff,Bool.or_eq_true,cQ,cQ];constructor
    · rintro ⟨i,h1,h2⟩;cases i with
      | zero=>exact .inl h2
      | succ i=>exact .inr ⟨i,by omega,h2⟩
    · rintro (h | ⟨i,h1,h2⟩)
      · exact ⟨0,by omega,h⟩
      · exact ⟨i+1,by omega,h2⟩
   show (!cC _ (r.length+1))=_;rw[e,Bool.not_or,ih];show _=bO (bO (c8 lo x) (c8 x hi)) (Qv lo hi r);rw[bT,bT,bf,bf];congr 1;unfold kE;by_cases h1:lo≤x
   · rw[decide_eq_true h1,decide_eq_false (by omega)];by_cases h2:x≤hi
     · rw[decide_eq_true h2,decide_eq_false (by omega)];rfl
     · rw[decide_eq_false h2,decide_eq_true (by omega)];rfl
   · rw[decide_eq_false h1,decide_eq_true (by omega)];rfl
noncomputable def gW (args:List AV) (H:ab):Tr (AV×ab) :=
 match args with
 | [.int .i64 lo,.int .i64 hi,.slc d i ver 0 1 k cap]=>match cX H d i ver with
   | some (.I .i64 l)=>cond (Nat.beq l.length k && Nat.ble k 1000) (.ok (.bool (Qv lo hi l),H)) .bad
   | _=>.bad
 | _=>.bad
theorem sN {n:Nat} {t:mW} (ht:t.Ok (cd (n+6))):(lL t 59 gW).Ok (cd (n+6)):=by
 refine ya ht (fun args H x hx=>?_);unfold gW at hx;split at hx;case h_2=>exact (Tr.ah hx).elim
 rename_i lo hi d i ver k cap;split at hx;case h_2=>exact (Tr.ah hx).elim
 rename_i l hr;cases hc:(Nat.beq l.length k && Nat.ble k 1000) with
 | false=>rw[hc] at hx;exact (Tr.ah hx).elim
 | true =>
   rw[hc,cond_true] at hx;rw[Bool.and_eq_true] at hc;have hk:l.length=k:=Nat.eq_of_beq_eq_true hc.1;have hk2:=Nat.le_of_ble_eq_true hc.2;subst hk;rw[← Tr.af hx];refine o5 ?_;show Ps (cd (n+5)) 59 [.int .i64 lo,.int .i64 hi,.slc d i ver 0 1 l.length cap] H=_;unfold Ps;simp only[hr,if_true];have:=VH n l.length (az l) false lo hi [⟨true,[]⟩] hk2;have e:aK l.length (az l) false=.slcT none (.M [.arr .i64 (az l) l.length]) 1 l.length false:=rfl;rw[e] at this;rw[this,Mm];rfl
end Go.Eng
end
section
namespace Go.Eng
open Go.Proofs
noncomputable def En (l:Nat) (z:Nat→Int) (j:Int):aF:=[(0,slA 4 l z),(1,.fn (.func 58) [] []),(7,.int .i64 (Int.ofNat l)),(8,.int .i64 j)]
theorem t85 (n:Nat) (l:Nat) (z:Nat→Int) (H:ab) (j:Int):aH (bL (n+8) 85 19) (il (lL aD 59 gW) (n+6) 2) aL aJ (part Tryd.f85 [1,0,1,0,0]) (hints (En l z j)) (au::H) =
 Tr.ite (bD j (Int.ofNat l)) (Tr.req (cj j l) (Tr.req (bW (aq 0 j 4) (bU l 4)) (Tr.req (bW (ar (aq 0 j 4) 1) (bU l 4)) (Tr.req (bW (ar (aq 0 j 4) 2) (bU l 4)) (Tr.req (bW (ar (aq 0 j 4) 3) (bU l 4)) (Tr.ite (bx (bO (bO (c8 (Int.ofNat 0) (z (aq 0 j 4))) (c8 (z (aq 0 j 4)) (Int.ofNat 1000))) (bO (bO (c8 (Int.ofNat 0) (z (ar (aq 0 j 4) 1))) (c8 (z (ar (aq 0 j 4) 1)) (Int.ofNat 1000))) (bO (bO (c8 (Int.ofNat 0) (z (ar (aq 0 j 4) 2))) (c8 (z (ar (aq 0 j 4) 2)) (Int.ofNat 1000))) (bO (bO (c8 (Int.ofNat 0) (z (ar (aq 0 j 4) 3))) (c8 (z (ar (aq 0 j 4) 3)) (Int.ofNat 1000))) true))))) (Tr.ok (Ex.ret,[(4,AV.int .i64 j,none)],au::H)) (Tr.ite (bD (z (ar (aq 0 j 4) 1)) (z (aq 0 j 4))) (Tr.ok (Ex.ret,[(4,AV.int .i64 j,none)],au::H)) (Tr.ite (bD (z (ar (aq 0 j 4) 3)) (z (ar (aq 0 j 4) 2))) (Tr.ok (Ex.ret,[(4,AV.int .i64 j,none)],au::H)) (Tr.ok (Ex.normal,[(0,slA 4 l z,none),(1,AV.fn (Fn.func 58) [] [],none),(7,iI l,none),(8,AV.int .i64 (bh .i64 j (Int.ofNat 1)),none)],au::H)))))))))) (Tr.ok (Ex.exit 0,[(0,slA 4 l z,none),(1,AV.fn (Fn.func 58) [] [],none),(7,iI l,none),(8,AV.int .i64 j,none),(9,AV.bool false,some 1)],au::H)):=by kernel_rfl
theorem YG (n:Nat) (l:Nat) (z:Nat→Int) (H:ab) (i:Int) (e:Bool):bj Tryd.prog (cd (n+8)) 100000 85 Tryd.f85 (KtG.kt 85) (il aD (n+8) 0) (cr aL 0 (En l z 0) (au::H) (.ite e (.ok (.ret,[(4,.int .i64 i,none)],au::H)) (.ok (.normal,hints (En l z (Int.ofNat l)++[(9,.bool false)]),au::H)))) aJ [(slA 4 l z,none),(.fn (.func 58) [] [],none)] H =
 Tr.reqP ([(0,slA 4 l z),(1,AV.fn (Fn.func 58) [] []),(7,iI l),(8,iI 0)]=[(0,slA 4 l z),(1,AV.fn (Fn.func 58) [] []),(7,iI l),(8,iI 0)]∧au::H=au::H) (Tr.ite e (Tr.ok ((AV.int .i64 i,none),H)) (Tr.ok ((AV.int .i64 (Int.negSucc 0),some 1),H))):=by kernel_rfl
theorem Yn (n:Nat) (l:Nat) (z:Nat→Int) (H:ab) (i:Int):bj Tryd.prog (cd (n+9)) 100000 60 Tryd.f60 (KtG.kt 60) (il (tX aD 85 [slA 4 l z,.fn (.func 58) [] []] (.int .i64 i)) (n+9) 0) aL aJ [(slA 4 l z,none),(.fn (.func 58) [] [],none)] H =
 Tr.reqP ([slA 4 l z,AV.fn (Fn.func 58) [] []]=[slA 4 l z,AV.fn (Fn.func 58) [] []]) (Tr.ok ((AV.bool (c8 (Int.ofNat 0) i),none),H)):=by kernel_rfl
def jx (z:Nat→Int) (j:Nat):Bool:=!(decide (0≤z (j*4)) && (decide (z (j*4)≤z (j*4+1)) && (decide (z (j*4+1)≤1000) && (decide (0≤z (j*4+2)) && (decide (z (j*4+2)≤z (j*4+3)) && decide (z (j*4+3)≤1000))))))
theorem Vq:∀ b,(0,b) ∈ aE (aV Tryd.f85)→b=.loop (part Tryd.f85 [1,0,1,0,0]):=dz (by kernel_rfl)
section
variable (n:Nat) (l:Nat) (z:Nat→Int) (H:ab)
theorem U4 (n k:Nat):(il (lL aD 59 gW) (n+6) k).Ok (cd (n+6+k)):=mA _ _ _ (fun q=>by rw[show n+6+q=n+q+6 by omega];exact sN (aW _))
theorem VX (hl:l≤1000):cd (n+9) (.fn 85) [slA 4 l z,.fn (.func 58) [] []] H=some (.int .i64 (yS (jx z) l),H):=by
 have lp:=eA (n:=n+8) (f:=85) (nt:=19) (c:=part Tryd.f85 [1,0,1,0,0]) 0 (fun j=>En l z (j:Int)) (fun _=>au::H) l (jx z) (fun j=>([(4,.int .i64 (j:Int))],au::H)) (En l z (Int.ofNat l)++[(9,.bool false)],au::H) (by omega) (fun j hj=>?_) ?_
 · refine br (n:=n+8) Tryd.func85 rfl rfl rfl (YG n l z H ((fN (jx z) l 0:Nat):Int) (cC (jx z) l)) (fa (n+8) 0) (aP (ai _ _) Vq (fun x hx=>b7 hx lp)) (aj _ _) ?_;repeat' first | (refine Tr.ae (fun hc=>?_) (fun hc=>?_)<;>(try simp (disch:=omega) only[nV,nW] at hc)<;>(try (exfalso;omega))) | (refine Tr.aa ?_ ?_;· ((try simp (disch:=omega) only[nV,nW]);try omega)) | (refine Tr.ak ?_ ?_;· first | exact trivial | rfl | exact ⟨rfl,rfl⟩ | exact ⟨trivial,rfl⟩ | exact ⟨rfl,by assumption⟩ | exact ⟨trivial,by assumption⟩ | exact ⟨rfl,rfl,rfl⟩ | (simp (disch:=omega) only[nV,nW];done) | ((try simp (disch:=omega) only[nV,nW]);omega)) | fail
   all_goals refine Tr.ag ⟨?_,rfl⟩
   · unfold yS;rw[if_pos hc]
   · unfold yS;rw[if_neg (by rw[hc];decide)];rfl
 · have ej:bh .i64 (j:Int) (Int.ofNat 1)=((j+1:Nat):Int):=dJ (by omega);have ei:aq 0 (j:Int) 4=j*4:=by rw[bG];omega
   have hs:jx z j=!(decide (0≤z (j*4)) && (decide (z (j*4)≤z (j*4+1)) && (decide (z (j*4+1)≤1000) && (decide (0≤z (j*4+2)) && (decide (z (j*4+2)≤z (j*4+3)) && decide (z (j*4+3)≤1000)))))):=rfl;refine ay (t85 n l z H (j:Int)) (U4 n 2) (ai _ _) (aj _ _) ?_;refine Tr.ae (fun h0=>?_) wJ;refine Tr.aa wG (Tr.aa (by rw[ei];simp (disch:=omega) only[nV,nW];omega) (Tr.aa (by rw[ei];simp (disch:=omega) only[nV,nW];omega) (Tr.aa (by rw[ei];simp (disch:=omega) only[nV,nW];omega) (Tr.aa (by rw[ei];simp (disch:=omega) only[nV,nW];omega) ?_))));rw[ei,aI,aI,aI,ej];refine Tr.ae (fun h1=>?_) (fun h1=>?_)
   · refine Tr.ag ?_;rw[if_pos (by rw[hs];simp[aB,bT,bf] at h1 ⊢;omega)];rfl
   · simp only[aB,bT,bf] at h1;simp at h1;refine Tr.ae (fun h2=>?_) (fun h2=>?_)
     · rw[bw,decide_eq_true_eq] at h2;refine Tr.ag ?_;rw[if_pos (by rw[hs];simp;omega)];rfl
     · rw[bw,decide_eq_false_iff_not] at h2;refine Tr.ae (fun h3=>?_) (fun h3=>?_)
       · rw[bw,decide_eq_true_eq] at h3;refine Tr.ag ?_;rw[if_pos (by rw[hs];simp;omega)];rfl
       · rw[bw,decide_eq_false_iff_not] at h3;refine Tr.ag ?_;rw[if_neg (by rw[hs];simp;omega)];exact ⟨rfl,rfl⟩
 · obtain ⟨x,h1,rfl⟩:=ay (Q:=fun x=>x=(.exit 0,En l z (Int.ofNat l)++[(9,.bool false)],au::H)) (t85 n l z H (Int.ofNat l)) (U4 n 2) (ai _ _) (aj _ _) (by
    refine Tr.ae wJ (fun h0=>Tr.ag rfl))
   exact h1
theorem VI (hl:l≤1000):cd (n+10) (.fn 60) [slA 4 l z,.fn (.func 58) [] []] H=some (.bool (cC (jx z) l),H):=by
 have h:=fun H=>VX n l z H hl;refine br (n:=n+9) Tryd.func60 rfl rfl rfl (Yn n l z H (yS (jx z) l)) (bo _ (n+9) (bR (aW _) h)) (ai _ _) (aj _ _) ?_;refine Tr.ak rfl (Tr.ag ⟨?_,rfl⟩);rw[xf]
end
end Go.Eng
end
