/- Gall: closed calls: what they lean on; counts of shelves that are known. -/
import Derived.Test.YtgphpjdchnfjlaaDoorV6Gq5x5
import Derived.Test.YtgphpjdchnfjlaaDoorV6Gp2x6
import Derived.Test.YtgphpjdchnfjlaaDoorV6EngThx10
import Derived.Test.YtgphpjdchnfjlaaDoorV6EngRnFx8
import Derived.Test.YtgphpjdchnfjlaaDoorV6EngRoSx4
set_option linter.unusedVariables false
set_option linter.unusedSimpArgs false
set_option maxRecDepth 100000
section
namespace Go.Eng.Gall
open Go.Proofs Go.Eng.Q
theorem named:dG Tryd.prog:=by
 have h:(Tryd.prog.funcs.toList.all fun fn=>fn.body.isNone || !(fn.name == "runtime.NumGoroutine"))=true:=by kernel_rfl
 intro f fn hf hb;have:=List.all_eq_true.1 h fn (by simpa using Array.mem_of_getElem? hf);rw[hb] at this;simpa using this
theorem mixed:Tryd.prog.follows .mixedOrders=true:=by kernel_rfl
theorem IK:∀ e ∈ ([]:List cD),aB Tryd.prog e:=fun e h=>by cases h
theorem aX {e:cD} {t:List cD} (h:aB Tryd.prog e) (k:∀ x ∈ t,aB Tryd.prog x):∀ x ∈ e::t,aB Tryd.prog x:=fun x hx=>by
 rcases List.mem_cons.1 hx with rfl | hx
 · exact h
 · exact k x hx
def Ue:List AV→Bool
 | .ptr _ _ _ _::_=>true
 | _=>false
noncomputable def uP (c:aK) (f:FuncId) (args:List AV) (H:ab):Option (AV×ab) :=
 cond (Nat.beq f 82) (FA args H) (cond (Nat.beq f 62) (PW (pj Tryd.prog KtG.kt 100000 62 c args H)) (cond ((Nat.beq f 63 || Nat.beq f 65) && Ue args) (SB c f args H) (cond (Nat.beq f 47) (pj Tryd.prog KtG.kt 100000 47 (BQ Tryd.prog KtG.kt 100000 46 c) args H) (cond (Nat.beq f 94 || Nat.beq f 100) (Gp Tryd.prog KtG.kt 100000 f c args H) none))))
theorem C4 (hN:dG Tryd.prog) (hD:gb Tryd.prog):rP Tryd.prog uP:=fun call hC f args H v H' h hne p M w cargs hH hA=>by
 unfold uP at h;cases h82:Nat.beq f 82 with
 | true =>
   rw[h82,cond_true] at h;have:=Nat.eq_of_beq_eq_true h82;subst this;exact HW h hH hA
 | false =>
 rw[h82,cond_false] at h;cases h62:Nat.beq f 62 with
 | true =>
   rw[h62,cond_true] at h;have:=Nat.eq_of_beq_eq_true h62;subst this;unfold PW at h;split at h;case h_2=>simp at h
   rename_i v1 H1 he;simp only[nP] at h;obtain ⟨rfl,rfl⟩:=h;obtain ⟨h1,h2⟩:=pn hN hD KtG.kt 100000 hC he hH hA;exact ⟨h1,h2.mono (fun _ _ h=>eP.Nh h)⟩
 | false =>
 rw[h62,cond_false] at h;cases hr:((Nat.beq f 63 || Nat.beq f 65) && Ue args) with
 | true =>
   rw[hr,cond_true] at h;exact Mr hC h hH hA
 | false =>
 rw[hr,cond_false] at h;cases h47:Nat.beq f 47 with
 | true =>
   rw[h47,cond_true] at h;have:=Nat.eq_of_beq_eq_true h47;subst this;exact pn hN hD KtG.kt 100000 (EH hN hD KtG.kt 100000 46 hC) h hH hA
 | false =>
 rw[h47,cond_false] at h;cases h94:(Nat.beq f 94 || Nat.beq f 100) with
 | true =>
   rw[h94,cond_true] at h;exact Gq hN hD KtG.kt 100000 hC h hH hA
 | false=>rw[h94,cond_false] at h;cases h
noncomputable def Mi (tab:List cD):aK→FuncId→List AV→ab→Option (AV×ab):=fun c f args H=>match Bw tab c f args H with
 | some x=>some x
 | none=>uP c f args H
theorem IU (hN:dG Tryd.prog) (hD:gb Tryd.prog) {tab:List cD} (hT:∀ e ∈ tab,aB Tryd.prog e):rP Tryd.prog (Mi tab):=fun call hC f args H v H' h hne p M w cargs hH hA=>by
 unfold Mi at h;split at h
 · rename_i x hx;simp only[Option.some.injEq] at h;subst h;exact wZ tab hT call hC f args H v H' hx hne p M w cargs hH hA
 · exact C4 hN hD call hC f args H v H' h hne p M w cargs hH hA
theorem aY {tab:List cD} (hT:∀ e ∈ tab,aB Tryd.prog e) {e:cD} {H':ab}
 (h:Fm Tryd.prog (Mi tab) KtG.kt 100000 40 (.fn e.f) e.args [⟨true,[]⟩]=some (e.v,H')) (hn:e.args.all (uh 9)=true):aB Tryd.prog e:=by
 rw[DL] at h
 exact yQ (mA named (pJ named mixed) (IU named (pJ named mixed) hT) KtG.kt 100000 40) h hn
theorem Fo (n:Nat):b9 Tryd.prog (cd n):=mA named (pJ named mixed) wY KtG.kt 100000 n
theorem Fu (O:Int) (U:Nat) (Z:Nat→Int) (V:Nat) (J:Nat→Int) (W B:Nat→Int) (hl:U≤10) {p:aF} {M:Mu} {H:ab} {w:World} {cargs:Array Value} (hH:bj p M H w) (hA:eH p M [shV O U Z V J W B] cargs) :
 (∃ fn,Tryd.prog.funcs[73]?=some fn∧fn.body.isNone=false)∧CallsIn Fence.wide 0 Tryd.prog 73 cargs w (eP p M H w (.int .i64 (cntF U W B)) H) :=
 Em named (pJ named mixed) NP KtG.kt 100000 (Fo 3) (T8 2 O U Z V J W B hl H) hH hA
noncomputable def Um (O:Int) (U:Nat) (zl:List Int) (V:Nat) (bl:List Int) (f1 f2:Bool) (Wl Bl:List Int):AV:=.ptrT none (.G (.int .i64 O::.slcT none (.I .i64 zl) 4 U f1::.slcT none (.I .i64 bl) 2 V f2::(Wl.map (.int .i64)++Bl.map (.int .u64)))) 0
theorem zt {p:aF} {M:Mu} {zl:List Int} {sz U:Nat} {f:Bool} {c:Value} (hl:zl.length=bD U sz) (h:al p M (.slcT none (.I .i64 zl) sz U f) c):al p M (.slcT none (.M [.arr .i64 (aI zl) (bD U sz)]) sz U false) c:=by
 cases h with
 | slcT vs hp h1 hv h2 h3 h4 =>
   have hlen:(Row.M [.arr .i64 (aI zl) (bD U sz)]).len=(Row.I .i64 zl).len:=by
    show bD U sz+0=zl.length;omega
   refine .slcT vs (fun j hj=>hp j (by rw[← hlen];exact hj)) (fun j hj=>h1 j (by rw[← hlen];exact hj)) (fun j hj=>?_) h2 (fun e=>by cases e) h4;have hj':j<zl.length:=by rw[hlen] at hj;exact hj
   have:=hv j (by rw[← hlen];exact hj);have e:getM [.arr .i64 (aI zl) (bD U sz)] j=.int .i64 (zl.getD j 0):=by
    show (if j<bD U sz then AV.int .i64 (aI zl j) else _)=_;rw[if_pos (by omega),gw]
   show al p _ (getM [.arr .i64 (aI zl) (bD U sz)] j) (vs j);rw[e];exact this.bp _ _
 | slcN=>exact .slcN
theorem Jd {p:aF} {M:Mu} {O:Int} {U:Nat} {zl:List Int} {V:Nat} {bl:List Int} {f1 f2:Bool} {Wl Bl:List Int} {c:Value} (hz:zl.length=bD U 4) (hb:bl.length=bD V 2) (hW:Wl.length=20) (hB:Bl.length=10) (h:al p M (Um O U zl V bl f1 f2 Wl Bl) c):al p M (shV O U (aI zl) V (aI bl) (aI Wl) (aI Bl)) c:=by
 cases h with
 | ptrT vs hp h1 hv =>
   have hlen:(shR O U (aI zl) V (aI bl) (aI Wl) (aI Bl)).len=33:=rfl;have hlen':(Row.G (.int .i64 O::.slcT none (.I .i64 zl) 4 U f1::.slcT none (.I .i64 bl) 2 V f2::(Wl.map (.int .i64)++Bl.map (.int .u64)))).len=33:=by simp[Row.len,hW,hB]
   refine .ptrT vs (fun j hj=>hp j (by rw[hlen'] ; rw[hlen] at hj;exact hj)) (fun j hj=>h1 j (by rw[hlen'] ; rw[hlen] at hj;exact hj)) (fun j hj=>?_);rw[hlen] at hj;have:=hv j (by rw[hlen'];exact hj);match j,hj,this with
   | 0,_,this=>exact this
   | 1,_,this=>exact zt hz this
   | 2,_,this=>exact zt hb this
   | j + 3,hj,this =>
     have this:al p _ ((Wl.map (AV.int .i64)++Bl.map (AV.int .u64)).getD j .undef) (vs (j+3)):=this;show al p _ (getM [.arr .i64 (aI Wl) 20,.arr .u64 (aI Bl) 10] j) (vs (j+3));by_cases hj20:j<20
     · have e:getM [.arr .i64 (aI Wl) 20,.arr .u64 (aI Bl) 10] j=.int .i64 (Wl.getD j 0):=by
        show (if j<20 then AV.int .i64 (aI Wl j) else _)=_;rw[if_pos hj20,gw]
       have e2:(Wl.map (AV.int .i64)++Bl.map (AV.int .u64)).getD j .undef=.int .i64 (Wl.getD j 0):=by
        rw[List.getD_eq_getElem?_getD,List.getElem?_append_left (by simp;omega),List.getElem?_map,List.getD_eq_getElem?_getD,List.getElem?_eq_getElem (by omega)];rfl
       rw[e];rw[e2] at this;exact this.bp _ _
     · have e:getM [.arr .i64 (aI Wl) 20,.arr .u64 (aI Bl) 10] j=.int .u64 (Bl.getD (j-20) 0):=by
        show (if j<20 then AV.int .i64 (aI Wl j) else (if j-20<10 then AV.int .u64 (aI Bl (j-20)) else _))=_;rw[if_neg hj20,if_pos (by omega),gw]
       have e2:(Wl.map (AV.int .i64)++Bl.map (AV.int .u64)).getD j .undef=.int .u64 (Bl.getD (j-20) 0):=by
        rw[List.getD_eq_getElem?_getD,List.getElem?_append_right (by simp;omega),List.getElem?_map,List.length_map,hW,List.getD_eq_getElem?_getD,List.getElem?_eq_getElem (by omega)];rfl
       rw[e];rw[e2] at this;exact this.bp _ _
def Sp (Wl Bl:List Int) (k X c:Nat):Bool:=(BitVec.ofInt 64 (Bl.getD c 0) &&& ~~~(BitVec.ofNat 64 X)).toNat == 0 && (decide (Wl.getD (2*c) 0≤(k:Int)) && decide ((k:Int)≤Wl.getD (2*c+1) 0))
theorem Gs (Wl Bl:List Int):okW (aI Wl) (aI Bl)=Sp Wl Bl:=by
 funext k X c;unfold okW Sp;rw[gw,gw,rS,a7,a7,bf];congr 1;show (IntKind.u64.wrap (((BitVec.ofInt 64 (Bl.getD c 0) &&& ~~~(BitVec.ofInt 64 (X:Int))).toNat:Nat):Int) == 0)=_;rw[HN,jA (BitVec.isLt _)];generalize (BitVec.ofInt 64 (Bl.getD c 0) &&& ~~~(BitVec.ofNat 64 X)).toNat=t;rw[Bool.eq_iff_iff,beq_iff_eq,beq_iff_eq];omega
def Qn (U:Nat) (Wl Bl:List Int):Nat:=(ro U (Sp Wl Bl) U).length
theorem Gt {O:Int} {U:Nat} {zl:List Int} {V:Nat} {bl:List Int} {f1 f2:Bool} {Wl Bl:List Int} {A:AV} {v:Nat} (hA:A=Um O U zl V bl f1 f2 Wl Bl) (hl:U≤10) (hz:zl.length=U*4) (hb:bl.length=V*2) (hW:Wl.length=20) (hB:Bl.length=10) (hv:Qn U Wl Bl=v):aB Tryd.prog ⟨73,[A],.int .i64 (v:Int)⟩:=by
 intro H hne p M w cargs hH hC;have e:cntF U (aI Wl) (aI Bl)=(v:Int):=by unfold cntF;rw[Gs];exact congrArg Int.ofNat hv
 rw[← e];refine Fu O U (aI zl) V (aI bl) (aI Wl) (aI Bl) hl hH ⟨hC.1,fun j hj=>?_⟩;have hC2:=hC.2 j hj;subst hA;have:j=0:=by simp at hj;omega
 subst this;exact Jd (by rw[jt];exact hz) (by rw[jt];exact hb) hW hB hC2
end Go.Eng.Gall
end
section
namespace Go.Eng
open Go.Proofs Go.ChangeShapes
open Go.Eng.Q (shV shR slA cntF okW)
noncomputable def HQ (args:List AV) (H:ab):Option (AV×ab) :=
 match args with
 | [.ptrT none (.M [.one (.int .i64 O),.one (.slcT none (.M [.arr .i64 Z n1]) 4 U false),.one (.slcT none (.M [.arr .i64 J n2]) 2 V false),.arr .i64 W 20,.arr .u64 B 10]) 0]=>if U≤10∧n1=fD U 4∧n2=fD V 2 then some (.int .i64 (cntF U W B),H) else none
 | _=>none
theorem HR {O:Int} {U:Nat} {Z:Nat→Int} {V:Nat} {J:Nat→Int} {W B:Nat→Int} {H:ab} (hl:U≤10):HQ [shV O U Z V J W B] H=some (.int .i64 (cntF U W B),H):=by
 show (if U≤10∧fD U 4=fD U 4∧fD V 2=fD V 2 then some (AV.int .i64 (cntF U W B),H) else none)=_;rw[if_pos ⟨hl,rfl,rfl⟩]
theorem HS {args:List AV} {H:ab} {v:AV} {H':ab} (h:HQ args H=some (v,H')) {p:aF} {M:Mu} {w:World} {cargs:Array Value} (hH:bj p M H w) (hA:eH p M args cargs):(∃ fn,Tryd.prog.funcs[73]?=some fn∧fn.body.isNone=false)∧CallsIn Fence.wide 0 Tryd.prog 73 cargs w (eP p M H w v H'):=by
 unfold HQ at h;split at h;case h_2=>simp at h
 rename_i O Z n1 U J n2 V W B;split at h;case isFalse=>simp at h
 rename_i hc;obtain ⟨hl,rfl,rfl⟩:=hc;simp only[nP] at h;obtain ⟨rfl,rfl⟩:=h;exact Gall.Fu O U Z V J W B hl hH hA
def JP:List AV→Bool
 | [_,_,.slc _ _ _ _ _ _ _]=>true
 | _=>false
def IN:AV→AV
 | .tup l=>.tup (l.map ju)
 | v=>ju v
theorem Gl {p:aF} {M:Mu} {v:AV} {c:Value} (h:al p M v c):al p M (IN v) c:=by
 unfold IN;split
 · rename_i l;cases h with
   | tup hs hv =>
     refine .tup (by simpa using hs) (fun j hj=>?_);have hj':j<l.length:=by simpa using hj
     have:=j7 (hv j hj');simpa[List.getD_eq_getElem?_getD,hj'] using this
 · exact j7 h
def OH (c:Option (AV×ab)):Option (AV×ab) :=
 match c with
 | some (v,H)=>some (IN v,H)
 | none=>none
theorem eP.WM {p:aF} {M:Mu} {H H':ab} {w:World} {v:AV} {e:Ending} {w':World} (h:eP p M H w v H' e w'):eP p M H w (IN v) H' e w':=by
 obtain ⟨cv,h1,st,p',M',hE,hv⟩:=h;exact ⟨cv,h1,st,p',M',hE,Gl hv⟩
noncomputable def ln:aK→FuncId→List AV→ab→Option (AV×ab):=fun call f args H=>cond (Nat.beq f 30 || Nat.beq f 38) (OH (pj Tryd.prog KtG.kt 100000 f call args H)) <| cond (Nat.beq f 59 && JP args) (O0 call f args H) (cond (Nat.beq f 73) (HQ args H) (cond (Nat.beq f 95) (Mw O4 args H) (match Gall.uP call f args H with
 | some x=>some x
 | none=>yT [⟨15,[],.bool true⟩] call f args H)))
def Hm (f:FuncId):Bool:=(Nat.beq f 30 || Nat.beq f 38) || Nat.beq f 15 || Nat.beq f 1000000 || Nat.beq f 59 || Nat.beq f 73 || Nat.beq f 95 || Nat.beq f 82 || Nat.beq f 62 || Nat.beq f 63 || Nat.beq f 65 || Nat.beq f 47 || Nat.beq f 94 || Nat.beq f 100
noncomputable def cd (n:Nat):aK:=dH Tryd.prog ln KtG.kt 100000 n
noncomputable def il (tab:nv) (n k:Nat):bt:=Bc Tryd.prog ln KtG.kt 100000 Hm tab n k
noncomputable def bO (n:Nat) (f nt:Nat):Cx:=⟨Tryd.prog,cd n,100000,f,nt,KtG.kt f,none⟩
theorem OS {g:FuncId} (h:Nat.beq g 15=false) (h1:Nat.beq g 1000000=false) (c:aK) (args:List AV) (H:ab):yT [⟨15,[],.bool true⟩] c g args H=none:=by
 unfold yT;rw[h1,cond_false];simp only[Bw];have:Nat.beq 15 g=false:=by
  cases hb:Nat.beq 15 g with
  | false=>rfl
  | true=>have:=Nat.eq_of_beq_eq_true hb;subst this;simp at h
 rw[this];rfl
theorem wS (g:FuncId) (h:Hm g=false) (c:aK) (args:List AV) (H:ab):ln c g args H=none:=by
 unfold Hm at h;simp only[Bool.or_eq_false_iff] at h;obtain ⟨⟨⟨⟨⟨⟨⟨⟨⟨⟨⟨⟨⟨h30,h38⟩,h15⟩,h0⟩,h59⟩,h73⟩,h95⟩,h82⟩,h62⟩,h63⟩,h65⟩,h47⟩,h94⟩,h100⟩:=h;have e:Gall.uP c g args H=none:=by
  unfold Gall.uP;rw[h82,h62,h63,h65,h47,h94,h100];rfl
 unfold ln;rw[h30,h38,h59,h73,h95,e];exact OS h15 h0 c args H
theorem mP (n:Nat):∃ x,dH Tryd.prog ln KtG.kt 100000 n .mode [] []=some x:=by
 cases n<;>exact ⟨_,rfl⟩
theorem wY (hN:dG Tryd.prog) (hD:gb Tryd.prog) (hW:aB Tryd.prog ⟨15,[],.bool true⟩):rP Tryd.prog ln :=
 fun call hC f args H v H' h hne p M w cargs hH hA=>by
  unfold ln at h;cases h30:(Nat.beq f 30 || Nat.beq f 38) with
  | true =>
    rw[h30,cond_true] at h;unfold OH at h;split at h;case h_2=>simp at h
    rename_i v1 H1 he;simp only[nP] at h;obtain ⟨rfl,rfl⟩:=h;obtain ⟨h1,h2⟩:=pn hN hD KtG.kt 100000 hC he hH hA;exact ⟨h1,h2.mono (fun _ _ h=>eP.WM h)⟩
  | false =>
  rw[h30,cond_false] at h;cases h59:(Nat.beq f 59 && JP args) with
  | true =>
    rw[h59,cond_true] at h;exact Ms hC h hH hA
  | false =>
  rw[h59,cond_false] at h;cases h73:Nat.beq f 73 with
  | true =>
    rw[h73,cond_true] at h;have:=Nat.eq_of_beq_eq_true h73;subst this;exact HS h hH hA
  | false =>
  rw[h73,cond_false] at h;cases h95:Nat.beq f 95 with
  | true =>
    rw[h95,cond_true] at h;have:=Nat.eq_of_beq_eq_true h95;subst this;exact I6 MC h hne hH hA
  | false =>
  rw[h95,cond_false] at h;split at h
  · rename_i x hx;simp only[Option.some.injEq] at h;subst h;exact Gall.C4 hN hD call hC f args H v H' hx hne p M w cargs hH hA
  · exact C5 _ (fun e he=>by
     simp only[List.mem_singleton] at he;subst he;exact hW) call hC f args H v H' h hne p M w cargs hH hA
theorem lU (tab:nv) (n k:Nat) (ht:∀ k,tab.Ok (cd (n+k))):(il tab n k).Ok (cd (n+k)):=wD _ _ _ _ _ _ _ wS (fun k=>mP _) ht k
theorem gI (n k:Nat):(il aJ n k).Ok (cd (n+k)):=lU _ _ _ (fun k=>bh _)
theorem aw (n:Nat):(il aJ n 0).Ok (cd n):=gI n 0
theorem N4 {f:FuncId} {fn:Func} {n:Nat} (hf:Tryd.prog.funcs[f]?=some fn) (hb:fn.body.isSome=true) (hn:Hm f=false) {args:List HV} (hle:Nat.ble args.length fn.ntmps=true) {H:ab} {callR:bt} (hC:callR.Ok (cd n)) {bl:eW} (hB:bl.Ok (bO n f fn.ntmps) (bx fn)) {rg:ou} (hR:rg.Ok (bO n f fn.ntmps) (bx fn)) {y:HV×ab}
 (h:(bu Tryd.prog (cd n) 100000 f fn (KtG.kt f) callR bl rg args H).run=some y):cd (n+1) (.fn f) (mw args) H=some (y.1.1,y.2) :=
 rY hf hb (wS f hn _ _ _) hle hC hB hR h
theorem LC {f:FuncId} {fn:Func} {n:Nat} (hf:Tryd.prog.funcs[f]?=some fn) (hb:fn.body.isSome=true) {args:List HV} (ho:∀ c H,ln c f (mw args) H=none) (hle:Nat.ble args.length fn.ntmps=true) {H:ab} {callR:bt} (hC:callR.Ok (cd n)) {bl:eW} (hB:bl.Ok (bO n f fn.ntmps) (bx fn)) {rg:ou} (hR:rg.Ok (bO n f fn.ntmps) (bx fn)) {y:HV×ab}
 (h:(bu Tryd.prog (cd n) 100000 f fn (KtG.kt f) callR bl rg args H).run=some y):cd (n+1) (.fn f) (mw args) H=some (y.1.1,y.2) :=
 rY hf hb (ho _ _) hle hC hB hR h
theorem N3 {f:FuncId} {fn:Func} {n:Nat} (hf:Tryd.prog.funcs[f]?=some fn) (hb:fn.body.isSome=true) (hn:Hm f=false) {args:List HV} (hle:Nat.ble args.length fn.ntmps=true) {H:ab} {callR:bt} {bl:eW} {rg:ou} {T:Tr (HV×ab)}
 (e:bu Tryd.prog (cd n) 100000 f fn (KtG.kt f) callR bl rg args H=T) (hC:callR.Ok (cd n)) (hB:bl.Ok (bO n f fn.ntmps) (bx fn)) (hR:rg.Ok (bO n f fn.ntmps) (bx fn)) {y:HV×ab} (hr:T.run=some y):cd (n+1) (.fn f) (mw args) H=some (y.1.1,y.2) :=
 N4 hf hb hn hle hC hB hR (by rw[e];exact hr)
theorem N1 {n f nt:Nat} {c:Code} {callR:bt} (hC:callR.Ok (cd n)) {bl:eW} (hB:bl.Ok (bO n f nt) c) {rg:ou} (hR:rg.Ok (bO n f nt) c) {fr:aA} {H:ab} {x:dY} (h:(aH (bO n f nt) callR bl rg c (hints fr) H).run=some x):exec (bO n f nt) c fr H=some x.st:=by
 have:=fJ hC c hB hR _ _ _ h;rw[aG] at this;exact this

def dC (bl:eW) (id0:Nat):eW:=fun id fr H=>cond (Nat.beq id id0) (some .bad) (bl id fr H)
theorem bN {bl:eW} {cx:Cx} {c:Code} (h:bl.Ok cx c) (id0:Nat):(dC bl id0).Ok cx c:=by
 intro id b hm fr H t y ht hy;unfold dC at ht;cases hb:Nat.beq id id0 with
 | true =>
   rw[hb,cond_true,Option.some.injEq] at ht;subst ht;exact (Tr.ah hy).elim
 | false =>
   rw[hb,cond_false] at ht;exact h id b hm fr H t y ht hy
theorem N0 {n f nt:Nat} {c:Code} {callR:bt} {bl:eW} {rg:ou} {fr:aA} {H:ab} {T:Tr dY} (e:aH (bO n f nt) callR bl rg c (hints fr) H=T) (hC:callR.Ok (cd n)) (hB:bl.Ok (bO n f nt) c) (hR:rg.Ok (bO n f nt) c) {x:dY} (hr:T.run=some x):exec (bO n f nt) c fr H=some x.st :=
 N1 hC hB hR (by rw[e];exact hr)
section
variable {n f nt:Nat} {c:Code} {callR:bt} {bl:eW} {rg:ou}
end
end Go.Eng
end
section
namespace Go.Eng
open Go.Proofs
theorem bB {f:FuncId} {fn:Func} {n:Nat} (hf:Tryd.prog.funcs[f]?=some fn) (hb:fn.body.isSome=true) (hn:Hm f=false) {args:List HV} (hle:Nat.ble args.length fn.ntmps=true) {H:ab} {callR:bt} {bl:eW} {rg:ou} {T:Tr (HV×ab)}
 (e:bu Tryd.prog (cd n) 100000 f fn (KtG.kt f) callR bl rg args H=T) (hC:callR.Ok (cd n)) (hB:bl.Ok (bO n f fn.ntmps) (bx fn)) (hR:rg.Ok (bO n f fn.ntmps) (bx fn)) {v:AV} {H':ab} (h:T.all fun y=>y.1.1=v∧y.2=H'):cd (n+1) (.fn f) (mw args) H=some (v,H'):=by
 obtain ⟨y,h1,h2,h3⟩:=h
 have:=N3 hf hb hn hle e hC hB hR h1
 rw[this,h2,h3]
theorem rm {f:FuncId} {fn:Func} {n:Nat} (hf:Tryd.prog.funcs[f]?=some fn) (hb:fn.body.isSome=true) {args:List HV} (ho:∀ c H,ln c f (mw args) H=none) (hle:Nat.ble args.length fn.ntmps=true) {H:ab} {callR:bt} {bl:eW} {rg:ou} {T:Tr (HV×ab)}
 (e:bu Tryd.prog (cd n) 100000 f fn (KtG.kt f) callR bl rg args H=T) (hC:callR.Ok (cd n)) (hB:bl.Ok (bO n f fn.ntmps) (bx fn)) (hR:rg.Ok (bO n f fn.ntmps) (bx fn)) {v:AV} {H':ab} (h:T.all fun y=>y.1.1=v∧y.2=H'):cd (n+1) (.fn f) (mw args) H=some (v,H'):=by
 obtain ⟨y,h1,h2,h3⟩:=h
 have:=LC hf hb ho hle hC hB hR (by rw[e];exact h1)
 rw[this,h2,h3]
theorem av {n f nt:Nat} {c:Code} {callR:bt} {bl:eW} {rg:ou} {fr:aA} {H:ab} {T:Tr dY} (e:aH (bO n f nt) callR bl rg c (hints fr) H=T) (hC:callR.Ok (cd n)) (hB:bl.Ok (bO n f nt) c) (hR:rg.Ok (bO n f nt) c) {Q:Ex×aA×ab→Prop} (h:T.all fun x=>Q x.st):∃ x,exec (bO n f nt) c fr H=some x∧Q x:=by
 obtain ⟨x,h1,h2⟩:=h;exact ⟨_,N0 e hC hB hR h1,h2⟩
section
variable {n f nt:Nat} {c:Code} {callR:bt} {bl:eW} {rg:ou}
theorem iH (id:Nat) (F:Nat→aA) (G:Nat→ab) (N:Nat) (p:Nat→Bool) (X:Nat→aA×ab) (Y:aA×ab) (hN:N<99999)
 (hs:∀ j,j<N→∃ x,exec (bO n f nt) c (F j) (G j)=some x∧if p j=true then x=(.ret,X j) else x.1=.normal∧tidy (aZ (G 0)) x.2.1 x.2.2=(F (j+1),G (j+1)))
 (he:exec (bO n f nt) c (F N) (G N)=some (.exit id,Y)):exec (bO n f nt) (.block id (.loop c)) (F 0) (G 0)=some (cond (dz p N) (.ret,X (fN p N 0)) (.normal,Y)):=by
 have key:=iB (body:=exec (bO n f nt) c) (n:=aZ (G 0)) F G N p (fun j=>if j<N then (.ret,X j) else (.exit id,Y))
  (fun j hj hp=>by
    obtain ⟨x,h1,h2⟩:=hs j hj;rw[if_neg (by rw[hp];simp)] at h2;obtain ⟨e,f1,g1⟩:=x;obtain ⟨rfl,h3⟩:=h2;exact ⟨_,_,h1,h3⟩)
  (fun j hj hp=>by
    obtain ⟨x,h1,h2⟩:=hs j hj;rw[if_pos hp] at h2;subst h2;rw[if_pos hj];exact ⟨h1,by simp⟩)
  (by
    rw[if_neg wO];exact ⟨he,by simp⟩) N 0 100000 wO wO
 cases hc:dz p N with
 | true =>
   have:=sg hc
   rw[if_pos this] at key
   exact dm (fun id' h=>by cases h) key
 | false =>
   have:=vk hc
   rw[if_neg wO] at key
   exact gS key
end
theorem fZ {n f nt:Nat} {c:Code} (id:Nat) (F:Nat→aA) (G:Nat→ab) (N:Nat) (Y:aA×ab) (hN:N<99999)
 (hs:∀ j,j<N→∃ x,exec (bO n f nt) c (F j) (G j)=some x∧(x.1=.normal∧tidy (aZ (G 0)) x.2.1 x.2.2=(F (j+1),G (j+1))))
 (he:exec (bO n f nt) c (F N) (G N)=some (.exit id,Y)):exec (bO n f nt) (.block id (.loop c)) (F 0) (G 0)=some (.normal,Y):=by
 have:=iH id F G N (fun _=>false) (fun _=>Y) Y hN (fun j hj=>by
  obtain ⟨x,h1,h2⟩:=hs j hj;exact ⟨x,h1,by rw[if_neg (by simp)];exact h2⟩) he
 have h0:dz (fun _=>false) N=false:=by
  cases h:dz (fun _=>false) N with
  | false=>rfl
  | true=>obtain ⟨i,_,h2⟩:=(dI _ _).1 h;cases h2
 rw[h0] at this
 exact this
end Go.Eng
end
section
namespace Go.Eng
open Go.Proofs
/-- A level of blocks. -/
noncomputable def iI (n:Nat):AV:=.int .i64 (Int.ofNat n)
noncomputable def rM (z:Nat→Int) (n:Nat):Row:=.M [.arr .i64 z n]
noncomputable def bK (l:List (Nat×an)):bJ:=⟨false,l⟩
noncomputable def aV:bJ:=⟨false,[]⟩
noncomputable def bG (k:Nat) (b:Nat→Int) (full:Bool):AV:=.slcT none (.M [.arr .i64 b k]) 1 k full
noncomputable def jL (v k:Nat) (y:Nat→Int):bJ:=⟨false,[(v,.row (.M [.arr .i64 y k]))]⟩
theorem bC (tab:nv) (n:Nat) (ht:tab.Ok (cd n)):(il tab n 0).Ok (cd n) :=
 ⟨mP _,fun tgt args H x h=>by
   unfold il Bc at h;split at h
   · split at h
     · rename_i c hc;exact ht _ _ hc _ _ _ h
     · exact (Tr.ah h).elim
   · exact (Tr.ah h).elim⟩
theorem dy {cx:Cx} {id:Nat} {B:Code} {fr:aA} {H:ab} {e:Bool} {X Y x:dY} (h:(Tr.ite e (Tr.ok X) (Tr.ok Y)).run=some x) (hx:exec cx (.block id B) fr H=some (cond e X.st Y.st)):exec cx (.block id B) fr H=some x.st:=by
 rw[hx];rcases Tr.jZ h with ⟨hc,h⟩ | ⟨hc,h⟩
 · rw[hc,← Tr.af h];rfl
 · rw[hc,← Tr.af h];rfl
theorem c6 {cx:Cx} {id:Nat} {B:Code} {fr:aA} {H:ab} {X x:dY} (h:(Tr.ok X).run=some x) (hx:exec cx (.block id B) fr H=some X.st):exec cx (.block id B) fr H=some x.st:=by
 rw[hx,← Tr.af h]
theorem eg {j:Nat} (h:j<2 ^ 31):aQ .i64 (j:Int) (Int.ofNat 1)=((j+1:Nat):Int):=by rw[fG,show Int.ofNat 1=1 from rfl];exact fW wO wO
theorem vu (j:Nat):aq 0 (j:Int) 1=j:=by rw[bP];omega
theorem xF {x y:Int} (h0:-9223372036854775808≤x+y) (h1:x+y≤9223372036854775807):aQ .i64 x y=x+y:=by rw[fG,fW h0 h1]
theorem od {x y:Int} (h0:-9223372036854775808≤x-y) (h1:x-y≤9223372036854775807):bH .i64 x y=x-y:=by rw[eA,fW h0 h1]
theorem L3 (L:List Int) (j:Nat):aI L j=L.getD j 0:=congrFun (gw L) j
theorem o5 (L:List Int) (v:Int):oz (qj (aI L) 0) L.length (aI [v])=aI (L++[v]):=by
 rw[fc,mr,jq];funext i;by_cases h:i<L.length
 · simp[h,List.getElem?_append]
 · by_cases h2:i=L.length
   · subst h2;simp
   · have e1:[v][i-L.length]?=none:=List.getElem?_eq_none (by simp;omega);have e2:(L++[v])[i]?=none:=List.getElem?_eq_none (by simp;omega);simp only[h,if_false,List.getD_eq_getElem?_getD,e1,e2]
theorem Bj (S:List Int) (j:Nat) (hj:j<S.length):aI S j=S[j]:=by
 rw[L3,List.getD_eq_getElem?_getD,List.getElem?_eq_getElem hj];rfl
noncomputable def gX (A:List AV) (XI:AV):List AV→Option (Prop×AV):=fun x=>some (x=A,XI)
noncomputable def tX (t:nv) (f:FuncId) (A:List AV) (XI:AV):nv:=ng t f (gX A XI)
theorem b7 {c f:Nat} {t:nv} {A:List AV} {XI:AV} (ht:t.Ok (cd c)) (h:∀ H,cd c (.fn f) A H=some (XI,H)):(tX t f A XI).Ok (cd c):=by
 refine kr ht (fun args p v hg hp H=>?_);unfold gX at hg;simp only[nP] at hg;obtain ⟨rfl,rfl⟩:=hg;rw[hp];exact h H
noncomputable def tN (t:nv) (f:FuncId):nv:=ng t f (fun _=>none)
theorem ga {c f:Nat} {t:nv} (ht:t.Ok (cd c)):(tN t f).Ok (cd c):=kr ht (fun args p v hg hp H=>by cases hg)
noncomputable def gC (P:Int→Bool) (Q:Int→List AV→ab→Prop) (args:List AV) (H:ab):Tr (AV×ab) :=
 match args with
 | .int .i64 x::C=>.reqP (Q x C H) (.ok (.bool (P x),H))
 | _=>.bad
noncomputable def T9 (f:FuncId) (P:Int→Bool) (Q:Int→List AV→ab→Prop):nv:=kZ aJ f (gC P Q)
theorem Fz {k:Nat} {f:FuncId} {P:Int→Bool} {Q:Int→List AV→ab→Prop} (h:∀ x C H,Q x C H→cd k (.fn f) (.int .i64 x::C) H=some (.bool (P x),H)):(T9 f P Q).Ok (cd k):=by
 refine xG (bh _) (fun args H x hx=>?_);unfold gC at hx;split at hx
 · obtain ⟨h1,h2⟩:=Tr.gl hx;rw[h _ _ _ h1,← Tr.af h2]
 · exact (Tr.ah hx).elim
def yr (p:Nat→Bool) (m:Nat):Int:=if dz p m=true then (fN p m 0:Int) else -1
theorem wE (p:Nat→Bool) (k:Nat):cU (Int.ofNat 0) (yr p k)=dz p k:=by
 rw[a7];unfold yr;cases h:dz p k with
 | true =>
   rw[if_pos rfl];simp only[Int.ofNat_eq_natCast,decide_eq_true_eq];omega
 | false=>rw[if_neg (by decide)];rfl
theorem FH {p:Nat→Bool} {k:Nat} (h:∀ j,j<k→p j=false):dz p k=false:=by
 cases e:dz p k with
 | false=>rfl
 | true =>
   obtain ⟨j,hj,e2⟩:=(dI _ _).1 e;rw[h j hj] at e2;cases e2
theorem mD {p:Nat→Bool} {k:Nat} (h:dz p k=false):∀ j,j<k→p j=false:=fun j hj=>by
 cases e:p j with
 | false=>rfl
 | true=>rw[(dI _ _).2 ⟨j,hj,e⟩] at h;cases h
def N5:List AV→Option (Prop×AV)
 | []=>some (True,.bool true)
 | _=>none
theorem UD (n:Nat) (H:ab):cd (n+1) (.fn 15) [] H=some (.bool true,H):=by unfold cd dH;rfl
theorem Qo {c:Nat} {t:nv} (h:0<c) (ht:t.Ok (cd c)):(ng t 15 N5).Ok (cd c):=by
 obtain ⟨m,rfl⟩:∃ m,c=m+1:=⟨c-1,by omega⟩
 refine kr ht (fun args p v hg hp H=>?_);unfold N5 at hg;split at hg
 · simp only[nP] at hg;obtain ⟨_,rfl⟩:=hg;exact UD _ H
 · cases hg
noncomputable def slA (n len:Nat) (z:Nat→Int):AV:=.slcT none (.M [.arr .i64 z (fD len n)]) n len false
noncomputable def bk (O:Int) (U:Nat) (Z:Nat→Int) (V:Nat) (J:Nat→Int):AV:=.agg (.G [.int .i64 O,slA 4 U Z,slA 2 V J])
noncomputable def shR (O:Int) (U:Nat) (Z:Nat→Int) (V:Nat) (J:Nat→Int) (W B:Nat→Int):Row:=.M [.one (.int .i64 O),.one (slA 4 U Z),.one (slA 2 V J),.arr .i64 W 20,.arr .u64 B 10]
noncomputable def shV (O:Int) (U:Nat) (Z:Nat→Int) (V:Nat) (J:Nat→Int) (W B:Nat→Int):AV:=.ptrT none (shR O U Z V J W B) 0
noncomputable def cW (O:Int) (U:Nat) (Z:Nat→Int) (V:Nat) (J:Nat→Int):an:=.row (.G [.int .i64 O,slA 4 U Z,slA 2 V J])
theorem Ce {c:Nat} {f:FuncId} {args:List AV} {H:ab} {x:AV×ab} (h:ln (cd c) f args H=some x):cd (c+1) (.fn f) args H=some x:=by
 unfold cd dH;unfold cd at h;rw[h]
theorem T8 (n:Nat) (O:Int) (U:Nat) (Z:Nat→Int) (V:Nat) (J:Nat→Int) (W B:Nat→Int) (H:ab) (hl:U≤10):cd (n+1) (.fn 73) [shV O U Z V J W B] H=some (.int .i64 (Q.cntF U W B),H) :=
 Ce (HR (O:=O) (Z:=Z) (V:=V) (J:=J) (W:=W) (B:=B) hl)
end Go.Eng
end
section
namespace Go.Eng
open Int (ofNat)
open Go.Proofs
noncomputable def ug (lo hi:Int):bJ:=⟨false,[(0,.row (.I .i64 [lo])),(0,.row (.I .i64 [hi]))]⟩
noncomputable def f84 (d:Nat):AV:=.fn (.func 84) [] [.ptr d 0 0 0,.ptr d 1 0 0]
noncomputable def D1 (k:Nat) (b:Nat→Int) (full:Bool) (j:Int):aA:=[(0,bG k b full),(1,f84 2),(7,.int .i64 (ofNat k)),(8,.int .i64 j)]
theorem Xx (n:Nat) (lo hi:Int) (H:ab) (x:Int):bu Tryd.prog (cd n) 100000 84 Tryd.f84 (KtG.kt 84) (il aJ n 0) aS aR [(.int .i64 x,none),(.ptr 2 0 0 0,none),(.ptr 2 1 0 0,none)] (aV::aV::ug lo hi::H) =
 Tr.ite (bw x lo) (Tr.ok ((AV.bool true,some 1),aV::aV::(bK [(0,an.row (Row.I .i64 [lo])),(0,an.row (Row.I .i64 [hi]))])::H)) (Tr.ok ((AV.bool (bw hi x),none),aV::aV::(bK [(0,an.row (Row.I .i64 [lo])),(0,an.row (Row.I .i64 [hi]))])::H)):=by kernel_rfl
theorem t99 (n k:Nat) (b:Nat→Int) (full:Bool) (lo hi:Int) (P:Int→Bool) (Q:Int→List AV→ab→Prop) (H:ab) (j:Int):aH (bO n 99 19) (il (T9 84 P Q) n 0) aS aR (part Tryd.f99 [1,0,1,0,0]) (hints (D1 k b full j)) (aV::aV::ug lo hi::H) =
 (fun (Z0:bJ)=>Tr.ite (bw j (ofNat k)) (Tr.req (b8 j k) (Tr.req (bR (aq 0 j 1) k) (Tr.reqP (Q (b (aq 0 j 1)) [AV.ptr 2 0 0 0,AV.ptr 2 1 0 0] (aV::aV::Z0::H)) (Tr.ite (P (b (aq 0 j 1))) (Tr.ok (Ex.ret,[(4,AV.int .i64 j,none)],aV::aV::Z0::H)) (Tr.ok (Ex.normal,[(0,AV.slcT none (rM b k) 1 k full,none),(1,AV.fn (Fn.func 84) [] [AV.ptr 2 0 0 0,AV.ptr 2 1 0 0],none),(7,iI k,none),(8,AV.int .i64 (aQ .i64 j (ofNat 1)),none)],aV::aV::Z0::H)))))) (Tr.ok (Ex.exit 0,[(0,AV.slcT none (rM b k) 1 k full,none),(1,AV.fn (Fn.func 84) [] [AV.ptr 2 0 0 0,AV.ptr 2 1 0 0],none),(7,iI k,none),(8,AV.int .i64 j,none),(9,AV.bool false,some 1)],aV::aV::Z0::H))) (bK [(0,an.row (Row.I .i64 [lo])),(0,an.row (Row.I .i64 [hi]))]):=by kernel_rfl
theorem XC (n k:Nat) (b:Nat→Int) (full:Bool) (lo hi:Int) (H:ab) (x:Bool) (r:Nat):bu Tryd.prog (cd n) 100000 99 Tryd.f99 (KtG.kt 99) (il aJ n 0) (cw aS 0 (D1 k b full 0) (aV::aV::ug lo hi::H) (.ite x (.ok (.ret,[(4,.int .i64 (ofNat r),none)],aV::aV::ug lo hi::H)) (.ok (.normal,hints (D1 k b full (ofNat k)++[(9,.bool false)]),aV::aV::ug lo hi::H)))) aR [(bG k b full,none),(f84 1,none)] (aV::ug lo hi::H) =
 (fun (Z0:bJ)=>((fun (Z1:aA)=>Tr.reqP (Z1=Z1∧aV::aV::Z0::H=aV::aV::Z0::H) (Tr.ite x (Tr.ok ((iI r,none),aV::Z0::H)) (Tr.ok ((AV.int .i64 (Int.negSucc 0),some 1),aV::Z0::H)))) [(0,AV.slcT none (rM b k) 1 k full),(1,AV.fn (Fn.func 84) [] [AV.ptr 2 0 0 0,AV.ptr 2 1 0 0]),(7,iI k),(8,iI 0)])) (bK [(0,an.row (Row.I .i64 [lo])),(0,an.row (Row.I .i64 [hi]))]):=by kernel_rfl
theorem Xw (n k:Nat) (b:Nat→Int) (full:Bool) (lo hi:Int) (H:ab) (r:Int):bu Tryd.prog (cd n) 100000 83 Tryd.f83 (KtG.kt 83) (il (Lo aJ 99 [bG k b full,f84 1] (aV::ug lo hi::H) (.ok (.int .i64 r,aV::ug lo hi::H))) n 0) aS aR [(bG k b full,none),(f84 0,none)] (ug lo hi::H) =
 (fun (Z0:bJ)=>((fun (Z1:List AV)=>Tr.reqP (Z1=Z1∧aV::Z0::H=aV::Z0::H) (Tr.ok ((AV.bool (cU (ofNat 0) r),none),Z0::H))) [AV.slcT none (rM b k) 1 k full,AV.fn (Fn.func 84) [] [AV.ptr 1 0 0 0,AV.ptr 1 1 0 0]])) (bK [(0,an.row (Row.I .i64 [lo])),(0,an.row (Row.I .i64 [hi]))]):=by kernel_rfl
theorem Xk (n k:Nat) (b:Nat→Int) (full:Bool) (lo hi:Int) (H:ab) (e:Bool):bu Tryd.prog (cd n) 100000 59 Tryd.f59 (KtG.kt 59) (il (Lo aJ 83 [bG k b full,f84 0] (ug lo hi::H) (.ok (.bool e,ug lo hi::H))) n 0) aS aR [(.int .i64 lo,none),(.int .i64 hi,none),(bG k b full,none)] H =
 (fun (Z0:List AV)=>Tr.reqP (Z0=Z0∧(bK [(0,an.row (Row.I .i64 [lo])),(0,an.row (Row.I .i64 [hi]))])::H=(bK [(0,an.row (Row.I .i64 [lo])),(0,an.row (Row.I .i64 [hi]))])::H) (Tr.ok ((AV.bool (bU e),none),H))) [AV.slcT none (rM b k) 1 k full,AV.fn (Fn.func 84) [] [AV.ptr 0 0 0 0,AV.ptr 0 1 0 0]]:=by kernel_rfl
theorem UB:∀ b,(0,b) ∈ aE (bx Tryd.f99)→b=.loop (part Tryd.f99 [1,0,1,0,0]):=dK (by kernel_rfl)
def j8 (lo hi x:Int):Bool:=decide (x<lo) || decide (hi<x)
section
variable (n k:Nat) (b:Nat→Int) (full:Bool) (lo hi:Int) (H:ab)
theorem UW (x:Int):cd (n+1) (.fn 84) [.int .i64 x,.ptr 2 0 0 0,.ptr 2 1 0 0] (aV::aV::ug lo hi::H)=some (.bool (j8 lo hi x),aV::aV::ug lo hi::H):=by
 have hp:j8 lo hi x=(decide (x<lo) || decide (hi<x)):=rfl;rw[hp];refine bB (n:=n) Tryd.func84 rfl rfl rfl (Xx n lo hi H x) (aw n) (aj _ _) (ai _ _) ?_;rw[bn,bn];refine Tr.ae (fun hc=>Tr.ag ⟨?_,rfl⟩) (fun hc=>Tr.ag ⟨?_,rfl⟩)
 · rw[hc];rfl
 · rw[hc];rfl
theorem UU (hk:k≤1000):cd (n+4) (.fn 83) [bG k b full,f84 0] (ug lo hi::H)=some (.bool (dz (fun j=>j8 lo hi (b j)) k),ug lo hi::H):=by
 have hQ:∀ q x C H',(C=[.ptr 2 0 0 0,.ptr 2 1 0 0]∧H'=aV::aV::ug lo hi::H)→cd (n+2+q) (.fn 84) (.int .i64 x::C) H'=some (.bool (j8 lo hi x),H'):=by
  rintro q x C H' ⟨rfl,rfl⟩;rw[show n+2+q=n+1+q+1 by omega];exact UW _ lo hi H x
 have hx:=iH (n:=n+2) (f:=99) (nt:=19) (c:=part Tryd.f99 [1,0,1,0,0]) 0 (fun j=>D1 k b full (j:Int)) (fun _=>aV::aV::ug lo hi::H) k (fun j=>j8 lo hi (b j)) (fun j=>([(4,.int .i64 (j:Nat))],aV::aV::ug lo hi::H)) (D1 k b full (ofNat k)++[(9,.bool false)],aV::aV::ug lo hi::H) wO (fun j hj=>?_) ?_
 · have h99:cd (n+3) (.fn 99) [bG k b full,f84 1] (aV::ug lo hi::H)=some (.int .i64 (yr (fun j=>j8 lo hi (b j)) k),aV::ug lo hi::H):=by
    refine bB (n:=n+2) Tryd.func99 rfl rfl rfl (XC (n+2) k b full lo hi H (dz (fun j=>j8 lo hi (b j)) k) (fN (fun j=>j8 lo hi (b j)) k 0)) (aw _) (aM (aj _ _) UB (fun x h=>dy h hx)) (ai _ _) ?_;refine Tr.ak ⟨rfl,rfl⟩ (Tr.ae (fun hc=>Tr.ag ⟨?_,rfl⟩) (fun hc=>Tr.ag ⟨?_,rfl⟩))
    · unfold yr;rw[if_pos hc];rfl
    · unfold yr;rw[if_neg (by rw[hc];decide)];rfl
   refine bB (n:=n+3) Tryd.func83 rfl rfl rfl (Xw (n+3) k b full lo hi H (yr (fun j=>j8 lo hi (b j)) k)) (bC _ (n+3) (sd (bh _) (fun x hy=>by rw[← Tr.af hy];exact h99))) (aj _ _) (ai _ _) ?_;refine Tr.ak ⟨rfl,rfl⟩ (Tr.ag ⟨?_,rfl⟩);rw[wE]
 · refine av (t99 (n+2) k b full lo hi (j8 lo hi) _ H (j:Int)) (lU _ (n+2) 0 (fun q=>Fz (hQ q))) (aj _ _) (ai _ _) ?_;show Tr.all _ (fun x=>if j8 lo hi (b j)=true then _ else _);rw[eg wO,vu];cases hp:j8 lo hi (b j) with
   | true =>
     simp only[if_true];refine Tr.ae (fun hc=>?_) (fun hc=>?_)
     · repeat' first | (refine Tr.ae (fun hc=>?_) (fun hc=>?_)<;>(try simp (disch:=omega) only[nV,nW] at hc)<;>(try (exfalso;omega))) | (refine Tr.aa ?_ ?_;· ((try simp (disch:=omega) only[nV,nW]);try omega)) | (refine Tr.ak ?_ ?_;· first | exact trivial | rfl | exact ⟨rfl,rfl⟩ | exact ⟨trivial,rfl⟩ | exact ⟨rfl,by assumption⟩ | exact ⟨trivial,by assumption⟩ | exact ⟨rfl,rfl,rfl⟩ | (simp (disch:=omega) only[nV,nW];done) | ((try simp (disch:=omega) only[nV,nW]);omega)) | fail
       all_goals first
        | exact ⟨rfl,rfl⟩
        | (refine Tr.ak ⟨trivial,rfl⟩ ?_
           exact wF)
        | exact Tr.ag rfl
        | fail
     · simp (disch:=omega) only[nV,nW] at hc;omega
   | false =>
     simp only[Bool.false_eq_true,if_false];refine Tr.ae (fun hc=>?_) (fun hc=>?_)
     · repeat' first | (refine Tr.ae (fun hc=>?_) (fun hc=>?_)<;>(try simp (disch:=omega) only[nV,nW] at hc)<;>(try (exfalso;omega))) | (refine Tr.aa ?_ ?_;· ((try simp (disch:=omega) only[nV,nW]);try omega)) | (refine Tr.ak ?_ ?_;· first | exact trivial | rfl | exact ⟨rfl,rfl⟩ | exact ⟨trivial,rfl⟩ | exact ⟨rfl,by assumption⟩ | exact ⟨trivial,by assumption⟩ | exact ⟨rfl,rfl,rfl⟩ | (simp (disch:=omega) only[nV,nW];done) | ((try simp (disch:=omega) only[nV,nW]);omega)) | fail
       all_goals first
        | exact ⟨rfl,rfl⟩
        | (refine Tr.ak ⟨trivial,rfl⟩ ?_
           exact wF)
        | exact Tr.ag ⟨rfl,rfl⟩
        | fail
     · simp (disch:=omega) only[nV,nW] at hc;omega
 · obtain ⟨x,h1,rfl⟩:=av (Q:=fun x=>x=(.exit 0,D1 k b full (ofNat k)++[(9,.bool false)],aV::aV::ug lo hi::H)) (t99 (n+2) k b full lo hi (j8 lo hi) _ H (ofNat k)) (lU _ (n+2) 0 (fun q=>Fz (hQ q))) (aj _ _) (ai _ _) (by
    refine Tr.ae (fun hc=>?_) (fun hc=>Tr.ag rfl);simp (disch:=omega) only[nV,nW] at hc;omega)
   exact h1
theorem UJ (hk:k≤1000):cd (n+5) (.fn 59) [.int .i64 lo,.int .i64 hi,bG k b full] H=some (.bool (!dz (fun j=>j8 lo hi (b j)) k),H):=by
 have h:=UU n k b full lo hi H hk;refine rm (n:=n+4) Tryd.func59 rfl (fun _ _=>rfl) rfl (Xk (n+4) k b full lo hi H (dz (fun j=>j8 lo hi (b j)) k)) (bC _ (n+4) (sd (bh _) (fun x hy=>by rw[← Tr.af hy];exact h))) (aj _ _) (ai _ _) ?_;rw[aO];exact wF
end
noncomputable def PV (lo hi:Int):List Int→Bool
 | []=>true
 | x::r=>bL (bL (cU lo x) (cU x hi)) (PV lo hi r)
theorem LQ (lo hi:Int) (l:List Int):(!dz (fun j=>j8 lo hi (aI l j)) l.length)=PV lo hi l:=by
 rw[gw];induction l with
 | nil=>rfl
 | cons x r ih =>
   have e:dz (fun j=>j8 lo hi ((fun j=>(x::r).getD j 0) j)) (r.length+1)=(j8 lo hi x || dz (fun j=>j8 lo hi ((fun j=>r.getD j 0) j)) r.length):=by
    rw[Bool.eq_iff_iff,Bool.or_eq_true,dI,dI];constructor
    · rintro ⟨i,h1,h2⟩;cases i with
      | zero=>exact .inl h2
      | succ i=>exact .inr ⟨i,by omega,h2⟩
    · rintro (h | ⟨i,h1,h2⟩)
      · exact ⟨0,by omega,h⟩
      · exact ⟨i+1,by omega,h2⟩
   show (!dz _ (r.length+1))=_;rw[e,Bool.not_or,ih];show _=bL (bL (cU lo x) (cU x hi)) (PV lo hi r);rw[bW,bW,a7,a7];congr 1;unfold j8;by_cases h1:lo≤x
   · rw[decide_eq_true h1,decide_eq_false wO];by_cases h2:x≤hi
     · rw[decide_eq_true h2,decide_eq_false wO];rfl
     · rw[decide_eq_false h2,decide_eq_true wO];rfl
   · rw[decide_eq_false h1,decide_eq_true wO];rfl
noncomputable def gW (args:List AV) (H:ab):Tr (AV×ab) :=
 match args with
 | [.int .i64 lo,.int .i64 hi,.slc d i ver 0 1 k cap]=>match dg H d i ver with
   | some (.I .i64 l)=>cond (Nat.beq l.length k && Nat.ble k 1000) (.ok (.bool (PV lo hi l),H)) .bad
   | _=>.bad
 | _=>.bad
theorem sq {n:Nat} {t:nv} (ht:t.Ok (cd (n+6))):(kZ t 59 gW).Ok (cd (n+6)):=by
 refine xG ht (fun args H x hx=>?_);unfold gW at hx;split at hx;case h_2=>exact (Tr.ah hx).elim
 rename_i lo hi d i ver k cap;split at hx;case h_2=>exact (Tr.ah hx).elim
 rename_i l hr;cases hc:(Nat.beq l.length k && Nat.ble k 1000) with
 | false=>rw[hc] at hx;exact (Tr.ah hx).elim
 | true =>
   rw[hc,cond_true] at hx;rw[Bool.and_eq_true] at hc;have hk:l.length=k:=Nat.eq_of_beq_eq_true hc.1;have hk2:=Nat.le_of_ble_eq_true hc.2;subst hk;rw[← Tr.af hx];refine Ce ?_;show O0 (cd (n+5)) 59 [.int .i64 lo,.int .i64 hi,.slc d i ver 0 1 l.length cap] H=_;unfold O0;simp only[hr,if_true];have:=UJ n l.length (aI l) false lo hi [⟨true,[]⟩] hk2;have e:bG l.length (aI l) false=.slcT none (.M [.arr .i64 (aI l) l.length]) 1 l.length false:=rfl;rw[e] at this;rw[this,LQ];rfl
end Go.Eng
end
section
namespace Go.Eng
open Int (ofNat)
open Go.Proofs
noncomputable def DZ (l:Nat) (z:Nat→Int) (j:Int):aA:=[(0,slA 4 l z),(1,.fn (.func 58) [] []),(7,.int .i64 (ofNat l)),(8,.int .i64 j)]
theorem t85 (n:Nat) (l:Nat) (z:Nat→Int) (H:ab) (j:Int):aH (bO (n+8) 85 19) (il (kZ aJ 59 gW) (n+6) 2) aS aR (part Tryd.f85 [1,0,1,0,0]) (hints (DZ l z j)) (aV::H) =
 Tr.ite (bw j (ofNat l)) (Tr.req (b8 j l) (Tr.req (bR (aq 0 j 4) (bD l 4)) (Tr.req (bR (ar (aq 0 j 4) 1) (bD l 4)) (Tr.req (bR (ar (aq 0 j 4) 2) (bD l 4)) (Tr.req (bR (ar (aq 0 j 4) 3) (bD l 4)) (Tr.ite (bU (bL (bL (cU (ofNat 0) (z (aq 0 j 4))) (cU (z (aq 0 j 4)) (ofNat 1000))) (bL (bL (cU (ofNat 0) (z (ar (aq 0 j 4) 1))) (cU (z (ar (aq 0 j 4) 1)) (ofNat 1000))) (bL (bL (cU (ofNat 0) (z (ar (aq 0 j 4) 2))) (cU (z (ar (aq 0 j 4) 2)) (ofNat 1000))) (bL (bL (cU (ofNat 0) (z (ar (aq 0 j 4) 3))) (cU (z (ar (aq 0 j 4) 3)) (ofNat 1000))) true))))) (Tr.ok (Ex.ret,[(4,AV.int .i64 j,none)],aV::H)) (Tr.ite (bw (z (ar (aq 0 j 4) 1)) (z (aq 0 j 4))) (Tr.ok (Ex.ret,[(4,AV.int .i64 j,none)],aV::H)) (Tr.ite (bw (z (ar (aq 0 j 4) 3)) (z (ar (aq 0 j 4) 2))) (Tr.ok (Ex.ret,[(4,AV.int .i64 j,none)],aV::H)) (Tr.ok (Ex.normal,[(0,slA 4 l z,none),(1,AV.fn (Fn.func 58) [] [],none),(7,iI l,none),(8,AV.int .i64 (aQ .i64 j (ofNat 1)),none)],aV::H)))))))))) (Tr.ok (Ex.exit 0,[(0,slA 4 l z,none),(1,AV.fn (Fn.func 58) [] [],none),(7,iI l,none),(8,AV.int .i64 j,none),(9,AV.bool false,some 1)],aV::H)):=by kernel_rfl
theorem Xy (n:Nat) (l:Nat) (z:Nat→Int) (H:ab) (i:Int) (e:Bool):bu Tryd.prog (cd (n+8)) 100000 85 Tryd.f85 (KtG.kt 85) (il aJ (n+8) 0) (cw aS 0 (DZ l z 0) (aV::H) (.ite e (.ok (.ret,[(4,.int .i64 i,none)],aV::H)) (.ok (.normal,hints (DZ l z (ofNat l)++[(9,.bool false)]),aV::H)))) aR [(slA 4 l z,none),(.fn (.func 58) [] [],none)] H =
 Tr.reqP ([(0,slA 4 l z),(1,AV.fn (Fn.func 58) [] []),(7,iI l),(8,iI 0)]=[(0,slA 4 l z),(1,AV.fn (Fn.func 58) [] []),(7,iI l),(8,iI 0)]∧aV::H=aV::H) (Tr.ite e (Tr.ok ((AV.int .i64 i,none),H)) (Tr.ok ((AV.int .i64 (Int.negSucc 0),some 1),H))):=by kernel_rfl
theorem Xl (n:Nat) (l:Nat) (z:Nat→Int) (H:ab) (i:Int):bu Tryd.prog (cd (n+9)) 100000 60 Tryd.f60 (KtG.kt 60) (il (tX aJ 85 [slA 4 l z,.fn (.func 58) [] []] (.int .i64 i)) (n+9) 0) aS aR [(slA 4 l z,none),(.fn (.func 58) [] [],none)] H =
 Tr.reqP ([slA 4 l z,AV.fn (Fn.func 58) [] []]=[slA 4 l z,AV.fn (Fn.func 58) [] []]) (Tr.ok ((AV.bool (cU (ofNat 0) i),none),H)):=by kernel_rfl
def jg (z:Nat→Int) (j:Nat):Bool:=!(decide (0≤z (j*4)) && (decide (z (j*4)≤z (j*4+1)) && (decide (z (j*4+1)≤1000) && (decide (0≤z (j*4+2)) && (decide (z (j*4+2)≤z (j*4+3)) && decide (z (j*4+3)≤1000))))))
theorem Uw:∀ b,(0,b) ∈ aE (bx Tryd.f85)→b=.loop (part Tryd.f85 [1,0,1,0,0]):=dK (by kernel_rfl)
section
variable (n:Nat) (l:Nat) (z:Nat→Int) (H:ab)
theorem Uc (n k:Nat):(il (kZ aJ 59 gW) (n+6) k).Ok (cd (n+6+k)):=lU _ _ _ (fun q=>by rw[show n+6+q=n+q+6 by omega];exact sq (bh _))
theorem UX (hl:l≤1000):cd (n+9) (.fn 85) [slA 4 l z,.fn (.func 58) [] []] H=some (.int .i64 (yr (jg z) l),H):=by
 have lp:=iH (n:=n+8) (f:=85) (nt:=19) (c:=part Tryd.f85 [1,0,1,0,0]) 0 (fun j=>DZ l z (j:Int)) (fun _=>aV::H) l (jg z) (fun j=>([(4,.int .i64 (j:Int))],aV::H)) (DZ l z (ofNat l)++[(9,.bool false)],aV::H) wO (fun j hj=>?_) ?_
 · refine bB (n:=n+8) Tryd.func85 rfl rfl rfl (Xy n l z H ((fN (jg z) l 0:Nat):Int) (dz (jg z) l)) (gI (n+8) 0) (aM (aj _ _) Uw (fun x hx=>dy hx lp)) (ai _ _) ?_;repeat' first | (refine Tr.ae (fun hc=>?_) (fun hc=>?_)<;>(try simp (disch:=omega) only[nV,nW] at hc)<;>(try (exfalso;omega))) | (refine Tr.aa ?_ ?_;· ((try simp (disch:=omega) only[nV,nW]);try omega)) | (refine Tr.ak ?_ ?_;· first | exact trivial | rfl | exact ⟨rfl,rfl⟩ | exact ⟨trivial,rfl⟩ | exact ⟨rfl,by assumption⟩ | exact ⟨trivial,by assumption⟩ | exact ⟨rfl,rfl,rfl⟩ | (simp (disch:=omega) only[nV,nW];done) | ((try simp (disch:=omega) only[nV,nW]);omega)) | fail
   all_goals refine Tr.ag ⟨?_,rfl⟩
   · unfold yr;rw[if_pos hc]
   · unfold yr;rw[if_neg (by rw[hc];decide)];rfl
 · have ej:aQ .i64 (j:Int) (ofNat 1)=((j+1:Nat):Int):=eg wO;have ei:aq 0 (j:Int) 4=j*4:=by rw[bP];omega
   have hs:jg z j=!(decide (0≤z (j*4)) && (decide (z (j*4)≤z (j*4+1)) && (decide (z (j*4+1)≤1000) && (decide (0≤z (j*4+2)) && (decide (z (j*4+2)≤z (j*4+3)) && decide (z (j*4+3)≤1000)))))):=rfl;refine av (t85 n l z H (j:Int)) (Uc n 2) (aj _ _) (ai _ _) ?_;refine Tr.ae (fun h0=>?_) wJ;refine Tr.aa wG (Tr.aa (by rw[ei];simp (disch:=omega) only[nV,nW];omega) (Tr.aa (by rw[ei];simp (disch:=omega) only[nV,nW];omega) (Tr.aa (by rw[ei];simp (disch:=omega) only[nV,nW];omega) (Tr.aa (by rw[ei];simp (disch:=omega) only[nV,nW];omega) ?_))));rw[ei,aC,aC,aC,ej];refine Tr.ae (fun h1=>?_) (fun h1=>?_)
   · refine Tr.ag ?_;rw[if_pos (by rw[hs];simp[aO,bW,a7] at h1 ⊢;omega)];rfl
   · simp only[aO,bW,a7] at h1;simp at h1;refine Tr.ae (fun h2=>?_) (fun h2=>?_)
     · rw[bn,decide_eq_true_eq] at h2;refine Tr.ag ?_;rw[if_pos (by rw[hs];simp;omega)];rfl
     · rw[bn,decide_eq_false_iff_not] at h2;refine Tr.ae (fun h3=>?_) (fun h3=>?_)
       · rw[bn,decide_eq_true_eq] at h3;refine Tr.ag ?_;rw[if_pos (by rw[hs];simp;omega)];rfl
       · rw[bn,decide_eq_false_iff_not] at h3;refine Tr.ag ?_;rw[if_neg (by rw[hs];simp;omega)];exact ⟨rfl,rfl⟩
 · obtain ⟨x,h1,rfl⟩:=av (Q:=fun x=>x=(.exit 0,DZ l z (ofNat l)++[(9,.bool false)],aV::H)) (t85 n l z H (ofNat l)) (Uc n 2) (aj _ _) (ai _ _) (by
    refine Tr.ae wJ (fun h0=>Tr.ag rfl))
   exact h1
theorem UK (hl:l≤1000):cd (n+10) (.fn 60) [slA 4 l z,.fn (.func 58) [] []] H=some (.bool (dz (jg z) l),H):=by
 have h:=fun H=>UX n l z H hl;refine bB (n:=n+9) Tryd.func60 rfl rfl rfl (Xl n l z H (yr (jg z) l)) (bC _ (n+9) (b7 (bh _) h)) (aj _ _) (ai _ _) ?_;refine Tr.ak rfl (Tr.ag ⟨?_,rfl⟩);rw[wE]
end
end Go.Eng
end
