/- Gall: closed calls: what they lean on; counts of shelves that are known. -/
import Derived.Test.YtgphpjdchnfjlaaDoorV6Gq5x5
import Derived.Test.YtgphpjdchnfjlaaDoorV6Gp2x6
import Derived.Test.YtgphpjdchnfjlaaDoorV6EngTgx11
import Derived.Test.YtgphpjdchnfjlaaDoorV6EngTkx3
import Derived.Test.YtgphpjdchnfjlaaDoorV6EngRnFx7
import Derived.Test.YtgphpjdchnfjlaaDoorV6EngRoSx4
set_option linter.unusedVariables false
set_option linter.unusedSimpArgs false
set_option maxRecDepth 100000
section
namespace Go.Eng.Gall
open Go.Proofs Go.Eng.Q
theorem named:dI Tryd.prog:=by
 have h:(Tryd.prog.funcs.toList.all fun fn=>fn.body.isNone || !(fn.name == "runtime.NumGoroutine"))=true:=by kernel_rfl
 intro f fn hf hb;have:=List.all_eq_true.1 h fn (by simpa using Array.mem_of_getElem? hf);rw[hb] at this;simpa using this
theorem mixed:Tryd.prog.follows .mixedOrders=true:=by kernel_rfl
theorem I0:∀ e ∈ ([]:List cA),aD Tryd.prog e:=fun e h=>by cases h
theorem aY {e:cA} {t:List cA} (h:aD Tryd.prog e) (k:∀ x ∈ t,aD Tryd.prog x):∀ x ∈ e::t,aD Tryd.prog x:=fun x hx=>by
 rcases List.mem_cons.1 hx with rfl | hx
 · exact h
 · exact k x hx
def Uq:List AV→Bool
 | .ptr _ _ _ _::_=>true
 | _=>false
noncomputable def uQ (c:aJ) (f:FuncId) (args:List AV) (H:ab):Option (AV×ab) :=
 cond (Nat.beq f 82) (FG args H) (cond (Nat.beq f 62) (P0 (od Tryd.prog KtG.kt 100000 62 c args H)) (cond ((Nat.beq f 63 || Nat.beq f 65) && Uq args) (O3 c f args H) (cond (Nat.beq f 47) (od Tryd.prog KtG.kt 100000 47 (BT Tryd.prog KtG.kt 100000 46 c) args H) (cond (Nat.beq f 94 || Nat.beq f 100) (GA Tryd.prog KtG.kt 100000 f c args H) none))))
theorem C5 (hN:dI Tryd.prog) (hD:gl Tryd.prog):rQ Tryd.prog uQ:=fun call hC f args H v H' h hne p M w cargs hH hA=>by
 unfold uQ at h;cases h82:Nat.beq f 82 with
 | true =>
   rw[h82,cond_true] at h;have:=Nat.eq_of_beq_eq_true h82;subst this;exact Ih h hH hA
 | false =>
 rw[h82,cond_false] at h;cases h62:Nat.beq f 62 with
 | true =>
   rw[h62,cond_true] at h;have:=Nat.eq_of_beq_eq_true h62;subst this;unfold P0 at h;split at h;case h_2=>simp at h
   rename_i v1 H1 he;simp only[nP] at h;obtain ⟨rfl,rfl⟩:=h;obtain ⟨h1,h2⟩:=pn hN hD KtG.kt 100000 hC he hH hA;exact ⟨h1,h2.mono (fun _ _ h=>eW.Nq h)⟩
 | false =>
 rw[h62,cond_false] at h;cases hr:((Nat.beq f 63 || Nat.beq f 65) && Uq args) with
 | true =>
   rw[hr,cond_true] at h;exact MF hC h hH hA
 | false =>
 rw[hr,cond_false] at h;cases h47:Nat.beq f 47 with
 | true =>
   rw[h47,cond_true] at h;have:=Nat.eq_of_beq_eq_true h47;subst this;exact pn hN hD KtG.kt 100000 (EH hN hD KtG.kt 100000 46 hC) h hH hA
 | false =>
 rw[h47,cond_false] at h;cases h94:(Nat.beq f 94 || Nat.beq f 100) with
 | true =>
   rw[h94,cond_true] at h;exact GB hN hD KtG.kt 100000 hC h hH hA
 | false=>rw[h94,cond_false] at h;cases h
noncomputable def Mt (tab:List cA):aJ→FuncId→List AV→ab→Option (AV×ab):=fun c f args H=>match Bu tab c f args H with
 | some x=>some x
 | none=>uQ c f args H
theorem I8 (hN:dI Tryd.prog) (hD:gl Tryd.prog) {tab:List cA} (hT:∀ e ∈ tab,aD Tryd.prog e):rQ Tryd.prog (Mt tab):=fun call hC f args H v H' h hne p M w cargs hH hA=>by
 unfold Mt at h;split at h
 · rename_i x hx;simp only[Option.some.injEq] at h;subst h;exact wW tab hT call hC f args H v H' hx hne p M w cargs hH hA
 · exact C5 hN hD call hC f args H v H' h hne p M w cargs hH hA
theorem a7 {tab:List cA} (hT:∀ e ∈ tab,aD Tryd.prog e) {e:cA} {H':ab}
 (h:Fu Tryd.prog (Mt tab) KtG.kt 100000 40 (.fn e.f) e.args [⟨true,[]⟩]=some (e.v,H')) (hn:e.args.all (tc 9)=true):aD Tryd.prog e:=by
 rw[DM] at h
 exact yM (mM named (pI named mixed) (I8 named (pI named mixed) hT) KtG.kt 100000 40) h hn
theorem Fv (n:Nat):bW Tryd.prog (cd n):=mM named (pI named mixed) wU KtG.kt 100000 n
theorem FA (O:Int) (U:Nat) (Z:Nat→Int) (V:Nat) (J:Nat→Int) (W B:Nat→Int) (hl:U≤10) {p:aG} {M:Mu} {H:ab} {w:World} {cargs:Array Value} (hH:bn p M H w) (hA:eK p M [shV O U Z V J W B] cargs) :
 (∃ fn,Tryd.prog.funcs[73]?=some fn∧fn.body.isNone=false)∧CallsIn Fence.wide 0 Tryd.prog 73 cargs w (eW p M H w (.int .i64 (cntF U W B)) H) :=
 En named (pI named mixed) NU KtG.kt 100000 (Fv 3) (Qs 2 O U Z V J W B hl H) hH hA
noncomputable def Ux (O:Int) (U:Nat) (zl:List Int) (V:Nat) (bl:List Int) (f1 f2:Bool) (Wl Bl:List Int):AV:=.ptrT none (.G (.int .i64 O::.slcT none (.I .i64 zl) 4 U f1::.slcT none (.I .i64 bl) 2 V f2::(Wl.map (.int .i64)++Bl.map (.int .u64)))) 0
theorem zp {p:aG} {M:Mu} {zl:List Int} {sz U:Nat} {f:Bool} {c:Value} (hl:zl.length=cG U sz) (h:al p M (.slcT none (.I .i64 zl) sz U f) c):al p M (.slcT none (.M [.arr .i64 (aI zl) (cG U sz)]) sz U false) c:=by
 cases h with
 | slcT vs hp h1 hv h2 h3 h4 =>
   have hlen:(Row.M [.arr .i64 (aI zl) (cG U sz)]).len=(Row.I .i64 zl).len:=by
    show cG U sz+0=zl.length;omega
   refine .slcT vs (fun j hj=>hp j (by rw[← hlen];exact hj)) (fun j hj=>h1 j (by rw[← hlen];exact hj)) (fun j hj=>?_) h2 (fun e=>by cases e) h4;have hj':j<zl.length:=by rw[hlen] at hj;exact hj
   have:=hv j (by rw[← hlen];exact hj);have e:getM [.arr .i64 (aI zl) (cG U sz)] j=.int .i64 (zl.getD j 0):=by
    show (if j<cG U sz then AV.int .i64 (aI zl j) else _)=_;rw[if_pos (by omega),fq]
   show al p _ (getM [.arr .i64 (aI zl) (cG U sz)] j) (vs j);rw[e];exact this.bu _ _
 | slcN=>exact .slcN
theorem Jv {p:aG} {M:Mu} {O:Int} {U:Nat} {zl:List Int} {V:Nat} {bl:List Int} {f1 f2:Bool} {Wl Bl:List Int} {c:Value} (hz:zl.length=cG U 4) (hb:bl.length=cG V 2) (hW:Wl.length=20) (hB:Bl.length=10) (h:al p M (Ux O U zl V bl f1 f2 Wl Bl) c):al p M (shV O U (aI zl) V (aI bl) (aI Wl) (aI Bl)) c:=by
 cases h with
 | ptrT vs hp h1 hv =>
   have hlen:(shR O U (aI zl) V (aI bl) (aI Wl) (aI Bl)).len=33:=rfl;have hlen':(Row.G (.int .i64 O::.slcT none (.I .i64 zl) 4 U f1::.slcT none (.I .i64 bl) 2 V f2::(Wl.map (.int .i64)++Bl.map (.int .u64)))).len=33:=by simp[Row.len,hW,hB]
   refine .ptrT vs (fun j hj=>hp j (by rw[hlen'] ; rw[hlen] at hj;exact hj)) (fun j hj=>h1 j (by rw[hlen'] ; rw[hlen] at hj;exact hj)) (fun j hj=>?_);rw[hlen] at hj;have:=hv j (by rw[hlen'];exact hj);match j,hj,this with
   | 0,_,this=>exact this
   | 1,_,this=>exact zp hz this
   | 2,_,this=>exact zp hb this
   | j + 3,hj,this =>
     have this:al p _ ((Wl.map (AV.int .i64)++Bl.map (AV.int .u64)).getD j .undef) (vs (j+3)):=this;show al p _ (getM [.arr .i64 (aI Wl) 20,.arr .u64 (aI Bl) 10] j) (vs (j+3));by_cases hj20:j<20
     · have e:getM [.arr .i64 (aI Wl) 20,.arr .u64 (aI Bl) 10] j=.int .i64 (Wl.getD j 0):=by
        show (if j<20 then AV.int .i64 (aI Wl j) else _)=_;rw[if_pos hj20,fq]
       have e2:(Wl.map (AV.int .i64)++Bl.map (AV.int .u64)).getD j .undef=.int .i64 (Wl.getD j 0):=by
        rw[List.getD_eq_getElem?_getD,List.getElem?_append_left (by simp;omega),List.getElem?_map,List.getD_eq_getElem?_getD,List.getElem?_eq_getElem (by omega)];rfl
       rw[e];rw[e2] at this;exact this.bu _ _
     · have e:getM [.arr .i64 (aI Wl) 20,.arr .u64 (aI Bl) 10] j=.int .u64 (Bl.getD (j-20) 0):=by
        show (if j<20 then AV.int .i64 (aI Wl j) else (if j-20<10 then AV.int .u64 (aI Bl (j-20)) else _))=_;rw[if_neg hj20,if_pos (by omega),fq]
       have e2:(Wl.map (AV.int .i64)++Bl.map (AV.int .u64)).getD j .undef=.int .u64 (Bl.getD (j-20) 0):=by
        rw[List.getD_eq_getElem?_getD,List.getElem?_append_right (by simp;omega),List.getElem?_map,List.length_map,hW,List.getD_eq_getElem?_getD,List.getElem?_eq_getElem (by omega)];rfl
       rw[e];rw[e2] at this;exact this.bu _ _
def Ss (Wl Bl:List Int) (k X c:Nat):Bool:=(BitVec.ofInt 64 (Bl.getD c 0) &&& ~~~(BitVec.ofNat 64 X)).toNat == 0 && (decide (Wl.getD (2*c) 0≤(k:Int)) && decide ((k:Int)≤Wl.getD (2*c+1) 0))
theorem GD (Wl Bl:List Int):okW (aI Wl) (aI Bl)=Ss Wl Bl:=by
 funext k X c;unfold okW Ss;rw[fq,fq,rU,bh,bh,aE];congr 1;show (IntKind.u64.wrap (((BitVec.ofInt 64 (Bl.getD c 0) &&& ~~~(BitVec.ofInt 64 (X:Int))).toNat:Nat):Int) == 0)=_;rw[H6,jI (BitVec.isLt _)];generalize (BitVec.ofInt 64 (Bl.getD c 0) &&& ~~~(BitVec.ofNat 64 X)).toNat=t;rw[Bool.eq_iff_iff,beq_iff_eq,beq_iff_eq];omega
def Qx (U:Nat) (Wl Bl:List Int):Nat:=(ro U (Ss Wl Bl) U).length
theorem GF {O:Int} {U:Nat} {zl:List Int} {V:Nat} {bl:List Int} {f1 f2:Bool} {Wl Bl:List Int} {A:AV} {v:Nat} (hA:A=Ux O U zl V bl f1 f2 Wl Bl) (hl:U≤10) (hz:zl.length=U*4) (hb:bl.length=V*2) (hW:Wl.length=20) (hB:Bl.length=10) (hv:Qx U Wl Bl=v):aD Tryd.prog ⟨73,[A],.int .i64 (v:Int)⟩:=by
 intro H hne p M w cargs hH hC;have e:cntF U (aI Wl) (aI Bl)=(v:Int):=by unfold cntF;rw[GD];exact congrArg Int.ofNat hv
 rw[← e];refine FA O U (aI zl) V (aI bl) (aI Wl) (aI Bl) hl hH ⟨hC.1,fun j hj=>?_⟩;have hC2:=hC.2 j hj;subst hA;have:j=0:=by simp at hj;omega
 subst this;exact Jv (by rw[rA];exact hz) (by rw[rA];exact hb) hW hB hC2
end Go.Eng.Gall
end
section
namespace Go.Eng
open Go.Proofs Go.ChangeShapes
open Go.Eng.Q (shV shR slA cntF okW)
noncomputable def H9 (args:List AV) (H:ab):Option (AV×ab) :=
 match args with
 | [.ptrT none (.M [.one (.int .i64 O),.one (.slcT none (.M [.arr .i64 Z n1]) 4 U false),.one (.slcT none (.M [.arr .i64 J n2]) 2 V false),.arr .i64 W 20,.arr .u64 B 10]) 0]=>if U≤10∧n1=fK U 4∧n2=fK V 2 then some (.int .i64 (cntF U W B),H) else none
 | _=>none
theorem Ia {O:Int} {U:Nat} {Z:Nat→Int} {V:Nat} {J:Nat→Int} {W B:Nat→Int} {H:ab} (hl:U≤10):H9 [shV O U Z V J W B] H=some (.int .i64 (cntF U W B),H):=by
 show (if U≤10∧fK U 4=fK U 4∧fK V 2=fK V 2 then some (AV.int .i64 (cntF U W B),H) else none)=_;rw[if_pos ⟨hl,rfl,rfl⟩]
theorem Ib {args:List AV} {H:ab} {v:AV} {H':ab} (h:H9 args H=some (v,H')) {p:aG} {M:Mu} {w:World} {cargs:Array Value} (hH:bn p M H w) (hA:eK p M args cargs):(∃ fn,Tryd.prog.funcs[73]?=some fn∧fn.body.isNone=false)∧CallsIn Fence.wide 0 Tryd.prog 73 cargs w (eW p M H w v H'):=by
 unfold H9 at h;split at h;case h_2=>simp at h
 rename_i O Z n1 U J n2 V W B;split at h;case isFalse=>simp at h
 rename_i hc;obtain ⟨hl,rfl,rfl⟩:=hc;simp only[nP] at h;obtain ⟨rfl,rfl⟩:=h;exact Gall.FA O U Z V J W B hl hH hA
def J9:List AV→Bool
 | [_,_,.slc _ _ _ _ _ _ _]=>true
 | _=>false
def Eh:AV→AV
 | .tup l=>.tup (l.map jC)
 | v=>jC v
theorem Gx {p:aG} {M:Mu} {v:AV} {c:Value} (h:al p M v c):al p M (Eh v) c:=by
 unfold Eh;split
 · rename_i l;cases h with
   | tup hs hv =>
     refine .tup (by simpa using hs) (fun j hj=>?_);have hj':j<l.length:=by simpa using hj
     have:=kr (hv j hj');simpa[List.getD_eq_getElem?_getD,hj'] using this
 · exact kr h
def Mo (c:Option (AV×ab)):Option (AV×ab) :=
 match c with
 | some (v,H)=>some (Eh v,H)
 | none=>none
theorem eW.WX {p:aG} {M:Mu} {H H':ab} {w:World} {v:AV} {e:Ending} {w':World} (h:eW p M H w v H' e w'):eW p M H w (Eh v) H' e w':=by
 obtain ⟨cv,h1,st,p',M',hE,hv⟩:=h;exact ⟨cv,h1,st,p',M',hE,Gx hv⟩
noncomputable def jf:aJ→FuncId→List AV→ab→Option (AV×ab):=fun call f args H=>cond (Nat.beq f 30 || Nat.beq f 38) (Mo (od Tryd.prog KtG.kt 100000 f call args H)) <| cond (Nat.beq f 59 && J9 args) (O4 call f args H) (cond (Nat.beq f 73) (H9 args H) (cond (Nat.beq f 95) (MJ O6 args H) (match Gall.uQ call f args H with
 | some x=>some x
 | none=>wV [⟨15,[],.bool true⟩] call f args H)))
def Hx (f:FuncId):Bool:=(Nat.beq f 30 || Nat.beq f 38) || Nat.beq f 15 || Nat.beq f 1000000 || Nat.beq f 59 || Nat.beq f 73 || Nat.beq f 95 || Nat.beq f 82 || Nat.beq f 62 || Nat.beq f 63 || Nat.beq f 65 || Nat.beq f 47 || Nat.beq f 94 || Nat.beq f 100
noncomputable def cd (n:Nat):aJ:=dh Tryd.prog jf KtG.kt 100000 n
noncomputable def il (tab:ou) (n k:Nat):bt:=A8 Tryd.prog jf KtG.kt 100000 Hx tab n k
noncomputable def bQ (n:Nat) (f nt:Nat):Cx:=⟨Tryd.prog,cd n,100000,f,nt,KtG.kt f,none⟩
theorem OX {g:FuncId} (h:Nat.beq g 15=false) (h1:Nat.beq g 1000000=false) (c:aJ) (args:List AV) (H:ab):wV [⟨15,[],.bool true⟩] c g args H=none:=by
 unfold wV;rw[h1,cond_false];simp only[Bu];have:Nat.beq 15 g=false:=by
  cases hb:Nat.beq 15 g with
  | false=>rfl
  | true=>have:=Nat.eq_of_beq_eq_true hb;subst this;simp at h
 rw[this];rfl
theorem wM (g:FuncId) (h:Hx g=false) (c:aJ) (args:List AV) (H:ab):jf c g args H=none:=by
 unfold Hx at h;simp only[Bool.or_eq_false_iff] at h;obtain ⟨⟨⟨⟨⟨⟨⟨⟨⟨⟨⟨⟨⟨h30,h38⟩,h15⟩,h0⟩,h59⟩,h73⟩,h95⟩,h82⟩,h62⟩,h63⟩,h65⟩,h47⟩,h94⟩,h100⟩:=h;have e:Gall.uQ c g args H=none:=by
  unfold Gall.uQ;rw[h82,h62,h63,h65,h47,h94,h100];rfl
 unfold jf;rw[h30,h38,h59,h73,h95,e];exact OX h15 h0 c args H
theorem mU (n:Nat):∃ x,dh Tryd.prog jf KtG.kt 100000 n .mode [] []=some x:=by
 cases n<;>exact ⟨_,rfl⟩
theorem wU (hN:dI Tryd.prog) (hD:gl Tryd.prog) (hW:aD Tryd.prog ⟨15,[],.bool true⟩):rQ Tryd.prog jf :=
 fun call hC f args H v H' h hne p M w cargs hH hA=>by
  unfold jf at h;cases h30:(Nat.beq f 30 || Nat.beq f 38) with
  | true =>
    rw[h30,cond_true] at h;unfold Mo at h;split at h;case h_2=>simp at h
    rename_i v1 H1 he;simp only[nP] at h;obtain ⟨rfl,rfl⟩:=h;obtain ⟨h1,h2⟩:=pn hN hD KtG.kt 100000 hC he hH hA;exact ⟨h1,h2.mono (fun _ _ h=>eW.WX h)⟩
  | false =>
  rw[h30,cond_false] at h;cases h59:(Nat.beq f 59 && J9 args) with
  | true =>
    rw[h59,cond_true] at h;exact MG hC h hH hA
  | false =>
  rw[h59,cond_false] at h;cases h73:Nat.beq f 73 with
  | true =>
    rw[h73,cond_true] at h;have:=Nat.eq_of_beq_eq_true h73;subst this;exact Ib h hH hA
  | false =>
  rw[h73,cond_false] at h;cases h95:Nat.beq f 95 with
  | true =>
    rw[h95,cond_true] at h;have:=Nat.eq_of_beq_eq_true h95;subst this;exact Jo MO h hne hH hA
  | false =>
  rw[h95,cond_false] at h;split at h
  · rename_i x hx;simp only[Option.some.injEq] at h;subst h;exact Gall.C5 hN hD call hC f args H v H' hx hne p M w cargs hH hA
  · exact C6 _ (fun e he=>by
     simp only[List.mem_singleton] at he;subst he;exact hW) call hC f args H v H' h hne p M w cargs hH hA
theorem lF (tab:ou) (n k:Nat) (ht:∀ k,tab.Ok (cd (n+k))):(il tab n k).Ok (cd (n+k)):=wB _ _ _ _ _ _ _ wM (fun k=>mU _) ht k
theorem ff (n k:Nat):(il aF n k).Ok (cd (n+k)):=lF _ _ _ (fun k=>aN _)
theorem ay (n:Nat):(il aF n 0).Ok (cd n):=ff n 0
theorem N9 {f:FuncId} {fn:Func} {n:Nat} (hf:Tryd.prog.funcs[f]?=some fn) (hb:fn.body.isSome=true) (hn:Hx f=false) {args:List HV} (hle:Nat.ble args.length fn.ntmps=true) {H:ab} {callR:bt} (hC:callR.Ok (cd n)) {bl:eV} (hB:bl.Ok (bQ n f fn.ntmps) (bA fn)) {rg:om} (hR:rg.Ok (bQ n f fn.ntmps) (bA fn)) {y:HV×ab}
 (h:(bg Tryd.prog (cd n) 100000 f fn (KtG.kt f) callR bl rg args H).run=some y):cd (n+1) (.fn f) (lJ args) H=some (y.1.1,y.2) :=
 r5 hf hb (wM f hn _ _ _) hle hC hB hR h
theorem LS {f:FuncId} {fn:Func} {n:Nat} (hf:Tryd.prog.funcs[f]?=some fn) (hb:fn.body.isSome=true) {args:List HV} (ho:∀ c H,jf c f (lJ args) H=none) (hle:Nat.ble args.length fn.ntmps=true) {H:ab} {callR:bt} (hC:callR.Ok (cd n)) {bl:eV} (hB:bl.Ok (bQ n f fn.ntmps) (bA fn)) {rg:om} (hR:rg.Ok (bQ n f fn.ntmps) (bA fn)) {y:HV×ab}
 (h:(bg Tryd.prog (cd n) 100000 f fn (KtG.kt f) callR bl rg args H).run=some y):cd (n+1) (.fn f) (lJ args) H=some (y.1.1,y.2) :=
 r5 hf hb (ho _ _) hle hC hB hR h
theorem N8 {f:FuncId} {fn:Func} {n:Nat} (hf:Tryd.prog.funcs[f]?=some fn) (hb:fn.body.isSome=true) (hn:Hx f=false) {args:List HV} (hle:Nat.ble args.length fn.ntmps=true) {H:ab} {callR:bt} {bl:eV} {rg:om} {T:Tr (HV×ab)}
 (e:bg Tryd.prog (cd n) 100000 f fn (KtG.kt f) callR bl rg args H=T) (hC:callR.Ok (cd n)) (hB:bl.Ok (bQ n f fn.ntmps) (bA fn)) (hR:rg.Ok (bQ n f fn.ntmps) (bA fn)) {y:HV×ab} (hr:T.run=some y):cd (n+1) (.fn f) (lJ args) H=some (y.1.1,y.2) :=
 N9 hf hb hn hle hC hB hR (by rw[e];exact hr)
theorem N4 {n f nt:Nat} {c:Code} {callR:bt} (hC:callR.Ok (cd n)) {bl:eV} (hB:bl.Ok (bQ n f nt) c) {rg:om} (hR:rg.Ok (bQ n f nt) c) {fr:aC} {H:ab} {x:eB} (h:(aS (bQ n f nt) callR bl rg c (hints fr) H).run=some x):exec (bQ n f nt) c fr H=some x.st:=by
 have:=fQ hC c hB hR _ _ _ h;rw[aL] at this;exact this

def gf (bl:eV) (id0:Nat):eV:=fun id fr H=>cond (Nat.beq id id0) (some .bad) (bl id fr H)
theorem cY {bl:eV} {cx:Cx} {c:Code} (h:bl.Ok cx c) (id0:Nat):(gf bl id0).Ok cx c:=by
 intro id b hm fr H t y ht hy;unfold gf at ht;cases hb:Nat.beq id id0 with
 | true =>
   rw[hb,cond_true,Option.some.injEq] at ht;subst ht;exact (Tr.ah hy).elim
 | false =>
   rw[hb,cond_false] at ht;exact h id b hm fr H t y ht hy
theorem N3 {n f nt:Nat} {c:Code} {callR:bt} {bl:eV} {rg:om} {fr:aC} {H:ab} {T:Tr eB} (e:aS (bQ n f nt) callR bl rg c (hints fr) H=T) (hC:callR.Ok (cd n)) (hB:bl.Ok (bQ n f nt) c) (hR:rg.Ok (bQ n f nt) c) {x:eB} (hr:T.run=some x):exec (bQ n f nt) c fr H=some x.st :=
 N4 hC hB hR (by rw[e];exact hr)
section
variable {n f nt:Nat} {c:Code} {callR:bt} {bl:eV} {rg:om}
end
end Go.Eng
end
section
namespace Go.Eng
open Go.Proofs
theorem bj {f:FuncId} {fn:Func} {n:Nat} (hf:Tryd.prog.funcs[f]?=some fn) (hb:fn.body.isSome=true) (hn:Hx f=false) {args:List HV} (hle:Nat.ble args.length fn.ntmps=true) {H:ab} {callR:bt} {bl:eV} {rg:om} {T:Tr (HV×ab)}
 (e:bg Tryd.prog (cd n) 100000 f fn (KtG.kt f) callR bl rg args H=T) (hC:callR.Ok (cd n)) (hB:bl.Ok (bQ n f fn.ntmps) (bA fn)) (hR:rg.Ok (bQ n f fn.ntmps) (bA fn)) {v:AV} {H':ab} (h:T.all fun y=>y.1.1=v∧y.2=H'):cd (n+1) (.fn f) (lJ args) H=some (v,H'):=by
 obtain ⟨y,h1,h2,h3⟩:=h
 have:=N8 hf hb hn hle e hC hB hR h1
 rw[this,h2,h3]
theorem rj {f:FuncId} {fn:Func} {n:Nat} (hf:Tryd.prog.funcs[f]?=some fn) (hb:fn.body.isSome=true) {args:List HV} (ho:∀ c H,jf c f (lJ args) H=none) (hle:Nat.ble args.length fn.ntmps=true) {H:ab} {callR:bt} {bl:eV} {rg:om} {T:Tr (HV×ab)}
 (e:bg Tryd.prog (cd n) 100000 f fn (KtG.kt f) callR bl rg args H=T) (hC:callR.Ok (cd n)) (hB:bl.Ok (bQ n f fn.ntmps) (bA fn)) (hR:rg.Ok (bQ n f fn.ntmps) (bA fn)) {v:AV} {H':ab} (h:T.all fun y=>y.1.1=v∧y.2=H'):cd (n+1) (.fn f) (lJ args) H=some (v,H'):=by
 obtain ⟨y,h1,h2,h3⟩:=h
 have:=LS hf hb ho hle hC hB hR (by rw[e];exact h1)
 rw[this,h2,h3]
theorem aB {n f nt:Nat} {c:Code} {callR:bt} {bl:eV} {rg:om} {fr:aC} {H:ab} {T:Tr eB} (e:aS (bQ n f nt) callR bl rg c (hints fr) H=T) (hC:callR.Ok (cd n)) (hB:bl.Ok (bQ n f nt) c) (hR:rg.Ok (bQ n f nt) c) {Q:Ex×aC×ab→Prop} (h:T.all fun x=>Q x.st):∃ x,exec (bQ n f nt) c fr H=some x∧Q x:=by
 obtain ⟨x,h1,h2⟩:=h;exact ⟨_,N3 e hC hB hR h1,h2⟩
section
variable {n f nt:Nat} {c:Code} {callR:bt} {bl:eV} {rg:om}
theorem kb (id:Nat) (F:Nat→aC) (G:Nat→ab) (N:Nat) (p:Nat→Bool) (X:Nat→aC×ab) (Y:aC×ab) (hN:N<99999)
 (hs:∀ j,j<N→∃ x,exec (bQ n f nt) c (F j) (G j)=some x∧if p j=true then x=(.ret,X j) else x.1=.normal∧tidy (aW (G 0)) x.2.1 x.2.2=(F (j+1),G (j+1)))
 (he:exec (bQ n f nt) c (F N) (G N)=some (.exit id,Y)):exec (bQ n f nt) (.block id (.loop c)) (F 0) (G 0)=some (cond (eH p N) (.ret,X (fN p N 0)) (.normal,Y)):=by
 have key:=iN (body:=exec (bQ n f nt) c) (n:=aW (G 0)) F G N p (fun j=>if j<N then (.ret,X j) else (.exit id,Y))
  (fun j hj hp=>by
    obtain ⟨x,h1,h2⟩:=hs j hj;rw[if_neg (by rw[hp];simp)] at h2;obtain ⟨e,f1,g1⟩:=x;obtain ⟨rfl,h3⟩:=h2;exact ⟨_,_,h1,h3⟩)
  (fun j hj hp=>by
    obtain ⟨x,h1,h2⟩:=hs j hj;rw[if_pos hp] at h2;subst h2;rw[if_pos hj];exact ⟨h1,by simp⟩)
  (by
    rw[if_neg wO];exact ⟨he,by simp⟩) N 0 100000 wO wO
 cases hc:eH p N with
 | true =>
   have:=sj hc
   rw[if_pos this] at key
   exact cJ (fun id' h=>by cases h) key
 | false =>
   have:=vj hc
   rw[if_neg wO] at key
   exact ib key
end
theorem ig {n f nt:Nat} {c:Code} (id:Nat) (F:Nat→aC) (G:Nat→ab) (N:Nat) (Y:aC×ab) (hN:N<99999)
 (hs:∀ j,j<N→∃ x,exec (bQ n f nt) c (F j) (G j)=some x∧(x.1=.normal∧tidy (aW (G 0)) x.2.1 x.2.2=(F (j+1),G (j+1))))
 (he:exec (bQ n f nt) c (F N) (G N)=some (.exit id,Y)):exec (bQ n f nt) (.block id (.loop c)) (F 0) (G 0)=some (.normal,Y):=by
 have:=kb id F G N (fun _=>false) (fun _=>Y) Y hN (fun j hj=>by
  obtain ⟨x,h1,h2⟩:=hs j hj;exact ⟨x,h1,by rw[if_neg (by simp)];exact h2⟩) he
 have h0:eH (fun _=>false) N=false:=by
  cases h:eH (fun _=>false) N with
  | false=>rfl
  | true=>obtain ⟨i,_,h2⟩:=(dJ _ _).1 h;cases h2
 rw[h0] at this
 exact this
end Go.Eng
end
section
namespace Go.Eng
open Go.Proofs
/-- A level of blocks. -/
noncomputable def iI (n:Nat):AV:=.int .i64 (Int.ofNat n)
noncomputable def rM (z:Nat→Int) (n:Nat):Row:=.M [.arr .i64 z n]
noncomputable def bz (l:List (Nat×an)):bG:=⟨false,l⟩
noncomputable def av:bG:=⟨false,[]⟩
noncomputable def cw (k:Nat) (b:Nat→Int) (full:Bool):AV:=.slcT none (.M [.arr .i64 b k]) 1 k full
noncomputable def jW (v k:Nat) (y:Nat→Int):bG:=⟨false,[(v,.row (.M [.arr .i64 y k]))]⟩
theorem bo (tab:ou) (n:Nat) (ht:tab.Ok (cd n)):(il tab n 0).Ok (cd n) :=
 ⟨mU _,fun tgt args H x h=>by
   unfold il A8 at h;split at h
   · split at h
     · rename_i c hc;exact ht _ _ hc _ _ _ h
     · exact (Tr.ah h).elim
   · exact (Tr.ah h).elim⟩
theorem eO {cx:Cx} {id:Nat} {B:Code} {fr:aC} {H:ab} {e:Bool} {X Y x:eB} (h:(Tr.ite e (Tr.ok X) (Tr.ok Y)).run=some x) (hx:exec cx (.block id B) fr H=some (cond e X.st Y.st)):exec cx (.block id B) fr H=some x.st:=by
 rw[hx];rcases Tr.kh h with ⟨hc,h⟩ | ⟨hc,h⟩
 · rw[hc,← Tr.ae h];rfl
 · rw[hc,← Tr.ae h];rfl
theorem dL {cx:Cx} {id:Nat} {B:Code} {fr:aC} {H:ab} {X x:eB} (h:(Tr.ok X).run=some x) (hx:exec cx (.block id B) fr H=some X.st):exec cx (.block id B) fr H=some x.st:=by
 rw[hx,← Tr.ae h]
theorem eX {j:Nat} (h:j<2 ^ 31):bm .i64 (j:Int) (Int.ofNat 1)=((j+1:Nat):Int):=by rw[fM,show Int.ofNat 1=1 from rfl];exact iy wO wO
theorem yf (j:Nat):aw 0 (j:Int) 1=j:=by rw[bJ];omega
theorem ET {x y:Int} (h0:-9223372036854775808≤x+y) (h1:x+y≤9223372036854775807):bm .i64 x y=x+y:=by rw[fM,iy h0 h1]
theorem BB {x y:Int} (h0:-9223372036854775808≤x-y) (h1:x-y≤9223372036854775807):bX .i64 x y=x-y:=by rw[ep,iy h0 h1]
theorem Bg (L:List Int) (j:Nat):aI L j=L.getD j 0:=congrFun (fq L) j
theorem mS (L:List Int) (v:Int):rV (rJ (aI L) 0) L.length (aI [v])=aI (L++[v]):=by
 rw[jm,q9,kX];funext i;by_cases h:i<L.length
 · simp[h,List.getElem?_append]
 · by_cases h2:i=L.length
   · subst h2;simp
   · have e1:[v][i-L.length]?=none:=List.getElem?_eq_none (by simp;omega);have e2:(L++[v])[i]?=none:=List.getElem?_eq_none (by simp;omega);simp only[h,if_false,List.getD_eq_getElem?_getD,e1,e2]
noncomputable def gX (A:List AV) (XQ:AV):List AV→Option (Prop×AV):=fun x=>some (x=A,XQ)
noncomputable def tX (t:ou) (f:FuncId) (A:List AV) (XQ:AV):ou:=lW t f (gX A XQ)
theorem bO {c f:Nat} {t:ou} {A:List AV} {XQ:AV} (ht:t.Ok (cd c)) (h:∀ H,cd c (.fn f) A H=some (XQ,H)):(tX t f A XQ).Ok (cd c):=by
 refine nw ht (fun args p v hg hp H=>?_);unfold gX at hg;simp only[nP] at hg;obtain ⟨rfl,rfl⟩:=hg;rw[hp];exact h H
noncomputable def tN (t:ou) (f:FuncId):ou:=lW t f (fun _=>none)
theorem eA {c f:Nat} {t:ou} (ht:t.Ok (cd c)):(tN t f).Ok (cd c):=nw ht (fun args p v hg hp H=>by cases hg)
noncomputable def gC (P:Int→Bool) (Q:Int→List AV→ab→Prop) (args:List AV) (H:ab):Tr (AV×ab) :=
 match args with
 | .int .i64 x::C=>.reqP (Q x C H) (.ok (.bool (P x),H))
 | _=>.bad
noncomputable def Un (f:FuncId) (P:Int→Bool) (Q:Int→List AV→ab→Prop):ou:=ng aF f (gC P Q)
theorem FF {k:Nat} {f:FuncId} {P:Int→Bool} {Q:Int→List AV→ab→Prop} (h:∀ x C H,Q x C H→cd k (.fn f) (.int .i64 x::C) H=some (.bool (P x),H)):(Un f P Q).Ok (cd k):=by
 refine xC (aN _) (fun args H x hx=>?_);unfold gC at hx;split at hx
 · obtain ⟨h1,h2⟩:=Tr.gv hx;rw[h _ _ _ h1,← Tr.ae h2]
 · exact (Tr.ah hx).elim
def CG (p:Nat→Bool) (m:Nat):Int:=if eH p m=true then (fN p m 0:Int) else -1
theorem Bb (p:Nat→Bool) (k:Nat):dp (Int.ofNat 0) (CG p k)=eH p k:=by
 rw[bh];unfold CG;cases h:eH p k with
 | true =>
   rw[if_pos rfl];simp only[Int.ofNat_eq_natCast,decide_eq_true_eq];omega
 | false=>rw[if_neg (by decide)];rfl
theorem FM {p:Nat→Bool} {k:Nat} (h:∀ j,j<k→p j=false):eH p k=false:=by
 cases e:eH p k with
 | false=>rfl
 | true =>
   obtain ⟨j,hj,e2⟩:=(dJ _ _).1 e;rw[h j hj] at e2;cases e2
theorem wc {p:Nat→Bool} {k:Nat} (h:eH p k=false):∀ j,j<k→p j=false:=fun j hj=>by
 cases e:p j with
 | false=>rfl
 | true=>rw[(dJ _ _).2 ⟨j,hj,e⟩] at h;cases h
theorem OB {n f nt:Nat} {c:Code} (id:Nat) (I:Nat→aC→ab→Prop) (Q:aC×ab→Prop) (N:Nat) (hN:N<99999) {fr0:aC} {H0:ab} (h0:I 0 fr0 H0)
 (hr:∀ j fr H,I j fr H→∃ x,exec (bQ n f nt) c fr H=some x∧((x.1=.normal∧j<N∧I (j+1) (tidy (aW H0) x.2.1 x.2.2).1 (tidy (aW H0) x.2.1 x.2.2).2)∨(x.1=.ret∧Q x.2))) :
 ∃ y,exec (bQ n f nt) (.block id (.loop c)) fr0 H0=some (.ret,y)∧Q y:=by
 obtain ⟨x,h1,h2⟩:=yk (body:=exec (bQ n f nt) c) (n:=aW H0) I (fun x=>x.1=.ret∧Q x.2) N (fun j fr H h=>by
  obtain ⟨x,h1,h2⟩:=hr j fr H h;obtain ⟨e,f1,g1⟩:=x;refine ⟨e,f1,g1,h1,?_⟩;rcases h2 with h2 | ⟨h2,h3⟩
  · exact .inl h2
  · exact .inr ⟨by dsimp only at h2;rw[h2];simp,h2,h3⟩) 100000 0 fr0 H0 h0 wO
 obtain ⟨e,f1,g1⟩:=x
 obtain ⟨h2,h3⟩:=h2
 dsimp only at h2 h3
 subst h2
 exact ⟨(f1,g1),cJ (fun id' h=>by cases h) h1,h3⟩
def Oa:List AV→Option (Prop×AV)
 | []=>some (True,.bool true)
 | _=>none
theorem UO (n:Nat) (H:ab):cd (n+1) (.fn 15) [] H=some (.bool true,H):=by unfold cd dh;rfl
theorem Qy {c:Nat} {t:ou} (h:0<c) (ht:t.Ok (cd c)):(lW t 15 Oa).Ok (cd c):=by
 obtain ⟨m,rfl⟩:∃ m,c=m+1:=⟨c-1,by omega⟩
 refine nw ht (fun args p v hg hp H=>?_);unfold Oa at hg;split at hg
 · simp only[nP] at hg;obtain ⟨_,rfl⟩:=hg;exact UO _ H
 · cases hg
noncomputable def slA (n len:Nat) (z:Nat→Int):AV:=.slcT none (.M [.arr .i64 z (fK len n)]) n len false
noncomputable def a8 (O:Int) (U:Nat) (Z:Nat→Int) (V:Nat) (J:Nat→Int):AV:=.agg (.G [.int .i64 O,slA 4 U Z,slA 2 V J])
noncomputable def shR (O:Int) (U:Nat) (Z:Nat→Int) (V:Nat) (J:Nat→Int) (W B:Nat→Int):Row:=.M [.one (.int .i64 O),.one (slA 4 U Z),.one (slA 2 V J),.arr .i64 W 20,.arr .u64 B 10]
noncomputable def shV (O:Int) (U:Nat) (Z:Nat→Int) (V:Nat) (J:Nat→Int) (W B:Nat→Int):AV:=.ptrT none (shR O U Z V J W B) 0
noncomputable def dk (O:Int) (U:Nat) (Z:Nat→Int) (V:Nat) (J:Nat→Int):an:=.row (.G [.int .i64 O,slA 4 U Z,slA 2 V J])
theorem nh {c:Nat} {f:FuncId} {args:List AV} {H:ab} {x:AV×ab} (h:jf (cd c) f args H=some x):cd (c+1) (.fn f) args H=some x:=by
 unfold cd dh;unfold cd at h;rw[h]
theorem Qs (n:Nat) (O:Int) (U:Nat) (Z:Nat→Int) (V:Nat) (J:Nat→Int) (W B:Nat→Int) (H:ab) (hl:U≤10):cd (n+1) (.fn 73) [shV O U Z V J W B] H=some (.int .i64 (Q.cntF U W B),H) :=
 nh (Ia (O:=O) (Z:=Z) (V:=V) (J:=J) (W:=W) (B:=B) hl)
end Go.Eng
end
section
namespace Go.Eng
open Int (ofNat)
open Go.Proofs
noncomputable def um (lo hi:Int):bG:=⟨false,[(0,.row (.I .i64 [lo])),(0,.row (.I .i64 [hi]))]⟩
noncomputable def f84 (d:Nat):AV:=.fn (.func 84) [] [.ptr d 0 0 0,.ptr d 1 0 0]
noncomputable def D1 (k:Nat) (b:Nat→Int) (full:Bool) (j:Int):aC:=[(0,cw k b full),(1,f84 2),(7,.int .i64 (ofNat k)),(8,.int .i64 j)]
theorem XE (n:Nat) (lo hi:Int) (H:ab) (x:Int):bg Tryd.prog (cd n) 100000 84 Tryd.f84 (KtG.kt 84) (il aF n 0) aR aQ [(.int .i64 x,none),(.ptr 2 0 0 0,none),(.ptr 2 1 0 0,none)] (av::av::um lo hi::H) =
 Tr.ite (bM x lo) (Tr.ok ((AV.bool true,some 1),av::av::(bz [(0,an.row (Row.I .i64 [lo])),(0,an.row (Row.I .i64 [hi]))])::H)) (Tr.ok ((AV.bool (bM hi x),none),av::av::(bz [(0,an.row (Row.I .i64 [lo])),(0,an.row (Row.I .i64 [hi]))])::H)):=by kernel_rfl
theorem t99 (n k:Nat) (b:Nat→Int) (full:Bool) (lo hi:Int) (P:Int→Bool) (Q:Int→List AV→ab→Prop) (H:ab) (j:Int):aS (bQ n 99 19) (il (Un 84 P Q) n 0) aR aQ (part Tryd.f99 [1,0,1,0,0]) (hints (D1 k b full j)) (av::av::um lo hi::H) =
 (fun (Z0:bG)=>Tr.ite (bM j (ofNat k)) (Tr.req (c6 j k) (Tr.req (cK (aw 0 j 1) k) (Tr.reqP (Q (b (aw 0 j 1)) [AV.ptr 2 0 0 0,AV.ptr 2 1 0 0] (av::av::Z0::H)) (Tr.ite (P (b (aw 0 j 1))) (Tr.ok (Ex.ret,[(4,AV.int .i64 j,none)],av::av::Z0::H)) (Tr.ok (Ex.normal,[(0,AV.slcT none (rM b k) 1 k full,none),(1,AV.fn (Fn.func 84) [] [AV.ptr 2 0 0 0,AV.ptr 2 1 0 0],none),(7,iI k,none),(8,AV.int .i64 (bm .i64 j (ofNat 1)),none)],av::av::Z0::H)))))) (Tr.ok (Ex.exit 0,[(0,AV.slcT none (rM b k) 1 k full,none),(1,AV.fn (Fn.func 84) [] [AV.ptr 2 0 0 0,AV.ptr 2 1 0 0],none),(7,iI k,none),(8,AV.int .i64 j,none),(9,AV.bool false,some 1)],av::av::Z0::H))) (bz [(0,an.row (Row.I .i64 [lo])),(0,an.row (Row.I .i64 [hi]))]):=by kernel_rfl
theorem XJ (n k:Nat) (b:Nat→Int) (full:Bool) (lo hi:Int) (H:ab) (x:Bool) (r:Nat):bg Tryd.prog (cd n) 100000 99 Tryd.f99 (KtG.kt 99) (il aF n 0) (cV aR 0 (D1 k b full 0) (av::av::um lo hi::H) (.ite x (.ok (.ret,[(4,.int .i64 (ofNat r),none)],av::av::um lo hi::H)) (.ok (.normal,hints (D1 k b full (ofNat k)++[(9,.bool false)]),av::av::um lo hi::H)))) aQ [(cw k b full,none),(f84 1,none)] (av::um lo hi::H) =
 (fun (Z0:bG)=>((fun (Z1:aC)=>Tr.reqP (Z1=Z1∧av::av::Z0::H=av::av::Z0::H) (Tr.ite x (Tr.ok ((iI r,none),av::Z0::H)) (Tr.ok ((AV.int .i64 (Int.negSucc 0),some 1),av::Z0::H)))) [(0,AV.slcT none (rM b k) 1 k full),(1,AV.fn (Fn.func 84) [] [AV.ptr 2 0 0 0,AV.ptr 2 1 0 0]),(7,iI k),(8,iI 0)])) (bz [(0,an.row (Row.I .i64 [lo])),(0,an.row (Row.I .i64 [hi]))]):=by kernel_rfl
theorem XD (n k:Nat) (b:Nat→Int) (full:Bool) (lo hi:Int) (H:ab) (r:Int):bg Tryd.prog (cd n) 100000 83 Tryd.f83 (KtG.kt 83) (il (oo aF 99 [cw k b full,f84 1] (av::um lo hi::H) (.ok (.int .i64 r,av::um lo hi::H))) n 0) aR aQ [(cw k b full,none),(f84 0,none)] (um lo hi::H) =
 (fun (Z0:bG)=>((fun (Z1:List AV)=>Tr.reqP (Z1=Z1∧av::Z0::H=av::Z0::H) (Tr.ok ((AV.bool (dp (ofNat 0) r),none),Z0::H))) [AV.slcT none (rM b k) 1 k full,AV.fn (Fn.func 84) [] [AV.ptr 1 0 0 0,AV.ptr 1 1 0 0]])) (bz [(0,an.row (Row.I .i64 [lo])),(0,an.row (Row.I .i64 [hi]))]):=by kernel_rfl
theorem Xq (n k:Nat) (b:Nat→Int) (full:Bool) (lo hi:Int) (H:ab) (e:Bool):bg Tryd.prog (cd n) 100000 59 Tryd.f59 (KtG.kt 59) (il (oo aF 83 [cw k b full,f84 0] (um lo hi::H) (.ok (.bool e,um lo hi::H))) n 0) aR aQ [(.int .i64 lo,none),(.int .i64 hi,none),(cw k b full,none)] H =
 (fun (Z0:List AV)=>Tr.reqP (Z0=Z0∧(bz [(0,an.row (Row.I .i64 [lo])),(0,an.row (Row.I .i64 [hi]))])::H=(bz [(0,an.row (Row.I .i64 [lo])),(0,an.row (Row.I .i64 [hi]))])::H) (Tr.ok ((AV.bool (bF e),none),H))) [AV.slcT none (rM b k) 1 k full,AV.fn (Fn.func 84) [] [AV.ptr 0 0 0 0,AV.ptr 0 1 0 0]]:=by kernel_rfl
theorem UM:∀ b,(0,b) ∈ aP (bA Tryd.f99)→b=.loop (part Tryd.f99 [1,0,1,0,0]):=eN (by kernel_rfl)
def ku (lo hi x:Int):Bool:=decide (x<lo) || decide (hi<x)
section
variable (n k:Nat) (b:Nat→Int) (full:Bool) (lo hi:Int) (H:ab)
theorem U5 (x:Int):cd (n+1) (.fn 84) [.int .i64 x,.ptr 2 0 0 0,.ptr 2 1 0 0] (av::av::um lo hi::H)=some (.bool (ku lo hi x),av::av::um lo hi::H):=by
 have hp:ku lo hi x=(decide (x<lo) || decide (hi<x)):=rfl;rw[hp];refine bj (n:=n) Tryd.func84 rfl rfl rfl (XE n lo hi H x) (ay n) (aj _ _) (ak _ _) ?_;rw[bx,bx];refine Tr.af (fun hc=>Tr.ag ⟨?_,rfl⟩) (fun hc=>Tr.ag ⟨?_,rfl⟩)
 · rw[hc];rfl
 · rw[hc];rfl
theorem U4 (hk:k≤1000):cd (n+4) (.fn 83) [cw k b full,f84 0] (um lo hi::H)=some (.bool (eH (fun j=>ku lo hi (b j)) k),um lo hi::H):=by
 have hQ:∀ q x C H',(C=[.ptr 2 0 0 0,.ptr 2 1 0 0]∧H'=av::av::um lo hi::H)→cd (n+2+q) (.fn 84) (.int .i64 x::C) H'=some (.bool (ku lo hi x),H'):=by
  rintro q x C H' ⟨rfl,rfl⟩;rw[show n+2+q=n+1+q+1 by omega];exact U5 _ lo hi H x
 have hx:=kb (n:=n+2) (f:=99) (nt:=19) (c:=part Tryd.f99 [1,0,1,0,0]) 0 (fun j=>D1 k b full (j:Int)) (fun _=>av::av::um lo hi::H) k (fun j=>ku lo hi (b j)) (fun j=>([(4,.int .i64 (j:Nat))],av::av::um lo hi::H)) (D1 k b full (ofNat k)++[(9,.bool false)],av::av::um lo hi::H) wO (fun j hj=>?_) ?_
 · have h99:cd (n+3) (.fn 99) [cw k b full,f84 1] (av::um lo hi::H)=some (.int .i64 (CG (fun j=>ku lo hi (b j)) k),av::um lo hi::H):=by
    refine bj (n:=n+2) Tryd.func99 rfl rfl rfl (XJ (n+2) k b full lo hi H (eH (fun j=>ku lo hi (b j)) k) (fN (fun j=>ku lo hi (b j)) k 0)) (ay _) (aZ (aj _ _) UM (fun x h=>eO h hx)) (ak _ _) ?_;refine Tr.ai ⟨rfl,rfl⟩ (Tr.af (fun hc=>Tr.ag ⟨?_,rfl⟩) (fun hc=>Tr.ag ⟨?_,rfl⟩))
    · unfold CG;rw[if_pos hc];rfl
    · unfold CG;rw[if_neg (by rw[hc];decide)];rfl
   refine bj (n:=n+3) Tryd.func83 rfl rfl rfl (XD (n+3) k b full lo hi H (CG (fun j=>ku lo hi (b j)) k)) (bo _ (n+3) (cj (aN _) (fun x hy=>by rw[← Tr.ae hy];exact h99))) (aj _ _) (ak _ _) ?_;refine Tr.ai ⟨rfl,rfl⟩ (Tr.ag ⟨?_,rfl⟩);rw[Bb]
 · refine aB (t99 (n+2) k b full lo hi (ku lo hi) _ H (j:Int)) (lF _ (n+2) 0 (fun q=>FF (hQ q))) (aj _ _) (ak _ _) ?_;show Tr.all _ (fun x=>if ku lo hi (b j)=true then _ else _);rw[eX wO,yf];cases hp:ku lo hi (b j) with
   | true =>
     simp only[if_true];refine Tr.af (fun hc=>?_) (fun hc=>?_)
     · repeat' first | (refine Tr.af (fun hc=>?_) (fun hc=>?_)<;>(try simp (disch:=omega) only[nV,nW] at hc)<;>(try (exfalso;omega))) | (refine Tr.aa ?_ ?_;· ((try simp (disch:=omega) only[nV,nW]);try omega)) | (refine Tr.ai ?_ ?_;· first | exact trivial | rfl | exact ⟨rfl,rfl⟩ | exact ⟨trivial,rfl⟩ | exact ⟨rfl,by assumption⟩ | exact ⟨trivial,by assumption⟩ | exact ⟨rfl,rfl,rfl⟩ | (simp (disch:=omega) only[nV,nW];done) | ((try simp (disch:=omega) only[nV,nW]);omega)) | fail
       all_goals first
        | exact ⟨rfl,rfl⟩
        | (refine Tr.ai ⟨trivial,rfl⟩ ?_
           exact wF)
        | exact Tr.ag rfl
        | fail
     · simp (disch:=omega) only[nV,nW] at hc;omega
   | false =>
     simp only[Bool.false_eq_true,if_false];refine Tr.af (fun hc=>?_) (fun hc=>?_)
     · repeat' first | (refine Tr.af (fun hc=>?_) (fun hc=>?_)<;>(try simp (disch:=omega) only[nV,nW] at hc)<;>(try (exfalso;omega))) | (refine Tr.aa ?_ ?_;· ((try simp (disch:=omega) only[nV,nW]);try omega)) | (refine Tr.ai ?_ ?_;· first | exact trivial | rfl | exact ⟨rfl,rfl⟩ | exact ⟨trivial,rfl⟩ | exact ⟨rfl,by assumption⟩ | exact ⟨trivial,by assumption⟩ | exact ⟨rfl,rfl,rfl⟩ | (simp (disch:=omega) only[nV,nW];done) | ((try simp (disch:=omega) only[nV,nW]);omega)) | fail
       all_goals first
        | exact ⟨rfl,rfl⟩
        | (refine Tr.ai ⟨trivial,rfl⟩ ?_
           exact wF)
        | exact Tr.ag ⟨rfl,rfl⟩
        | fail
     · simp (disch:=omega) only[nV,nW] at hc;omega
 · obtain ⟨x,h1,rfl⟩:=aB (Q:=fun x=>x=(.exit 0,D1 k b full (ofNat k)++[(9,.bool false)],av::av::um lo hi::H)) (t99 (n+2) k b full lo hi (ku lo hi) _ H (ofNat k)) (lF _ (n+2) 0 (fun q=>FF (hQ q))) (aj _ _) (ak _ _) (by
    refine Tr.af (fun hc=>?_) (fun hc=>Tr.ag rfl);simp (disch:=omega) only[nV,nW] at hc;omega)
   exact h1
theorem UZ (hk:k≤1000):cd (n+5) (.fn 59) [.int .i64 lo,.int .i64 hi,cw k b full] H=some (.bool (!eH (fun j=>ku lo hi (b j)) k),H):=by
 have h:=U4 n k b full lo hi H hk;refine rj (n:=n+4) Tryd.func59 rfl (fun _ _=>rfl) rfl (Xq (n+4) k b full lo hi H (eH (fun j=>ku lo hi (b j)) k)) (bo _ (n+4) (cj (aN _) (fun x hy=>by rw[← Tr.ae hy];exact h))) (aj _ _) (ak _ _) ?_;rw[ar];exact wF
end
noncomputable def PW (lo hi:Int):List Int→Bool
 | []=>true
 | x::r=>bV (bV (dp lo x) (dp x hi)) (PW lo hi r)
theorem L4 (lo hi:Int) (l:List Int):(!eH (fun j=>ku lo hi (aI l j)) l.length)=PW lo hi l:=by
 rw[fq];induction l with
 | nil=>rfl
 | cons x r ih =>
   have e:eH (fun j=>ku lo hi ((fun j=>(x::r).getD j 0) j)) (r.length+1)=(ku lo hi x || eH (fun j=>ku lo hi ((fun j=>r.getD j 0) j)) r.length):=by
    rw[Bool.eq_iff_iff,Bool.or_eq_true,dJ,dJ];constructor
    · rintro ⟨i,h1,h2⟩;cases i with
      | zero=>exact .inl h2
      | succ i=>exact .inr ⟨i,by omega,h2⟩
    · rintro (h | ⟨i,h1,h2⟩)
      · exact ⟨0,by omega,h⟩
      · exact ⟨i+1,by omega,h2⟩
   show (!eH _ (r.length+1))=_;rw[e,Bool.not_or,ih];show _=bV (bV (dp lo x) (dp x hi)) (PW lo hi r);rw[bZ,bZ,bh,bh];congr 1;unfold ku;by_cases h1:lo≤x
   · rw[decide_eq_true h1,decide_eq_false wO];by_cases h2:x≤hi
     · rw[decide_eq_true h2,decide_eq_false wO];rfl
     · rw[decide_eq_false h2,decide_eq_true wO];rfl
   · rw[decide_eq_false h1,decide_eq_true wO];rfl
noncomputable def gW (args:List AV) (H:ab):Tr (AV×ab) :=
 match args with
 | [.int .i64 lo,.int .i64 hi,.slc d i ver 0 1 k cap]=>match da H d i ver with
   | some (.I .i64 l)=>cond (Nat.beq l.length k && Nat.ble k 1000) (.ok (.bool (PW lo hi l),H)) .bad
   | _=>.bad
 | _=>.bad
theorem x5 {n:Nat} {t:ou} (ht:t.Ok (cd (n+6))):(ng t 59 gW).Ok (cd (n+6)):=by
 refine xC ht (fun args H x hx=>?_);unfold gW at hx;split at hx;case h_2=>exact (Tr.ah hx).elim
 rename_i lo hi d i ver k cap;split at hx;case h_2=>exact (Tr.ah hx).elim
 rename_i l hr;cases hc:(Nat.beq l.length k && Nat.ble k 1000) with
 | false=>rw[hc] at hx;exact (Tr.ah hx).elim
 | true =>
   rw[hc,cond_true] at hx;rw[Bool.and_eq_true] at hc;have hk:l.length=k:=Nat.eq_of_beq_eq_true hc.1;have hk2:=Nat.le_of_ble_eq_true hc.2;subst hk;rw[← Tr.ae hx];refine nh ?_;show O4 (cd (n+5)) 59 [.int .i64 lo,.int .i64 hi,.slc d i ver 0 1 l.length cap] H=_;unfold O4;simp only[hr,if_true];have:=UZ n l.length (aI l) false lo hi [⟨true,[]⟩] hk2;have e:cw l.length (aI l) false=.slcT none (.M [.arr .i64 (aI l) l.length]) 1 l.length false:=rfl;rw[e] at this;rw[this,L4];rfl
end Go.Eng
end
section
namespace Go.Eng
open Int (ofNat)
open Go.Proofs
noncomputable def DZ (l:Nat) (z:Nat→Int) (j:Int):aC:=[(0,slA 4 l z),(1,.fn (.func 58) [] []),(7,.int .i64 (ofNat l)),(8,.int .i64 j)]
theorem t85 (n:Nat) (l:Nat) (z:Nat→Int) (H:ab) (j:Int):aS (bQ (n+8) 85 19) (il (ng aF 59 gW) (n+6) 2) aR aQ (part Tryd.f85 [1,0,1,0,0]) (hints (DZ l z j)) (av::H) =
 Tr.ite (bM j (ofNat l)) (Tr.req (c6 j l) (Tr.req (cK (aw 0 j 4) (cG l 4)) (Tr.req (cK (au (aw 0 j 4) 1) (cG l 4)) (Tr.req (cK (au (aw 0 j 4) 2) (cG l 4)) (Tr.req (cK (au (aw 0 j 4) 3) (cG l 4)) (Tr.ite (bF (bV (bV (dp (ofNat 0) (z (aw 0 j 4))) (dp (z (aw 0 j 4)) (ofNat 1000))) (bV (bV (dp (ofNat 0) (z (au (aw 0 j 4) 1))) (dp (z (au (aw 0 j 4) 1)) (ofNat 1000))) (bV (bV (dp (ofNat 0) (z (au (aw 0 j 4) 2))) (dp (z (au (aw 0 j 4) 2)) (ofNat 1000))) (bV (bV (dp (ofNat 0) (z (au (aw 0 j 4) 3))) (dp (z (au (aw 0 j 4) 3)) (ofNat 1000))) true))))) (Tr.ok (Ex.ret,[(4,AV.int .i64 j,none)],av::H)) (Tr.ite (bM (z (au (aw 0 j 4) 1)) (z (aw 0 j 4))) (Tr.ok (Ex.ret,[(4,AV.int .i64 j,none)],av::H)) (Tr.ite (bM (z (au (aw 0 j 4) 3)) (z (au (aw 0 j 4) 2))) (Tr.ok (Ex.ret,[(4,AV.int .i64 j,none)],av::H)) (Tr.ok (Ex.normal,[(0,slA 4 l z,none),(1,AV.fn (Fn.func 58) [] [],none),(7,iI l,none),(8,AV.int .i64 (bm .i64 j (ofNat 1)),none)],av::H)))))))))) (Tr.ok (Ex.exit 0,[(0,slA 4 l z,none),(1,AV.fn (Fn.func 58) [] [],none),(7,iI l,none),(8,AV.int .i64 j,none),(9,AV.bool false,some 1)],av::H)):=by kernel_rfl
theorem XF (n:Nat) (l:Nat) (z:Nat→Int) (H:ab) (i:Int) (e:Bool):bg Tryd.prog (cd (n+8)) 100000 85 Tryd.f85 (KtG.kt 85) (il aF (n+8) 0) (cV aR 0 (DZ l z 0) (av::H) (.ite e (.ok (.ret,[(4,.int .i64 i,none)],av::H)) (.ok (.normal,hints (DZ l z (ofNat l)++[(9,.bool false)]),av::H)))) aQ [(slA 4 l z,none),(.fn (.func 58) [] [],none)] H =
 Tr.reqP ([(0,slA 4 l z),(1,AV.fn (Fn.func 58) [] []),(7,iI l),(8,iI 0)]=[(0,slA 4 l z),(1,AV.fn (Fn.func 58) [] []),(7,iI l),(8,iI 0)]∧av::H=av::H) (Tr.ite e (Tr.ok ((AV.int .i64 i,none),H)) (Tr.ok ((AV.int .i64 (Int.negSucc 0),some 1),H))):=by kernel_rfl
theorem Xu (n:Nat) (l:Nat) (z:Nat→Int) (H:ab) (i:Int):bg Tryd.prog (cd (n+9)) 100000 60 Tryd.f60 (KtG.kt 60) (il (tX aF 85 [slA 4 l z,.fn (.func 58) [] []] (.int .i64 i)) (n+9) 0) aR aQ [(slA 4 l z,none),(.fn (.func 58) [] [],none)] H =
 Tr.reqP ([slA 4 l z,AV.fn (Fn.func 58) [] []]=[slA 4 l z,AV.fn (Fn.func 58) [] []]) (Tr.ok ((AV.bool (dp (ofNat 0) i),none),H)):=by kernel_rfl
def js (z:Nat→Int) (j:Nat):Bool:=!(decide (0≤z (j*4)) && (decide (z (j*4)≤z (j*4+1)) && (decide (z (j*4+1)≤1000) && (decide (0≤z (j*4+2)) && (decide (z (j*4+2)≤z (j*4+3)) && decide (z (j*4+3)≤1000))))))
theorem UI:∀ b,(0,b) ∈ aP (bA Tryd.f85)→b=.loop (part Tryd.f85 [1,0,1,0,0]):=eN (by kernel_rfl)
section
variable (n:Nat) (l:Nat) (z:Nat→Int) (H:ab)
theorem Up (n k:Nat):(il (ng aF 59 gW) (n+6) k).Ok (cd (n+6+k)):=lF _ _ _ (fun q=>by rw[show n+6+q=n+q+6 by omega];exact x5 (aN _))
theorem U6 (hl:l≤1000):cd (n+9) (.fn 85) [slA 4 l z,.fn (.func 58) [] []] H=some (.int .i64 (CG (js z) l),H):=by
 have lp:=kb (n:=n+8) (f:=85) (nt:=19) (c:=part Tryd.f85 [1,0,1,0,0]) 0 (fun j=>DZ l z (j:Int)) (fun _=>av::H) l (js z) (fun j=>([(4,.int .i64 (j:Int))],av::H)) (DZ l z (ofNat l)++[(9,.bool false)],av::H) wO (fun j hj=>?_) ?_
 · refine bj (n:=n+8) Tryd.func85 rfl rfl rfl (XF n l z H ((fN (js z) l 0:Nat):Int) (eH (js z) l)) (ff (n+8) 0) (aZ (aj _ _) UI (fun x hx=>eO hx lp)) (ak _ _) ?_;repeat' first | (refine Tr.af (fun hc=>?_) (fun hc=>?_)<;>(try simp (disch:=omega) only[nV,nW] at hc)<;>(try (exfalso;omega))) | (refine Tr.aa ?_ ?_;· ((try simp (disch:=omega) only[nV,nW]);try omega)) | (refine Tr.ai ?_ ?_;· first | exact trivial | rfl | exact ⟨rfl,rfl⟩ | exact ⟨trivial,rfl⟩ | exact ⟨rfl,by assumption⟩ | exact ⟨trivial,by assumption⟩ | exact ⟨rfl,rfl,rfl⟩ | (simp (disch:=omega) only[nV,nW];done) | ((try simp (disch:=omega) only[nV,nW]);omega)) | fail
   all_goals refine Tr.ag ⟨?_,rfl⟩
   · unfold CG;rw[if_pos hc]
   · unfold CG;rw[if_neg (by rw[hc];decide)];rfl
 · have ej:bm .i64 (j:Int) (ofNat 1)=((j+1:Nat):Int):=eX wO;have ei:aw 0 (j:Int) 4=j*4:=by rw[bJ];omega
   have hs:js z j=!(decide (0≤z (j*4)) && (decide (z (j*4)≤z (j*4+1)) && (decide (z (j*4+1)≤1000) && (decide (0≤z (j*4+2)) && (decide (z (j*4+2)≤z (j*4+3)) && decide (z (j*4+3)≤1000)))))):=rfl;refine aB (t85 n l z H (j:Int)) (Up n 2) (aj _ _) (ak _ _) ?_;refine Tr.af (fun h0=>?_) wJ;refine Tr.aa wG (Tr.aa (by rw[ei];simp (disch:=omega) only[nV,nW];omega) (Tr.aa (by rw[ei];simp (disch:=omega) only[nV,nW];omega) (Tr.aa (by rw[ei];simp (disch:=omega) only[nV,nW];omega) (Tr.aa (by rw[ei];simp (disch:=omega) only[nV,nW];omega) ?_))));rw[ei,aM,aM,aM,ej];refine Tr.af (fun h1=>?_) (fun h1=>?_)
   · refine Tr.ag ?_;rw[if_pos (by rw[hs];simp[ar,bZ,bh] at h1 ⊢;omega)];rfl
   · simp only[ar,bZ,bh] at h1;simp at h1;refine Tr.af (fun h2=>?_) (fun h2=>?_)
     · rw[bx,decide_eq_true_eq] at h2;refine Tr.ag ?_;rw[if_pos (by rw[hs];simp;omega)];rfl
     · rw[bx,decide_eq_false_iff_not] at h2;refine Tr.af (fun h3=>?_) (fun h3=>?_)
       · rw[bx,decide_eq_true_eq] at h3;refine Tr.ag ?_;rw[if_pos (by rw[hs];simp;omega)];rfl
       · rw[bx,decide_eq_false_iff_not] at h3;refine Tr.ag ?_;rw[if_neg (by rw[hs];simp;omega)];exact ⟨rfl,rfl⟩
 · obtain ⟨x,h1,rfl⟩:=aB (Q:=fun x=>x=(.exit 0,DZ l z (ofNat l)++[(9,.bool false)],av::H)) (t85 n l z H (ofNat l)) (Up n 2) (aj _ _) (ak _ _) (by
    refine Tr.af wJ (fun h0=>Tr.ag rfl))
   exact h1
theorem U0 (hl:l≤1000):cd (n+10) (.fn 60) [slA 4 l z,.fn (.func 58) [] []] H=some (.bool (eH (js z) l),H):=by
 have h:=fun H=>U6 n l z H hl;refine bj (n:=n+9) Tryd.func60 rfl rfl rfl (Xu n l z H (CG (js z) l)) (bo _ (n+9) (bO (aN _) h)) (aj _ _) (ak _ _) ?_;refine Tr.ai rfl (Tr.ag ⟨?_,rfl⟩);rw[Bb]
end
end Go.Eng
end
