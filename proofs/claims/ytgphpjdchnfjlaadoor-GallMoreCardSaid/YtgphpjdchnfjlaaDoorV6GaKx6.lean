/- Gall: closed calls: what they lean on; counts of shelves that are known. -/
import Derived.Test.YtgphpjdchnfjlaaDoorV6Gq5x5
import Derived.Test.YtgphpjdchnfjlaaDoorV6Gp2x6
import Derived.Test.YtgphpjdchnfjlaaDoorV6EngThx10
import Derived.Test.YtgphpjdchnfjlaaDoorV6EngTkx3
import Derived.Test.YtgphpjdchnfjlaaDoorV6EngRnFx7
import Derived.Test.YtgphpjdchnfjlaaDoorV6EngRoSx4
set_option linter.unusedVariables false
set_option linter.unusedSimpArgs false
set_option maxRecDepth 100000
section
namespace Go.Eng.Gall
open Go.Proofs Go.Eng.Q
theorem named:dG Tryd.prog:=by
 have h:(Tryd.prog.funcs.toList.all fun fn=>fn.body.isNone || !(fn.name == "runtime.NumGoroutine"))=true:=by kernel_rfl
 intro f fn hf hb;have:=List.all_eq_true.1 h fn (by simpa using Array.mem_of_getElem? hf);rw[hb] at this;simpa using this
theorem mixed:Tryd.prog.follows .mixedOrders=true:=by kernel_rfl
theorem I2:∀ e ∈ ([]:List cG),aD Tryd.prog e:=fun e h=>by cases h
theorem aZ {e:cG} {t:List cG} (h:aD Tryd.prog e) (k:∀ x ∈ t,aD Tryd.prog x):∀ x ∈ e::t,aD Tryd.prog x:=fun x hx=>by
 rcases List.mem_cons.1 hx with rfl | hx
 · exact h
 · exact k x hx
def T4:List AV→Bool
 | .ptr _ _ _ _::_=>true
 | _=>false
noncomputable def vh (c:aL) (f:FuncId) (args:List AV) (H:aa):Option (AV×aa) :=
 cond (Nat.beq f 82) (FG args H) (cond (Nat.beq f 62) (P2 (oL Tryd.prog KtG.kt 100000 62 c args H)) (cond ((Nat.beq f 63 || Nat.beq f 65) && T4 args) (O8 c f args H) (cond (Nat.beq f 47) (oL Tryd.prog KtG.kt 100000 47 (BW Tryd.prog KtG.kt 100000 46 c) args H) (cond (Nat.beq f 94 || Nat.beq f 100) (nS Tryd.prog KtG.kt 100000 f c args H) none))))
theorem Dc (hN:dG Tryd.prog) (hD:gl Tryd.prog):sg Tryd.prog vh:=fun call hC f args H v H' h hne p M w cargs hH hA=>by
 unfold vh at h;cases h82:Nat.beq f 82 with
 | true =>
   rw[h82,cond_true] at h;have:=Nat.eq_of_beq_eq_true h82;subst this;exact Im h hH hA
 | false =>
 rw[h82,cond_false] at h;cases h62:Nat.beq f 62 with
 | true =>
   rw[h62,cond_true] at h;have:=Nat.eq_of_beq_eq_true h62;subst this;unfold P2 at h;split at h;case h_2=>simp at h
   rename_i v1 H1 he;simp only[nP] at h;obtain ⟨rfl,rfl⟩:=h;obtain ⟨h1,h2⟩:=pP hN hD KtG.kt 100000 hC he hH hA;exact ⟨h1,h2.mono (fun _ _ h=>eX.Nt h)⟩
 | false =>
 rw[h62,cond_false] at h;cases hr:((Nat.beq f 63 || Nat.beq f 65) && T4 args) with
 | true =>
   rw[hr,cond_true] at h;exact MI hC h hH hA
 | false =>
 rw[hr,cond_false] at h;cases h47:Nat.beq f 47 with
 | true =>
   rw[h47,cond_true] at h;have:=Nat.eq_of_beq_eq_true h47;subst this;exact pP hN hD KtG.kt 100000 (EP hN hD KtG.kt 100000 46 hC) h hH hA
 | false =>
 rw[h47,cond_false] at h;cases h94:(Nat.beq f 94 || Nat.beq f 100) with
 | true =>
   rw[h94,cond_true] at h;exact GD hN hD KtG.kt 100000 hC h hH hA
 | false=>rw[h94,cond_false] at h;cases h
noncomputable def MA (tab:List cG):aL→FuncId→List AV→aa→Option (AV×aa):=fun c f args H=>match By tab c f args H with
 | some x=>some x
 | none=>vh c f args H
theorem Jd (hN:dG Tryd.prog) (hD:gl Tryd.prog) {tab:List cG} (hT:∀ e ∈ tab,aD Tryd.prog e):sg Tryd.prog (MA tab):=fun call hC f args H v H' h hne p M w cargs hH hA=>by
 unfold MA at h;split at h
 · rename_i x hx;simp only[Option.some.injEq] at h;subst h;exact xi tab hT call hC f args H v H' hx hne p M w cargs hH hA
 · exact Dc hN hD call hC f args H v H' h hne p M w cargs hH hA
theorem a6 {tab:List cG} (hT:∀ e ∈ tab,aD Tryd.prog e) {e:cG} {H':aa}
 (h:Ft Tryd.prog (MA tab) KtG.kt 100000 40 (.fn e.f) e.args [⟨true,[]⟩]=some (e.v,H')) (hn:e.args.all (tA 9)=true):aD Tryd.prog e:=by
 rw[DQ] at h
 exact yT (m7 named (qa named mixed) (Jd named (qa named mixed) hT) KtG.kt 100000 40) h hn
theorem Fu (n:Nat):cj Tryd.prog (cd n):=m7 named (qa named mixed) xh KtG.kt 100000 n
theorem FA (O:Int) (U:Nat) (Z:Nat→Int) (V:Nat) (J:Nat→Int) (W B:Nat→Int) (hl:U≤10) {p:aH} {M:Mu} {H:aa} {w:World} {cargs:Array Value} (hH:bj p M H w) (hA:eN p M [shV O U Z V J W B] cargs) :
 (∃ fn,Tryd.prog.funcs[73]?=some fn∧fn.body.isNone=false)∧CallsIn Fence.wide 0 Tryd.prog 73 cargs w (eX p M H w (.int .i64 (cntF U W B)) H) :=
 Ew named (qa named mixed) NX KtG.kt 100000 (Fu 3) (Qj 2 O U Z V J W B hl H) hH hA
noncomputable def Uc (O:Int) (U:Nat) (zl:List Int) (V:Nat) (bl:List Int) (f1 f2:Bool) (Wl Bl:List Int):AV:=.ptrT none (.G (.int .i64 O::.slcT none (.I .i64 zl) 4 U f1::.slcT none (.I .i64 bl) 2 V f2::(Wl.map (.int .i64)++Bl.map (.int .u64)))) 0
theorem zC {p:aH} {M:Mu} {zl:List Int} {sz U:Nat} {f:Bool} {c:Value} (hl:zl.length=aC U sz) (h:al p M (.slcT none (.I .i64 zl) sz U f) c):al p M (.slcT none (.M [.arr .i64 (ar zl) (aC U sz)]) sz U false) c:=by
 cases h with
 | slcT vs hp h1 hv h2 h3 h4 =>
   have hlen:(Row.M [.arr .i64 (ar zl) (aC U sz)]).len=(Row.I .i64 zl).len:=by
    show aC U sz+0=zl.length;omega
   refine .slcT vs (fun j hj=>hp j (by rw[← hlen];exact hj)) (fun j hj=>h1 j (by rw[← hlen];exact hj)) (fun j hj=>?_) h2 (fun e=>by cases e) h4;have hj':j<zl.length:=by rw[hlen] at hj;exact hj
   have:=hv j (by rw[← hlen];exact hj);have e:getM [.arr .i64 (ar zl) (aC U sz)] j=.int .i64 (zl.getD j 0):=by
    show (if j<aC U sz then AV.int .i64 (ar zl j) else _)=_;rw[if_pos (by omega),gL]
   show al p _ (getM [.arr .i64 (ar zl) (aC U sz)] j) (vs j);rw[e];exact this.bw _ _
 | slcN=>exact .slcN
theorem Jz {p:aH} {M:Mu} {O:Int} {U:Nat} {zl:List Int} {V:Nat} {bl:List Int} {f1 f2:Bool} {Wl Bl:List Int} {c:Value} (hz:zl.length=aC U 4) (hb:bl.length=aC V 2) (hW:Wl.length=20) (hB:Bl.length=10) (h:al p M (Uc O U zl V bl f1 f2 Wl Bl) c):al p M (shV O U (ar zl) V (ar bl) (ar Wl) (ar Bl)) c:=by
 cases h with
 | ptrT vs hp h1 hv =>
   have hlen:(shR O U (ar zl) V (ar bl) (ar Wl) (ar Bl)).len=33:=rfl;have hlen':(Row.G (.int .i64 O::.slcT none (.I .i64 zl) 4 U f1::.slcT none (.I .i64 bl) 2 V f2::(Wl.map (.int .i64)++Bl.map (.int .u64)))).len=33:=by simp[Row.len,hW,hB]
   refine .ptrT vs (fun j hj=>hp j (by rw[hlen'] ; rw[hlen] at hj;exact hj)) (fun j hj=>h1 j (by rw[hlen'] ; rw[hlen] at hj;exact hj)) (fun j hj=>?_);rw[hlen] at hj;have:=hv j (by rw[hlen'];exact hj);match j,hj,this with
   | 0,_,this=>exact this
   | 1,_,this=>exact zC hz this
   | 2,_,this=>exact zC hb this
   | j + 3,hj,this =>
     have this:al p _ ((Wl.map (AV.int .i64)++Bl.map (AV.int .u64)).getD j .undef) (vs (j+3)):=this;show al p _ (getM [.arr .i64 (ar Wl) 20,.arr .u64 (ar Bl) 10] j) (vs (j+3));by_cases hj20:j<20
     · have e:getM [.arr .i64 (ar Wl) 20,.arr .u64 (ar Bl) 10] j=.int .i64 (Wl.getD j 0):=by
        show (if j<20 then AV.int .i64 (ar Wl j) else _)=_;rw[if_pos hj20,gL]
       have e2:(Wl.map (AV.int .i64)++Bl.map (AV.int .u64)).getD j .undef=.int .i64 (Wl.getD j 0):=by
        rw[List.getD_eq_getElem?_getD,List.getElem?_append_left (by simp;omega),List.getElem?_map,List.getD_eq_getElem?_getD,List.getElem?_eq_getElem (by omega)];rfl
       rw[e];rw[e2] at this;exact this.bw _ _
     · have e:getM [.arr .i64 (ar Wl) 20,.arr .u64 (ar Bl) 10] j=.int .u64 (Bl.getD (j-20) 0):=by
        show (if j<20 then AV.int .i64 (ar Wl j) else (if j-20<10 then AV.int .u64 (ar Bl (j-20)) else _))=_;rw[if_neg hj20,if_pos (by omega),gL]
       have e2:(Wl.map (AV.int .i64)++Bl.map (AV.int .u64)).getD j .undef=.int .u64 (Bl.getD (j-20) 0):=by
        rw[List.getD_eq_getElem?_getD,List.getElem?_append_right (by simp;omega),List.getElem?_map,List.length_map,hW,List.getD_eq_getElem?_getD,List.getElem?_eq_getElem (by omega)];rfl
       rw[e];rw[e2] at this;exact this.bw _ _
def Sk (Wl Bl:List Int) (k X c:Nat):Bool:=(BitVec.ofInt 64 (Bl.getD c 0) &&& ~~~(BitVec.ofNat 64 X)).toNat == 0 && (decide (Wl.getD (2*c) 0≤(k:Int)) && decide ((k:Int)≤Wl.getD (2*c+1) 0))
theorem GH (Wl Bl:List Int):okW (ar Wl) (ar Bl)=Sk Wl Bl:=by
 funext k X c;unfold okW Sk;rw[gL,gL,sj,br,br,bA];congr 1;show (IntKind.u64.wrap (((BitVec.ofInt 64 (Bl.getD c 0) &&& ~~~(BitVec.ofInt 64 (X:Int))).toNat:Nat):Int) == 0)=_;rw[LA,jR (BitVec.isLt _)];generalize (BitVec.ofInt 64 (Bl.getD c 0) &&& ~~~(BitVec.ofNat 64 X)).toNat=t;rw[Bool.eq_iff_iff,beq_iff_eq,beq_iff_eq];omega
def Qp (U:Nat) (Wl Bl:List Int):Nat:=(ro U (Sk Wl Bl) U).length
theorem GI {O:Int} {U:Nat} {zl:List Int} {V:Nat} {bl:List Int} {f1 f2:Bool} {Wl Bl:List Int} {A:AV} {v:Nat} (hA:A=Uc O U zl V bl f1 f2 Wl Bl) (hl:U≤10) (hz:zl.length=U*4) (hb:bl.length=V*2) (hW:Wl.length=20) (hB:Bl.length=10) (hv:Qp U Wl Bl=v):aD Tryd.prog ⟨73,[A],.int .i64 (v:Int)⟩:=by
 intro H hne p M w cargs hH hC;have e:cntF U (ar Wl) (ar Bl)=(v:Int):=by unfold cntF;rw[GH];exact congrArg Int.ofNat hv
 rw[← e];refine FA O U (ar zl) V (ar bl) (ar Wl) (ar Bl) hl hH ⟨hC.1,fun j hj=>?_⟩;have hC2:=hC.2 j hj;subst hA;have:j=0:=by simp at hj;omega
 subst this;exact Jz (by rw[pH];exact hz) (by rw[pH];exact hb) hW hB hC2
end Go.Eng.Gall
end
section
namespace Go.Eng
open Go.Proofs Go.ChangeShapes
open Go.Eng.Q (shV shR slA cntF okW)
noncomputable def Ig (args:List AV) (H:aa):Option (AV×aa) :=
 match args with
 | [.ptrT none (.M [.one (.int .i64 O),.one (.slcT none (.M [.arr .i64 Z n1]) 4 U false),.one (.slcT none (.M [.arr .i64 J n2]) 2 V false),.arr .i64 W 20,.arr .u64 B 10]) 0]=>if U≤10∧n1=fK U 4∧n2=fK V 2 then some (.int .i64 (cntF U W B),H) else none
 | _=>none
theorem Ih {O:Int} {U:Nat} {Z:Nat→Int} {V:Nat} {J:Nat→Int} {W B:Nat→Int} {H:aa} (hl:U≤10):Ig [shV O U Z V J W B] H=some (.int .i64 (cntF U W B),H):=by
 show (if U≤10∧fK U 4=fK U 4∧fK V 2=fK V 2 then some (AV.int .i64 (cntF U W B),H) else none)=_;rw[if_pos ⟨hl,rfl,rfl⟩]
theorem Ii {args:List AV} {H:aa} {v:AV} {H':aa} (h:Ig args H=some (v,H')) {p:aH} {M:Mu} {w:World} {cargs:Array Value} (hH:bj p M H w) (hA:eN p M args cargs):(∃ fn,Tryd.prog.funcs[73]?=some fn∧fn.body.isNone=false)∧CallsIn Fence.wide 0 Tryd.prog 73 cargs w (eX p M H w v H'):=by
 unfold Ig at h;split at h;case h_2=>simp at h
 rename_i O Z n1 U J n2 V W B;split at h;case isFalse=>simp at h
 rename_i hc;obtain ⟨hl,rfl,rfl⟩:=hc;simp only[nP] at h;obtain ⟨rfl,rfl⟩:=h;exact Gall.FA O U Z V J W B hl hH hA
def Kc:List AV→Bool
 | [_,_,.slc _ _ _ _ _ _ _]=>true
 | _=>false
def En:AV→AV
 | .tup l=>.tup (l.map jK)
 | v=>jK v
theorem GB {p:aH} {M:Mu} {v:AV} {c:Value} (h:al p M v c):al p M (En v) c:=by
 unfold En;split
 · rename_i l;cases h with
   | tup hs hv =>
     refine .tup (by simpa using hs) (fun j hj=>?_);have hj':j<l.length:=by simpa using hj
     have:=kG (hv j hj');simpa[List.getD_eq_getElem?_getD,hj'] using this
 · exact kG h
def Mt (c:Option (AV×aa)):Option (AV×aa) :=
 match c with
 | some (v,H)=>some (En v,H)
 | none=>none
theorem eX.Wy {p:aH} {M:Mu} {H H':aa} {w:World} {v:AV} {e:Ending} {w':World} (h:eX p M H w v H' e w'):eX p M H w (En v) H' e w':=by
 obtain ⟨cv,h1,st,p',M',hE,hv⟩:=h;exact ⟨cv,h1,st,p',M',hE,GB hv⟩
noncomputable def ia:aL→FuncId→List AV→aa→Option (AV×aa):=fun call f args H=>cond (Nat.beq f 30 || Nat.beq f 38) (Mt (oL Tryd.prog KtG.kt 100000 f call args H)) <| cond (Nat.beq f 59 && Kc args) (O9 call f args H) (cond (Nat.beq f 73) (Ig args H) (cond (Nat.beq f 95) (G4 gk args H) (match Gall.vh call f args H with
 | some x=>some x
 | none=>tP [⟨15,[],.bool true⟩] call f args H)))
def HK (f:FuncId):Bool:=(Nat.beq f 30 || Nat.beq f 38) || Nat.beq f 15 || Nat.beq f 1000000 || Nat.beq f 59 || Nat.beq f 73 || Nat.beq f 95 || Nat.beq f 82 || Nat.beq f 62 || Nat.beq f 63 || Nat.beq f 65 || Nat.beq f 47 || Nat.beq f 94 || Nat.beq f 100
noncomputable def cd (n:Nat):aL:=df Tryd.prog ia KtG.kt 100000 n
noncomputable def il (tab:nH) (n k:Nat):bp:=Bg Tryd.prog ia KtG.kt 100000 HK tab n k
noncomputable def bP (n:Nat) (f nt:Nat):Cx:=⟨Tryd.prog,cd n,100000,f,nt,KtG.kt f,none⟩
theorem Kl {g:FuncId} (h:Nat.beq g 15=false) (h1:Nat.beq g 1000000=false) (c:aL) (args:List AV) (H:aa):tP [⟨15,[],.bool true⟩] c g args H=none:=by
 unfold tP;rw[h1,cond_false];simp only[By];have:Nat.beq 15 g=false:=by
  cases hb:Nat.beq 15 g with
  | false=>rfl
  | true=>have:=Nat.eq_of_beq_eq_true hb;subst this;simp at h
 rw[this];rfl
theorem xc (g:FuncId) (h:HK g=false) (c:aL) (args:List AV) (H:aa):ia c g args H=none:=by
 unfold HK at h;simp only[Bool.or_eq_false_iff] at h;obtain ⟨⟨⟨⟨⟨⟨⟨⟨⟨⟨⟨⟨⟨h30,h38⟩,h15⟩,h0⟩,h59⟩,h73⟩,h95⟩,h82⟩,h62⟩,h63⟩,h65⟩,h47⟩,h94⟩,h100⟩:=h;have e:Gall.vh c g args H=none:=by
  unfold Gall.vh;rw[h82,h62,h63,h65,h47,h94,h100];rfl
 unfold ia;rw[h30,h38,h59,h73,h95,e];exact Kl h15 h0 c args H
theorem nj (n:Nat):∃ x,df Tryd.prog ia KtG.kt 100000 n .mode [] []=some x:=by
 cases n<;>exact ⟨_,rfl⟩
theorem xh (hN:dG Tryd.prog) (hD:gl Tryd.prog) (hW:aD Tryd.prog ⟨15,[],.bool true⟩):sg Tryd.prog ia :=
 fun call hC f args H v H' h hne p M w cargs hH hA=>by
  unfold ia at h;cases h30:(Nat.beq f 30 || Nat.beq f 38) with
  | true =>
    rw[h30,cond_true] at h;unfold Mt at h;split at h;case h_2=>simp at h
    rename_i v1 H1 he;simp only[nP] at h;obtain ⟨rfl,rfl⟩:=h;obtain ⟨h1,h2⟩:=pP hN hD KtG.kt 100000 hC he hH hA;exact ⟨h1,h2.mono (fun _ _ h=>eX.Wy h)⟩
  | false =>
  rw[h30,cond_false] at h;cases h59:(Nat.beq f 59 && Kc args) with
  | true =>
    rw[h59,cond_true] at h;exact MJ hC h hH hA
  | false =>
  rw[h59,cond_false] at h;cases h73:Nat.beq f 73 with
  | true =>
    rw[h73,cond_true] at h;have:=Nat.eq_of_beq_eq_true h73;subst this;exact Ii h hH hA
  | false =>
  rw[h73,cond_false] at h;cases h95:Nat.beq f 95 with
  | true =>
    rw[h95,cond_true] at h;have:=Nat.eq_of_beq_eq_true h95;subst this;exact Jq MV h hne hH hA
  | false =>
  rw[h95,cond_false] at h;split at h
  · rename_i x hx;simp only[Option.some.injEq] at h;subst h;exact Gall.Dc hN hD call hC f args H v H' hx hne p M w cargs hH hA
  · exact Dd _ (fun e he=>by
     simp only[List.mem_singleton] at he;subst he;exact hW) call hC f args H v H' h hne p M w cargs hH hA
theorem gU (tab:nH) (n k:Nat) (ht:∀ k,tab.Ok (cd (n+k))):(il tab n k).Ok (cd (n+k)):=wW _ _ _ _ _ _ _ xc (fun k=>nj _) ht k
theorem iA (n k:Nat):(il aM n k).Ok (cd (n+k)):=gU _ _ _ (fun k=>bo _)
theorem aA (n:Nat):(il aM n 0).Ok (cd n):=iA n 0
theorem Of {f:FuncId} {fn:Func} {n:Nat} (hf:Tryd.prog.funcs[f]?=some fn) (hb:fn.body.isSome=true) (hn:HK f=false) {args:List HV} (hle:Nat.ble args.length fn.ntmps=true) {H:aa} {callR:bp} (hC:callR.Ok (cd n)) {bl:eE} (hB:bl.Ok (bP n f fn.ntmps) (a7 fn)) {rg:nJ} (hR:rg.Ok (bP n f fn.ntmps) (a7 fn)) {y:HV×aa}
 (h:(bz Tryd.prog (cd n) 100000 f fn (KtG.kt f) callR bl rg args H).run=some y):cd (n+1) (.fn f) (jW args) H=some (y.1.1,y.2) :=
 oY hf hb (xc f hn _ _ _) hle hC hB hR h
theorem LX {f:FuncId} {fn:Func} {n:Nat} (hf:Tryd.prog.funcs[f]?=some fn) (hb:fn.body.isSome=true) {args:List HV} (ho:∀ c H,ia c f (jW args) H=none) (hle:Nat.ble args.length fn.ntmps=true) {H:aa} {callR:bp} (hC:callR.Ok (cd n)) {bl:eE} (hB:bl.Ok (bP n f fn.ntmps) (a7 fn)) {rg:nJ} (hR:rg.Ok (bP n f fn.ntmps) (a7 fn)) {y:HV×aa}
 (h:(bz Tryd.prog (cd n) 100000 f fn (KtG.kt f) callR bl rg args H).run=some y):cd (n+1) (.fn f) (jW args) H=some (y.1.1,y.2) :=
 oY hf hb (ho _ _) hle hC hB hR h
theorem Oe {f:FuncId} {fn:Func} {n:Nat} (hf:Tryd.prog.funcs[f]?=some fn) (hb:fn.body.isSome=true) (hn:HK f=false) {args:List HV} (hle:Nat.ble args.length fn.ntmps=true) {H:aa} {callR:bp} {bl:eE} {rg:nJ} {T:Tr (HV×aa)}
 (e:bz Tryd.prog (cd n) 100000 f fn (KtG.kt f) callR bl rg args H=T) (hC:callR.Ok (cd n)) (hB:bl.Ok (bP n f fn.ntmps) (a7 fn)) (hR:rg.Ok (bP n f fn.ntmps) (a7 fn)) {y:HV×aa} (hr:T.run=some y):cd (n+1) (.fn f) (jW args) H=some (y.1.1,y.2) :=
 Of hf hb hn hle hC hB hR (by rw[e];exact hr)
theorem Oa {n f nt:Nat} {c:Code} {callR:bp} (hC:callR.Ok (cd n)) {bl:eE} (hB:bl.Ok (bP n f nt) c) {rg:nJ} (hR:rg.Ok (bP n f nt) c) {fr:aE} {H:aa} {x:eD} (h:(aJ (bP n f nt) callR bl rg c (hints fr) H).run=some x):exec (bP n f nt) c fr H=some x.st:=by
 have:=fe hC c hB hR _ _ _ h;rw[aP] at this;exact this

def gb (bl:eE) (id0:Nat):eE:=fun id fr H=>cond (Nat.beq id id0) (some .bad) (bl id fr H)
theorem cY {bl:eE} {cx:Cx} {c:Code} (h:bl.Ok cx c) (id0:Nat):(gb bl id0).Ok cx c:=by
 intro id b hm fr H t y ht hy;unfold gb at ht;cases hb:Nat.beq id id0 with
 | true =>
   rw[hb,cond_true,Option.some.injEq] at ht;subst ht;exact (Tr.ag hy).elim
 | false =>
   rw[hb,cond_false] at ht;exact h id b hm fr H t y ht hy
theorem N9 {n f nt:Nat} {c:Code} {callR:bp} {bl:eE} {rg:nJ} {fr:aE} {H:aa} {T:Tr eD} (e:aJ (bP n f nt) callR bl rg c (hints fr) H=T) (hC:callR.Ok (cd n)) (hB:bl.Ok (bP n f nt) c) (hR:rg.Ok (bP n f nt) c) {x:eD} (hr:T.run=some x):exec (bP n f nt) c fr H=some x.st :=
 Oa hC hB hR (by rw[e];exact hr)
section
variable {n f nt:Nat} {c:Code} {callR:bp} {bl:eE} {rg:nJ}
end
end Go.Eng
end
section
namespace Go.Eng
open Go.Proofs
theorem bU {f:FuncId} {fn:Func} {n:Nat} (hf:Tryd.prog.funcs[f]?=some fn) (hb:fn.body.isSome=true) (hn:HK f=false) {args:List HV} (hle:Nat.ble args.length fn.ntmps=true) {H:aa} {callR:bp} {bl:eE} {rg:nJ} {T:Tr (HV×aa)}
 (e:bz Tryd.prog (cd n) 100000 f fn (KtG.kt f) callR bl rg args H=T) (hC:callR.Ok (cd n)) (hB:bl.Ok (bP n f fn.ntmps) (a7 fn)) (hR:rg.Ok (bP n f fn.ntmps) (a7 fn)) {v:AV} {H':aa} (h:T.all fun y=>y.1.1=v∧y.2=H'):cd (n+1) (.fn f) (jW args) H=some (v,H'):=by
 obtain ⟨y,h1,h2,h3⟩:=h
 have:=Oe hf hb hn hle e hC hB hR h1
 rw[this,h2,h3]
theorem ph {f:FuncId} {fn:Func} {n:Nat} (hf:Tryd.prog.funcs[f]?=some fn) (hb:fn.body.isSome=true) {args:List HV} (ho:∀ c H,ia c f (jW args) H=none) (hle:Nat.ble args.length fn.ntmps=true) {H:aa} {callR:bp} {bl:eE} {rg:nJ} {T:Tr (HV×aa)}
 (e:bz Tryd.prog (cd n) 100000 f fn (KtG.kt f) callR bl rg args H=T) (hC:callR.Ok (cd n)) (hB:bl.Ok (bP n f fn.ntmps) (a7 fn)) (hR:rg.Ok (bP n f fn.ntmps) (a7 fn)) {v:AV} {H':aa} (h:T.all fun y=>y.1.1=v∧y.2=H'):cd (n+1) (.fn f) (jW args) H=some (v,H'):=by
 obtain ⟨y,h1,h2,h3⟩:=h
 have:=LX hf hb ho hle hC hB hR (by rw[e];exact h1)
 rw[this,h2,h3]
theorem aI {n f nt:Nat} {c:Code} {callR:bp} {bl:eE} {rg:nJ} {fr:aE} {H:aa} {T:Tr eD} (e:aJ (bP n f nt) callR bl rg c (hints fr) H=T) (hC:callR.Ok (cd n)) (hB:bl.Ok (bP n f nt) c) (hR:rg.Ok (bP n f nt) c) {Q:Ex×aE×aa→Prop} (h:T.all fun x=>Q x.st):∃ x,exec (bP n f nt) c fr H=some x∧Q x:=by
 obtain ⟨x,h1,h2⟩:=h;exact ⟨_,N9 e hC hB hR h1,h2⟩
section
variable {n f nt:Nat} {c:Code} {callR:bp} {bl:eE} {rg:nJ}
theorem jE (id:Nat) (F:Nat→aE) (G:Nat→aa) (N:Nat) (p:Nat→Bool) (X:Nat→aE×aa) (Y:aE×aa) (hN:N<99999)
 (hs:∀ j,j<N→∃ x,exec (bP n f nt) c (F j) (G j)=some x∧if p j=true then x=(.ret,X j) else x.1=.normal∧tidy (aX (G 0)) x.2.1 x.2.2=(F (j+1),G (j+1)))
 (he:exec (bP n f nt) c (F N) (G N)=some (.exit id,Y)):exec (bP n f nt) (.block id (.loop c)) (F 0) (G 0)=some (cond (dH p N) (.ret,X (fN p N 0)) (.normal,Y)):=by
 have key:=iU (body:=exec (bP n f nt) c) (n:=aX (G 0)) F G N p (fun j=>if j<N then (.ret,X j) else (.exit id,Y))
  (fun j hj hp=>by
    obtain ⟨x,h1,h2⟩:=hs j hj;rw[if_neg (by rw[hp];simp)] at h2;obtain ⟨e,f1,g1⟩:=x;obtain ⟨rfl,h3⟩:=h2;exact ⟨_,_,h1,h3⟩)
  (fun j hj hp=>by
    obtain ⟨x,h1,h2⟩:=hs j hj;rw[if_pos hp] at h2;subst h2;rw[if_pos hj];exact ⟨h1,by simp⟩)
  (by
    rw[if_neg wO];exact ⟨he,by simp⟩) N 0 100000 wO wO
 cases hc:dH p N with
 | true =>
   have:=pd hc
   rw[if_pos this] at key
   exact dp (fun id' h=>by cases h) key
 | false =>
   have:=vB hc
   rw[if_neg wO] at key
   exact ik key
end
theorem jY {n f nt:Nat} {c:Code} (id:Nat) (F:Nat→aE) (G:Nat→aa) (N:Nat) (Y:aE×aa) (hN:N<99999)
 (hs:∀ j,j<N→∃ x,exec (bP n f nt) c (F j) (G j)=some x∧(x.1=.normal∧tidy (aX (G 0)) x.2.1 x.2.2=(F (j+1),G (j+1))))
 (he:exec (bP n f nt) c (F N) (G N)=some (.exit id,Y)):exec (bP n f nt) (.block id (.loop c)) (F 0) (G 0)=some (.normal,Y):=by
 have:=jE id F G N (fun _=>false) (fun _=>Y) Y hN (fun j hj=>by
  obtain ⟨x,h1,h2⟩:=hs j hj;exact ⟨x,h1,by rw[if_neg (by simp)];exact h2⟩) he
 have h0:dH (fun _=>false) N=false:=by
  cases h:dH (fun _=>false) N with
  | false=>rfl
  | true=>obtain ⟨i,_,h2⟩:=(cP _ _).1 h;cases h2
 rw[h0] at this
 exact this
theorem kY {n f nt:Nat} {c:Code} {callR:bp} {bl:eE} {rg:nJ} {fr:aG} {H:aa} {T:Tr eD} (e:aJ (bP n f nt) callR bl rg c fr H=T) (hC:callR.Ok (cd n)) (hB:bl.Ok (bP n f nt) c) (hR:rg.Ok (bP n f nt) c) {Q:Ex×aE×aa→Prop} (h:T.all fun x=>Q x.st):∃ x,exec (bP n f nt) c (strip fr) H=some x∧Q x:=by
 obtain ⟨x,h1,h2⟩:=h;exact ⟨_,fe (cx:=bP n f nt) hC c hB hR fr H x (by rw[e];exact h1),h2⟩
end Go.Eng
end
section
namespace Go.Eng
open Go.Proofs
/-- A level of blocks. -/
noncomputable def iI (n:Nat):AV:=.int .i64 (Int.ofNat n)
noncomputable def rM (z:Nat→Int) (n:Nat):Row:=.M [.arr .i64 z n]
noncomputable def bO (l:List (Nat×ao)):bK:=⟨false,l⟩
noncomputable def aw:bK:=⟨false,[]⟩
noncomputable def bk (k:Nat) (b:Nat→Int) (full:Bool):AV:=.slcT none (.M [.arr .i64 b k]) 1 k full
noncomputable def gi (v k:Nat) (y:Nat→Int):bK:=⟨false,[(v,.row (.M [.arr .i64 y k]))]⟩
theorem bV (tab:nH) (n:Nat) (ht:tab.Ok (cd n)):(il tab n 0).Ok (cd n) :=
 ⟨nj _,fun tgt args H x h=>by
   unfold il Bg at h;split at h
   · split at h
     · rename_i c hc;exact ht _ _ hc _ _ _ h
     · exact (Tr.ag h).elim
   · exact (Tr.ag h).elim⟩
theorem dQ {cx:Cx} {id:Nat} {B:Code} {fr:aE} {H:aa} {e:Bool} {X Y x:eD} (h:(Tr.ite e (Tr.ok X) (Tr.ok Y)).run=some x) (hx:exec cx (.block id B) fr H=some (cond e X.st Y.st)):exec cx (.block id B) fr H=some x.st:=by
 rw[hx];rcases Tr.kA h with ⟨hc,h⟩ | ⟨hc,h⟩
 · rw[hc,← Tr.ab h];rfl
 · rw[hc,← Tr.ab h];rfl
theorem fp {cx:Cx} {id:Nat} {B:Code} {fr:aE} {H:aa} {X x:eD} (h:(Tr.ok X).run=some x) (hx:exec cx (.block id B) fr H=some X.st):exec cx (.block id B) fr H=some x.st:=by
 rw[hx,← Tr.ab h]
theorem fI {j:Nat} (h:j<2 ^ 31):bh .i64 (j:Int) (Int.ofNat 1)=((j+1:Nat):Int):=by rw[fM,show Int.ofNat 1=1 from rfl];exact jT wO wO
theorem Be (j:Nat):au 0 (j:Int) 1=j:=by rw[bN];omega
theorem ka {x:Int} (h0:-9223372036854775808≤x) (h1:x≤9223372036854775807):bm .i64 x=x:=by rw[Hy,jT h0 h1]
theorem Lm {x y:Int} (h0:-9223372036854775808≤x+y) (h1:x+y≤9223372036854775807):bh .i64 x y=x+y:=by rw[fM,jT h0 h1]
theorem MO {x y:Int} (h0:-9223372036854775808≤x-y) (h1:x-y≤9223372036854775807):cq .i64 x y=x-y:=by rw[eB,jT h0 h1]
theorem qw (L:List Int) (j:Nat):ar L j=L.getD j 0:=congrFun (gL L) j
theorem ng (L:List Int) (v:Int):bJ (iO (ar L) 0) L.length (ar [v])=ar (L++[v]):=by
 rw[fj,oU,lu];funext i;by_cases h:i<L.length
 · simp[h,List.getElem?_append]
 · by_cases h2:i=L.length
   · subst h2;simp
   · have e1:[v][i-L.length]?=none:=List.getElem?_eq_none (by simp;omega);have e2:(L++[v])[i]?=none:=List.getElem?_eq_none (by simp;omega);simp only[h,if_false,List.getD_eq_getElem?_getD,e1,e2]
theorem tj (S:List Int) (j:Nat) (hj:j<S.length):ar S j=S[j]:=by
 rw[qw,List.getD_eq_getElem?_getD,List.getElem?_eq_getElem hj];rfl
noncomputable def dA:List Int→AV
 | []=>.nils
 | a::r=>.slcT none (.M [.arr .i64 (ar (a::r)) (r.length+1)]) 1 (r.length+1) false
theorem J4 (L:List Int) (k:Nat) (h:L.length=k+1):dA L=bk (k+1) (ar L) false:=by
 cases L with
 | nil=>simp at h
 | cons a r =>
   simp only[List.length_cons] at h;have:r.length=k:=by omega
   subst this;rfl
noncomputable def gX (A:List AV) (Xv:AV):List AV→Option (Prop×AV):=fun x=>some (x=A,Xv)
noncomputable def tX (t:nH) (f:FuncId) (A:List AV) (Xv:AV):nH:=iz t f (gX A Xv)
theorem dL {c f:Nat} {t:nH} {A:List AV} {Xv:AV} (ht:t.Ok (cd c)) (h:∀ H,cd c (.fn f) A H=some (Xv,H)):(tX t f A Xv).Ok (cd c):=by
 refine ml ht (fun args p v hg hp H=>?_);unfold gX at hg;simp only[nP] at hg;obtain ⟨rfl,rfl⟩:=hg;rw[hp];exact h H
noncomputable def gV (C:List AV→Prop) (R:List AV→AV):List AV→Option (Prop×AV):=fun x=>some (C x,R x)
noncomputable def tV (t:nH) (f:FuncId) (C:List AV→Prop) (R:List AV→AV):nH:=iz t f (gV C R)
theorem Hn {c f:Nat} {t:nH} {C:List AV→Prop} {R:List AV→AV} (ht:t.Ok (cd c)) (h:∀ A H,C A→cd c (.fn f) A H=some (R A,H)):(tV t f C R).Ok (cd c):=by
 refine ml ht (fun args p v hg hp H=>?_);unfold gV at hg;simp only[nP] at hg;obtain ⟨rfl,rfl⟩:=hg;exact h _ H hp
noncomputable def tN (t:nH) (f:FuncId):nH:=iz t f (fun _=>none)
theorem Hm {c f:Nat} {t:nH} (ht:t.Ok (cd c)):(tN t f).Ok (cd c):=ml ht (fun args p v hg hp H=>by cases hg)
noncomputable def gC (P:Int→Bool) (Q:Int→List AV→aa→Prop) (args:List AV) (H:aa):Tr (AV×aa) :=
 match args with
 | .int .i64 x::C=>.reqP (Q x C H) (.ok (.bool (P x),H))
 | _=>.bad
noncomputable def TZ (f:FuncId) (P:Int→Bool) (Q:Int→List AV→aa→Prop):nH:=nK aM f (gC P Q)
theorem FF {k:Nat} {f:FuncId} {P:Int→Bool} {Q:Int→List AV→aa→Prop} (h:∀ x C H,Q x C H→cd k (.fn f) (.int .i64 x::C) H=some (.bool (P x),H)):(TZ f P Q).Ok (cd k):=by
 refine xP (bo _) (fun args H x hx=>?_);unfold gC at hx;split at hx
 · obtain ⟨h1,h2⟩:=Tr.gx hx;rw[h _ _ _ h1,← Tr.ab h2]
 · exact (Tr.ag hx).elim
def CK (p:Nat→Bool) (m:Nat):Int:=if dH p m=true then (fN p m 0:Int) else -1
theorem Bj (p:Nat→Bool) (k:Nat):dS (Int.ofNat 0) (CK p k)=dH p k:=by
 rw[br];unfold CK;cases h:dH p k with
 | true =>
   rw[if_pos rfl];simp only[Int.ofNat_eq_natCast,decide_eq_true_eq];omega
 | false=>rw[if_neg (by decide)];rfl
theorem FM {p:Nat→Bool} {k:Nat} (h:∀ j,j<k→p j=false):dH p k=false:=by
 cases e:dH p k with
 | false=>rfl
 | true =>
   obtain ⟨j,hj,e2⟩:=(cP _ _).1 e;rw[h j hj] at e2;cases e2
theorem pc {p:Nat→Bool} {k:Nat} (h:dH p k=false):∀ j,j<k→p j=false:=fun j hj=>by
 cases e:p j with
 | false=>rfl
 | true=>rw[(cP _ _).2 ⟨j,hj,e⟩] at h;cases h
def F2:List AV→Option (Prop×AV)
 | []=>some (True,.bool true)
 | _=>none
theorem Ur (n:Nat) (H:aa):cd (n+1) (.fn 15) [] H=some (.bool true,H):=by unfold cd df;rfl
theorem PW {c:Nat} {t:nH} (h:0<c) (ht:t.Ok (cd c)):(iz t 15 F2).Ok (cd c):=by
 obtain ⟨m,rfl⟩:∃ m,c=m+1:=⟨c-1,by omega⟩
 refine ml ht (fun args p v hg hp H=>?_);unfold F2 at hg;split at hg
 · simp only[nP] at hg;obtain ⟨_,rfl⟩:=hg;exact Ur _ H
 · cases hg
noncomputable def slA (n len:Nat) (z:Nat→Int):AV:=.slcT none (.M [.arr .i64 z (fK len n)]) n len false
noncomputable def bX (O:Int) (U:Nat) (Z:Nat→Int) (V:Nat) (J:Nat→Int):AV:=.agg (.G [.int .i64 O,slA 4 U Z,slA 2 V J])
noncomputable def shR (O:Int) (U:Nat) (Z:Nat→Int) (V:Nat) (J:Nat→Int) (W B:Nat→Int):Row:=.M [.one (.int .i64 O),.one (slA 4 U Z),.one (slA 2 V J),.arr .i64 W 20,.arr .u64 B 10]
noncomputable def shV (O:Int) (U:Nat) (Z:Nat→Int) (V:Nat) (J:Nat→Int) (W B:Nat→Int):AV:=.ptrT none (shR O U Z V J W B) 0
noncomputable def fT (O:Int) (U:Nat) (Z:Nat→Int) (V:Nat) (J:Nat→Int):ao:=.row (.G [.int .i64 O,slA 4 U Z,slA 2 V J])
theorem oZ {c:Nat} {f:FuncId} {args:List AV} {H:aa} {x:AV×aa} (h:ia (cd c) f args H=some x):cd (c+1) (.fn f) args H=some x:=by
 unfold cd df;unfold cd at h;rw[h]
theorem Qj (n:Nat) (O:Int) (U:Nat) (Z:Nat→Int) (V:Nat) (J:Nat→Int) (W B:Nat→Int) (H:aa) (hl:U≤10):cd (n+1) (.fn 73) [shV O U Z V J W B] H=some (.int .i64 (Q.cntF U W B),H) :=
 oZ (Ih (O:=O) (Z:=Z) (V:=V) (J:=J) (W:=W) (B:=B) hl)
end Go.Eng
end
section
namespace Go.Eng
open Int (ofNat)
open Go.Proofs
noncomputable def uH (lo hi:Int):bK:=⟨false,[(0,.row (.I .i64 [lo])),(0,.row (.I .i64 [hi]))]⟩
noncomputable def f84 (d:Nat):AV:=.fn (.func 84) [] [.ptr d 0 0 0,.ptr d 1 0 0]
noncomputable def D7 (k:Nat) (b:Nat→Int) (full:Bool) (j:Int):aE:=[(0,bk k b full),(1,f84 2),(7,.int .i64 (ofNat k)),(8,.int .i64 j)]
theorem Xf (n:Nat) (lo hi:Int) (H:aa) (x:Int):bz Tryd.prog (cd n) 100000 84 Tryd.f84 (KtG.kt 84) (il aM n 0) aV aR [(.int .i64 x,none),(.ptr 2 0 0 0,none),(.ptr 2 1 0 0,none)] (aw::aw::uH lo hi::H) =
 Tr.ite (bQ x lo) (Tr.ok ((AV.bool true,some 1),aw::aw::(bO [(0,ao.row (Row.I .i64 [lo])),(0,ao.row (Row.I .i64 [hi]))])::H)) (Tr.ok ((AV.bool (bQ hi x),none),aw::aw::(bO [(0,ao.row (Row.I .i64 [lo])),(0,ao.row (Row.I .i64 [hi]))])::H)):=by kernel_rfl
theorem t99 (n k:Nat) (b:Nat→Int) (full:Bool) (lo hi:Int) (P:Int→Bool) (Q:Int→List AV→aa→Prop) (H:aa) (j:Int):aJ (bP n 99 19) (il (TZ 84 P Q) n 0) aV aR (part Tryd.f99 [1,0,1,0,0]) (hints (D7 k b full j)) (aw::aw::uH lo hi::H) =
 (fun (Z0:bK)=>Tr.ite (bQ j (ofNat k)) (Tr.req (bL j k) (Tr.req (bt (au 0 j 1) k) (Tr.reqP (Q (b (au 0 j 1)) [AV.ptr 2 0 0 0,AV.ptr 2 1 0 0] (aw::aw::Z0::H)) (Tr.ite (P (b (au 0 j 1))) (Tr.ok (Ex.ret,[(4,AV.int .i64 j,none)],aw::aw::Z0::H)) (Tr.ok (Ex.normal,[(0,AV.slcT none (rM b k) 1 k full,none),(1,AV.fn (Fn.func 84) [] [AV.ptr 2 0 0 0,AV.ptr 2 1 0 0],none),(7,iI k,none),(8,AV.int .i64 (bh .i64 j (ofNat 1)),none)],aw::aw::Z0::H)))))) (Tr.ok (Ex.exit 0,[(0,AV.slcT none (rM b k) 1 k full,none),(1,AV.fn (Fn.func 84) [] [AV.ptr 2 0 0 0,AV.ptr 2 1 0 0],none),(7,iI k,none),(8,AV.int .i64 j,none),(9,AV.bool false,some 1)],aw::aw::Z0::H))) (bO [(0,ao.row (Row.I .i64 [lo])),(0,ao.row (Row.I .i64 [hi]))]):=by kernel_rfl
theorem Xn (n k:Nat) (b:Nat→Int) (full:Bool) (lo hi:Int) (H:aa) (x:Bool) (r:Nat):bz Tryd.prog (cd n) 100000 99 Tryd.f99 (KtG.kt 99) (il aM n 0) (c9 aV 0 (D7 k b full 0) (aw::aw::uH lo hi::H) (.ite x (.ok (.ret,[(4,.int .i64 (ofNat r),none)],aw::aw::uH lo hi::H)) (.ok (.normal,hints (D7 k b full (ofNat k)++[(9,.bool false)]),aw::aw::uH lo hi::H)))) aR [(bk k b full,none),(f84 1,none)] (aw::uH lo hi::H) =
 (fun (Z0:bK)=>((fun (Z1:aE)=>Tr.reqP (Z1=Z1∧aw::aw::Z0::H=aw::aw::Z0::H) (Tr.ite x (Tr.ok ((iI r,none),aw::Z0::H)) (Tr.ok ((AV.int .i64 (Int.negSucc 0),some 1),aw::Z0::H)))) [(0,AV.slcT none (rM b k) 1 k full),(1,AV.fn (Fn.func 84) [] [AV.ptr 2 0 0 0,AV.ptr 2 1 0 0]),(7,iI k),(8,iI 0)])) (bO [(0,ao.row (Row.I .i64 [lo])),(0,ao.row (Row.I .i64 [hi]))]):=by kernel_rfl
theorem Xe (n k:Nat) (b:Nat→Int) (full:Bool) (lo hi:Int) (H:aa) (r:Int):bz Tryd.prog (cd n) 100000 83 Tryd.f83 (KtG.kt 83) (il (xI aM 99 [bk k b full,f84 1] (aw::uH lo hi::H) (.ok (.int .i64 r,aw::uH lo hi::H))) n 0) aV aR [(bk k b full,none),(f84 0,none)] (uH lo hi::H) =
 (fun (Z0:bK)=>((fun (Z1:List AV)=>Tr.reqP (Z1=Z1∧aw::Z0::H=aw::Z0::H) (Tr.ok ((AV.bool (dS (ofNat 0) r),none),Z0::H))) [AV.slcT none (rM b k) 1 k full,AV.fn (Fn.func 84) [] [AV.ptr 1 0 0 0,AV.ptr 1 1 0 0]])) (bO [(0,ao.row (Row.I .i64 [lo])),(0,ao.row (Row.I .i64 [hi]))]):=by kernel_rfl
theorem W3 (n k:Nat) (b:Nat→Int) (full:Bool) (lo hi:Int) (H:aa) (e:Bool):bz Tryd.prog (cd n) 100000 59 Tryd.f59 (KtG.kt 59) (il (xI aM 83 [bk k b full,f84 0] (uH lo hi::H) (.ok (.bool e,uH lo hi::H))) n 0) aV aR [(.int .i64 lo,none),(.int .i64 hi,none),(bk k b full,none)] H =
 (fun (Z0:List AV)=>Tr.reqP (Z0=Z0∧(bO [(0,ao.row (Row.I .i64 [lo])),(0,ao.row (Row.I .i64 [hi]))])::H=(bO [(0,ao.row (Row.I .i64 [lo])),(0,ao.row (Row.I .i64 [hi]))])::H) (Tr.ok ((AV.bool (bD e),none),H))) [AV.slcT none (rM b k) 1 k full,AV.fn (Fn.func 84) [] [AV.ptr 0 0 0 0,AV.ptr 0 1 0 0]]:=by kernel_rfl
theorem Up:∀ b,(0,b) ∈ aO (a7 Tryd.f99)→b=.loop (part Tryd.f99 [1,0,1,0,0]):=eP (by kernel_rfl)
def kH (lo hi x:Int):Bool:=decide (x<lo) || decide (hi<x)
section
variable (n k:Nat) (b:Nat→Int) (full:Bool) (lo hi:Int) (H:aa)
theorem UF (x:Int):cd (n+1) (.fn 84) [.int .i64 x,.ptr 2 0 0 0,.ptr 2 1 0 0] (aw::aw::uH lo hi::H)=some (.bool (kH lo hi x),aw::aw::uH lo hi::H):=by
 have hp:kH lo hi x=(decide (x<lo) || decide (hi<x)):=rfl;rw[hp];refine bU (n:=n) Tryd.func84 rfl rfl rfl (Xf n lo hi H x) (aA n) (aj _ _) (ak _ _) ?_;rw[bY,bY];refine Tr.af (fun hc=>Tr.ai ⟨?_,rfl⟩) (fun hc=>Tr.ai ⟨?_,rfl⟩)
 · rw[hc];rfl
 · rw[hc];rfl
theorem UE (hk:k≤1000):cd (n+4) (.fn 83) [bk k b full,f84 0] (uH lo hi::H)=some (.bool (dH (fun j=>kH lo hi (b j)) k),uH lo hi::H):=by
 have hQ:∀ q x C H',(C=[.ptr 2 0 0 0,.ptr 2 1 0 0]∧H'=aw::aw::uH lo hi::H)→cd (n+2+q) (.fn 84) (.int .i64 x::C) H'=some (.bool (kH lo hi x),H'):=by
  rintro q x C H' ⟨rfl,rfl⟩;rw[show n+2+q=n+1+q+1 by omega];exact UF _ lo hi H x
 have hx:=jE (n:=n+2) (f:=99) (nt:=19) (c:=part Tryd.f99 [1,0,1,0,0]) 0 (fun j=>D7 k b full (j:Int)) (fun _=>aw::aw::uH lo hi::H) k (fun j=>kH lo hi (b j)) (fun j=>([(4,.int .i64 (j:Nat))],aw::aw::uH lo hi::H)) (D7 k b full (ofNat k)++[(9,.bool false)],aw::aw::uH lo hi::H) wO (fun j hj=>?_) ?_
 · have h99:cd (n+3) (.fn 99) [bk k b full,f84 1] (aw::uH lo hi::H)=some (.int .i64 (CK (fun j=>kH lo hi (b j)) k),aw::uH lo hi::H):=by
    refine bU (n:=n+2) Tryd.func99 rfl rfl rfl (Xn (n+2) k b full lo hi H (dH (fun j=>kH lo hi (b j)) k) (fN (fun j=>kH lo hi (b j)) k 0)) (aA _) (bf (aj _ _) Up (fun x h=>dQ h hx)) (ak _ _) ?_;refine Tr.an ⟨rfl,rfl⟩ (Tr.af (fun hc=>Tr.ai ⟨?_,rfl⟩) (fun hc=>Tr.ai ⟨?_,rfl⟩))
    · unfold CK;rw[if_pos hc];rfl
    · unfold CK;rw[if_neg (by rw[hc];decide)];rfl
   refine bU (n:=n+3) Tryd.func83 rfl rfl rfl (Xe (n+3) k b full lo hi H (CK (fun j=>kH lo hi (b j)) k)) (bV _ (n+3) (fq (bo _) (fun x hy=>by rw[← Tr.ab hy];exact h99))) (aj _ _) (ak _ _) ?_;refine Tr.an ⟨rfl,rfl⟩ (Tr.ai ⟨?_,rfl⟩);rw[Bj]
 · refine aI (t99 (n+2) k b full lo hi (kH lo hi) _ H (j:Int)) (gU _ (n+2) 0 (fun q=>FF (hQ q))) (aj _ _) (ak _ _) ?_;show Tr.all _ (fun x=>if kH lo hi (b j)=true then _ else _);rw[fI wO,Be];cases hp:kH lo hi (b j) with
   | true =>
     simp only[if_true];refine Tr.af (fun hc=>?_) (fun hc=>?_)
     · repeat' first | (refine Tr.af (fun hc=>?_) (fun hc=>?_)<;>(try simp (disch:=omega) only[nV,nW] at hc)<;>(try (exfalso;omega))) | (refine Tr.ae ?_ ?_;· ((try simp (disch:=omega) only[nV,nW]);try omega)) | (refine Tr.an ?_ ?_;· first | exact trivial | rfl | exact ⟨rfl,rfl⟩ | exact ⟨trivial,rfl⟩ | exact ⟨rfl,by assumption⟩ | exact ⟨trivial,by assumption⟩ | exact ⟨rfl,rfl,rfl⟩ | (simp (disch:=omega) only[nV,nW];done) | ((try simp (disch:=omega) only[nV,nW]);omega)) | fail
       all_goals first
        | exact ⟨rfl,rfl⟩
        | (refine Tr.an ⟨trivial,rfl⟩ ?_
           exact wF)
        | exact Tr.ai rfl
        | fail
     · simp (disch:=omega) only[nV,nW] at hc;omega
   | false =>
     simp only[Bool.false_eq_true,if_false];refine Tr.af (fun hc=>?_) (fun hc=>?_)
     · repeat' first | (refine Tr.af (fun hc=>?_) (fun hc=>?_)<;>(try simp (disch:=omega) only[nV,nW] at hc)<;>(try (exfalso;omega))) | (refine Tr.ae ?_ ?_;· ((try simp (disch:=omega) only[nV,nW]);try omega)) | (refine Tr.an ?_ ?_;· first | exact trivial | rfl | exact ⟨rfl,rfl⟩ | exact ⟨trivial,rfl⟩ | exact ⟨rfl,by assumption⟩ | exact ⟨trivial,by assumption⟩ | exact ⟨rfl,rfl,rfl⟩ | (simp (disch:=omega) only[nV,nW];done) | ((try simp (disch:=omega) only[nV,nW]);omega)) | fail
       all_goals first
        | exact ⟨rfl,rfl⟩
        | (refine Tr.an ⟨trivial,rfl⟩ ?_
           exact wF)
        | exact Tr.ai ⟨rfl,rfl⟩
        | fail
     · simp (disch:=omega) only[nV,nW] at hc;omega
 · obtain ⟨x,h1,rfl⟩:=aI (Q:=fun x=>x=(.exit 0,D7 k b full (ofNat k)++[(9,.bool false)],aw::aw::uH lo hi::H)) (t99 (n+2) k b full lo hi (kH lo hi) _ H (ofNat k)) (gU _ (n+2) 0 (fun q=>FF (hQ q))) (aj _ _) (ak _ _) (by
    refine Tr.af (fun hc=>?_) (fun hc=>Tr.ai rfl);simp (disch:=omega) only[nV,nW] at hc;omega)
   exact h1
theorem Uu (hk:k≤1000):cd (n+5) (.fn 59) [.int .i64 lo,.int .i64 hi,bk k b full] H=some (.bool (!dH (fun j=>kH lo hi (b j)) k),H):=by
 have h:=UE n k b full lo hi H hk;refine ph (n:=n+4) Tryd.func59 rfl (fun _ _=>rfl) rfl (W3 (n+4) k b full lo hi H (dH (fun j=>kH lo hi (b j)) k)) (bV _ (n+4) (fq (bo _) (fun x hy=>by rw[← Tr.ab hy];exact h))) (aj _ _) (ak _ _) ?_;rw[aW];exact wF
end
noncomputable def PZ (lo hi:Int):List Int→Bool
 | []=>true
 | x::r=>bC (bC (dS lo x) (dS x hi)) (PZ lo hi r)
theorem L9 (lo hi:Int) (l:List Int):(!dH (fun j=>kH lo hi (ar l j)) l.length)=PZ lo hi l:=by
 rw[gL];induction l with
 | nil=>rfl
 | cons x r ih =>
   have e:dH (fun j=>kH lo hi ((fun j=>(x::r).getD j 0) j)) (r.length+1)=(kH lo hi x || dH (fun j=>kH lo hi ((fun j=>r.getD j 0) j)) r.length):=by
    rw[Bool.eq_iff_iff,Bool.or_eq_true,cP,cP];constructor
    · rintro ⟨i,h1,h2⟩;cases i with
      | zero=>exact .inl h2
      | succ i=>exact .inr ⟨i,by omega,h2⟩
    · rintro (h | ⟨i,h1,h2⟩)
      · exact ⟨0,by omega,h⟩
      · exact ⟨i+1,by omega,h2⟩
   show (!dH _ (r.length+1))=_;rw[e,Bool.not_or,ih];show _=bC (bC (dS lo x) (dS x hi)) (PZ lo hi r);rw[cD,cD,br,br];congr 1;unfold kH;by_cases h1:lo≤x
   · rw[decide_eq_true h1,decide_eq_false wO];by_cases h2:x≤hi
     · rw[decide_eq_true h2,decide_eq_false wO];rfl
     · rw[decide_eq_false h2,decide_eq_true wO];rfl
   · rw[decide_eq_false h1,decide_eq_true wO];rfl
noncomputable def gW (args:List AV) (H:aa):Tr (AV×aa) :=
 match args with
 | [.int .i64 lo,.int .i64 hi,.slc d i ver 0 1 k cap]=>match cX H d i ver with
   | some (.I .i64 l)=>cond (Nat.beq l.length k && Nat.ble k 1000) (.ok (.bool (PZ lo hi l),H)) .bad
   | _=>.bad
 | _=>.bad
theorem yg {n:Nat} {t:nH} (ht:t.Ok (cd (n+6))):(nK t 59 gW).Ok (cd (n+6)):=by
 refine xP ht (fun args H x hx=>?_);unfold gW at hx;split at hx;case h_2=>exact (Tr.ag hx).elim
 rename_i lo hi d i ver k cap;split at hx;case h_2=>exact (Tr.ag hx).elim
 rename_i l hr;cases hc:(Nat.beq l.length k && Nat.ble k 1000) with
 | false=>rw[hc] at hx;exact (Tr.ag hx).elim
 | true =>
   rw[hc,cond_true] at hx;rw[Bool.and_eq_true] at hc;have hk:l.length=k:=Nat.eq_of_beq_eq_true hc.1;have hk2:=Nat.le_of_ble_eq_true hc.2;subst hk;rw[← Tr.ab hx];refine oZ ?_;show O9 (cd (n+5)) 59 [.int .i64 lo,.int .i64 hi,.slc d i ver 0 1 l.length cap] H=_;unfold O9;simp only[hr,if_true];have:=Uu n l.length (ar l) false lo hi [⟨true,[]⟩] hk2;have e:bk l.length (ar l) false=.slcT none (.M [.arr .i64 (ar l) l.length]) 1 l.length false:=rfl;rw[e] at this;rw[this,L9];rfl
end Go.Eng
end
section
namespace Go.Eng
open Int (ofNat)
open Go.Proofs
noncomputable def D5 (l:Nat) (z:Nat→Int) (j:Int):aE:=[(0,slA 4 l z),(1,.fn (.func 58) [] []),(7,.int .i64 (ofNat l)),(8,.int .i64 j)]
theorem t85 (n:Nat) (l:Nat) (z:Nat→Int) (H:aa) (j:Int):aJ (bP (n+8) 85 19) (il (nK aM 59 gW) (n+6) 2) aV aR (part Tryd.f85 [1,0,1,0,0]) (hints (D5 l z j)) (aw::H) =
 Tr.ite (bQ j (ofNat l)) (Tr.req (bL j l) (Tr.req (bt (au 0 j 4) (aC l 4)) (Tr.req (bt (ah (au 0 j 4) 1) (aC l 4)) (Tr.req (bt (ah (au 0 j 4) 2) (aC l 4)) (Tr.req (bt (ah (au 0 j 4) 3) (aC l 4)) (Tr.ite (bD (bC (bC (dS (ofNat 0) (z (au 0 j 4))) (dS (z (au 0 j 4)) (ofNat 1000))) (bC (bC (dS (ofNat 0) (z (ah (au 0 j 4) 1))) (dS (z (ah (au 0 j 4) 1)) (ofNat 1000))) (bC (bC (dS (ofNat 0) (z (ah (au 0 j 4) 2))) (dS (z (ah (au 0 j 4) 2)) (ofNat 1000))) (bC (bC (dS (ofNat 0) (z (ah (au 0 j 4) 3))) (dS (z (ah (au 0 j 4) 3)) (ofNat 1000))) true))))) (Tr.ok (Ex.ret,[(4,AV.int .i64 j,none)],aw::H)) (Tr.ite (bQ (z (ah (au 0 j 4) 1)) (z (au 0 j 4))) (Tr.ok (Ex.ret,[(4,AV.int .i64 j,none)],aw::H)) (Tr.ite (bQ (z (ah (au 0 j 4) 3)) (z (ah (au 0 j 4) 2))) (Tr.ok (Ex.ret,[(4,AV.int .i64 j,none)],aw::H)) (Tr.ok (Ex.normal,[(0,slA 4 l z,none),(1,AV.fn (Fn.func 58) [] [],none),(7,iI l,none),(8,AV.int .i64 (bh .i64 j (ofNat 1)),none)],aw::H)))))))))) (Tr.ok (Ex.exit 0,[(0,slA 4 l z,none),(1,AV.fn (Fn.func 58) [] [],none),(7,iI l,none),(8,AV.int .i64 j,none),(9,AV.bool false,some 1)],aw::H)):=by kernel_rfl
theorem Xg (n:Nat) (l:Nat) (z:Nat→Int) (H:aa) (i:Int) (e:Bool):bz Tryd.prog (cd (n+8)) 100000 85 Tryd.f85 (KtG.kt 85) (il aM (n+8) 0) (c9 aV 0 (D5 l z 0) (aw::H) (.ite e (.ok (.ret,[(4,.int .i64 i,none)],aw::H)) (.ok (.normal,hints (D5 l z (ofNat l)++[(9,.bool false)]),aw::H)))) aR [(slA 4 l z,none),(.fn (.func 58) [] [],none)] H =
 Tr.reqP ([(0,slA 4 l z),(1,AV.fn (Fn.func 58) [] []),(7,iI l),(8,iI 0)]=[(0,slA 4 l z),(1,AV.fn (Fn.func 58) [] []),(7,iI l),(8,iI 0)]∧aw::H=aw::H) (Tr.ite e (Tr.ok ((AV.int .i64 i,none),H)) (Tr.ok ((AV.int .i64 (Int.negSucc 0),some 1),H))):=by kernel_rfl
theorem W4 (n:Nat) (l:Nat) (z:Nat→Int) (H:aa) (i:Int):bz Tryd.prog (cd (n+9)) 100000 60 Tryd.f60 (KtG.kt 60) (il (tX aM 85 [slA 4 l z,.fn (.func 58) [] []] (.int .i64 i)) (n+9) 0) aV aR [(slA 4 l z,none),(.fn (.func 58) [] [],none)] H =
 Tr.reqP ([slA 4 l z,AV.fn (Fn.func 58) [] []]=[slA 4 l z,AV.fn (Fn.func 58) [] []]) (Tr.ok ((AV.bool (dS (ofNat 0) i),none),H)):=by kernel_rfl
def jA (z:Nat→Int) (j:Nat):Bool:=!(decide (0≤z (j*4)) && (decide (z (j*4)≤z (j*4+1)) && (decide (z (j*4+1)≤1000) && (decide (0≤z (j*4+2)) && (decide (z (j*4+2)≤z (j*4+3)) && decide (z (j*4+3)≤1000))))))
theorem Uk:∀ b,(0,b) ∈ aO (a7 Tryd.f85)→b=.loop (part Tryd.f85 [1,0,1,0,0]):=eP (by kernel_rfl)
section
variable (n:Nat) (l:Nat) (z:Nat→Int) (H:aa)
theorem T3 (n k:Nat):(il (nK aM 59 gW) (n+6) k).Ok (cd (n+6+k)):=gU _ _ _ (fun q=>by rw[show n+6+q=n+q+6 by omega];exact yg (bo _))
theorem UG (hl:l≤1000):cd (n+9) (.fn 85) [slA 4 l z,.fn (.func 58) [] []] H=some (.int .i64 (CK (jA z) l),H):=by
 have lp:=jE (n:=n+8) (f:=85) (nt:=19) (c:=part Tryd.f85 [1,0,1,0,0]) 0 (fun j=>D5 l z (j:Int)) (fun _=>aw::H) l (jA z) (fun j=>([(4,.int .i64 (j:Int))],aw::H)) (D5 l z (ofNat l)++[(9,.bool false)],aw::H) wO (fun j hj=>?_) ?_
 · refine bU (n:=n+8) Tryd.func85 rfl rfl rfl (Xg n l z H ((fN (jA z) l 0:Nat):Int) (dH (jA z) l)) (iA (n+8) 0) (bf (aj _ _) Uk (fun x hx=>dQ hx lp)) (ak _ _) ?_;repeat' first | (refine Tr.af (fun hc=>?_) (fun hc=>?_)<;>(try simp (disch:=omega) only[nV,nW] at hc)<;>(try (exfalso;omega))) | (refine Tr.ae ?_ ?_;· ((try simp (disch:=omega) only[nV,nW]);try omega)) | (refine Tr.an ?_ ?_;· first | exact trivial | rfl | exact ⟨rfl,rfl⟩ | exact ⟨trivial,rfl⟩ | exact ⟨rfl,by assumption⟩ | exact ⟨trivial,by assumption⟩ | exact ⟨rfl,rfl,rfl⟩ | (simp (disch:=omega) only[nV,nW];done) | ((try simp (disch:=omega) only[nV,nW]);omega)) | fail
   all_goals refine Tr.ai ⟨?_,rfl⟩
   · unfold CK;rw[if_pos hc]
   · unfold CK;rw[if_neg (by rw[hc];decide)];rfl
 · have ej:bh .i64 (j:Int) (ofNat 1)=((j+1:Nat):Int):=fI wO;have ei:au 0 (j:Int) 4=j*4:=by rw[bN];omega
   have hs:jA z j=!(decide (0≤z (j*4)) && (decide (z (j*4)≤z (j*4+1)) && (decide (z (j*4+1)≤1000) && (decide (0≤z (j*4+2)) && (decide (z (j*4+2)≤z (j*4+3)) && decide (z (j*4+3)≤1000)))))):=rfl;refine aI (t85 n l z H (j:Int)) (T3 n 2) (aj _ _) (ak _ _) ?_;refine Tr.af (fun h0=>?_) wJ;refine Tr.ae wG (Tr.ae (by rw[ei];simp (disch:=omega) only[nV,nW];omega) (Tr.ae (by rw[ei];simp (disch:=omega) only[nV,nW];omega) (Tr.ae (by rw[ei];simp (disch:=omega) only[nV,nW];omega) (Tr.ae (by rw[ei];simp (disch:=omega) only[nV,nW];omega) ?_))));rw[ei,aF,aF,aF,ej];refine Tr.af (fun h1=>?_) (fun h1=>?_)
   · refine Tr.ai ?_;rw[if_pos (by rw[hs];simp[aW,cD,br] at h1 ⊢;omega)];rfl
   · simp only[aW,cD,br] at h1;simp at h1;refine Tr.af (fun h2=>?_) (fun h2=>?_)
     · rw[bY,decide_eq_true_eq] at h2;refine Tr.ai ?_;rw[if_pos (by rw[hs];simp;omega)];rfl
     · rw[bY,decide_eq_false_iff_not] at h2;refine Tr.af (fun h3=>?_) (fun h3=>?_)
       · rw[bY,decide_eq_true_eq] at h3;refine Tr.ai ?_;rw[if_pos (by rw[hs];simp;omega)];rfl
       · rw[bY,decide_eq_false_iff_not] at h3;refine Tr.ai ?_;rw[if_neg (by rw[hs];simp;omega)];exact ⟨rfl,rfl⟩
 · obtain ⟨x,h1,rfl⟩:=aI (Q:=fun x=>x=(.exit 0,D5 l z (ofNat l)++[(9,.bool false)],aw::H)) (t85 n l z H (ofNat l)) (T3 n 2) (aj _ _) (ak _ _) (by
    refine Tr.af wJ (fun h0=>Tr.ai rfl))
   exact h1
theorem Uv (hl:l≤1000):cd (n+10) (.fn 60) [slA 4 l z,.fn (.func 58) [] []] H=some (.bool (dH (jA z) l),H):=by
 have h:=fun H=>UG n l z H hl;refine bU (n:=n+9) Tryd.func60 rfl rfl rfl (W4 n l z H (CK (jA z) l)) (bV _ (n+9) (dL (bo _) h)) (aj _ _) (ak _ _) ?_;refine Tr.an rfl (Tr.ai ⟨?_,rfl⟩);rw[Bj]
end
end Go.Eng
end
