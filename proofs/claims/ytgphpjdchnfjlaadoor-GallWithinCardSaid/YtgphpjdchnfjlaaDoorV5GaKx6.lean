/- Gall: closed calls: what they lean on; counts of shelves that are known. -/
import Derived.Test.YtgphpjdchnfjlaaDoorV5Gq5x5
import Derived.Test.YtgphpjdchnfjlaaDoorV5Gp2x6
import Derived.Test.YtgphpjdchnfjlaaDoorV5EngThx10
import Derived.Test.YtgphpjdchnfjlaaDoorV5EngTkx3
import Derived.Test.YtgphpjdchnfjlaaDoorV5EngRnFx7
import Derived.Test.YtgphpjdchnfjlaaDoorV5EngRoSx4
set_option linter.unusedVariables false
set_option linter.unusedSimpArgs false
set_option maxRecDepth 100000
section
namespace Go.Eng.Gall
open Go.Proofs Go.Eng.Q
theorem named:dN Tryd.prog:=by
 have h:(Tryd.prog.funcs.toList.all fun fn=>fn.body.isNone || !(fn.name == "runtime.NumGoroutine"))=true:=by kernel_rfl
 intro f fn hf hb;have:=List.all_eq_true.1 h fn (by simpa using Array.mem_of_getElem? hf);rw[hb] at this;simpa using this
theorem mixed:Tryd.prog.follows .mixedOrders=true:=by kernel_rfl
theorem Jq:∀ e ∈ ([]:List cI),aG Tryd.prog e:=fun e h=>by cases h
theorem a8 {e:cI} {t:List cI} (h:aG Tryd.prog e) (k:∀ x ∈ t,aG Tryd.prog x):∀ x ∈ e::t,aG Tryd.prog x:=fun x hx=>by
 rcases List.mem_cons.1 hx with rfl | hx
 · exact h
 · exact k x hx
def Vt:List AV→Bool
 | .ptr _ _ _ _::_=>true
 | _=>false
noncomputable def vu (c:aO) (f:FuncId) (args:List AV) (H:aa):Option (AV×aa) :=
 cond (Nat.beq f 82) (F7 args H) (cond (Nat.beq f 62) (QQ (oL Tryd.prog KtG.kt 100000 62 c args H)) (cond ((Nat.beq f 63 || Nat.beq f 65) && Vt args) (PN c f args H) (cond (Nat.beq f 47) (oL Tryd.prog KtG.kt 100000 47 (Co Tryd.prog KtG.kt 100000 46 c) args H) (cond (Nat.beq f 94 || Nat.beq f 100) (nR Tryd.prog KtG.kt 100000 f c args H) none))))
theorem Dy (hN:dN Tryd.prog) (hD:gy Tryd.prog):sl Tryd.prog vu:=fun call hC f args H v H' h hne p M w cargs hH hA=>by
 unfold vu at h;cases h82:Nat.beq f 82 with
 | true =>
   rw[h82,cond_true] at h;have:=Nat.eq_of_beq_eq_true h82;subst this;exact IM h hH hA
 | false =>
 rw[h82,cond_false] at h;cases h62:Nat.beq f 62 with
 | true =>
   rw[h62,cond_true] at h;have:=Nat.eq_of_beq_eq_true h62;subst this;unfold QQ at h;split at h;case h_2=>simp at h
   rename_i v1 H1 he;simp only[nP] at h;obtain ⟨rfl,rfl⟩:=h;obtain ⟨h1,h2⟩:=pQ hN hD KtG.kt 100000 hC he hH hA;exact ⟨h1,h2.mono (fun _ _ h=>fh.N0 h)⟩
 | false =>
 rw[h62,cond_false] at h;cases hr:((Nat.beq f 63 || Nat.beq f 65) && Vt args) with
 | true =>
   rw[hr,cond_true] at h;exact Nj hC h hH hA
 | false =>
 rw[hr,cond_false] at h;cases h47:Nat.beq f 47 with
 | true =>
   rw[h47,cond_true] at h;have:=Nat.eq_of_beq_eq_true h47;subst this;exact pQ hN hD KtG.kt 100000 (Fq hN hD KtG.kt 100000 46 hC) h hH hA
 | false =>
 rw[h47,cond_false] at h;cases h94:(Nat.beq f 94 || Nat.beq f 100) with
 | true =>
   rw[h94,cond_true] at h;exact G4 hN hD KtG.kt 100000 hC h hH hA
 | false=>rw[h94,cond_false] at h;cases h
noncomputable def MZ (tab:List cI):aO→FuncId→List AV→aa→Option (AV×aa):=fun c f args H=>match BY tab c f args H with
 | some x=>some x
 | none=>vu c f args H
theorem JA (hN:dN Tryd.prog) (hD:gy Tryd.prog) {tab:List cI} (hT:∀ e ∈ tab,aG Tryd.prog e):sl Tryd.prog (MZ tab):=fun call hC f args H v H' h hne p M w cargs hH hA=>by
 unfold MZ at h;split at h
 · rename_i x hx;simp only[Option.some.injEq] at h;subst h;exact xE tab hT call hC f args H v H' hx hne p M w cargs hH hA
 · exact Dy hN hD call hC f args H v H' h hne p M w cargs hH hA
theorem bg {tab:List cI} (hT:∀ e ∈ tab,aG Tryd.prog e) {e:cI} {H':aa}
 (h:FV Tryd.prog (MZ tab) KtG.kt 100000 40 (.fn e.f) e.args [⟨true,[]⟩]=some (e.v,H')) (hn:e.args.all (tH 9)=true):aG Tryd.prog e:=by
 rw[Ed] at h
 exact zB (na named (qf named mixed) (JA named (qf named mixed) hT) KtG.kt 100000 40) h hn
theorem FW (n:Nat):cg Tryd.prog (cd n):=na named (qf named mixed) xD KtG.kt 100000 n
theorem F1 (O:Int) (U:Nat) (Z:Nat→Int) (V:Nat) (J:Nat→Int) (W B:Nat→Int) (hl:U≤10) {p:aL} {M:Mu} {H:aa} {w:World} {cargs:Array Value} (hH:br p M H w) (hA:eW p M [shV O U Z V J W B] cargs) :
 (∃ fn,Tryd.prog.funcs[73]?=some fn∧fn.body.isNone=false)∧CallsIn Fence.wide 0 Tryd.prog 73 cargs w (fh p M H w (.int .i64 (cntF U W B)) H) :=
 EU named (qf named mixed) OB KtG.kt 100000 (FW 3) (Vn 2 O U Z V J W B hl H) hH hA
noncomputable def VA (O:Int) (U:Nat) (zl:List Int) (V:Nat) (bl:List Int) (f1 f2:Bool) (Wl Bl:List Int):AV:=.ptrT none (.G (.int .i64 O::.slcT none (.I .i64 zl) 4 U f1::.slcT none (.I .i64 bl) 2 V f2::(Wl.map (.int .i64)++Bl.map (.int .u64)))) 0
theorem z7 {p:aL} {M:Mu} {zl:List Int} {sz U:Nat} {f:Bool} {c:Value} (hl:zl.length=cr U sz) (h:an p M (.slcT none (.I .i64 zl) sz U f) c):an p M (.slcT none (.M [.arr .i64 (az zl) (cr U sz)]) sz U false) c:=by
 cases h with
 | slcT vs hp h1 hv h2 h3 h4 =>
   have hlen:(Row.M [.arr .i64 (az zl) (cr U sz)]).len=(Row.I .i64 zl).len:=by
    show cr U sz+0=zl.length;omega
   refine .slcT vs (fun j hj=>hp j (by rw[← hlen];exact hj)) (fun j hj=>h1 j (by rw[← hlen];exact hj)) (fun j hj=>?_) h2 (fun e=>by cases e) h4;have hj':j<zl.length:=by rw[hlen] at hj;exact hj
   have:=hv j (by rw[← hlen];exact hj);have e:getM [.arr .i64 (az zl) (cr U sz)] j=.int .i64 (zl.getD j 0):=by
    show (if j<cr U sz then AV.int .i64 (az zl j) else _)=_;rw[if_pos (by omega),fa]
   show an p _ (getM [.arr .i64 (az zl) (cr U sz)] j) (vs j);rw[e];exact this.bz _ _
 | slcN=>exact .slcN
theorem JV {p:aL} {M:Mu} {O:Int} {U:Nat} {zl:List Int} {V:Nat} {bl:List Int} {f1 f2:Bool} {Wl Bl:List Int} {c:Value} (hz:zl.length=cr U 4) (hb:bl.length=cr V 2) (hW:Wl.length=20) (hB:Bl.length=10) (h:an p M (VA O U zl V bl f1 f2 Wl Bl) c):an p M (shV O U (az zl) V (az bl) (az Wl) (az Bl)) c:=by
 cases h with
 | ptrT vs hp h1 hv =>
   have hlen:(shR O U (az zl) V (az bl) (az Wl) (az Bl)).len=33:=rfl;have hlen':(Row.G (.int .i64 O::.slcT none (.I .i64 zl) 4 U f1::.slcT none (.I .i64 bl) 2 V f2::(Wl.map (.int .i64)++Bl.map (.int .u64)))).len=33:=by simp[Row.len,hW,hB]
   refine .ptrT vs (fun j hj=>hp j (by rw[hlen'] ; rw[hlen] at hj;exact hj)) (fun j hj=>h1 j (by rw[hlen'] ; rw[hlen] at hj;exact hj)) (fun j hj=>?_);rw[hlen] at hj;have:=hv j (by rw[hlen'];exact hj);match j,hj,this with
   | 0,_,this=>exact this
   | 1,_,this=>exact z7 hz this
   | 2,_,this=>exact z7 hb this
   | j + 3,hj,this =>
     have this:an p _ ((Wl.map (AV.int .i64)++Bl.map (AV.int .u64)).getD j .undef) (vs (j+3)):=this;show an p _ (getM [.arr .i64 (az Wl) 20,.arr .u64 (az Bl) 10] j) (vs (j+3));by_cases hj20:j<20
     · have e:getM [.arr .i64 (az Wl) 20,.arr .u64 (az Bl) 10] j=.int .i64 (Wl.getD j 0):=by
        show (if j<20 then AV.int .i64 (az Wl j) else _)=_;rw[if_pos hj20,fa]
       have e2:(Wl.map (AV.int .i64)++Bl.map (AV.int .u64)).getD j .undef=.int .i64 (Wl.getD j 0):=by
        rw[List.getD_eq_getElem?_getD,List.getElem?_append_left (by simp;omega),List.getElem?_map,List.getD_eq_getElem?_getD,List.getElem?_eq_getElem (by omega)];rfl
       rw[e];rw[e2] at this;exact this.bz _ _
     · have e:getM [.arr .i64 (az Wl) 20,.arr .u64 (az Bl) 10] j=.int .u64 (Bl.getD (j-20) 0):=by
        show (if j<20 then AV.int .i64 (az Wl j) else (if j-20<10 then AV.int .u64 (az Bl (j-20)) else _))=_;rw[if_neg hj20,if_pos (by omega),fa]
       have e2:(Wl.map (AV.int .i64)++Bl.map (AV.int .u64)).getD j .undef=.int .u64 (Bl.getD (j-20) 0):=by
        rw[List.getD_eq_getElem?_getD,List.getElem?_append_right (by simp;omega),List.getElem?_map,List.length_map,hW,List.getD_eq_getElem?_getD,List.getElem?_eq_getElem (by omega)];rfl
       rw[e];rw[e2] at this;exact this.bz _ _
def Tl (Wl Bl:List Int) (k X c:Nat):Bool:=(BitVec.ofInt 64 (Bl.getD c 0) &&& ~~~(BitVec.ofNat 64 X)).toNat == 0 && (decide (Wl.getD (2*c) 0≤(k:Int)) && decide ((k:Int)≤Wl.getD (2*c+1) 0))
theorem G7 (Wl Bl:List Int):okW (az Wl) (az Bl)=Tl Wl Bl:=by
 funext k X c;unfold okW Tl;rw[fa,fa,so,bk,bk,aQ];congr 1;show (IntKind.u64.wrap (((BitVec.ofInt 64 (Bl.getD c 0) &&& ~~~(BitVec.ofInt 64 (X:Int))).toNat:Nat):Int) == 0)=_;rw[LZ,jT (BitVec.isLt _)];generalize (BitVec.ofInt 64 (Bl.getD c 0) &&& ~~~(BitVec.ofNat 64 X)).toNat=t;rw[Bool.eq_iff_iff,beq_iff_eq,beq_iff_eq];omega
def Rk (U:Nat) (Wl Bl:List Int):Nat:=(ro U (Tl Wl Bl) U).length
theorem G8 {O:Int} {U:Nat} {zl:List Int} {V:Nat} {bl:List Int} {f1 f2:Bool} {Wl Bl:List Int} {A:AV} {v:Nat} (hA:A=VA O U zl V bl f1 f2 Wl Bl) (hl:U≤10) (hz:zl.length=U*4) (hb:bl.length=V*2) (hW:Wl.length=20) (hB:Bl.length=10) (hv:Rk U Wl Bl=v):aG Tryd.prog ⟨73,[A],.int .i64 (v:Int)⟩:=by
 intro H hne p M w cargs hH hC;have e:cntF U (az Wl) (az Bl)=(v:Int):=by unfold cntF;rw[G7];exact congrArg Int.ofNat hv
 rw[← e];refine F1 O U (az zl) V (az bl) (az Wl) (az Bl) hl hH ⟨hC.1,fun j hj=>?_⟩;have hC2:=hC.2 j hj;subst hA;have:j=0:=by simp at hj;omega
 subst this;exact JV (by rw[r9];exact hz) (by rw[r9];exact hb) hW hB hC2
end Go.Eng.Gall
end
section
namespace Go.Eng
open Go.Proofs Go.ChangeShapes
open Go.Eng.Q (shV shR slA cntF okW)
noncomputable def IG (args:List AV) (H:aa):Option (AV×aa) :=
 match args with
 | [.ptrT none (.M [.one (.int .i64 O),.one (.slcT none (.M [.arr .i64 Z n1]) 4 U false),.one (.slcT none (.M [.arr .i64 J n2]) 2 V false),.arr .i64 W 20,.arr .u64 B 10]) 0]=>if U≤10∧n1=fR U 4∧n2=fR V 2 then some (.int .i64 (cntF U W B),H) else none
 | _=>none
theorem IH {O:Int} {U:Nat} {Z:Nat→Int} {V:Nat} {J:Nat→Int} {W B:Nat→Int} {H:aa} (hl:U≤10):IG [shV O U Z V J W B] H=some (.int .i64 (cntF U W B),H):=by
 show (if U≤10∧fR U 4=fR U 4∧fR V 2=fR V 2 then some (AV.int .i64 (cntF U W B),H) else none)=_;rw[if_pos ⟨hl,rfl,rfl⟩]
theorem II {args:List AV} {H:aa} {v:AV} {H':aa} (h:IG args H=some (v,H')) {p:aL} {M:Mu} {w:World} {cargs:Array Value} (hH:br p M H w) (hA:eW p M args cargs):(∃ fn,Tryd.prog.funcs[73]?=some fn∧fn.body.isNone=false)∧CallsIn Fence.wide 0 Tryd.prog 73 cargs w (fh p M H w v H'):=by
 unfold IG at h;split at h;case h_2=>simp at h
 rename_i O Z n1 U J n2 V W B;split at h;case isFalse=>simp at h
 rename_i hc;obtain ⟨hl,rfl,rfl⟩:=hc;simp only[nP] at h;obtain ⟨rfl,rfl⟩:=h;exact Gall.F1 O U Z V J W B hl hH hA
def KB:List AV→Bool
 | [_,_,.slc _ _ _ _ _ _ _]=>true
 | _=>false
def EL:AV→AV
 | .tup l=>.tup (l.map jM)
 | v=>jM v
theorem G2 {p:aL} {M:Mu} {v:AV} {c:Value} (h:an p M v c):an p M (EL v) c:=by
 unfold EL;split
 · rename_i l;cases h with
   | tup hs hv =>
     refine .tup (by simpa using hs) (fun j hj=>?_);have hj':j<l.length:=by simpa using hj
     have:=kI (hv j hj');simpa[List.getD_eq_getElem?_getD,hj'] using this
 · exact kI h
def MS (c:Option (AV×aa)):Option (AV×aa) :=
 match c with
 | some (v,H)=>some (EL v,H)
 | none=>none
theorem fh.X3 {p:aL} {M:Mu} {H H':aa} {w:World} {v:AV} {e:Ending} {w':World} (h:fh p M H w v H' e w'):fh p M H w (EL v) H' e w':=by
 obtain ⟨cv,h1,st,p',M',hE,hv⟩:=h;exact ⟨cv,h1,st,p',M',hE,G2 hv⟩
noncomputable def gL:aO→FuncId→List AV→aa→Option (AV×aa):=fun call f args H=>cond (Nat.beq f 30 || Nat.beq f 38) (MS (oL Tryd.prog KtG.kt 100000 f call args H)) <| cond (Nat.beq f 59 && KB args) (PO call f args H) (cond (Nat.beq f 73) (IG args H) (cond (Nat.beq f 95) (Hw gr args H) (match Gall.vu call f args H with
 | some x=>some x
 | none=>tY [⟨15,[],.bool true⟩] call f args H)))
def Ih (f:FuncId):Bool:=(Nat.beq f 30 || Nat.beq f 38) || Nat.beq f 15 || Nat.beq f 1000000 || Nat.beq f 59 || Nat.beq f 73 || Nat.beq f 95 || Nat.beq f 82 || Nat.beq f 62 || Nat.beq f 63 || Nat.beq f 65 || Nat.beq f 47 || Nat.beq f 94 || Nat.beq f 100
noncomputable def cd (n:Nat):aO:=dv Tryd.prog gL KtG.kt 100000 n
noncomputable def il (tab:nH) (n k:Nat):bx:=BF Tryd.prog gL KtG.kt 100000 Ih tab n k
noncomputable def bJ (n:Nat) (f nt:Nat):Cx:=⟨Tryd.prog,cd n,100000,f,nt,KtG.kt f,none⟩
theorem KM {g:FuncId} (h:Nat.beq g 15=false) (h1:Nat.beq g 1000000=false) (c:aO) (args:List AV) (H:aa):tY [⟨15,[],.bool true⟩] c g args H=none:=by
 unfold tY;rw[h1,cond_false];simp only[BY];have:Nat.beq 15 g=false:=by
  cases hb:Nat.beq 15 g with
  | false=>rfl
  | true=>have:=Nat.eq_of_beq_eq_true hb;subst this;simp at h
 rw[this];rfl
theorem xz (g:FuncId) (h:Ih g=false) (c:aO) (args:List AV) (H:aa):gL c g args H=none:=by
 unfold Ih at h;simp only[Bool.or_eq_false_iff] at h;obtain ⟨⟨⟨⟨⟨⟨⟨⟨⟨⟨⟨⟨⟨h30,h38⟩,h15⟩,h0⟩,h59⟩,h73⟩,h95⟩,h82⟩,h62⟩,h63⟩,h65⟩,h47⟩,h94⟩,h100⟩:=h;have e:Gall.vu c g args H=none:=by
  unfold Gall.vu;rw[h82,h62,h63,h65,h47,h94,h100];rfl
 unfold gL;rw[h30,h38,h59,h73,h95,e];exact KM h15 h0 c args H
theorem nm (n:Nat):∃ x,dv Tryd.prog gL KtG.kt 100000 n .mode [] []=some x:=by
 cases n<;>exact ⟨_,rfl⟩
theorem xD (hN:dN Tryd.prog) (hD:gy Tryd.prog) (hW:aG Tryd.prog ⟨15,[],.bool true⟩):sl Tryd.prog gL :=
 fun call hC f args H v H' h hne p M w cargs hH hA=>by
  unfold gL at h;cases h30:(Nat.beq f 30 || Nat.beq f 38) with
  | true =>
    rw[h30,cond_true] at h;unfold MS at h;split at h;case h_2=>simp at h
    rename_i v1 H1 he;simp only[nP] at h;obtain ⟨rfl,rfl⟩:=h;obtain ⟨h1,h2⟩:=pQ hN hD KtG.kt 100000 hC he hH hA;exact ⟨h1,h2.mono (fun _ _ h=>fh.X3 h)⟩
  | false =>
  rw[h30,cond_false] at h;cases h59:(Nat.beq f 59 && KB args) with
  | true =>
    rw[h59,cond_true] at h;exact Nk hC h hH hA
  | false =>
  rw[h59,cond_false] at h;cases h73:Nat.beq f 73 with
  | true =>
    rw[h73,cond_true] at h;have:=Nat.eq_of_beq_eq_true h73;subst this;exact II h hH hA
  | false =>
  rw[h73,cond_false] at h;cases h95:Nat.beq f 95 with
  | true =>
    rw[h95,cond_true] at h;have:=Nat.eq_of_beq_eq_true h95;subst this;exact JM Nv h hne hH hA
  | false =>
  rw[h95,cond_false] at h;split at h
  · rename_i x hx;simp only[Option.some.injEq] at h;subst h;exact Gall.Dy hN hD call hC f args H v H' hx hne p M w cargs hH hA
  · exact Dz _ (fun e he=>by
     simp only[List.mem_singleton] at he;subst he;exact hW) call hC f args H v H' h hne p M w cargs hH hA
theorem gx (tab:nH) (n k:Nat) (ht:∀ k,tab.Ok (cd (n+k))):(il tab n k).Ok (cd (n+k)):=xl _ _ _ _ _ _ _ xz (fun k=>nm _) ht k
theorem dT (n k:Nat):(il aC n k).Ok (cd (n+k)):=gx _ _ _ (fun k=>aR _)
theorem aw (n:Nat):(il aC n 0).Ok (cd n):=dT n 0
theorem OR {f:FuncId} {fn:Func} {n:Nat} (hf:Tryd.prog.funcs[f]?=some fn) (hb:fn.body.isSome=true) (hn:Ih f=false) {args:List HV} (hle:Nat.ble args.length fn.ntmps=true) {H:aa} {callR:bx} (hC:callR.Ok (cd n)) {bl:eV} (hB:bl.Ok (bJ n f fn.ntmps) (aW fn)) {rg:nZ} (hR:rg.Ok (bJ n f fn.ntmps) (aW fn)) {y:HV×aa}
 (h:(aZ Tryd.prog (cd n) 100000 f fn (KtG.kt f) callR bl rg args H).run=some y):cd (n+1) (.fn f) (jY args) H=some (y.1.1,y.2) :=
 oY hf hb (xz f hn _ _ _) hle hC hB hR h
theorem Mm {f:FuncId} {fn:Func} {n:Nat} (hf:Tryd.prog.funcs[f]?=some fn) (hb:fn.body.isSome=true) {args:List HV} (ho:∀ c H,gL c f (jY args) H=none) (hle:Nat.ble args.length fn.ntmps=true) {H:aa} {callR:bx} (hC:callR.Ok (cd n)) {bl:eV} (hB:bl.Ok (bJ n f fn.ntmps) (aW fn)) {rg:nZ} (hR:rg.Ok (bJ n f fn.ntmps) (aW fn)) {y:HV×aa}
 (h:(aZ Tryd.prog (cd n) 100000 f fn (KtG.kt f) callR bl rg args H).run=some y):cd (n+1) (.fn f) (jY args) H=some (y.1.1,y.2) :=
 oY hf hb (ho _ _) hle hC hB hR h
theorem OQ {f:FuncId} {fn:Func} {n:Nat} (hf:Tryd.prog.funcs[f]?=some fn) (hb:fn.body.isSome=true) (hn:Ih f=false) {args:List HV} (hle:Nat.ble args.length fn.ntmps=true) {H:aa} {callR:bx} {bl:eV} {rg:nZ} {T:Tr (HV×aa)}
 (e:aZ Tryd.prog (cd n) 100000 f fn (KtG.kt f) callR bl rg args H=T) (hC:callR.Ok (cd n)) (hB:bl.Ok (bJ n f fn.ntmps) (aW fn)) (hR:rg.Ok (bJ n f fn.ntmps) (aW fn)) {y:HV×aa} (hr:T.run=some y):cd (n+1) (.fn f) (jY args) H=some (y.1.1,y.2) :=
 OR hf hb hn hle hC hB hR (by rw[e];exact hr)
theorem OM {n f nt:Nat} {c:Code} {callR:bx} (hC:callR.Ok (cd n)) {bl:eV} (hB:bl.Ok (bJ n f nt) c) {rg:nZ} (hR:rg.Ok (bJ n f nt) c) {fr:aD} {H:aa} {x:ev} (h:(aF (bJ n f nt) callR bl rg c (hints fr) H).run=some x):exec (bJ n f nt) c fr H=some x.st:=by
 have:=fX hC c hB hR _ _ _ h;rw[aN] at this;exact this

def eI (bl:eV) (id0:Nat):eV:=fun id fr H=>cond (Nat.beq id id0) (some .bad) (bl id fr H)
theorem b9 {bl:eV} {cx:Cx} {c:Code} (h:bl.Ok cx c) (id0:Nat):(eI bl id0).Ok cx c:=by
 intro id b hm fr H t y ht hy;unfold eI at ht;cases hb:Nat.beq id id0 with
 | true =>
   rw[hb,cond_true,Option.some.injEq] at ht;subst ht;exact (Tr.ai hy).elim
 | false =>
   rw[hb,cond_false] at ht;exact h id b hm fr H t y ht hy
theorem OL {n f nt:Nat} {c:Code} {callR:bx} {bl:eV} {rg:nZ} {fr:aD} {H:aa} {T:Tr ev} (e:aF (bJ n f nt) callR bl rg c (hints fr) H=T) (hC:callR.Ok (cd n)) (hB:bl.Ok (bJ n f nt) c) (hR:rg.Ok (bJ n f nt) c) {x:ev} (hr:T.run=some x):exec (bJ n f nt) c fr H=some x.st :=
 OM hC hB hR (by rw[e];exact hr)
section
variable {n f nt:Nat} {c:Code} {callR:bx} {bl:eV} {rg:nZ}
end
end Go.Eng
end
section
namespace Go.Eng
open Go.Proofs
theorem bp {f:FuncId} {fn:Func} {n:Nat} (hf:Tryd.prog.funcs[f]?=some fn) (hb:fn.body.isSome=true) (hn:Ih f=false) {args:List HV} (hle:Nat.ble args.length fn.ntmps=true) {H:aa} {callR:bx} {bl:eV} {rg:nZ} {T:Tr (HV×aa)}
 (e:aZ Tryd.prog (cd n) 100000 f fn (KtG.kt f) callR bl rg args H=T) (hC:callR.Ok (cd n)) (hB:bl.Ok (bJ n f fn.ntmps) (aW fn)) (hR:rg.Ok (bJ n f fn.ntmps) (aW fn)) {v:AV} {H':aa} (h:T.all fun y=>y.1.1=v∧y.2=H'):cd (n+1) (.fn f) (jY args) H=some (v,H'):=by
 obtain ⟨y,h1,h2,h3⟩:=h
 have:=OQ hf hb hn hle e hC hB hR h1
 rw[this,h2,h3]
theorem pj {f:FuncId} {fn:Func} {n:Nat} (hf:Tryd.prog.funcs[f]?=some fn) (hb:fn.body.isSome=true) {args:List HV} (ho:∀ c H,gL c f (jY args) H=none) (hle:Nat.ble args.length fn.ntmps=true) {H:aa} {callR:bx} {bl:eV} {rg:nZ} {T:Tr (HV×aa)}
 (e:aZ Tryd.prog (cd n) 100000 f fn (KtG.kt f) callR bl rg args H=T) (hC:callR.Ok (cd n)) (hB:bl.Ok (bJ n f fn.ntmps) (aW fn)) (hR:rg.Ok (bJ n f fn.ntmps) (aW fn)) {v:AV} {H':aa} (h:T.all fun y=>y.1.1=v∧y.2=H'):cd (n+1) (.fn f) (jY args) H=some (v,H'):=by
 obtain ⟨y,h1,h2,h3⟩:=h
 have:=Mm hf hb ho hle hC hB hR (by rw[e];exact h1)
 rw[this,h2,h3]
theorem aA {n f nt:Nat} {c:Code} {callR:bx} {bl:eV} {rg:nZ} {fr:aD} {H:aa} {T:Tr ev} (e:aF (bJ n f nt) callR bl rg c (hints fr) H=T) (hC:callR.Ok (cd n)) (hB:bl.Ok (bJ n f nt) c) (hR:rg.Ok (bJ n f nt) c) {Q:Ex×aD×aa→Prop} (h:T.all fun x=>Q x.st):∃ x,exec (bJ n f nt) c fr H=some x∧Q x:=by
 obtain ⟨x,h1,h2⟩:=h;exact ⟨_,OL e hC hB hR h1,h2⟩
section
variable {n f nt:Nat} {c:Code} {callR:bx} {bl:eV} {rg:nZ}
theorem ff (id:Nat) (F:Nat→aD) (G:Nat→aa) (N:Nat) (p:Nat→Bool) (X:Nat→aD×aa) (Y:aD×aa) (hN:N<99999)
 (hs:∀ j,j<N→∃ x,exec (bJ n f nt) c (F j) (G j)=some x∧if p j=true then x=(.ret,X j) else x.1=.normal∧tidy (a6 (G 0)) x.2.1 x.2.2=(F (j+1),G (j+1)))
 (he:exec (bJ n f nt) c (F N) (G N)=some (.exit id,Y)):exec (bJ n f nt) (.block id (.loop c)) (F 0) (G 0)=some (cond (dk p N) (.ret,X (fN p N 0)) (.normal,Y)):=by
 have key:=jb (body:=exec (bJ n f nt) c) (n:=a6 (G 0)) F G N p (fun j=>if j<N then (.ret,X j) else (.exit id,Y))
  (fun j hj hp=>by
    obtain ⟨x,h1,h2⟩:=hs j hj;rw[if_neg (by rw[hp];simp)] at h2;obtain ⟨e,f1,g1⟩:=x;obtain ⟨rfl,h3⟩:=h2;exact ⟨_,_,h1,h3⟩)
  (fun j hj hp=>by
    obtain ⟨x,h1,h2⟩:=hs j hj;rw[if_pos hp] at h2;subst h2;rw[if_pos hj];exact ⟨h1,by simp⟩)
  (by
    rw[if_neg wO];exact ⟨he,by simp⟩) N 0 100000 wO wO
 cases hc:dk p N with
 | true =>
   have:=pd hc
   rw[if_pos this] at key
   exact cU (fun id' h=>by cases h) key
 | false =>
   have:=vO hc
   rw[if_neg wO] at key
   exact iD key
end
theorem jh {n f nt:Nat} {c:Code} (id:Nat) (F:Nat→aD) (G:Nat→aa) (N:Nat) (Y:aD×aa) (hN:N<99999)
 (hs:∀ j,j<N→∃ x,exec (bJ n f nt) c (F j) (G j)=some x∧(x.1=.normal∧tidy (a6 (G 0)) x.2.1 x.2.2=(F (j+1),G (j+1))))
 (he:exec (bJ n f nt) c (F N) (G N)=some (.exit id,Y)):exec (bJ n f nt) (.block id (.loop c)) (F 0) (G 0)=some (.normal,Y):=by
 have:=ff id F G N (fun _=>false) (fun _=>Y) Y hN (fun j hj=>by
  obtain ⟨x,h1,h2⟩:=hs j hj;exact ⟨x,h1,by rw[if_neg (by simp)];exact h2⟩) he
 have h0:dk (fun _=>false) N=false:=by
  cases h:dk (fun _=>false) N with
  | false=>rfl
  | true=>obtain ⟨i,_,h2⟩:=(cQ _ _).1 h;cases h2
 rw[h0] at this
 exact this
end Go.Eng
end
section
namespace Go.Eng
open Go.Proofs
/-- A level of blocks. -/
noncomputable def iI (n:Nat):AV:=.int .i64 (Int.ofNat n)
noncomputable def rM (z:Nat→Int) (n:Nat):Row:=.M [.arr .i64 z n]
noncomputable def bm (l:List (Nat×al)):bC:=⟨false,l⟩
noncomputable def ao:bC:=⟨false,[]⟩
noncomputable def aP (k:Nat) (b:Nat→Int) (full:Bool):AV:=.slcT none (.M [.arr .i64 b k]) 1 k full
noncomputable def gq (v k:Nat) (y:Nat→Int):bC:=⟨false,[(v,.row (.M [.arr .i64 y k]))]⟩
theorem bw (tab:nH) (n:Nat) (ht:tab.Ok (cd n)):(il tab n 0).Ok (cd n) :=
 ⟨nm _,fun tgt args H x h=>by
   unfold il BF at h;split at h
   · split at h
     · rename_i c hc;exact ht _ _ hc _ _ _ h
     · exact (Tr.ai h).elim
   · exact (Tr.ai h).elim⟩
theorem cK {cx:Cx} {id:Nat} {B:Code} {fr:aD} {H:aa} {e:Bool} {X Y x:ev} (h:(Tr.ite e (Tr.ok X) (Tr.ok Y)).run=some x) (hx:exec cx (.block id B) fr H=some (cond e X.st Y.st)):exec cx (.block id B) fr H=some x.st:=by
 rw[hx];rcases Tr.kD h with ⟨hc,h⟩ | ⟨hc,h⟩
 · rw[hc,← Tr.af h];rfl
 · rw[hc,← Tr.af h];rfl
theorem fD {cx:Cx} {id:Nat} {B:Code} {fr:aD} {H:aa} {X x:ev} (h:(Tr.ok X).run=some x) (hx:exec cx (.block id B) fr H=some X.st):exec cx (.block id B) fr H=some x.st:=by
 rw[hx,← Tr.af h]
theorem dO {j:Nat} (h:j<2 ^ 31):bj .i64 (j:Int) (Int.ofNat 1)=((j+1:Nat):Int):=by rw[fT,show Int.ofNat 1=1 from rfl];exact iB wO wO
theorem uP (j:Nat):aq 0 (j:Int) 1=j:=by rw[bo];omega
theorem NM {x:Int} (h0:-9223372036854775808≤x) (h1:x≤9223372036854775807):Kc .i64 x=x:=by rw[H8,iB h0 h1]
theorem N4 {x y:Int} (h0:-9223372036854775808≤x+y) (h1:x+y≤9223372036854775807):bj .i64 x y=x+y:=by rw[fT,iB h0 h1]
theorem Fc {x y:Int} (h0:-9223372036854775808≤x-y) (h1:x-y≤9223372036854775807):bL .i64 x y=x-y:=by rw[eJ,iB h0 h1]
theorem qC (L:List Int) (j:Nat):az L j=L.getD j 0:=congrFun (fa L) j
theorem lu (L:List Int) (v:Int):qb (qO (az L) 0) L.length (az [v])=az (L++[v]):=by
 rw[iz,rI,lr];funext i;by_cases h:i<L.length
 · simp[h,List.getElem?_append]
 · by_cases h2:i=L.length
   · subst h2;simp
   · have e1:[v][i-L.length]?=none:=List.getElem?_eq_none (by simp;omega);have e2:(L++[v])[i]?=none:=List.getElem?_eq_none (by simp;omega);simp only[h,if_false,List.getD_eq_getElem?_getD,e1,e2]
theorem tr (S:List Int) (j:Nat) (hj:j<S.length):az S j=S[j]:=by
 rw[qC,List.getD_eq_getElem?_getD,List.getElem?_eq_getElem hj];rfl
noncomputable def dA:List Int→AV
 | []=>.nils
 | a::r=>.slcT none (.M [.arr .i64 (az (a::r)) (r.length+1)]) 1 (r.length+1) false
theorem Kr (L:List Int) (k:Nat) (h:L.length=k+1):dA L=aP (k+1) (az L) false:=by
 cases L with
 | nil=>simp at h
 | cons a r =>
   simp only[List.length_cons] at h;have:r.length=k:=by omega
   subst this;rfl
noncomputable def gX (A:List AV) (Zb:AV):List AV→Option (Prop×AV):=fun x=>some (x=A,Zb)
noncomputable def tX (t:nH) (f:FuncId) (A:List AV) (Zb:AV):nH:=mc t f (gX A Zb)
theorem bW {c f:Nat} {t:nH} {A:List AV} {Zb:AV} (ht:t.Ok (cd c)) (h:∀ H,cd c (.fn f) A H=some (Zb,H)):(tX t f A Zb).Ok (cd c):=by
 refine my ht (fun args p v hg hp H=>?_);unfold gX at hg;simp only[nP] at hg;obtain ⟨rfl,rfl⟩:=hg;rw[hp];exact h H
noncomputable def gV (C:List AV→Prop) (R:List AV→AV):List AV→Option (Prop×AV):=fun x=>some (C x,R x)
noncomputable def tV (t:nH) (f:FuncId) (C:List AV→Prop) (R:List AV→AV):nH:=mc t f (gV C R)
theorem Qi {c f:Nat} {t:nH} {C:List AV→Prop} {R:List AV→AV} (ht:t.Ok (cd c)) (h:∀ A H,C A→cd c (.fn f) A H=some (R A,H)):(tV t f C R).Ok (cd c):=by
 refine my ht (fun args p v hg hp H=>?_);unfold gV at hg;simp only[nP] at hg;obtain ⟨rfl,rfl⟩:=hg;exact h _ H hp
noncomputable def tN (t:nH) (f:FuncId):nH:=mc t f (fun _=>none)
theorem uG {c f:Nat} {t:nH} (ht:t.Ok (cd c)):(tN t f).Ok (cd c):=my ht (fun args p v hg hp H=>by cases hg)
noncomputable def gC (P:Int→Bool) (Q:Int→List AV→aa→Prop) (args:List AV) (H:aa):Tr (AV×aa) :=
 match args with
 | .int .i64 x::C=>.reqP (Q x C H) (.ok (.bool (P x),H))
 | _=>.bad
noncomputable def Vp (f:FuncId) (P:Int→Bool) (Q:Int→List AV→aa→Prop):nH:=nJ aC f (gC P Q)
theorem F6 {k:Nat} {f:FuncId} {P:Int→Bool} {Q:Int→List AV→aa→Prop} (h:∀ x C H,Q x C H→cd k (.fn f) (.int .i64 x::C) H=some (.bool (P x),H)):(Vp f P Q).Ok (cd k):=by
 refine yc (aR _) (fun args H x hx=>?_);unfold gC at hx;split at hx
 · obtain ⟨h1,h2⟩:=Tr.gM hx;rw[h _ _ _ h1,← Tr.af h2]
 · exact (Tr.ai hx).elim
def Dc (p:Nat→Bool) (m:Nat):Int:=if dk p m=true then (fN p m 0:Int) else -1
theorem BI (p:Nat→Bool) (k:Nat):di (Int.ofNat 0) (Dc p k)=dk p k:=by
 rw[bk];unfold Dc;cases h:dk p k with
 | true =>
   rw[if_pos rfl];simp only[Int.ofNat_eq_natCast,decide_eq_true_eq];omega
 | false=>rw[if_neg (by decide)];rfl
theorem wV {p:Nat→Bool} {k:Nat} (h:∀ j,j<k→p j=false):dk p k=false:=by
 cases e:dk p k with
 | false=>rfl
 | true =>
   obtain ⟨j,hj,e2⟩:=(cQ _ _).1 e;rw[h j hj] at e2;cases e2
theorem pc {p:Nat→Bool} {k:Nat} (h:dk p k=false):∀ j,j<k→p j=false:=fun j hj=>by
 cases e:p j with
 | false=>rfl
 | true=>rw[(cQ _ _).2 ⟨j,hj,e⟩] at h;cases h
theorem Ph {n f nt:Nat} {c:Code} (id:Nat) (I:Nat→aD→aa→Prop) (Q:aD×aa→Prop) (N:Nat) (hN:N<99999) {fr0:aD} {H0:aa} (h0:I 0 fr0 H0)
 (hr:∀ j fr H,I j fr H→∃ x,exec (bJ n f nt) c fr H=some x∧((x.1=.normal∧j<N∧I (j+1) (tidy (a6 H0) x.2.1 x.2.2).1 (tidy (a6 H0) x.2.1 x.2.2).2)∨(x.1=.ret∧Q x.2))) :
 ∃ y,exec (bJ n f nt) (.block id (.loop c)) fr0 H0=some (.ret,y)∧Q y:=by
 obtain ⟨x,h1,h2⟩:=yU (body:=exec (bJ n f nt) c) (n:=a6 H0) I (fun x=>x.1=.ret∧Q x.2) N (fun j fr H h=>by
  obtain ⟨x,h1,h2⟩:=hr j fr H h;obtain ⟨e,f1,g1⟩:=x;refine ⟨e,f1,g1,h1,?_⟩;rcases h2 with h2 | ⟨h2,h3⟩
  · exact .inl h2
  · exact .inr ⟨by dsimp only at h2;rw[h2];simp,h2,h3⟩) 100000 0 fr0 H0 h0 wO
 obtain ⟨e,f1,g1⟩:=x
 obtain ⟨h2,h3⟩:=h2
 dsimp only at h2 h3
 subst h2
 exact ⟨(f1,g1),cU (fun id' h=>by cases h) h1,h3⟩
def Ic:List AV→Option (Prop×AV)
 | []=>some (True,.bool true)
 | _=>none
theorem VU (n:Nat) (H:aa):cd (n+1) (.fn 15) [] H=some (.bool true,H):=by unfold cd dv;rfl
theorem Vq {c:Nat} {t:nH} (h:0<c) (ht:t.Ok (cd c)):(mc t 15 Ic).Ok (cd c):=by
 obtain ⟨m,rfl⟩:∃ m,c=m+1:=⟨c-1,by omega⟩
 refine my ht (fun args p v hg hp H=>?_);unfold Ic at hg;split at hg
 · simp only[nP] at hg;obtain ⟨_,rfl⟩:=hg;exact VU _ H
 · cases hg
noncomputable def slA (n len:Nat) (z:Nat→Int):AV:=.slcT none (.M [.arr .i64 z (fR len n)]) n len false
noncomputable def bt (O:Int) (U:Nat) (Z:Nat→Int) (V:Nat) (J:Nat→Int):AV:=.agg (.G [.int .i64 O,slA 4 U Z,slA 2 V J])
noncomputable def shR (O:Int) (U:Nat) (Z:Nat→Int) (V:Nat) (J:Nat→Int) (W B:Nat→Int):Row:=.M [.one (.int .i64 O),.one (slA 4 U Z),.one (slA 2 V J),.arr .i64 W 20,.arr .u64 B 10]
noncomputable def shV (O:Int) (U:Nat) (Z:Nat→Int) (V:Nat) (J:Nat→Int) (W B:Nat→Int):AV:=.ptrT none (shR O U Z V J W B) 0
noncomputable def dc (O:Int) (U:Nat) (Z:Nat→Int) (V:Nat) (J:Nat→Int):al:=.row (.G [.int .i64 O,slA 4 U Z,slA 2 V J])
theorem oZ {c:Nat} {f:FuncId} {args:List AV} {H:aa} {x:AV×aa} (h:gL (cd c) f args H=some x):cd (c+1) (.fn f) args H=some x:=by
 unfold cd dv;unfold cd at h;rw[h]
theorem Vn (n:Nat) (O:Int) (U:Nat) (Z:Nat→Int) (V:Nat) (J:Nat→Int) (W B:Nat→Int) (H:aa) (hl:U≤10):cd (n+1) (.fn 73) [shV O U Z V J W B] H=some (.int .i64 (Q.cntF U W B),H) :=
 oZ (IH (O:=O) (Z:=Z) (V:=V) (J:=J) (W:=W) (B:=B) hl)
end Go.Eng
end
section
namespace Go.Eng
open Int (ofNat)
open Go.Proofs
noncomputable def uQ (lo hi:Int):bC:=⟨false,[(0,.row (.I .i64 [lo])),(0,.row (.I .i64 [hi]))]⟩
noncomputable def f84 (d:Nat):AV:=.fn (.func 84) [] [.ptr d 0 0 0,.ptr d 1 0 0]
noncomputable def Ev (k:Nat) (b:Nat→Int) (full:Bool) (j:Int):aD:=[(0,aP k b full),(1,f84 2),(7,.int .i64 (ofNat k)),(8,.int .i64 j)]
theorem YT (n:Nat) (lo hi:Int) (H:aa) (x:Int):aZ Tryd.prog (cd n) 100000 84 Tryd.f84 (KtG.kt 84) (il aC n 0) aK aJ [(.int .i64 x,none),(.ptr 2 0 0 0,none),(.ptr 2 1 0 0,none)] (ao::ao::uQ lo hi::H) =
 Tr.ite (bF x lo) (Tr.ok ((AV.bool true,some 1),ao::ao::(bm [(0,al.row (Row.I .i64 [lo])),(0,al.row (Row.I .i64 [hi]))])::H)) (Tr.ok ((AV.bool (bF hi x),none),ao::ao::(bm [(0,al.row (Row.I .i64 [lo])),(0,al.row (Row.I .i64 [hi]))])::H)):=by kernel_rfl
theorem t99 (n k:Nat) (b:Nat→Int) (full:Bool) (lo hi:Int) (P:Int→Bool) (Q:Int→List AV→aa→Prop) (H:aa) (j:Int):aF (bJ n 99 19) (il (Vp 84 P Q) n 0) aK aJ (part Tryd.f99 [1,0,1,0,0]) (hints (Ev k b full j)) (ao::ao::uQ lo hi::H) =
 (fun (Z0:bC)=>Tr.ite (bF j (ofNat k)) (Tr.req (cu j k) (Tr.req (bX (aq 0 j 1) k) (Tr.reqP (Q (b (aq 0 j 1)) [AV.ptr 2 0 0 0,AV.ptr 2 1 0 0] (ao::ao::Z0::H)) (Tr.ite (P (b (aq 0 j 1))) (Tr.ok (Ex.ret,[(4,AV.int .i64 j,none)],ao::ao::Z0::H)) (Tr.ok (Ex.normal,[(0,AV.slcT none (rM b k) 1 k full,none),(1,AV.fn (Fn.func 84) [] [AV.ptr 2 0 0 0,AV.ptr 2 1 0 0],none),(7,iI k,none),(8,AV.int .i64 (bj .i64 j (ofNat 1)),none)],ao::ao::Z0::H)))))) (Tr.ok (Ex.exit 0,[(0,AV.slcT none (rM b k) 1 k full,none),(1,AV.fn (Fn.func 84) [] [AV.ptr 2 0 0 0,AV.ptr 2 1 0 0],none),(7,iI k,none),(8,AV.int .i64 j,none),(9,AV.bool false,some 1)],ao::ao::Z0::H))) (bm [(0,al.row (Row.I .i64 [lo])),(0,al.row (Row.I .i64 [hi]))]):=by kernel_rfl
theorem Y1 (n k:Nat) (b:Nat→Int) (full:Bool) (lo hi:Int) (H:aa) (x:Bool) (r:Nat):aZ Tryd.prog (cd n) 100000 99 Tryd.f99 (KtG.kt 99) (il aC n 0) (cE aK 0 (Ev k b full 0) (ao::ao::uQ lo hi::H) (.ite x (.ok (.ret,[(4,.int .i64 (ofNat r),none)],ao::ao::uQ lo hi::H)) (.ok (.normal,hints (Ev k b full (ofNat k)++[(9,.bool false)]),ao::ao::uQ lo hi::H)))) aJ [(aP k b full,none),(f84 1,none)] (ao::uQ lo hi::H) =
 (fun (Z0:bC)=>((fun (Z1:aD)=>Tr.reqP (Z1=Z1∧ao::ao::Z0::H=ao::ao::Z0::H) (Tr.ite x (Tr.ok ((iI r,none),ao::Z0::H)) (Tr.ok ((AV.int .i64 (Int.negSucc 0),some 1),ao::Z0::H)))) [(0,AV.slcT none (rM b k) 1 k full),(1,AV.fn (Fn.func 84) [] [AV.ptr 2 0 0 0,AV.ptr 2 1 0 0]),(7,iI k),(8,iI 0)])) (bm [(0,al.row (Row.I .i64 [lo])),(0,al.row (Row.I .i64 [hi]))]):=by kernel_rfl
theorem YS (n k:Nat) (b:Nat→Int) (full:Bool) (lo hi:Int) (H:aa) (r:Int):aZ Tryd.prog (cd n) 100000 83 Tryd.f83 (KtG.kt 83) (il (kX aC 99 [aP k b full,f84 1] (ao::uQ lo hi::H) (.ok (.int .i64 r,ao::uQ lo hi::H))) n 0) aK aJ [(aP k b full,none),(f84 0,none)] (uQ lo hi::H) =
 (fun (Z0:bC)=>((fun (Z1:List AV)=>Tr.reqP (Z1=Z1∧ao::Z0::H=ao::Z0::H) (Tr.ok ((AV.bool (di (ofNat 0) r),none),Z0::H))) [AV.slcT none (rM b k) 1 k full,AV.fn (Fn.func 84) [] [AV.ptr 1 0 0 0,AV.ptr 1 1 0 0]])) (bm [(0,al.row (Row.I .i64 [lo])),(0,al.row (Row.I .i64 [hi]))]):=by kernel_rfl
theorem YA (n k:Nat) (b:Nat→Int) (full:Bool) (lo hi:Int) (H:aa) (e:Bool):aZ Tryd.prog (cd n) 100000 59 Tryd.f59 (KtG.kt 59) (il (kX aC 83 [aP k b full,f84 0] (uQ lo hi::H) (.ok (.bool e,uQ lo hi::H))) n 0) aK aJ [(.int .i64 lo,none),(.int .i64 hi,none),(aP k b full,none)] H =
 (fun (Z0:List AV)=>Tr.reqP (Z0=Z0∧(bm [(0,al.row (Row.I .i64 [lo])),(0,al.row (Row.I .i64 [hi]))])::H=(bm [(0,al.row (Row.I .i64 [lo])),(0,al.row (Row.I .i64 [hi]))])::H) (Tr.ok ((AV.bool (bf e),none),H))) [AV.slcT none (rM b k) 1 k full,AV.fn (Fn.func 84) [] [AV.ptr 0 0 0 0,AV.ptr 0 1 0 0]]:=by kernel_rfl
theorem VS:∀ b,(0,b) ∈ aI (aW Tryd.f99)→b=.loop (part Tryd.f99 [1,0,1,0,0]):=dJ (by kernel_rfl)
def kJ (lo hi x:Int):Bool:=decide (x<lo) || decide (hi<x)
section
variable (n k:Nat) (b:Nat→Int) (full:Bool) (lo hi:Int) (H:aa)
theorem We (x:Int):cd (n+1) (.fn 84) [.int .i64 x,.ptr 2 0 0 0,.ptr 2 1 0 0] (ao::ao::uQ lo hi::H)=some (.bool (kJ lo hi x),ao::ao::uQ lo hi::H):=by
 have hp:kJ lo hi x=(decide (x<lo) || decide (hi<x)):=rfl;rw[hp];refine bp (n:=n) Tryd.func84 rfl rfl rfl (YT n lo hi H x) (aw n) (ah _ _) (aj _ _) ?_;rw[bD,bD];refine Tr.ae (fun hc=>Tr.ag ⟨?_,rfl⟩) (fun hc=>Tr.ag ⟨?_,rfl⟩)
 · rw[hc];rfl
 · rw[hc];rfl
theorem Wd (hk:k≤1000):cd (n+4) (.fn 83) [aP k b full,f84 0] (uQ lo hi::H)=some (.bool (dk (fun j=>kJ lo hi (b j)) k),uQ lo hi::H):=by
 have hQ:∀ q x C H',(C=[.ptr 2 0 0 0,.ptr 2 1 0 0]∧H'=ao::ao::uQ lo hi::H)→cd (n+2+q) (.fn 84) (.int .i64 x::C) H'=some (.bool (kJ lo hi x),H'):=by
  rintro q x C H' ⟨rfl,rfl⟩;rw[show n+2+q=n+1+q+1 by omega];exact We _ lo hi H x
 have hx:=ff (n:=n+2) (f:=99) (nt:=19) (c:=part Tryd.f99 [1,0,1,0,0]) 0 (fun j=>Ev k b full (j:Int)) (fun _=>ao::ao::uQ lo hi::H) k (fun j=>kJ lo hi (b j)) (fun j=>([(4,.int .i64 (j:Nat))],ao::ao::uQ lo hi::H)) (Ev k b full (ofNat k)++[(9,.bool false)],ao::ao::uQ lo hi::H) wO (fun j hj=>?_) ?_
 · have h99:cd (n+3) (.fn 99) [aP k b full,f84 1] (ao::uQ lo hi::H)=some (.int .i64 (Dc (fun j=>kJ lo hi (b j)) k),ao::uQ lo hi::H):=by
    refine bp (n:=n+2) Tryd.func99 rfl rfl rfl (Y1 (n+2) k b full lo hi H (dk (fun j=>kJ lo hi (b j)) k) (fN (fun j=>kJ lo hi (b j)) k 0)) (aw _) (aU (ah _ _) VS (fun x h=>cK h hx)) (aj _ _) ?_;refine Tr.ak ⟨rfl,rfl⟩ (Tr.ae (fun hc=>Tr.ag ⟨?_,rfl⟩) (fun hc=>Tr.ag ⟨?_,rfl⟩))
    · unfold Dc;rw[if_pos hc];rfl
    · unfold Dc;rw[if_neg (by rw[hc];decide)];rfl
   refine bp (n:=n+3) Tryd.func83 rfl rfl rfl (YS (n+3) k b full lo hi H (Dc (fun j=>kJ lo hi (b j)) k)) (bw _ (n+3) (bN (aR _) (fun x hy=>by rw[← Tr.af hy];exact h99))) (ah _ _) (aj _ _) ?_;refine Tr.ak ⟨rfl,rfl⟩ (Tr.ag ⟨?_,rfl⟩);rw[BI]
 · refine aA (t99 (n+2) k b full lo hi (kJ lo hi) _ H (j:Int)) (gx _ (n+2) 0 (fun q=>F6 (hQ q))) (ah _ _) (aj _ _) ?_;show Tr.all _ (fun x=>if kJ lo hi (b j)=true then _ else _);rw[dO wO,uP];cases hp:kJ lo hi (b j) with
   | true =>
     simp only[if_true];refine Tr.ae (fun hc=>?_) (fun hc=>?_)
     · repeat' first | (refine Tr.ae (fun hc=>?_) (fun hc=>?_)<;>(try simp (disch:=omega) only[nV,nW] at hc)<;>(try (exfalso;omega))) | (refine Tr.ab ?_ ?_;· ((try simp (disch:=omega) only[nV,nW]);try omega)) | (refine Tr.ak ?_ ?_;· first | exact trivial | rfl | exact ⟨rfl,rfl⟩ | exact ⟨trivial,rfl⟩ | exact ⟨rfl,by assumption⟩ | exact ⟨trivial,by assumption⟩ | exact ⟨rfl,rfl,rfl⟩ | (simp (disch:=omega) only[nV,nW];done) | ((try simp (disch:=omega) only[nV,nW]);omega)) | fail
       all_goals first
        | exact ⟨rfl,rfl⟩
        | (refine Tr.ak ⟨trivial,rfl⟩ ?_
           exact wF)
        | exact Tr.ag rfl
        | fail
     · simp (disch:=omega) only[nV,nW] at hc;omega
   | false =>
     simp only[Bool.false_eq_true,if_false];refine Tr.ae (fun hc=>?_) (fun hc=>?_)
     · repeat' first | (refine Tr.ae (fun hc=>?_) (fun hc=>?_)<;>(try simp (disch:=omega) only[nV,nW] at hc)<;>(try (exfalso;omega))) | (refine Tr.ab ?_ ?_;· ((try simp (disch:=omega) only[nV,nW]);try omega)) | (refine Tr.ak ?_ ?_;· first | exact trivial | rfl | exact ⟨rfl,rfl⟩ | exact ⟨trivial,rfl⟩ | exact ⟨rfl,by assumption⟩ | exact ⟨trivial,by assumption⟩ | exact ⟨rfl,rfl,rfl⟩ | (simp (disch:=omega) only[nV,nW];done) | ((try simp (disch:=omega) only[nV,nW]);omega)) | fail
       all_goals first
        | exact ⟨rfl,rfl⟩
        | (refine Tr.ak ⟨trivial,rfl⟩ ?_
           exact wF)
        | exact Tr.ag ⟨rfl,rfl⟩
        | fail
     · simp (disch:=omega) only[nV,nW] at hc;omega
 · obtain ⟨x,h1,rfl⟩:=aA (Q:=fun x=>x=(.exit 0,Ev k b full (ofNat k)++[(9,.bool false)],ao::ao::uQ lo hi::H)) (t99 (n+2) k b full lo hi (kJ lo hi) _ H (ofNat k)) (gx _ (n+2) 0 (fun q=>F6 (hQ q))) (ah _ _) (aj _ _) (by
    refine Tr.ae (fun hc=>?_) (fun hc=>Tr.ag rfl);simp (disch:=omega) only[nV,nW] at hc;omega)
   exact h1
theorem V0 (hk:k≤1000):cd (n+5) (.fn 59) [.int .i64 lo,.int .i64 hi,aP k b full] H=some (.bool (!dk (fun j=>kJ lo hi (b j)) k),H):=by
 have h:=Wd n k b full lo hi H hk;refine pj (n:=n+4) Tryd.func59 rfl (fun _ _=>rfl) rfl (YA (n+4) k b full lo hi H (dk (fun j=>kJ lo hi (b j)) k)) (bw _ (n+4) (bN (aR _) (fun x hy=>by rw[← Tr.af hy];exact h))) (ah _ _) (aj _ _) ?_;rw[av];exact wF
end
noncomputable def QI (lo hi:Int):List Int→Bool
 | []=>true
 | x::r=>bT (bT (di lo x) (di x hi)) (QI lo hi r)
theorem Mx (lo hi:Int) (l:List Int):(!dk (fun j=>kJ lo hi (az l j)) l.length)=QI lo hi l:=by
 rw[fa];induction l with
 | nil=>rfl
 | cons x r ih =>
   have e:dk (fun j=>kJ lo hi ((fun j=>(x::r).getD j 0) j)) (r.length+1)=(kJ lo hi x || dk (fun j=>kJ lo hi ((fun j=>r.getD j 0) j)) r.length):=by
    rw[Bool.eq_iff_iff,Bool.or_eq_true,cQ,cQ];constructor
    · rintro ⟨i,h1,h2⟩;cases i with
      | zero=>exact .inl h2
      | succ i=>exact .inr ⟨i,by omega,h2⟩
    · rintro (h | ⟨i,h1,h2⟩)
      · exact ⟨0,by omega,h⟩
      · exact ⟨i+1,by omega,h2⟩
   show (!dk _ (r.length+1))=_;rw[e,Bool.not_or,ih];show _=bT (bT (di lo x) (di x hi)) (QI lo hi r);rw[ct,ct,bk,bk];congr 1;unfold kJ;by_cases h1:lo≤x
   · rw[decide_eq_true h1,decide_eq_false wO];by_cases h2:x≤hi
     · rw[decide_eq_true h2,decide_eq_false wO];rfl
     · rw[decide_eq_false h2,decide_eq_true wO];rfl
   · rw[decide_eq_false h1,decide_eq_true wO];rfl
noncomputable def gW (args:List AV) (H:aa):Tr (AV×aa) :=
 match args with
 | [.int .i64 lo,.int .i64 hi,.slc d i ver 0 1 k cap]=>match c8 H d i ver with
   | some (.I .i64 l)=>cond (Nat.beq l.length k && Nat.ble k 1000) (.ok (.bool (QI lo hi l),H)) .bad
   | _=>.bad
 | _=>.bad
theorem yE {n:Nat} {t:nH} (ht:t.Ok (cd (n+6))):(nJ t 59 gW).Ok (cd (n+6)):=by
 refine yc ht (fun args H x hx=>?_);unfold gW at hx;split at hx;case h_2=>exact (Tr.ai hx).elim
 rename_i lo hi d i ver k cap;split at hx;case h_2=>exact (Tr.ai hx).elim
 rename_i l hr;cases hc:(Nat.beq l.length k && Nat.ble k 1000) with
 | false=>rw[hc] at hx;exact (Tr.ai hx).elim
 | true =>
   rw[hc,cond_true] at hx;rw[Bool.and_eq_true] at hc;have hk:l.length=k:=Nat.eq_of_beq_eq_true hc.1;have hk2:=Nat.le_of_ble_eq_true hc.2;subst hk;rw[← Tr.af hx];refine oZ ?_;show PO (cd (n+5)) 59 [.int .i64 lo,.int .i64 hi,.slc d i ver 0 1 l.length cap] H=_;unfold PO;simp only[hr,if_true];have:=V0 n l.length (az l) false lo hi [⟨true,[]⟩] hk2;have e:aP l.length (az l) false=.slcT none (.M [.arr .i64 (az l) l.length]) 1 l.length false:=rfl;rw[e] at this;rw[this,Mx];rfl
end Go.Eng
end
section
namespace Go.Eng
open Int (ofNat)
open Go.Proofs
noncomputable def Et (l:Nat) (z:Nat→Int) (j:Int):aD:=[(0,slA 4 l z),(1,.fn (.func 58) [] []),(7,.int .i64 (ofNat l)),(8,.int .i64 j)]
theorem t85 (n:Nat) (l:Nat) (z:Nat→Int) (H:aa) (j:Int):aF (bJ (n+8) 85 19) (il (nJ aC 59 gW) (n+6) 2) aK aJ (part Tryd.f85 [1,0,1,0,0]) (hints (Et l z j)) (ao::H) =
 Tr.ite (bF j (ofNat l)) (Tr.req (cu j l) (Tr.req (bX (aq 0 j 4) (cr l 4)) (Tr.req (bX (au (aq 0 j 4) 1) (cr l 4)) (Tr.req (bX (au (aq 0 j 4) 2) (cr l 4)) (Tr.req (bX (au (aq 0 j 4) 3) (cr l 4)) (Tr.ite (bf (bT (bT (di (ofNat 0) (z (aq 0 j 4))) (di (z (aq 0 j 4)) (ofNat 1000))) (bT (bT (di (ofNat 0) (z (au (aq 0 j 4) 1))) (di (z (au (aq 0 j 4) 1)) (ofNat 1000))) (bT (bT (di (ofNat 0) (z (au (aq 0 j 4) 2))) (di (z (au (aq 0 j 4) 2)) (ofNat 1000))) (bT (bT (di (ofNat 0) (z (au (aq 0 j 4) 3))) (di (z (au (aq 0 j 4) 3)) (ofNat 1000))) true))))) (Tr.ok (Ex.ret,[(4,AV.int .i64 j,none)],ao::H)) (Tr.ite (bF (z (au (aq 0 j 4) 1)) (z (aq 0 j 4))) (Tr.ok (Ex.ret,[(4,AV.int .i64 j,none)],ao::H)) (Tr.ite (bF (z (au (aq 0 j 4) 3)) (z (au (aq 0 j 4) 2))) (Tr.ok (Ex.ret,[(4,AV.int .i64 j,none)],ao::H)) (Tr.ok (Ex.normal,[(0,slA 4 l z,none),(1,AV.fn (Fn.func 58) [] [],none),(7,iI l,none),(8,AV.int .i64 (bj .i64 j (ofNat 1)),none)],ao::H)))))))))) (Tr.ok (Ex.exit 0,[(0,slA 4 l z,none),(1,AV.fn (Fn.func 58) [] [],none),(7,iI l,none),(8,AV.int .i64 j,none),(9,AV.bool false,some 1)],ao::H)):=by kernel_rfl
theorem YU (n:Nat) (l:Nat) (z:Nat→Int) (H:aa) (i:Int) (e:Bool):aZ Tryd.prog (cd (n+8)) 100000 85 Tryd.f85 (KtG.kt 85) (il aC (n+8) 0) (cE aK 0 (Et l z 0) (ao::H) (.ite e (.ok (.ret,[(4,.int .i64 i,none)],ao::H)) (.ok (.normal,hints (Et l z (ofNat l)++[(9,.bool false)]),ao::H)))) aJ [(slA 4 l z,none),(.fn (.func 58) [] [],none)] H =
 Tr.reqP ([(0,slA 4 l z),(1,AV.fn (Fn.func 58) [] []),(7,iI l),(8,iI 0)]=[(0,slA 4 l z),(1,AV.fn (Fn.func 58) [] []),(7,iI l),(8,iI 0)]∧ao::H=ao::H) (Tr.ite e (Tr.ok ((AV.int .i64 i,none),H)) (Tr.ok ((AV.int .i64 (Int.negSucc 0),some 1),H))):=by kernel_rfl
theorem YB (n:Nat) (l:Nat) (z:Nat→Int) (H:aa) (i:Int):aZ Tryd.prog (cd (n+9)) 100000 60 Tryd.f60 (KtG.kt 60) (il (tX aC 85 [slA 4 l z,.fn (.func 58) [] []] (.int .i64 i)) (n+9) 0) aK aJ [(slA 4 l z,none),(.fn (.func 58) [] [],none)] H =
 Tr.reqP ([slA 4 l z,AV.fn (Fn.func 58) [] []]=[slA 4 l z,AV.fn (Fn.func 58) [] []]) (Tr.ok ((AV.bool (di (ofNat 0) i),none),H)):=by kernel_rfl
def jC (z:Nat→Int) (j:Nat):Bool:=!(decide (0≤z (j*4)) && (decide (z (j*4)≤z (j*4+1)) && (decide (z (j*4+1)≤1000) && (decide (0≤z (j*4+2)) && (decide (z (j*4+2)≤z (j*4+3)) && decide (z (j*4+3)≤1000))))))
theorem VN:∀ b,(0,b) ∈ aI (aW Tryd.f85)→b=.loop (part Tryd.f85 [1,0,1,0,0]):=dJ (by kernel_rfl)
section
variable (n:Nat) (l:Nat) (z:Nat→Int) (H:aa)
theorem Vs (n k:Nat):(il (nJ aC 59 gW) (n+6) k).Ok (cd (n+6+k)):=gx _ _ _ (fun q=>by rw[show n+6+q=n+q+6 by omega];exact yE (aR _))
theorem Wf (hl:l≤1000):cd (n+9) (.fn 85) [slA 4 l z,.fn (.func 58) [] []] H=some (.int .i64 (Dc (jC z) l),H):=by
 have lp:=ff (n:=n+8) (f:=85) (nt:=19) (c:=part Tryd.f85 [1,0,1,0,0]) 0 (fun j=>Et l z (j:Int)) (fun _=>ao::H) l (jC z) (fun j=>([(4,.int .i64 (j:Int))],ao::H)) (Et l z (ofNat l)++[(9,.bool false)],ao::H) wO (fun j hj=>?_) ?_
 · refine bp (n:=n+8) Tryd.func85 rfl rfl rfl (YU n l z H ((fN (jC z) l 0:Nat):Int) (dk (jC z) l)) (dT (n+8) 0) (aU (ah _ _) VN (fun x hx=>cK hx lp)) (aj _ _) ?_;repeat' first | (refine Tr.ae (fun hc=>?_) (fun hc=>?_)<;>(try simp (disch:=omega) only[nV,nW] at hc)<;>(try (exfalso;omega))) | (refine Tr.ab ?_ ?_;· ((try simp (disch:=omega) only[nV,nW]);try omega)) | (refine Tr.ak ?_ ?_;· first | exact trivial | rfl | exact ⟨rfl,rfl⟩ | exact ⟨trivial,rfl⟩ | exact ⟨rfl,by assumption⟩ | exact ⟨trivial,by assumption⟩ | exact ⟨rfl,rfl,rfl⟩ | (simp (disch:=omega) only[nV,nW];done) | ((try simp (disch:=omega) only[nV,nW]);omega)) | fail
   all_goals refine Tr.ag ⟨?_,rfl⟩
   · unfold Dc;rw[if_pos hc]
   · unfold Dc;rw[if_neg (by rw[hc];decide)];rfl
 · have ej:bj .i64 (j:Int) (ofNat 1)=((j+1:Nat):Int):=dO wO;have ei:aq 0 (j:Int) 4=j*4:=by rw[bo];omega
   have hs:jC z j=!(decide (0≤z (j*4)) && (decide (z (j*4)≤z (j*4+1)) && (decide (z (j*4+1)≤1000) && (decide (0≤z (j*4+2)) && (decide (z (j*4+2)≤z (j*4+3)) && decide (z (j*4+3)≤1000)))))):=rfl;refine aA (t85 n l z H (j:Int)) (Vs n 2) (ah _ _) (aj _ _) ?_;refine Tr.ae (fun h0=>?_) wJ;refine Tr.ab wG (Tr.ab (by rw[ei];simp (disch:=omega) only[nV,nW];omega) (Tr.ab (by rw[ei];simp (disch:=omega) only[nV,nW];omega) (Tr.ab (by rw[ei];simp (disch:=omega) only[nV,nW];omega) (Tr.ab (by rw[ei];simp (disch:=omega) only[nV,nW];omega) ?_))));rw[ei,aH,aH,aH,ej];refine Tr.ae (fun h1=>?_) (fun h1=>?_)
   · refine Tr.ag ?_;rw[if_pos (by rw[hs];simp[av,ct,bk] at h1 ⊢;omega)];rfl
   · simp only[av,ct,bk] at h1;simp at h1;refine Tr.ae (fun h2=>?_) (fun h2=>?_)
     · rw[bD,decide_eq_true_eq] at h2;refine Tr.ag ?_;rw[if_pos (by rw[hs];simp;omega)];rfl
     · rw[bD,decide_eq_false_iff_not] at h2;refine Tr.ae (fun h3=>?_) (fun h3=>?_)
       · rw[bD,decide_eq_true_eq] at h3;refine Tr.ag ?_;rw[if_pos (by rw[hs];simp;omega)];rfl
       · rw[bD,decide_eq_false_iff_not] at h3;refine Tr.ag ?_;rw[if_neg (by rw[hs];simp;omega)];exact ⟨rfl,rfl⟩
 · obtain ⟨x,h1,rfl⟩:=aA (Q:=fun x=>x=(.exit 0,Et l z (ofNat l)++[(9,.bool false)],ao::H)) (t85 n l z H (ofNat l)) (Vs n 2) (ah _ _) (aj _ _) (by
    refine Tr.ae wJ (fun h0=>Tr.ag rfl))
   exact h1
theorem V1 (hl:l≤1000):cd (n+10) (.fn 60) [slA 4 l z,.fn (.func 58) [] []] H=some (.bool (dk (jC z) l),H):=by
 have h:=fun H=>Wf n l z H hl;refine bp (n:=n+9) Tryd.func60 rfl rfl rfl (YB n l z H (Dc (jC z) l)) (bw _ (n+9) (bW (aR _) h)) (ah _ _) (aj _ _) ?_;refine Tr.ak rfl (Tr.ag ⟨?_,rfl⟩);rw[BI]
end
end Go.Eng
end
