/- Gall: closed calls: what they lean on; counts of shelves that are known. -/
import Derived.Test.YtgphpjdchnfjlaaDoorV6Gq5x5
import Derived.Test.YtgphpjdchnfjlaaDoorV6Gp2x6
import Derived.Test.YtgphpjdchnfjlaaDoorV6EngTgx11
import Derived.Test.YtgphpjdchnfjlaaDoorV6EngTkx3
import Derived.Test.YtgphpjdchnfjlaaDoorV6EngRnFx7
import Derived.Test.YtgphpjdchnfjlaaDoorV6EngRoSx4
set_option linter.unusedVariables false
set_option linter.unusedSimpArgs false
set_option maxRecDepth 100000
section
namespace Go.Eng.Gall
open Go.Proofs Go.Eng.Q
theorem named:dK Tryd.prog:=by
 have h:(Tryd.prog.funcs.toList.all fun fn=>fn.body.isNone || !(fn.name == "runtime.NumGoroutine"))=true:=by kernel_rfl
 intro f fn hf hb;have:=List.all_eq_true.1 h fn (by simpa using Array.mem_of_getElem? hf);rw[hb] at this;simpa using this
theorem mixed:Tryd.prog.follows .mixedOrders=true:=by kernel_rfl
theorem J0:∀ e ∈ ([]:List cH),aG Tryd.prog e:=fun e h=>by cases h
theorem a7 {e:cH} {t:List cH} (h:aG Tryd.prog e) (k:∀ x ∈ t,aG Tryd.prog x):∀ x ∈ e::t,aG Tryd.prog x:=fun x hx=>by
 rcases List.mem_cons.1 hx with rfl | hx
 · exact h
 · exact k x hx
def VO:List AV→Bool
 | .ptr _ _ _ _::_=>true
 | _=>false
noncomputable def vE (c:aN) (f:FuncId) (args:List AV) (H:aa):Option (AV×aa) :=
 cond (Nat.beq f 82) (Gs args H) (cond (Nat.beq f 62) (RI (oM Tryd.prog KtG.kt 100000 62 c args H)) (cond ((Nat.beq f 63 || Nat.beq f 65) && VO args) (QG c f args H) (cond (Nat.beq f 47) (oM Tryd.prog KtG.kt 100000 47 (CC Tryd.prog KtG.kt 100000 46 c) args H) (cond (Nat.beq f 94 || Nat.beq f 100) (nS Tryd.prog KtG.kt 100000 f c args H) none))))
theorem DN (hN:dK Tryd.prog) (hD:gx Tryd.prog):ss Tryd.prog vE:=fun call hC f args H v H' h hne p M w cargs hH hA=>by
 unfold vE at h;cases h82:Nat.beq f 82 with
 | true =>
   rw[h82,cond_true] at h;have:=Nat.eq_of_beq_eq_true h82;subst this;exact Jj h hH hA
 | false =>
 rw[h82,cond_false] at h;cases h62:Nat.beq f 62 with
 | true =>
   rw[h62,cond_true] at h;have:=Nat.eq_of_beq_eq_true h62;subst this;unfold RI at h;split at h;case h_2=>simp at h
   rename_i v1 H1 he;simp only[nP] at h;obtain ⟨rfl,rfl⟩:=h;obtain ⟨h1,h2⟩:=pQ hN hD KtG.kt 100000 hC he hH hA;exact ⟨h1,h2.mono (fun _ _ h=>ff.OY h)⟩
 | false =>
 rw[h62,cond_false] at h;cases hr:((Nat.beq f 63 || Nat.beq f 65) && VO args) with
 | true =>
   rw[hr,cond_true] at h;exact N7 hC h hH hA
 | false =>
 rw[hr,cond_false] at h;cases h47:Nat.beq f 47 with
 | true =>
   rw[h47,cond_true] at h;have:=Nat.eq_of_beq_eq_true h47;subst this;exact pQ hN hD KtG.kt 100000 (FD hN hD KtG.kt 100000 46 hC) h hH hA
 | false =>
 rw[h47,cond_false] at h;cases h94:(Nat.beq f 94 || Nat.beq f 100) with
 | true =>
   rw[h94,cond_true] at h;exact Hl hN hD KtG.kt 100000 hC h hH hA
 | false=>rw[h94,cond_false] at h;cases h
noncomputable def NW (tab:List cH):aN→FuncId→List AV→aa→Option (AV×aa):=fun c f args H=>match Ce tab c f args H with
 | some x=>some x
 | none=>vE c f args H
theorem J9 (hN:dK Tryd.prog) (hD:gx Tryd.prog) {tab:List cH} (hT:∀ e ∈ tab,aG Tryd.prog e):ss Tryd.prog (NW tab):=fun call hC f args H v H' h hne p M w cargs hH hA=>by
 unfold NW at h;split at h
 · rename_i x hx;simp only[Option.some.injEq] at h;subst h;exact xI tab hT call hC f args H v H' hx hne p M w cargs hH hA
 · exact DN hN hD call hC f args H v H' h hne p M w cargs hH hA
theorem a8 {tab:List cH} (hT:∀ e ∈ tab,aG Tryd.prog e) {e:cH} {H':aa}
 (h:Ge Tryd.prog (NW tab) KtG.kt 100000 40 (.fn e.f) e.args [⟨true,[]⟩]=some (e.v,H')) (hn:e.args.all (tW 9)=true):aG Tryd.prog e:=by
 rw[Ew] at h
 exact zH (nf named (qi named mixed) (J9 named (qi named mixed) hT) KtG.kt 100000 40) h hn
theorem Gf (n:Nat):cq Tryd.prog (cd n):=nf named (qi named mixed) xH KtG.kt 100000 n
theorem Gk (O:Int) (U:Nat) (Z:Nat→Int) (V:Nat) (J:Nat→Int) (W B:Nat→Int) (hl:U≤10) {p:aL} {M:Mu} {H:aa} {w:World} {cargs:Array Value} (hH:bn p M H w) (hA:eW p M [shV O U Z V J W B] cargs) :
 (∃ fn,Tryd.prog.funcs[73]?=some fn∧fn.body.isNone=false)∧CallsIn Fence.wide 0 Tryd.prog 73 cargs w (ff p M H w (.int .i64 (cntF U W B)) H) :=
 Fj named (qi named mixed) Pu KtG.kt 100000 (Gf 3) (R3 2 O U Z V J W B hl H) hH hA
noncomputable def VV (O:Int) (U:Nat) (zl:List Int) (V:Nat) (bl:List Int) (f1 f2:Bool) (Wl Bl:List Int):AV:=.ptrT none (.G (.int .i64 O::.slcT none (.I .i64 zl) 4 U f1::.slcT none (.I .i64 bl) 2 V f2::(Wl.map (.int .i64)++Bl.map (.int .u64)))) 0
theorem Ae {p:aL} {M:Mu} {zl:List Int} {sz U:Nat} {f:Bool} {c:Value} (hl:zl.length=bR U sz) (h:an p M (.slcT none (.I .i64 zl) sz U f) c):an p M (.slcT none (.M [.arr .i64 (aC zl) (bR U sz)]) sz U false) c:=by
 cases h with
 | slcT vs hp h1 hv h2 h3 h4 =>
   have hlen:(Row.M [.arr .i64 (aC zl) (bR U sz)]).len=(Row.I .i64 zl).len:=by
    show bR U sz+0=zl.length;omega
   refine .slcT vs (fun j hj=>hp j (by rw[← hlen];exact hj)) (fun j hj=>h1 j (by rw[← hlen];exact hj)) (fun j hj=>?_) h2 (fun e=>by cases e) h4;have hj':j<zl.length:=by rw[hlen] at hj;exact hj
   have:=hv j (by rw[← hlen];exact hj);have e:getM [.arr .i64 (aC zl) (bR U sz)] j=.int .i64 (zl.getD j 0):=by
    show (if j<bR U sz then AV.int .i64 (aC zl j) else _)=_;rw[if_pos (by omega),fz]
   show an p _ (getM [.arr .i64 (aC zl) (bR U sz)] j) (vs j);rw[e];exact this.bx _ _
 | slcN=>exact .slcN
theorem Kz {p:aL} {M:Mu} {O:Int} {U:Nat} {zl:List Int} {V:Nat} {bl:List Int} {f1 f2:Bool} {Wl Bl:List Int} {c:Value} (hz:zl.length=bR U 4) (hb:bl.length=bR V 2) (hW:Wl.length=20) (hB:Bl.length=10) (h:an p M (VV O U zl V bl f1 f2 Wl Bl) c):an p M (shV O U (aC zl) V (aC bl) (aC Wl) (aC Bl)) c:=by
 cases h with
 | ptrT vs hp h1 hv =>
   have hlen:(shR O U (aC zl) V (aC bl) (aC Wl) (aC Bl)).len=33:=rfl;have hlen':(Row.G (.int .i64 O::.slcT none (.I .i64 zl) 4 U f1::.slcT none (.I .i64 bl) 2 V f2::(Wl.map (.int .i64)++Bl.map (.int .u64)))).len=33:=by simp[Row.len,hW,hB]
   refine .ptrT vs (fun j hj=>hp j (by rw[hlen'] ; rw[hlen] at hj;exact hj)) (fun j hj=>h1 j (by rw[hlen'] ; rw[hlen] at hj;exact hj)) (fun j hj=>?_);rw[hlen] at hj;have:=hv j (by rw[hlen'];exact hj);match j,hj,this with
   | 0,_,this=>exact this
   | 1,_,this=>exact Ae hz this
   | 2,_,this=>exact Ae hb this
   | j + 3,hj,this =>
     have this:an p _ ((Wl.map (AV.int .i64)++Bl.map (AV.int .u64)).getD j .undef) (vs (j+3)):=this;show an p _ (getM [.arr .i64 (aC Wl) 20,.arr .u64 (aC Bl) 10] j) (vs (j+3));by_cases hj20:j<20
     · have e:getM [.arr .i64 (aC Wl) 20,.arr .u64 (aC Bl) 10] j=.int .i64 (Wl.getD j 0):=by
        show (if j<20 then AV.int .i64 (aC Wl j) else _)=_;rw[if_pos hj20,fz]
       have e2:(Wl.map (AV.int .i64)++Bl.map (AV.int .u64)).getD j .undef=.int .i64 (Wl.getD j 0):=by
        rw[List.getD_eq_getElem?_getD,List.getElem?_append_left (by simp;omega),List.getElem?_map,List.getD_eq_getElem?_getD,List.getElem?_eq_getElem (by omega)];rfl
       rw[e];rw[e2] at this;exact this.bx _ _
     · have e:getM [.arr .i64 (aC Wl) 20,.arr .u64 (aC Bl) 10] j=.int .u64 (Bl.getD (j-20) 0):=by
        show (if j<20 then AV.int .i64 (aC Wl j) else (if j-20<10 then AV.int .u64 (aC Bl (j-20)) else _))=_;rw[if_neg hj20,if_pos (by omega),fz]
       have e2:(Wl.map (AV.int .i64)++Bl.map (AV.int .u64)).getD j .undef=.int .u64 (Bl.getD (j-20) 0):=by
        rw[List.getD_eq_getElem?_getD,List.getElem?_append_right (by simp;omega),List.getElem?_map,List.length_map,hW,List.getD_eq_getElem?_getD,List.getElem?_eq_getElem (by omega)];rfl
       rw[e];rw[e2] at this;exact this.bx _ _
def T4 (Wl Bl:List Int) (k X c:Nat):Bool:=(BitVec.ofInt 64 (Bl.getD c 0) &&& ~~~(BitVec.ofNat 64 X)).toNat == 0 && (decide (Wl.getD (2*c) 0≤(k:Int)) && decide ((k:Int)≤Wl.getD (2*c+1) 0))
theorem Hp (Wl Bl:List Int):okW (aC Wl) (aC Bl)=T4 Wl Bl:=by
 funext k X c;unfold okW T4;rw[fz,fz,sw,bu,bu,bg];congr 1;show (IntKind.u64.wrap (((BitVec.ofInt 64 (Bl.getD c 0) &&& ~~~(BitVec.ofInt 64 (X:Int))).toNat:Nat):Int) == 0)=_;rw[MQ,j7 (BitVec.isLt _)];generalize (BitVec.ofInt 64 (Bl.getD c 0) &&& ~~~(BitVec.ofNat 64 X)).toNat=t;rw[Bool.eq_iff_iff,beq_iff_eq,beq_iff_eq];omega
def R8 (U:Nat) (Wl Bl:List Int):Nat:=(ro U (T4 Wl Bl) U).length
theorem Hq {O:Int} {U:Nat} {zl:List Int} {V:Nat} {bl:List Int} {f1 f2:Bool} {Wl Bl:List Int} {A:AV} {v:Nat} (hA:A=VV O U zl V bl f1 f2 Wl Bl) (hl:U≤10) (hz:zl.length=U*4) (hb:bl.length=V*2) (hW:Wl.length=20) (hB:Bl.length=10) (hv:R8 U Wl Bl=v):aG Tryd.prog ⟨73,[A],.int .i64 (v:Int)⟩:=by
 intro H hne p M w cargs hH hC;have e:cntF U (aC Wl) (aC Bl)=(v:Int):=by unfold cntF;rw[Hp];exact congrArg Int.ofNat hv
 rw[← e];refine Gk O U (aC zl) V (aC bl) (aC Wl) (aC Bl) hl hH ⟨hC.1,fun j hj=>?_⟩;have hC2:=hC.2 j hj;subst hA;have:j=0:=by simp at hj;omega
 subst this;exact Kz (by rw[nq];exact hz) (by rw[nq];exact hb) hW hB hC2
end Go.Eng.Gall
end
section
namespace Go.Eng
open Go.Proofs Go.ChangeShapes
open Go.Eng.Q (shV shR slA cntF okW)
noncomputable def Je (args:List AV) (H:aa):Option (AV×aa) :=
 match args with
 | [.ptrT none (.M [.one (.int .i64 O),.one (.slcT none (.M [.arr .i64 Z n1]) 4 U false),.one (.slcT none (.M [.arr .i64 J n2]) 2 V false),.arr .i64 W 20,.arr .u64 B 10]) 0]=>if U≤10∧n1=fT U 4∧n2=fT V 2 then some (.int .i64 (cntF U W B),H) else none
 | _=>none
theorem Jf {O:Int} {U:Nat} {Z:Nat→Int} {V:Nat} {J:Nat→Int} {W B:Nat→Int} {H:aa} (hl:U≤10):Je [shV O U Z V J W B] H=some (.int .i64 (cntF U W B),H):=by
 show (if U≤10∧fT U 4=fT U 4∧fT V 2=fT V 2 then some (AV.int .i64 (cntF U W B),H) else none)=_;rw[if_pos ⟨hl,rfl,rfl⟩]
theorem Jg {args:List AV} {H:aa} {v:AV} {H':aa} (h:Je args H=some (v,H')) {p:aL} {M:Mu} {w:World} {cargs:Array Value} (hH:bn p M H w) (hA:eW p M args cargs):(∃ fn,Tryd.prog.funcs[73]?=some fn∧fn.body.isNone=false)∧CallsIn Fence.wide 0 Tryd.prog 73 cargs w (ff p M H w v H'):=by
 unfold Je at h;split at h;case h_2=>simp at h
 rename_i O Z n1 U J n2 V W B;split at h;case isFalse=>simp at h
 rename_i hc;obtain ⟨hl,rfl,rfl⟩:=hc;simp only[nP] at h;obtain ⟨rfl,rfl⟩:=h;exact Gall.Gk O U Z V J W B hl hH hA
def Ld:List AV→Bool
 | [_,_,.slc _ _ _ _ _ _ _]=>true
 | _=>false
def Fb:AV→AV
 | .tup l=>.tup (l.map jY)
 | v=>jY v
theorem Hj {p:aL} {M:Mu} {v:AV} {c:Value} (h:an p M v c):an p M (Fb v) c:=by
 unfold Fb;split
 · rename_i l;cases h with
   | tup hs hv =>
     refine .tup (by simpa using hs) (fun j hj=>?_);have hj':j<l.length:=by simpa using hj
     have:=kQ (hv j hj');simpa[List.getD_eq_getElem?_getD,hj'] using this
 · exact kQ h
def NQ (c:Option (AV×aa)):Option (AV×aa) :=
 match c with
 | some (v,H)=>some (Fb v,H)
 | none=>none
theorem ff.Ye {p:aL} {M:Mu} {H H':aa} {w:World} {v:AV} {e:Ending} {w':World} (h:ff p M H w v H' e w'):ff p M H w (Fb v) H' e w':=by
 obtain ⟨cv,h1,st,p',M',hE,hv⟩:=h;exact ⟨cv,h1,st,p',M',hE,Hj hv⟩
noncomputable def iy:aN→FuncId→List AV→aa→Option (AV×aa):=fun call f args H=>cond (Nat.beq f 30 || Nat.beq f 38) (NQ (oM Tryd.prog KtG.kt 100000 f call args H)) <| cond (Nat.beq f 59 && Ld args) (QH call f args H) (cond (Nat.beq f 73) (Je args H) (cond (Nat.beq f 95) (HS gw args H) (match Gall.vE call f args H with
 | some x=>some x
 | none=>uj [⟨15,[],.bool true⟩] call f args H)))
def IB (f:FuncId):Bool:=(Nat.beq f 30 || Nat.beq f 38) || Nat.beq f 15 || Nat.beq f 1000000 || Nat.beq f 59 || Nat.beq f 73 || Nat.beq f 95 || Nat.beq f 82 || Nat.beq f 62 || Nat.beq f 63 || Nat.beq f 65 || Nat.beq f 47 || Nat.beq f 94 || Nat.beq f 100
noncomputable def cd (n:Nat):aN:=dk Tryd.prog iy KtG.kt 100000 n
noncomputable def il (tab:nK) (n k:Nat):bw:=BS Tryd.prog iy KtG.kt 100000 IB tab n k
noncomputable def bN (n:Nat) (f nt:Nat):Cx:=⟨Tryd.prog,cd n,100000,f,nt,KtG.kt f,none⟩
theorem Lo {g:FuncId} (h:Nat.beq g 15=false) (h1:Nat.beq g 1000000=false) (c:aN) (args:List AV) (H:aa):uj [⟨15,[],.bool true⟩] c g args H=none:=by
 unfold uj;rw[h1,cond_false];simp only[Ce];have:Nat.beq 15 g=false:=by
  cases hb:Nat.beq 15 g with
  | false=>rfl
  | true=>have:=Nat.eq_of_beq_eq_true hb;subst this;simp at h
 rw[this];rfl
theorem xD (g:FuncId) (h:IB g=false) (c:aN) (args:List AV) (H:aa):iy c g args H=none:=by
 unfold IB at h;simp only[Bool.or_eq_false_iff] at h;obtain ⟨⟨⟨⟨⟨⟨⟨⟨⟨⟨⟨⟨⟨h30,h38⟩,h15⟩,h0⟩,h59⟩,h73⟩,h95⟩,h82⟩,h62⟩,h63⟩,h65⟩,h47⟩,h94⟩,h100⟩:=h;have e:Gall.vE c g args H=none:=by
  unfold Gall.vE;rw[h82,h62,h63,h65,h47,h94,h100];rfl
 unfold iy;rw[h30,h38,h59,h73,h95,e];exact Lo h15 h0 c args H
theorem nr (n:Nat):∃ x,dk Tryd.prog iy KtG.kt 100000 n .mode [] []=some x:=by
 cases n<;>exact ⟨_,rfl⟩
theorem xH (hN:dK Tryd.prog) (hD:gx Tryd.prog) (hW:aG Tryd.prog ⟨15,[],.bool true⟩):ss Tryd.prog iy :=
 fun call hC f args H v H' h hne p M w cargs hH hA=>by
  unfold iy at h;cases h30:(Nat.beq f 30 || Nat.beq f 38) with
  | true =>
    rw[h30,cond_true] at h;unfold NQ at h;split at h;case h_2=>simp at h
    rename_i v1 H1 he;simp only[nP] at h;obtain ⟨rfl,rfl⟩:=h;obtain ⟨h1,h2⟩:=pQ hN hD KtG.kt 100000 hC he hH hA;exact ⟨h1,h2.mono (fun _ _ h=>ff.Ye h)⟩
  | false =>
  rw[h30,cond_false] at h;cases h59:(Nat.beq f 59 && Ld args) with
  | true =>
    rw[h59,cond_true] at h;exact N8 hC h hH hA
  | false =>
  rw[h59,cond_false] at h;cases h73:Nat.beq f 73 with
  | true =>
    rw[h73,cond_true] at h;have:=Nat.eq_of_beq_eq_true h73;subst this;exact Jg h hH hA
  | false =>
  rw[h73,cond_false] at h;cases h95:Nat.beq f 95 with
  | true =>
    rw[h95,cond_true] at h;have:=Nat.eq_of_beq_eq_true h95;subst this;exact Ko Oi h hne hH hA
  | false =>
  rw[h95,cond_false] at h;split at h
  · rename_i x hx;simp only[Option.some.injEq] at h;subst h;exact Gall.DN hN hD call hC f args H v H' hx hne p M w cargs hH hA
  · exact DO _ (fun e he=>by
     simp only[List.mem_singleton] at he;subst he;exact hW) call hC f args H v H' h hne p M w cargs hH hA
theorem ir (tab:nK) (n k:Nat) (ht:∀ k,tab.Ok (cd (n+k))):(il tab n k).Ok (cd (n+k)):=xw _ _ _ _ _ _ _ xD (fun k=>nr _) ht k
theorem cD (n k:Nat):(il aK n k).Ok (cd (n+k)):=ir _ _ _ (fun k=>bp _)
theorem aA (n:Nat):(il aK n 0).Ok (cd n):=cD n 0
theorem PL {f:FuncId} {fn:Func} {n:Nat} (hf:Tryd.prog.funcs[f]?=some fn) (hb:fn.body.isSome=true) (hn:IB f=false) {args:List HV} (hle:Nat.ble args.length fn.ntmps=true) {H:aa} {callR:bw} (hC:callR.Ok (cd n)) {bl:eV} (hB:bl.Ok (bN n f fn.ntmps) (aZ fn)) {rg:nZ} (hR:rg.Ok (bN n f fn.ntmps) (aZ fn)) {y:HV×aa}
 (h:(bo Tryd.prog (cd n) 100000 f fn (KtG.kt f) callR bl rg args H).run=some y):cd (n+1) (.fn f) (kd args) H=some (y.1.1,y.2) :=
 oY hf hb (xD f hn _ _ _) hle hC hB hR h
theorem Nj {f:FuncId} {fn:Func} {n:Nat} (hf:Tryd.prog.funcs[f]?=some fn) (hb:fn.body.isSome=true) {args:List HV} (ho:∀ c H,iy c f (kd args) H=none) (hle:Nat.ble args.length fn.ntmps=true) {H:aa} {callR:bw} (hC:callR.Ok (cd n)) {bl:eV} (hB:bl.Ok (bN n f fn.ntmps) (aZ fn)) {rg:nZ} (hR:rg.Ok (bN n f fn.ntmps) (aZ fn)) {y:HV×aa}
 (h:(bo Tryd.prog (cd n) 100000 f fn (KtG.kt f) callR bl rg args H).run=some y):cd (n+1) (.fn f) (kd args) H=some (y.1.1,y.2) :=
 oY hf hb (ho _ _) hle hC hB hR h
theorem PK {f:FuncId} {fn:Func} {n:Nat} (hf:Tryd.prog.funcs[f]?=some fn) (hb:fn.body.isSome=true) (hn:IB f=false) {args:List HV} (hle:Nat.ble args.length fn.ntmps=true) {H:aa} {callR:bw} {bl:eV} {rg:nZ} {T:Tr (HV×aa)}
 (e:bo Tryd.prog (cd n) 100000 f fn (KtG.kt f) callR bl rg args H=T) (hC:callR.Ok (cd n)) (hB:bl.Ok (bN n f fn.ntmps) (aZ fn)) (hR:rg.Ok (bN n f fn.ntmps) (aZ fn)) {y:HV×aa} (hr:T.run=some y):cd (n+1) (.fn f) (kd args) H=some (y.1.1,y.2) :=
 PL hf hb hn hle hC hB hR (by rw[e];exact hr)
theorem PG {n f nt:Nat} {c:Code} {callR:bw} (hC:callR.Ok (cd n)) {bl:eV} (hB:bl.Ok (bN n f nt) c) {rg:nZ} (hR:rg.Ok (bN n f nt) c) {fr:aD} {H:aa} {x:db} (h:(aJ (bN n f nt) callR bl rg c (hints fr) H).run=some x):exec (bN n f nt) c fr H=some x.st:=by
 have:=ga hC c hB hR _ _ _ h;rw[aq] at this;exact this

def gq (bl:eV) (id0:Nat):eV:=fun id fr H=>cond (Nat.beq id id0) (some .bad) (bl id fr H)
theorem c8 {bl:eV} {cx:Cx} {c:Code} (h:bl.Ok cx c) (id0:Nat):(gq bl id0).Ok cx c:=by
 intro id b hm fr H t y ht hy;unfold gq at ht;cases hb:Nat.beq id id0 with
 | true =>
   rw[hb,cond_true,Option.some.injEq] at ht;subst ht;exact (Tr.ah hy).elim
 | false =>
   rw[hb,cond_false] at ht;exact h id b hm fr H t y ht hy
theorem PF {n f nt:Nat} {c:Code} {callR:bw} {bl:eV} {rg:nZ} {fr:aD} {H:aa} {T:Tr db} (e:aJ (bN n f nt) callR bl rg c (hints fr) H=T) (hC:callR.Ok (cd n)) (hB:bl.Ok (bN n f nt) c) (hR:rg.Ok (bN n f nt) c) {x:db} (hr:T.run=some x):exec (bN n f nt) c fr H=some x.st :=
 PG hC hB hR (by rw[e];exact hr)
section
variable {n f nt:Nat} {c:Code} {callR:bw} {bl:eV} {rg:nZ}
end
end Go.Eng
end
section
namespace Go.Eng
open Go.Proofs
theorem bF {f:FuncId} {fn:Func} {n:Nat} (hf:Tryd.prog.funcs[f]?=some fn) (hb:fn.body.isSome=true) (hn:IB f=false) {args:List HV} (hle:Nat.ble args.length fn.ntmps=true) {H:aa} {callR:bw} {bl:eV} {rg:nZ} {T:Tr (HV×aa)}
 (e:bo Tryd.prog (cd n) 100000 f fn (KtG.kt f) callR bl rg args H=T) (hC:callR.Ok (cd n)) (hB:bl.Ok (bN n f fn.ntmps) (aZ fn)) (hR:rg.Ok (bN n f fn.ntmps) (aZ fn)) {v:AV} {H':aa} (h:T.all fun y=>y.1.1=v∧y.2=H'):cd (n+1) (.fn f) (kd args) H=some (v,H'):=by
 obtain ⟨y,h1,h2,h3⟩:=h
 have:=PK hf hb hn hle e hC hB hR h1
 rw[this,h2,h3]
theorem ph {f:FuncId} {fn:Func} {n:Nat} (hf:Tryd.prog.funcs[f]?=some fn) (hb:fn.body.isSome=true) {args:List HV} (ho:∀ c H,iy c f (kd args) H=none) (hle:Nat.ble args.length fn.ntmps=true) {H:aa} {callR:bw} {bl:eV} {rg:nZ} {T:Tr (HV×aa)}
 (e:bo Tryd.prog (cd n) 100000 f fn (KtG.kt f) callR bl rg args H=T) (hC:callR.Ok (cd n)) (hB:bl.Ok (bN n f fn.ntmps) (aZ fn)) (hR:rg.Ok (bN n f fn.ntmps) (aZ fn)) {v:AV} {H':aa} (h:T.all fun y=>y.1.1=v∧y.2=H'):cd (n+1) (.fn f) (kd args) H=some (v,H'):=by
 obtain ⟨y,h1,h2,h3⟩:=h
 have:=Nj hf hb ho hle hC hB hR (by rw[e];exact h1)
 rw[this,h2,h3]
theorem aw {n f nt:Nat} {c:Code} {callR:bw} {bl:eV} {rg:nZ} {fr:aD} {H:aa} {T:Tr db} (e:aJ (bN n f nt) callR bl rg c (hints fr) H=T) (hC:callR.Ok (cd n)) (hB:bl.Ok (bN n f nt) c) (hR:rg.Ok (bN n f nt) c) {Q:Ex×aD×aa→Prop} (h:T.all fun x=>Q x.st):∃ x,exec (bN n f nt) c fr H=some x∧Q x:=by
 obtain ⟨x,h1,h2⟩:=h;exact ⟨_,PF e hC hB hR h1,h2⟩
section
variable {n f nt:Nat} {c:Code} {callR:bw} {bl:eV} {rg:nZ}
theorem jS (id:Nat) (F:Nat→aD) (G:Nat→aa) (N:Nat) (p:Nat→Bool) (X:Nat→aD×aa) (Y:aD×aa) (hN:N<99999)
 (hs:∀ j,j<N→∃ x,exec (bN n f nt) c (F j) (G j)=some x∧if p j=true then x=(.ret,X j) else x.1=.normal∧tidy (aY (G 0)) x.2.1 x.2.2=(F (j+1),G (j+1)))
 (he:exec (bN n f nt) c (F N) (G N)=some (.exit id,Y)):exec (bN n f nt) (.block id (.loop c)) (F 0) (G 0)=some (cond (dH p N) (.ret,X (fN p N 0)) (.normal,Y)):=by
 have key:=jg (body:=exec (bN n f nt) c) (n:=aY (G 0)) F G N p (fun j=>if j<N then (.ret,X j) else (.exit id,Y))
  (fun j hj hp=>by
    obtain ⟨x,h1,h2⟩:=hs j hj;rw[if_neg (by rw[hp];simp)] at h2;obtain ⟨e,f1,g1⟩:=x;obtain ⟨rfl,h3⟩:=h2;exact ⟨_,_,h1,h3⟩)
  (fun j hj hp=>by
    obtain ⟨x,h1,h2⟩:=hs j hj;rw[if_pos hp] at h2;subst h2;rw[if_pos hj];exact ⟨h1,by simp⟩)
  (by
    rw[if_neg wO];exact ⟨he,by simp⟩) N 0 100000 wO wO
 cases hc:dH p N with
 | true =>
   have:=sR hc
   rw[if_pos this] at key
   exact cP (fun id' h=>by cases h) key
 | false =>
   have:=vX hc
   rw[if_neg wO] at key
   exact iF key
end
theorem fQ {n f nt:Nat} {c:Code} (id:Nat) (F:Nat→aD) (G:Nat→aa) (N:Nat) (Y:aD×aa) (hN:N<99999)
 (hs:∀ j,j<N→∃ x,exec (bN n f nt) c (F j) (G j)=some x∧(x.1=.normal∧tidy (aY (G 0)) x.2.1 x.2.2=(F (j+1),G (j+1))))
 (he:exec (bN n f nt) c (F N) (G N)=some (.exit id,Y)):exec (bN n f nt) (.block id (.loop c)) (F 0) (G 0)=some (.normal,Y):=by
 have:=jS id F G N (fun _=>false) (fun _=>Y) Y hN (fun j hj=>by
  obtain ⟨x,h1,h2⟩:=hs j hj;exact ⟨x,h1,by rw[if_neg (by simp)];exact h2⟩) he
 have h0:dH (fun _=>false) N=false:=by
  cases h:dH (fun _=>false) N with
  | false=>rfl
  | true=>obtain ⟨i,_,h2⟩:=(cj _ _).1 h;cases h2
 rw[h0] at this
 exact this
end Go.Eng
end
section
namespace Go.Eng
open Go.Proofs
/-- A level of blocks. -/
noncomputable def iI (n:Nat):AV:=.int .i64 (Int.ofNat n)
noncomputable def rM (z:Nat→Int) (n:Nat):Row:=.M [.arr .i64 z n]
noncomputable def bh (l:List (Nat×ak)):bB:=⟨false,l⟩
noncomputable def ay:bB:=⟨false,[]⟩
noncomputable def aF (k:Nat) (b:Nat→Int) (full:Bool):AV:=.slcT none (.M [.arr .i64 b k]) 1 k full
noncomputable def gv (v k:Nat) (y:Nat→Int):bB:=⟨false,[(v,.row (.M [.arr .i64 y k]))]⟩
theorem bQ (tab:nK) (n:Nat) (ht:tab.Ok (cd n)):(il tab n 0).Ok (cd n) :=
 ⟨nr _,fun tgt args H x h=>by
   unfold il BS at h;split at h
   · split at h
     · rename_i c hc;exact ht _ _ hc _ _ _ h
     · exact (Tr.ah h).elim
   · exact (Tr.ah h).elim⟩
theorem dV {cx:Cx} {id:Nat} {B:Code} {fr:aD} {H:aa} {e:Bool} {X Y x:db} (h:(Tr.ite e (Tr.ok X) (Tr.ok Y)).run=some x) (hx:exec cx (.block id B) fr H=some (cond e X.st Y.st)):exec cx (.block id B) fr H=some x.st:=by
 rw[hx];rcases Tr.kL h with ⟨hc,h⟩ | ⟨hc,h⟩
 · rw[hc,← Tr.ae h];rfl
 · rw[hc,← Tr.ae h];rfl
theorem bJ {cx:Cx} {id:Nat} {B:Code} {fr:aD} {H:aa} {X x:db} (h:(Tr.ok X).run=some x) (hx:exec cx (.block id B) fr H=some X.st):exec cx (.block id B) fr H=some x.st:=by
 rw[hx,← Tr.ae h]
theorem eg {j:Nat} (h:j<2 ^ 31):bm .i64 (j:Int) (Int.ofNat 1)=((j+1:Nat):Int):=by rw[fX,show Int.ofNat 1=1 from rfl];exact jK wO wO
theorem BQ (j:Nat):au 0 (j:Int) 1=j:=by rw[bt];omega
theorem ON {x:Int} (h0:-9223372036854775808≤x) (h1:x≤9223372036854775807):FE .i64 x=x:=by rw[Iu,jK h0 h1]
theorem OZ {x y:Int} (h0:-9223372036854775808≤x+y) (h1:x+y≤9223372036854775807):bm .i64 x y=x+y:=by rw[fX,jK h0 h1]
theorem QI {x y:Int} (h0:-9223372036854775808≤x-y) (h1:x-y≤9223372036854775807):aV .i64 x y=x-y:=by rw[eI,jK h0 h1]
theorem kj (L:List Int) (j:Nat):aC L j=L.getD j 0:=congrFun (fz L) j
theorem nm (L:List Int) (v:Int):mb (jI (aC L) 0) L.length (aC [v])=aC (L++[v]):=by
 rw[bU,gS,lG];funext i;by_cases h:i<L.length
 · simp[h,List.getElem?_append]
 · by_cases h2:i=L.length
   · subst h2;simp
   · have e1:[v][i-L.length]?=none:=List.getElem?_eq_none (by simp;omega);have e2:(L++[v])[i]?=none:=List.getElem?_eq_none (by simp;omega);simp only[h,if_false,List.getD_eq_getElem?_getD,e1,e2]
theorem tE (S:List Int) (j:Nat) (hj:j<S.length):aC S j=S[j]:=by
 rw[kj,List.getD_eq_getElem?_getD,List.getElem?_eq_getElem hj];rfl
noncomputable def dA:List Int→AV
 | []=>.nils
 | a::r=>.slcT none (.M [.arr .i64 (aC (a::r)) (r.length+1)]) 1 (r.length+1) false
theorem K6 (L:List Int) (k:Nat) (h:L.length=k+1):dA L=aF (k+1) (aC L) false:=by
 cases L with
 | nil=>simp at h
 | cons a r =>
   simp only[List.length_cons] at h;have:r.length=k:=by omega
   subst this;rfl
noncomputable def gX (A:List AV) (Y0:AV):List AV→Option (Prop×AV):=fun x=>some (x=A,Y0)
noncomputable def tX (t:nK) (f:FuncId) (A:List AV) (Y0:AV):nK:=gT t f (gX A Y0)
theorem eJ {c f:Nat} {t:nK} {A:List AV} {Y0:AV} (ht:t.Ok (cd c)) (h:∀ H,cd c (.fn f) A H=some (Y0,H)):(tX t f A Y0).Ok (cd c):=by
 refine mz ht (fun args p v hg hp H=>?_);unfold gX at hg;simp only[nP] at hg;obtain ⟨rfl,rfl⟩:=hg;rw[hp];exact h H
noncomputable def gV (C:List AV→Prop) (R:List AV→AV):List AV→Option (Prop×AV):=fun x=>some (C x,R x)
noncomputable def tV (t:nK) (f:FuncId) (C:List AV→Prop) (R:List AV→AV):nK:=gT t f (gV C R)
theorem Ii {c f:Nat} {t:nK} {C:List AV→Prop} {R:List AV→AV} (ht:t.Ok (cd c)) (h:∀ A H,C A→cd c (.fn f) A H=some (R A,H)):(tV t f C R).Ok (cd c):=by
 refine mz ht (fun args p v hg hp H=>?_);unfold gV at hg;simp only[nP] at hg;obtain ⟨rfl,rfl⟩:=hg;exact h _ H hp
noncomputable def tN (t:nK) (f:FuncId):nK:=gT t f (fun _=>none)
theorem Al {c f:Nat} {t:nK} (ht:t.Ok (cd c)):(tN t f).Ok (cd c):=mz ht (fun args p v hg hp H=>by cases hg)
noncomputable def gC (P:Int→Bool) (Q:Int→List AV→aa→Prop) (args:List AV) (H:aa):Tr (AV×aa) :=
 match args with
 | .int .i64 x::C=>.reqP (Q x C H) (.ok (.bool (P x),H))
 | _=>.bad
noncomputable def VK (f:FuncId) (P:Int→Bool) (Q:Int→List AV→aa→Prop):nK:=nL aK f (gC P Q)
theorem Gr {k:Nat} {f:FuncId} {P:Int→Bool} {Q:Int→List AV→aa→Prop} (h:∀ x C H,Q x C H→cd k (.fn f) (.int .i64 x::C) H=some (.bool (P x),H)):(VK f P Q).Ok (cd k):=by
 refine yi (bp _) (fun args H x hx=>?_);unfold gC at hx;split at hx
 · obtain ⟨h1,h2⟩:=Tr.gL hx;rw[h _ _ _ h1,← Tr.ae h2]
 · exact (Tr.ah hx).elim
def Dp (p:Nat→Bool) (m:Nat):Int:=if dH p m=true then (fN p m 0:Int) else -1
theorem BV (p:Nat→Bool) (k:Nat):dQ (Int.ofNat 0) (Dp p k)=dH p k:=by
 rw[bu];unfold Dp;cases h:dH p k with
 | true =>
   rw[if_pos rfl];simp only[Int.ofNat_eq_natCast,decide_eq_true_eq];omega
 | false=>rw[if_neg (by decide)];rfl
theorem Bz {p:Nat→Bool} {k:Nat} (h:∀ j,j<k→p j=false):dH p k=false:=by
 cases e:dH p k with
 | false=>rfl
 | true =>
   obtain ⟨j,hj,e2⟩:=(cj _ _).1 e;rw[h j hj] at e2;cases e2
theorem pd {p:Nat→Bool} {k:Nat} (h:dH p k=false):∀ j,j<k→p j=false:=fun j hj=>by
 cases e:p j with
 | false=>rfl
 | true=>rw[(cj _ _).2 ⟨j,hj,e⟩] at h;cases h
theorem Qc {n f nt:Nat} {c:Code} (id:Nat) (I:Nat→aD→aa→Prop) (Q:aD×aa→Prop) (N:Nat) (hN:N<99999) {fr0:aD} {H0:aa} (h0:I 0 fr0 H0)
 (hr:∀ j fr H,I j fr H→∃ x,exec (bN n f nt) c fr H=some x∧((x.1=.normal∧j<N∧I (j+1) (tidy (aY H0) x.2.1 x.2.2).1 (tidy (aY H0) x.2.1 x.2.2).2)∨(x.1=.ret∧Q x.2))) :
 ∃ y,exec (bN n f nt) (.block id (.loop c)) fr0 H0=some (.ret,y)∧Q y:=by
 obtain ⟨x,h1,h2⟩:=yX (body:=exec (bN n f nt) c) (n:=aY H0) I (fun x=>x.1=.ret∧Q x.2) N (fun j fr H h=>by
  obtain ⟨x,h1,h2⟩:=hr j fr H h;obtain ⟨e,f1,g1⟩:=x;refine ⟨e,f1,g1,h1,?_⟩;rcases h2 with h2 | ⟨h2,h3⟩
  · exact .inl h2
  · exact .inr ⟨by dsimp only at h2;rw[h2];simp,h2,h3⟩) 100000 0 fr0 H0 h0 wO
 obtain ⟨e,f1,g1⟩:=x
 obtain ⟨h2,h3⟩:=h2
 dsimp only at h2 h3
 subst h2
 exact ⟨(f1,g1),cP (fun id' h=>by cases h) h1,h3⟩
def FG:List AV→Option (Prop×AV)
 | []=>some (True,.bool true)
 | _=>none
theorem Wc (n:Nat) (H:aa):cd (n+1) (.fn 15) [] H=some (.bool true,H):=by unfold cd dk;rfl
theorem VL {c:Nat} {t:nK} (h:0<c) (ht:t.Ok (cd c)):(gT t 15 FG).Ok (cd c):=by
 obtain ⟨m,rfl⟩:∃ m,c=m+1:=⟨c-1,by omega⟩
 refine mz ht (fun args p v hg hp H=>?_);unfold FG at hg;split at hg
 · simp only[nP] at hg;obtain ⟨_,rfl⟩:=hg;exact Wc _ H
 · cases hg
noncomputable def slA (n len:Nat) (z:Nat→Int):AV:=.slcT none (.M [.arr .i64 z (fT len n)]) n len false
noncomputable def bj (O:Int) (U:Nat) (Z:Nat→Int) (V:Nat) (J:Nat→Int):AV:=.agg (.G [.int .i64 O,slA 4 U Z,slA 2 V J])
noncomputable def shR (O:Int) (U:Nat) (Z:Nat→Int) (V:Nat) (J:Nat→Int) (W B:Nat→Int):Row:=.M [.one (.int .i64 O),.one (slA 4 U Z),.one (slA 2 V J),.arr .i64 W 20,.arr .u64 B 10]
noncomputable def shV (O:Int) (U:Nat) (Z:Nat→Int) (V:Nat) (J:Nat→Int) (W B:Nat→Int):AV:=.ptrT none (shR O U Z V J W B) 0
noncomputable def b8 (O:Int) (U:Nat) (Z:Nat→Int) (V:Nat) (J:Nat→Int):ak:=.row (.G [.int .i64 O,slA 4 U Z,slA 2 V J])
theorem oZ {c:Nat} {f:FuncId} {args:List AV} {H:aa} {x:AV×aa} (h:iy (cd c) f args H=some x):cd (c+1) (.fn f) args H=some x:=by
 unfold cd dk;unfold cd at h;rw[h]
theorem R3 (n:Nat) (O:Int) (U:Nat) (Z:Nat→Int) (V:Nat) (J:Nat→Int) (W B:Nat→Int) (H:aa) (hl:U≤10):cd (n+1) (.fn 73) [shV O U Z V J W B] H=some (.int .i64 (Q.cntF U W B),H) :=
 oZ (Jf (O:=O) (Z:=Z) (V:=V) (J:=J) (W:=W) (B:=B) hl)
end Go.Eng
end
section
namespace Go.Eng
open Int (ofNat)
open Go.Proofs
noncomputable def u0 (lo hi:Int):bB:=⟨false,[(0,.row (.I .i64 [lo])),(0,.row (.I .i64 [hi]))]⟩
noncomputable def f84 (d:Nat):AV:=.fn (.func 84) [] [.ptr d 0 0 0,.ptr d 1 0 0]
noncomputable def EL (k:Nat) (b:Nat→Int) (full:Bool) (j:Int):aD:=[(0,aF k b full),(1,f84 2),(7,.int .i64 (ofNat k)),(8,.int .i64 j)]
theorem YN (n:Nat) (lo hi:Int) (H:aa) (x:Int):bo Tryd.prog (cd n) 100000 84 Tryd.f84 (KtG.kt 84) (il aK n 0) aS aR [(.int .i64 x,none),(.ptr 2 0 0 0,none),(.ptr 2 1 0 0,none)] (ay::ay::u0 lo hi::H) =
 Tr.ite (bE x lo) (Tr.ok ((AV.bool true,some 1),ay::ay::(bh [(0,ak.row (Row.I .i64 [lo])),(0,ak.row (Row.I .i64 [hi]))])::H)) (Tr.ok ((AV.bool (bE hi x),none),ay::ay::(bh [(0,ak.row (Row.I .i64 [lo])),(0,ak.row (Row.I .i64 [hi]))])::H)):=by kernel_rfl
theorem t99 (n k:Nat) (b:Nat→Int) (full:Bool) (lo hi:Int) (P:Int→Bool) (Q:Int→List AV→aa→Prop) (H:aa) (j:Int):aJ (bN n 99 19) (il (VK 84 P Q) n 0) aS aR (part Tryd.f99 [1,0,1,0,0]) (hints (EL k b full j)) (ay::ay::u0 lo hi::H) =
 (fun (Z0:bB)=>Tr.ite (bE j (ofNat k)) (Tr.req (cQ j k) (Tr.req (cK (au 0 j 1) k) (Tr.reqP (Q (b (au 0 j 1)) [AV.ptr 2 0 0 0,AV.ptr 2 1 0 0] (ay::ay::Z0::H)) (Tr.ite (P (b (au 0 j 1))) (Tr.ok (Ex.ret,[(4,AV.int .i64 j,none)],ay::ay::Z0::H)) (Tr.ok (Ex.normal,[(0,AV.slcT none (rM b k) 1 k full,none),(1,AV.fn (Fn.func 84) [] [AV.ptr 2 0 0 0,AV.ptr 2 1 0 0],none),(7,iI k,none),(8,AV.int .i64 (bm .i64 j (ofNat 1)),none)],ay::ay::Z0::H)))))) (Tr.ok (Ex.exit 0,[(0,AV.slcT none (rM b k) 1 k full,none),(1,AV.fn (Fn.func 84) [] [AV.ptr 2 0 0 0,AV.ptr 2 1 0 0],none),(7,iI k,none),(8,AV.int .i64 j,none),(9,AV.bool false,some 1)],ay::ay::Z0::H))) (bh [(0,ak.row (Row.I .i64 [lo])),(0,ak.row (Row.I .i64 [hi]))]):=by kernel_rfl
theorem YS (n k:Nat) (b:Nat→Int) (full:Bool) (lo hi:Int) (H:aa) (x:Bool) (r:Nat):bo Tryd.prog (cd n) 100000 99 Tryd.f99 (KtG.kt 99) (il aK n 0) (bP aS 0 (EL k b full 0) (ay::ay::u0 lo hi::H) (.ite x (.ok (.ret,[(4,.int .i64 (ofNat r),none)],ay::ay::u0 lo hi::H)) (.ok (.normal,hints (EL k b full (ofNat k)++[(9,.bool false)]),ay::ay::u0 lo hi::H)))) aR [(aF k b full,none),(f84 1,none)] (ay::u0 lo hi::H) =
 (fun (Z0:bB)=>((fun (Z1:aD)=>Tr.reqP (Z1=Z1∧ay::ay::Z0::H=ay::ay::Z0::H) (Tr.ite x (Tr.ok ((iI r,none),ay::Z0::H)) (Tr.ok ((AV.int .i64 (Int.negSucc 0),some 1),ay::Z0::H)))) [(0,AV.slcT none (rM b k) 1 k full),(1,AV.fn (Fn.func 84) [] [AV.ptr 2 0 0 0,AV.ptr 2 1 0 0]),(7,iI k),(8,iI 0)])) (bh [(0,ak.row (Row.I .i64 [lo])),(0,ak.row (Row.I .i64 [hi]))]):=by kernel_rfl
theorem YM (n k:Nat) (b:Nat→Int) (full:Bool) (lo hi:Int) (H:aa) (r:Int):bo Tryd.prog (cd n) 100000 83 Tryd.f83 (KtG.kt 83) (il (rS aK 99 [aF k b full,f84 1] (ay::u0 lo hi::H) (.ok (.int .i64 r,ay::u0 lo hi::H))) n 0) aS aR [(aF k b full,none),(f84 0,none)] (u0 lo hi::H) =
 (fun (Z0:bB)=>((fun (Z1:List AV)=>Tr.reqP (Z1=Z1∧ay::Z0::H=ay::Z0::H) (Tr.ok ((AV.bool (dQ (ofNat 0) r),none),Z0::H))) [AV.slcT none (rM b k) 1 k full,AV.fn (Fn.func 84) [] [AV.ptr 1 0 0 0,AV.ptr 1 1 0 0]])) (bh [(0,ak.row (Row.I .i64 [lo])),(0,ak.row (Row.I .i64 [hi]))]):=by kernel_rfl
theorem YC (n k:Nat) (b:Nat→Int) (full:Bool) (lo hi:Int) (H:aa) (e:Bool):bo Tryd.prog (cd n) 100000 59 Tryd.f59 (KtG.kt 59) (il (rS aK 83 [aF k b full,f84 0] (u0 lo hi::H) (.ok (.bool e,u0 lo hi::H))) n 0) aS aR [(.int .i64 lo,none),(.int .i64 hi,none),(aF k b full,none)] H =
 (fun (Z0:List AV)=>Tr.reqP (Z0=Z0∧(bh [(0,ak.row (Row.I .i64 [lo])),(0,ak.row (Row.I .i64 [hi]))])::H=(bh [(0,ak.row (Row.I .i64 [lo])),(0,ak.row (Row.I .i64 [hi]))])::H) (Tr.ok ((AV.bool (aQ e),none),H))) [AV.slcT none (rM b k) 1 k full,AV.fn (Fn.func 84) [] [AV.ptr 0 0 0 0,AV.ptr 0 1 0 0]]:=by kernel_rfl
theorem V9:∀ b,(0,b) ∈ aP (aZ Tryd.f99)→b=.loop (part Tryd.f99 [1,0,1,0,0]):=eA (by kernel_rfl)
def kR (lo hi x:Int):Bool:=decide (x<lo) || decide (hi<x)
section
variable (n k:Nat) (b:Nat→Int) (full:Bool) (lo hi:Int) (H:aa)
theorem Wp (x:Int):cd (n+1) (.fn 84) [.int .i64 x,.ptr 2 0 0 0,.ptr 2 1 0 0] (ay::ay::u0 lo hi::H)=some (.bool (kR lo hi x),ay::ay::u0 lo hi::H):=by
 have hp:kR lo hi x=(decide (x<lo) || decide (hi<x)):=rfl;rw[hp];refine bF (n:=n) Tryd.func84 rfl rfl rfl (YN n lo hi H x) (aA n) (ai _ _) (aj _ _) ?_;rw[bS,bS];refine Tr.af (fun hc=>Tr.ag ⟨?_,rfl⟩) (fun hc=>Tr.ag ⟨?_,rfl⟩)
 · rw[hc];rfl
 · rw[hc];rfl
theorem Wo (hk:k≤1000):cd (n+4) (.fn 83) [aF k b full,f84 0] (u0 lo hi::H)=some (.bool (dH (fun j=>kR lo hi (b j)) k),u0 lo hi::H):=by
 have hQ:∀ q x C H',(C=[.ptr 2 0 0 0,.ptr 2 1 0 0]∧H'=ay::ay::u0 lo hi::H)→cd (n+2+q) (.fn 84) (.int .i64 x::C) H'=some (.bool (kR lo hi x),H'):=by
  rintro q x C H' ⟨rfl,rfl⟩;rw[show n+2+q=n+1+q+1 by omega];exact Wp _ lo hi H x
 have hx:=jS (n:=n+2) (f:=99) (nt:=19) (c:=part Tryd.f99 [1,0,1,0,0]) 0 (fun j=>EL k b full (j:Int)) (fun _=>ay::ay::u0 lo hi::H) k (fun j=>kR lo hi (b j)) (fun j=>([(4,.int .i64 (j:Nat))],ay::ay::u0 lo hi::H)) (EL k b full (ofNat k)++[(9,.bool false)],ay::ay::u0 lo hi::H) wO (fun j hj=>?_) ?_
 · have h99:cd (n+3) (.fn 99) [aF k b full,f84 1] (ay::u0 lo hi::H)=some (.int .i64 (Dp (fun j=>kR lo hi (b j)) k),ay::u0 lo hi::H):=by
    refine bF (n:=n+2) Tryd.func99 rfl rfl rfl (YS (n+2) k b full lo hi H (dH (fun j=>kR lo hi (b j)) k) (fN (fun j=>kR lo hi (b j)) k 0)) (aA _) (az (ai _ _) V9 (fun x h=>dV h hx)) (aj _ _) ?_;refine Tr.al ⟨rfl,rfl⟩ (Tr.af (fun hc=>Tr.ag ⟨?_,rfl⟩) (fun hc=>Tr.ag ⟨?_,rfl⟩))
    · unfold Dp;rw[if_pos hc];rfl
    · unfold Dp;rw[if_neg (by rw[hc];decide)];rfl
   refine bF (n:=n+3) Tryd.func83 rfl rfl rfl (YM (n+3) k b full lo hi H (Dp (fun j=>kR lo hi (b j)) k)) (bQ _ (n+3) (dh (bp _) (fun x hy=>by rw[← Tr.ae hy];exact h99))) (ai _ _) (aj _ _) ?_;refine Tr.al ⟨rfl,rfl⟩ (Tr.ag ⟨?_,rfl⟩);rw[BV]
 · refine aw (t99 (n+2) k b full lo hi (kR lo hi) _ H (j:Int)) (ir _ (n+2) 0 (fun q=>Gr (hQ q))) (ai _ _) (aj _ _) ?_;show Tr.all _ (fun x=>if kR lo hi (b j)=true then _ else _);rw[eg wO,BQ];cases hp:kR lo hi (b j) with
   | true =>
     simp only[if_true];refine Tr.af (fun hc=>?_) (fun hc=>?_)
     · repeat' first | (refine Tr.af (fun hc=>?_) (fun hc=>?_)<;>(try simp (disch:=omega) only[nV,nW] at hc)<;>(try (exfalso;omega))) | (refine Tr.ab ?_ ?_;· ((try simp (disch:=omega) only[nV,nW]);try omega)) | (refine Tr.al ?_ ?_;· first | exact trivial | rfl | exact ⟨rfl,rfl⟩ | exact ⟨trivial,rfl⟩ | exact ⟨rfl,by assumption⟩ | exact ⟨trivial,by assumption⟩ | exact ⟨rfl,rfl,rfl⟩ | (simp (disch:=omega) only[nV,nW];done) | ((try simp (disch:=omega) only[nV,nW]);omega)) | fail
       all_goals first
        | exact ⟨rfl,rfl⟩
        | (refine Tr.al ⟨trivial,rfl⟩ ?_
           exact wF)
        | exact Tr.ag rfl
        | fail
     · simp (disch:=omega) only[nV,nW] at hc;omega
   | false =>
     simp only[Bool.false_eq_true,if_false];refine Tr.af (fun hc=>?_) (fun hc=>?_)
     · repeat' first | (refine Tr.af (fun hc=>?_) (fun hc=>?_)<;>(try simp (disch:=omega) only[nV,nW] at hc)<;>(try (exfalso;omega))) | (refine Tr.ab ?_ ?_;· ((try simp (disch:=omega) only[nV,nW]);try omega)) | (refine Tr.al ?_ ?_;· first | exact trivial | rfl | exact ⟨rfl,rfl⟩ | exact ⟨trivial,rfl⟩ | exact ⟨rfl,by assumption⟩ | exact ⟨trivial,by assumption⟩ | exact ⟨rfl,rfl,rfl⟩ | (simp (disch:=omega) only[nV,nW];done) | ((try simp (disch:=omega) only[nV,nW]);omega)) | fail
       all_goals first
        | exact ⟨rfl,rfl⟩
        | (refine Tr.al ⟨trivial,rfl⟩ ?_
           exact wF)
        | exact Tr.ag ⟨rfl,rfl⟩
        | fail
     · simp (disch:=omega) only[nV,nW] at hc;omega
 · obtain ⟨x,h1,rfl⟩:=aw (Q:=fun x=>x=(.exit 0,EL k b full (ofNat k)++[(9,.bool false)],ay::ay::u0 lo hi::H)) (t99 (n+2) k b full lo hi (kR lo hi) _ H (ofNat k)) (ir _ (n+2) 0 (fun q=>Gr (hQ q))) (ai _ _) (aj _ _) (by
    refine Tr.af (fun hc=>?_) (fun hc=>Tr.ag rfl);simp (disch:=omega) only[nV,nW] at hc;omega)
   exact h1
theorem We (hk:k≤1000):cd (n+5) (.fn 59) [.int .i64 lo,.int .i64 hi,aF k b full] H=some (.bool (!dH (fun j=>kR lo hi (b j)) k),H):=by
 have h:=Wo n k b full lo hi H hk;refine ph (n:=n+4) Tryd.func59 rfl (fun _ _=>rfl) rfl (YC (n+4) k b full lo hi H (dH (fun j=>kR lo hi (b j)) k)) (bQ _ (n+4) (dh (bp _) (fun x hy=>by rw[← Tr.ae hy];exact h))) (ai _ _) (aj _ _) ?_;rw[aH];exact wF
end
noncomputable def RG (lo hi:Int):List Int→Bool
 | []=>true
 | x::r=>cr (cr (dQ lo x) (dQ x hi)) (RG lo hi r)
theorem Nt (lo hi:Int) (l:List Int):(!dH (fun j=>kR lo hi (aC l j)) l.length)=RG lo hi l:=by
 rw[fz];induction l with
 | nil=>rfl
 | cons x r ih =>
   have e:dH (fun j=>kR lo hi ((fun j=>(x::r).getD j 0) j)) (r.length+1)=(kR lo hi x || dH (fun j=>kR lo hi ((fun j=>r.getD j 0) j)) r.length):=by
    rw[Bool.eq_iff_iff,Bool.or_eq_true,cj,cj];constructor
    · rintro ⟨i,h1,h2⟩;cases i with
      | zero=>exact .inl h2
      | succ i=>exact .inr ⟨i,by omega,h2⟩
    · rintro (h | ⟨i,h1,h2⟩)
      · exact ⟨0,by omega,h⟩
      · exact ⟨i+1,by omega,h2⟩
   show (!dH _ (r.length+1))=_;rw[e,Bool.not_or,ih];show _=cr (cr (dQ lo x) (dQ x hi)) (RG lo hi r);rw[ct,ct,bu,bu];congr 1;unfold kR;by_cases h1:lo≤x
   · rw[decide_eq_true h1,decide_eq_false wO];by_cases h2:x≤hi
     · rw[decide_eq_true h2,decide_eq_false wO];rfl
     · rw[decide_eq_false h2,decide_eq_true wO];rfl
   · rw[decide_eq_false h1,decide_eq_true wO];rfl
noncomputable def gW (args:List AV) (H:aa):Tr (AV×aa) :=
 match args with
 | [.int .i64 lo,.int .i64 hi,.slc d i ver 0 1 k cap]=>match c6 H d i ver with
   | some (.I .i64 l)=>cond (Nat.beq l.length k && Nat.ble k 1000) (.ok (.bool (RG lo hi l),H)) .bad
   | _=>.bad
 | _=>.bad
theorem yJ {n:Nat} {t:nK} (ht:t.Ok (cd (n+6))):(nL t 59 gW).Ok (cd (n+6)):=by
 refine yi ht (fun args H x hx=>?_);unfold gW at hx;split at hx;case h_2=>exact (Tr.ah hx).elim
 rename_i lo hi d i ver k cap;split at hx;case h_2=>exact (Tr.ah hx).elim
 rename_i l hr;cases hc:(Nat.beq l.length k && Nat.ble k 1000) with
 | false=>rw[hc] at hx;exact (Tr.ah hx).elim
 | true =>
   rw[hc,cond_true] at hx;rw[Bool.and_eq_true] at hc;have hk:l.length=k:=Nat.eq_of_beq_eq_true hc.1;have hk2:=Nat.le_of_ble_eq_true hc.2;subst hk;rw[← Tr.ae hx];refine oZ ?_;show QH (cd (n+5)) 59 [.int .i64 lo,.int .i64 hi,.slc d i ver 0 1 l.length cap] H=_;unfold QH;simp only[hr,if_true];have:=We n l.length (aC l) false lo hi [⟨true,[]⟩] hk2;have e:aF l.length (aC l) false=.slcT none (.M [.arr .i64 (aC l) l.length]) 1 l.length false:=rfl;rw[e] at this;rw[this,Nt];rfl
end Go.Eng
end
section
namespace Go.Eng
open Int (ofNat)
open Go.Proofs
noncomputable def EJ (l:Nat) (z:Nat→Int) (j:Int):aD:=[(0,slA 4 l z),(1,.fn (.func 58) [] []),(7,.int .i64 (ofNat l)),(8,.int .i64 j)]
theorem t85 (n:Nat) (l:Nat) (z:Nat→Int) (H:aa) (j:Int):aJ (bN (n+8) 85 19) (il (nL aK 59 gW) (n+6) 2) aS aR (part Tryd.f85 [1,0,1,0,0]) (hints (EJ l z j)) (ay::H) =
 Tr.ite (bE j (ofNat l)) (Tr.req (cQ j l) (Tr.req (cK (au 0 j 4) (bR l 4)) (Tr.req (cK (ar (au 0 j 4) 1) (bR l 4)) (Tr.req (cK (ar (au 0 j 4) 2) (bR l 4)) (Tr.req (cK (ar (au 0 j 4) 3) (bR l 4)) (Tr.ite (aQ (cr (cr (dQ (ofNat 0) (z (au 0 j 4))) (dQ (z (au 0 j 4)) (ofNat 1000))) (cr (cr (dQ (ofNat 0) (z (ar (au 0 j 4) 1))) (dQ (z (ar (au 0 j 4) 1)) (ofNat 1000))) (cr (cr (dQ (ofNat 0) (z (ar (au 0 j 4) 2))) (dQ (z (ar (au 0 j 4) 2)) (ofNat 1000))) (cr (cr (dQ (ofNat 0) (z (ar (au 0 j 4) 3))) (dQ (z (ar (au 0 j 4) 3)) (ofNat 1000))) true))))) (Tr.ok (Ex.ret,[(4,AV.int .i64 j,none)],ay::H)) (Tr.ite (bE (z (ar (au 0 j 4) 1)) (z (au 0 j 4))) (Tr.ok (Ex.ret,[(4,AV.int .i64 j,none)],ay::H)) (Tr.ite (bE (z (ar (au 0 j 4) 3)) (z (ar (au 0 j 4) 2))) (Tr.ok (Ex.ret,[(4,AV.int .i64 j,none)],ay::H)) (Tr.ok (Ex.normal,[(0,slA 4 l z,none),(1,AV.fn (Fn.func 58) [] [],none),(7,iI l,none),(8,AV.int .i64 (bm .i64 j (ofNat 1)),none)],ay::H)))))))))) (Tr.ok (Ex.exit 0,[(0,slA 4 l z,none),(1,AV.fn (Fn.func 58) [] [],none),(7,iI l,none),(8,AV.int .i64 j,none),(9,AV.bool false,some 1)],ay::H)):=by kernel_rfl
theorem YO (n:Nat) (l:Nat) (z:Nat→Int) (H:aa) (i:Int) (e:Bool):bo Tryd.prog (cd (n+8)) 100000 85 Tryd.f85 (KtG.kt 85) (il aK (n+8) 0) (bP aS 0 (EJ l z 0) (ay::H) (.ite e (.ok (.ret,[(4,.int .i64 i,none)],ay::H)) (.ok (.normal,hints (EJ l z (ofNat l)++[(9,.bool false)]),ay::H)))) aR [(slA 4 l z,none),(.fn (.func 58) [] [],none)] H =
 Tr.reqP ([(0,slA 4 l z),(1,AV.fn (Fn.func 58) [] []),(7,iI l),(8,iI 0)]=[(0,slA 4 l z),(1,AV.fn (Fn.func 58) [] []),(7,iI l),(8,iI 0)]∧ay::H=ay::H) (Tr.ite e (Tr.ok ((AV.int .i64 i,none),H)) (Tr.ok ((AV.int .i64 (Int.negSucc 0),some 1),H))):=by kernel_rfl
theorem YD (n:Nat) (l:Nat) (z:Nat→Int) (H:aa) (i:Int):bo Tryd.prog (cd (n+9)) 100000 60 Tryd.f60 (KtG.kt 60) (il (tX aK 85 [slA 4 l z,.fn (.func 58) [] []] (.int .i64 i)) (n+9) 0) aS aR [(slA 4 l z,none),(.fn (.func 58) [] [],none)] H =
 Tr.reqP ([slA 4 l z,AV.fn (Fn.func 58) [] []]=[slA 4 l z,AV.fn (Fn.func 58) [] []]) (Tr.ok ((AV.bool (dQ (ofNat 0) i),none),H)):=by kernel_rfl
def jO (z:Nat→Int) (j:Nat):Bool:=!(decide (0≤z (j*4)) && (decide (z (j*4)≤z (j*4+1)) && (decide (z (j*4+1)≤1000) && (decide (0≤z (j*4+2)) && (decide (z (j*4+2)≤z (j*4+3)) && decide (z (j*4+3)≤1000))))))
theorem V4:∀ b,(0,b) ∈ aP (aZ Tryd.f85)→b=.loop (part Tryd.f85 [1,0,1,0,0]):=eA (by kernel_rfl)
section
variable (n:Nat) (l:Nat) (z:Nat→Int) (H:aa)
theorem VN (n k:Nat):(il (nL aK 59 gW) (n+6) k).Ok (cd (n+6+k)):=ir _ _ _ (fun q=>by rw[show n+6+q=n+q+6 by omega];exact yJ (bp _))
theorem Wq (hl:l≤1000):cd (n+9) (.fn 85) [slA 4 l z,.fn (.func 58) [] []] H=some (.int .i64 (Dp (jO z) l),H):=by
 have lp:=jS (n:=n+8) (f:=85) (nt:=19) (c:=part Tryd.f85 [1,0,1,0,0]) 0 (fun j=>EJ l z (j:Int)) (fun _=>ay::H) l (jO z) (fun j=>([(4,.int .i64 (j:Int))],ay::H)) (EJ l z (ofNat l)++[(9,.bool false)],ay::H) wO (fun j hj=>?_) ?_
 · refine bF (n:=n+8) Tryd.func85 rfl rfl rfl (YO n l z H ((fN (jO z) l 0:Nat):Int) (dH (jO z) l)) (cD (n+8) 0) (az (ai _ _) V4 (fun x hx=>dV hx lp)) (aj _ _) ?_;repeat' first | (refine Tr.af (fun hc=>?_) (fun hc=>?_)<;>(try simp (disch:=omega) only[nV,nW] at hc)<;>(try (exfalso;omega))) | (refine Tr.ab ?_ ?_;· ((try simp (disch:=omega) only[nV,nW]);try omega)) | (refine Tr.al ?_ ?_;· first | exact trivial | rfl | exact ⟨rfl,rfl⟩ | exact ⟨trivial,rfl⟩ | exact ⟨rfl,by assumption⟩ | exact ⟨trivial,by assumption⟩ | exact ⟨rfl,rfl,rfl⟩ | (simp (disch:=omega) only[nV,nW];done) | ((try simp (disch:=omega) only[nV,nW]);omega)) | fail
   all_goals refine Tr.ag ⟨?_,rfl⟩
   · unfold Dp;rw[if_pos hc]
   · unfold Dp;rw[if_neg (by rw[hc];decide)];rfl
 · have ej:bm .i64 (j:Int) (ofNat 1)=((j+1:Nat):Int):=eg wO;have ei:au 0 (j:Int) 4=j*4:=by rw[bt];omega
   have hs:jO z j=!(decide (0≤z (j*4)) && (decide (z (j*4)≤z (j*4+1)) && (decide (z (j*4+1)≤1000) && (decide (0≤z (j*4+2)) && (decide (z (j*4+2)≤z (j*4+3)) && decide (z (j*4+3)≤1000)))))):=rfl;refine aw (t85 n l z H (j:Int)) (VN n 2) (ai _ _) (aj _ _) ?_;refine Tr.af (fun h0=>?_) wJ;refine Tr.ab wG (Tr.ab (by rw[ei];simp (disch:=omega) only[nV,nW];omega) (Tr.ab (by rw[ei];simp (disch:=omega) only[nV,nW];omega) (Tr.ab (by rw[ei];simp (disch:=omega) only[nV,nW];omega) (Tr.ab (by rw[ei];simp (disch:=omega) only[nV,nW];omega) ?_))));rw[ei,aI,aI,aI,ej];refine Tr.af (fun h1=>?_) (fun h1=>?_)
   · refine Tr.ag ?_;rw[if_pos (by rw[hs];simp[aH,ct,bu] at h1 ⊢;omega)];rfl
   · simp only[aH,ct,bu] at h1;simp at h1;refine Tr.af (fun h2=>?_) (fun h2=>?_)
     · rw[bS,decide_eq_true_eq] at h2;refine Tr.ag ?_;rw[if_pos (by rw[hs];simp;omega)];rfl
     · rw[bS,decide_eq_false_iff_not] at h2;refine Tr.af (fun h3=>?_) (fun h3=>?_)
       · rw[bS,decide_eq_true_eq] at h3;refine Tr.ag ?_;rw[if_pos (by rw[hs];simp;omega)];rfl
       · rw[bS,decide_eq_false_iff_not] at h3;refine Tr.ag ?_;rw[if_neg (by rw[hs];simp;omega)];exact ⟨rfl,rfl⟩
 · obtain ⟨x,h1,rfl⟩:=aw (Q:=fun x=>x=(.exit 0,EJ l z (ofNat l)++[(9,.bool false)],ay::H)) (t85 n l z H (ofNat l)) (VN n 2) (ai _ _) (aj _ _) (by
    refine Tr.af wJ (fun h0=>Tr.ag rfl))
   exact h1
theorem Wf (hl:l≤1000):cd (n+10) (.fn 60) [slA 4 l z,.fn (.func 58) [] []] H=some (.bool (dH (jO z) l),H):=by
 have h:=fun H=>Wq n l z H hl;refine bF (n:=n+9) Tryd.func60 rfl rfl rfl (YD n l z H (Dp (jO z) l)) (bQ _ (n+9) (eJ (bp _) h)) (ai _ _) (aj _ _) ?_;refine Tr.al rfl (Tr.ag ⟨?_,rfl⟩);rw[BV]
end
end Go.Eng
end
