/- Lay: pick, as a function with a range over a map. -/
import Derived.Test.YtoomemfhcbajoaaV4EngRnFx5
import Derived.Test.YtoomemfhcbajoaaV4EngKtL
import Derived.Test.YtoomemfhcbajoaaProg
import Derived.KernelRfl
import Derived.Test.YtoomemfhcbajoaaV4EngThx4
import Derived.Test.YtoomemfhcbajoaaV4EngRnLx7
set_option maxRecDepth 100000
set_option linter.unusedVariables false
set_option linter.unusedSimpArgs false
section
namespace Go.Eng.Rf
open Go.Eng Go.Proofs
def cR:List Nat→Code→Code
 | [],c=>c
 | x :: p,c=>match c with
   | .seq a b=>match x with
     | 0=>cR p a
     | _=>cR p b
   | .cond _ a b=>match x with
     | 0=>cR p a
     | _=>cR p b
   | .block _ b=>cR p b
   | .loop b=>cR p b
   | .scope b=>cR p b
   | .rangeFunc _ _ a b=>match x with
     | 0=>cR p a
     | _=>cR p b
   | c=>c
def ln:Code→Array Oper
 | .region _ ops _=>ops
 | _=>#[]
noncomputable def eP:Code:=Try.f90.body.getD .skip
def Ka (l:List Oper):Oper:=l.headD { dst:=none,op:=.move (.tmp 0),type:=0,pos := "",after:=#[],guard:=none }
noncomputable def da:cQ:={ id0:=3,ops0:=ln (cR [1,1,1,0,0] eP),pre:=(ln (cR [1,1,1,0,0] eP)).toList.take 1,ro:=Ka ((ln (cR [1,1,1,0,0] eP)).toList.drop 1),m:=9,ty:=95 }
noncomputable def bB:bt:={ out:=0,gK:=4,id2:=5,nxt:=1,ops1:=ln (cR [1,1,1,0,1,0,0,0] eP),ops2:=ln (cR [1,1,1,0,1,0,0,1,1,0,0] eP),no:=Ka (ln (cR [1,1,1,0,1,0,0,0] eP)).toList,eo:=Ka (ln (cR [1,1,1,0,1,0,0,1,1,0,0] eP)).toList,t1:=(ln (cR [1,1,1,0,1,0,0,0] eP)).toList.tail,t2:=(ln (cR [1,1,1,0,1,0,0,1,1,0,0] eP)).toList.tail,it:=10,nx:=11,mo:=12,en:=13,rest:=cR [1,1,1,0,1,0,0,1,1,0,1] eP,km:=16775424 }
noncomputable def pick:oo:={ f:=90,pre:=[cR [0] eP,cR [1,0] eP,cR [1,1,0] eP],S:=da,L:=bB,suf:=cR [1,1,1,1] eP }
theorem Br:Try.f90.body=some (assemble pick.pre (da.code bB) pick.suf):=by kernel_rfl
theorem xt:da.ops0.toList=da.pre++[da.ro]:=by kernel_rfl
theorem xw:da.ro.op=.range da.ty (.tmp da.m):=by kernel_rfl
theorem xl:da.ro.dst=some bB.it:=by kernel_rfl
theorem xo:da.ro.guard=none:=by kernel_rfl
theorem xu:bB.ops1.toList=bB.no::bB.t1:=by kernel_rfl
theorem xx:bB.no.op=.next (.tmp bB.it) false:=by kernel_rfl
theorem xm:bB.no.dst=some bB.nx:=by kernel_rfl
theorem xp:bB.no.guard=none:=by kernel_rfl
theorem xv:bB.ops2.toList=bB.eo::bB.t2:=by kernel_rfl
theorem xy:bB.eo.op=.entry (.tmp bB.it):=by kernel_rfl
theorem xn:bB.eo.dst=some bB.en:=by kernel_rfl
theorem xr:bB.eo.guard=none:=by kernel_rfl
theorem xz:pick.Ok Try.prog:=⟨⟨Try.f90,Try.func90,Br⟩,⟨xt,xw,xl,xo,⟨_,_,Try.underlying95⟩⟩,⟨xu,xx,xm,xp,xv,xy,xn,xr⟩⟩
end Go.Eng.Rf
end
section
namespace Go.Eng
open Go.Proofs Go.ChangeShapes

noncomputable def N1 (n len:Nat) (z:Nat→Int):AV:=.slcT none (.M [.arr .i64 z (jn len n)]) n len false
noncomputable def nn:aY→FuncId→List AV→aa→Option (AV×aa):=fun call f args H=>cond (Nat.beq f 54) (rh Try.prog KtL.kt 100000 54 call args H) (cond (Nat.beq f 95) (rh Try.prog KtL.kt 100000 95 call args H) (cond (Nat.beq f 90) (tG Try.prog KtL.kt 100000 Rf.pick call args H) (Ib [⟨16,[],.bool true⟩] call f args H)))
def Lp (f:FuncId):Bool:=Nat.beq f 16 || Nat.beq f 1000000 || Nat.beq f 54 || Nat.beq f 95 || Nat.beq f 90
noncomputable def cd (n:Nat):aY:=cW Try.prog nn KtL.kt 100000 n
noncomputable def il (tab:pH) (n k:Nat):bH:=DQ Try.prog nn KtL.kt 100000 Lp tab n k
noncomputable def bo (n:Nat) (f nt:Nat):Cx:=⟨Try.prog,cd n,100000,f,nt,KtL.kt f,none⟩

def GR:List Nat→Code→Code
 | [],c=>c
 | x :: p,c=>match c with
   | .seq a b=>match x with
     | 0=>GR p a
     | _=>GR p b
   | .cond _ a b=>match x with
     | 0=>GR p a
     | _=>GR p b
   | .block _ b=>GR p b
   | .loop b=>GR p b
   | .scope b=>GR p b
   | .rangeFunc _ _ a b=>match x with
     | 0=>GR p a
     | _=>GR p b
   | c=>c
noncomputable def part (f:Func) (p:List Nat):Code:=GR p (bh f)
theorem F6 (g:FuncId) (h:Lp g=false) (c:aY) (args:List AV) (H:aa):nn c g args H=none:=by
 unfold Lp at h
 rw[Bool.or_eq_false_iff,Bool.or_eq_false_iff,Bool.or_eq_false_iff,Bool.or_eq_false_iff] at h
 obtain ⟨⟨⟨⟨h0,h1⟩,h2⟩,h3⟩,h4⟩:=h
 unfold nn Ib
 rw[h2,h3,h4,h1,cond_false,cond_false,cond_false,cond_false]
 simp only[Bq]
 have:Nat.beq 16 g=false:=by
  cases hb:Nat.beq 16 g with
  | false=>rfl
  | true=>have:=Nat.eq_of_beq_eq_true hb;subst this;simp at h0
 rw[this];rfl
theorem vW (n:Nat):∃ x,cW Try.prog nn KtL.kt 100000 n .mode [] []=some x:=by
 cases n<;>exact ⟨_,rfl⟩
theorem H8 (hN:dg Try.prog) (hD:kG Try.prog) (hW:bz Try.prog ⟨16,[],.bool true⟩):uY Try.prog nn :=
 fun call hC f args H v H' h hne p M w cargs hH hA=>by
  unfold nn at h
  cases hb:Nat.beq f 54 with
  | true =>
    rw[hb,cond_true] at h
    have:=Nat.eq_of_beq_eq_true hb
    subst this
    exact tx hN hD KtL.kt 100000 hC h hH hA
  | false =>
    rw[hb,cond_false] at h
    cases hb2:Nat.beq f 95 with
    | true =>
      rw[hb2,cond_true] at h
      have:=Nat.eq_of_beq_eq_true hb2
      subst this
      exact tx hN hD KtL.kt 100000 hC h hH hA
    | false =>
      rw[hb2,cond_false] at h
      cases hb3:Nat.beq f 90 with
      | true =>
        rw[hb3,cond_true] at h
        have:=Nat.eq_of_beq_eq_true hb3
        subst this
        exact D6 hN hD Rf.xz KtL.kt 100000 hC h hH hA
      | false =>
        rw[hb3,cond_false] at h
        exact Ic _ (fun e he=>by
         simp only[List.mem_singleton] at he
         subst he
         exact hW) call hC f args H v H' h hne p M w cargs hH hA
theorem yT (tab:pH) (n k:Nat) (ht:∀ k,tab.Ok (cd (n+k))):(il tab n k).Ok (cd (n+k)):=Ch _ _ _ _ _ _ _ F6 (fun k=>vW _) ht k
theorem lJ (n k:Nat):(il aB n k).Ok (cd (n+k)):=yT _ _ _ (fun k=>aD _)
theorem al (n:Nat):(il aB n 0).Ok (cd n):=lJ n 0
theorem L7 {f:FuncId} {fn:Func} {n:Nat} (hf:Try.prog.funcs[f]?=some fn) (hb:fn.body.isSome=true) (hn:Lp f=false) {args:List HV} (hle:Nat.ble args.length fn.ntmps=true) {H:aa} {callR:bH} (hC:callR.Ok (cd n)) {bl:ig} (hB:bl.Ok (bo n f fn.ntmps) (bh fn)) {rg:sb} (hR:rg.Ok (bo n f fn.ntmps) (bh fn)) {y:HV×aa}
 (h:(aT Try.prog (cd n) 100000 f fn (KtL.kt f) callR bl rg args H).run=some y):cd (n+1) (.fn f) (pO args) H=some (y.1.1,y.2) :=
 sk hf hb (F6 f hn _ _ _) hle hC hB hR h
theorem L6 {f:FuncId} {fn:Func} {n:Nat} (hf:Try.prog.funcs[f]?=some fn) (hb:fn.body.isSome=true) (hn:Lp f=false) {args:List HV} (hle:Nat.ble args.length fn.ntmps=true) {H:aa} {callR:bH} {bl:ig} {rg:sb} {T:Tr (HV×aa)}
 (e:aT Try.prog (cd n) 100000 f fn (KtL.kt f) callR bl rg args H=T) (hC:callR.Ok (cd n)) (hB:bl.Ok (bo n f fn.ntmps) (bh fn)) (hR:rg.Ok (bo n f fn.ntmps) (bh fn)) {y:HV×aa} (hr:T.run=some y):cd (n+1) (.fn f) (pO args) H=some (y.1.1,y.2) :=
 L7 hf hb hn hle hC hB hR (by rw[e];exact hr)
theorem L4 {n f nt:Nat} {c:Code} {callR:bH} (hC:callR.Ok (cd n)) {bl:ig} (hB:bl.Ok (bo n f nt) c) {rg:sb} (hR:rg.Ok (bo n f nt) c) {fr:ar} {H:aa} {x:ot} (h:(aJ (bo n f nt) callR bl rg c (hints fr) H).run=some x):exec (bo n f nt) c fr H=some x.st:=by
 have:=oP hC c hB hR _ _ _ h
 rw[ir] at this
 exact this

def lM (bl:ig) (id0:Nat):ig:=fun id fr H=>cond (Nat.beq id id0) (some .bad) (bl id fr H)
theorem dK {bl:ig} {cx:Cx} {c:Code} (h:bl.Ok cx c) (id0:Nat):(lM bl id0).Ok cx c:=by
 intro id b hm fr H t y ht hy
 unfold lM at ht
 cases hb:Nat.beq id id0 with
 | true =>
   rw[hb,cond_true,Option.some.injEq] at ht
   subst ht
   exact (Tr.ae hy).elim
 | false =>
   rw[hb,cond_false] at ht
   exact h id b hm fr H t y ht hy
theorem L3 {n f nt:Nat} {c:Code} {callR:bH} {bl:ig} {rg:sb} {fr:ar} {H:aa} {T:Tr ot} (e:aJ (bo n f nt) callR bl rg c (hints fr) H=T) (hC:callR.Ok (cd n)) (hB:bl.Ok (bo n f nt) c) (hR:rg.Ok (bo n f nt) c) {x:ot} (hr:T.run=some x):exec (bo n f nt) c fr H=some x.st :=
 L4 hC hB hR (by rw[e];exact hr)
section
variable {n f nt:Nat} {c:Code} {callR:bH} {bl:ig} {rg:sb}
end
def bX (p:Nat→Bool) (N:Nat):Bool:=decide (fN p N 0<N)
theorem jd {p:Nat→Bool} {N:Nat} (h:bX p N=true):fN p N 0<N:=by simpa[bX] using h
theorem pX {p:Nat→Bool} {N:Nat} (h:bX p N=false):fN p N 0=N:=by
 have h1:=(mS p N 0).2.1
 have:¬ fN p N 0<N:=by simpa[bX] using h
 omega
theorem dp (p:Nat→Bool) (N:Nat):bX p N=true↔∃ i,i<N∧p i=true:=by
 obtain ⟨h1,h2,h3,h4⟩:=mS p N 0
 constructor
 · intro h
   have:=jd h
   exact ⟨_,this,h4 (by omega)⟩
 · rintro ⟨i,hi,hp⟩
   unfold bX
   rw[decide_eq_true_eq]
   apply Nat.lt_of_not_le
   intro hc
   have:=h3 i (by omega) (by omega)
   rw[this] at hp;cases hp
end Go.Eng
end
section
namespace Go.Eng
open Go.Proofs
theorem aE {f:FuncId} {fn:Func} {n:Nat} (hf:Try.prog.funcs[f]?=some fn) (hb:fn.body.isSome=true) (hn:Lp f=false) {args:List HV} (hle:Nat.ble args.length fn.ntmps=true) {H:aa} {callR:bH} {bl:ig} {rg:sb} {T:Tr (HV×aa)}
 (e:aT Try.prog (cd n) 100000 f fn (KtL.kt f) callR bl rg args H=T) (hC:callR.Ok (cd n)) (hB:bl.Ok (bo n f fn.ntmps) (bh fn)) (hR:rg.Ok (bo n f fn.ntmps) (bh fn)) {v:AV} {H':aa} (h:T.all fun y=>y.1.1=v∧y.2=H'):cd (n+1) (.fn f) (pO args) H=some (v,H'):=by
 obtain ⟨y,h1,h2,h3⟩:=h
 have:=L6 hf hb hn hle e hC hB hR h1
 rw[this,h2,h3]
theorem aC {n f nt:Nat} {c:Code} {callR:bH} {bl:ig} {rg:sb} {fr:ar} {H:aa} {T:Tr ot} (e:aJ (bo n f nt) callR bl rg c (hints fr) H=T) (hC:callR.Ok (cd n)) (hB:bl.Ok (bo n f nt) c) (hR:rg.Ok (bo n f nt) c) {Q:Ex×ar×aa→Prop} (h:T.all fun x=>Q x.st):∃ x,exec (bo n f nt) c fr H=some x∧Q x:=by
 obtain ⟨x,h1,h2⟩:=h
 exact ⟨_,L3 e hC hB hR h1,h2⟩
section
variable {n f nt:Nat} {c:Code} {callR:bH} {bl:ig} {rg:sb}
theorem FR (id:Nat) (I:Nat→ar→aa→Prop) (Q:ar×aa→Prop) (N:Nat) (hN:N<99999) {fr0:ar} {H0:aa} (h0:I 0 fr0 H0)
 (hr:∀ j fr H,I j fr H→∃ x,exec (bo n f nt) c fr H=some x∧((x.1=.normal∧j<N∧I (j+1) (tidy (ao H0) x.2.1 x.2.2).1 (tidy (ao H0) x.2.1 x.2.2).2)∨(x.1=.exit id∧Q x.2))) :
 ∃ y,exec (bo n f nt) (.block id (.loop c)) fr0 H0=some (.normal,y)∧Q y:=by
 obtain ⟨x,h1,h2⟩:=sY (body:=exec (bo n f nt) c) (n:=ao H0) I (fun x=>x.1=.exit id∧Q x.2) N (fun j fr H h=>by
  obtain ⟨x,h1,h2⟩:=hr j fr H h
  obtain ⟨e,f1,g1⟩:=x
  refine ⟨e,f1,g1,h1,?_⟩
  rcases h2 with h2 | ⟨h2,h3⟩
  · exact .inl h2
  · exact .inr ⟨by dsimp only at h2;rw[h2];simp,h2,h3⟩) 100000 0 fr0 H0 h0 (by omega)
 obtain ⟨e,f1,g1⟩:=x
 obtain ⟨h2,h3⟩:=h2
 dsimp only at h2 h3
 subst h2
 exact ⟨(f1,g1),eA h1,h3⟩
theorem gJ (id:Nat) (F:Nat→ar) (G:Nat→aa) (N:Nat) (p:Nat→Bool) (X:Nat→ar×aa) (Y:ar×aa) (hN:N<99999)
 (hs:∀ j,j<N→∃ x,exec (bo n f nt) c (F j) (G j)=some x∧if p j=true then x=(.ret,X j) else x.1=.normal∧tidy (ao (G 0)) x.2.1 x.2.2=(F (j+1),G (j+1)))
 (he:exec (bo n f nt) c (F N) (G N)=some (.exit id,Y)):exec (bo n f nt) (.block id (.loop c)) (F 0) (G 0)=some (cond (bX p N) (.ret,X (fN p N 0)) (.normal,Y)):=by
 have key:=mV (body:=exec (bo n f nt) c) (n:=ao (G 0)) F G N p (fun j=>if j<N then (.ret,X j) else (.exit id,Y))
  (fun j hj hp=>by
    obtain ⟨x,h1,h2⟩:=hs j hj
    rw[if_neg (by rw[hp];simp)] at h2
    obtain ⟨e,f1,g1⟩:=x
    obtain ⟨rfl,h3⟩:=h2
    exact ⟨_,_,h1,h3⟩)
  (fun j hj hp=>by
    obtain ⟨x,h1,h2⟩:=hs j hj
    rw[if_pos hp] at h2
    subst h2
    rw[if_pos hj]
    exact ⟨h1,by simp⟩)
  (by
    rw[if_neg (by omega)]
    exact ⟨he,by simp⟩) N 0 100000 (by omega) (by omega)
 cases hc:bX p N with
 | true =>
   have:=jd hc
   rw[if_pos this] at key
   exact eH (fun id' h=>by cases h) key
 | false =>
   have:=pX hc
   rw[if_neg (by omega)] at key
   exact eA key
end
theorem iM {n f nt:Nat} {c:Code} (id:Nat) (F:Nat→ar) (G:Nat→aa) (N:Nat) (Y:ar×aa) (hN:N<99999)
 (hs:∀ j,j<N→∃ x,exec (bo n f nt) c (F j) (G j)=some x∧(x.1=.normal∧tidy (ao (G 0)) x.2.1 x.2.2=(F (j+1),G (j+1))))
 (he:exec (bo n f nt) c (F N) (G N)=some (.exit id,Y)):exec (bo n f nt) (.block id (.loop c)) (F 0) (G 0)=some (.normal,Y):=by
 have:=gJ id F G N (fun _=>false) (fun _=>Y) Y hN (fun j hj=>by
  obtain ⟨x,h1,h2⟩:=hs j hj
  exact ⟨x,h1,by rw[if_neg (by simp)];exact h2⟩) he
 have h0:bX (fun _=>false) N=false:=by
  cases h:bX (fun _=>false) N with
  | false=>rfl
  | true=>obtain ⟨i,_,h2⟩:=(dp _ _).1 h;cases h2
 rw[h0] at this
 exact this
end Go.Eng
end
section
namespace Go.Eng
open Go.Proofs
noncomputable def az:aX:=⟨false,[]⟩
noncomputable def bU (k:Nat) (b:Nat→Int) (full:Bool):AV:=.slcT none (.M [.arr .i64 b k]) 1 k full
noncomputable def zp (v k:Nat) (y:Nat→Int):aX:=⟨false,[(v,.row (.M [.arr .i64 y k]))]⟩
theorem aM (tab:pH) (n:Nat) (ht:tab.Ok (cd n)):(il tab n 0).Ok (cd n) :=
 ⟨vW _,fun tgt args H x h=>by
   unfold il DQ at h
   split at h
   · split at h
     · rename_i c hc
       exact ht _ _ hc _ _ _ h
     · exact (Tr.ae h).elim
   · exact (Tr.ae h).elim⟩
theorem df {cx:Cx} {id:Nat} {B:Code} {fr:ar} {H:aa} {e:Bool} {X Y x:ot} (h:(Tr.ite e (Tr.ok X) (Tr.ok Y)).run=some x) (hx:exec cx (.block id B) fr H=some (cond e X.st Y.st)):exec cx (.block id B) fr H=some x.st:=by
 rw[hx]
 rcases Tr.iu h with ⟨hc,h⟩ | ⟨hc,h⟩
 · rw[hc,← Tr.ab h];rfl
 · rw[hc,← Tr.ab h];rfl
theorem bI {cx:Cx} {id:Nat} {B:Code} {fr:ar} {H:aa} {X x:ot} (h:(Tr.ok X).run=some x) (hx:exec cx (.block id B) fr H=some X.st):exec cx (.block id B) fr H=some x.st:=by
 rw[hx,← Tr.ab h]
theorem cK {j:Nat} (h:j<2 ^ 31):bu .i64 (j:Int) (Int.ofNat 1)=((j+1:Nat):Int):=by rw[jA,show Int.ofNat 1=1 from rfl];exact rz (by omega) (by omega)
theorem gK (j:Nat):an 0 (j:Int) 1=j:=by rw[kX];omega
theorem Ln {x:Int} (h:0≤x):an 0 x 1=x.toNat:=by rw[kX];omega
theorem Ev {x y:Int} (h0:-9223372036854775808≤x+y) (h1:x+y≤9223372036854775807):bu .i64 x y=x+y:=by rw[jA,rz h0 h1]
theorem qB {x y:Int} (h0:-9223372036854775808≤x-y) (h1:x-y≤9223372036854775807):bC .i64 x y=x-y:=by rw[m8,rz h0 h1]
theorem Kt (L:List Int) (j:Nat):au L j=L.getD j 0:=congrFun (Cs L) j
theorem w6 (L:List Int) (v:Int):kI (dC (au L) 0) L.length (au [v])=au (L++[v]):=by
 rw[c5,rM,iS];funext i
 by_cases h:i<L.length
 · simp[h,List.getElem?_append]
 · by_cases h2:i=L.length
   · subst h2;simp
   · have e1:[v][i-L.length]?=none:=List.getElem?_eq_none (by simp;omega)
     have e2:(L++[v])[i]?=none:=List.getElem?_eq_none (by simp;omega)
     simp only[h,if_false,List.getD_eq_getElem?_getD,e1,e2]
theorem Ku (S:List Int) (j:Nat) (hj:j<S.length):au S j=S[j]:=by
 rw[Kt,List.getD_eq_getElem?_getD,List.getElem?_eq_getElem hj];rfl
noncomputable def dA:List Int→AV
 | []=>.nils
 | a::r=>.slcT none (.M [.arr .i64 (au (a::r)) (r.length+1)]) 1 (r.length+1) false
noncomputable def gX (A:List AV) (V:AV):List AV→Option (Prop×AV):=fun x=>some (x=A,V)
noncomputable def tX (t:pH) (f:FuncId) (A:List AV) (V:AV):pH:=ur t f (gX A V)
theorem aP {c f:Nat} {t:pH} {A:List AV} {V:AV} (ht:t.Ok (cd c)) (h:∀ H,cd c (.fn f) A H=some (V,H)):(tX t f A V).Ok (cd c):=by
 refine pU ht (fun args p v hg hp H=>?_)
 unfold gX at hg
 simp only[nP] at hg
 obtain ⟨rfl,rfl⟩:=hg
 rw[hp];exact h H
noncomputable def tN (t:pH) (f:FuncId):pH:=ur t f (fun _=>none)
theorem Nu {c f:Nat} {t:pH} (ht:t.Ok (cd c)):(tN t f).Ok (cd c):=pU ht (fun args p v hg hp H=>by cases hg)
noncomputable def gC (P:Int→Bool) (Q:Int→List AV→aa→Prop) (args:List AV) (H:aa):Tr (AV×aa) :=
 match args with
 | .int .i64 x::C=>.reqP (Q x C H) (.ok (.bool (P x),H))
 | _=>.bad
noncomputable def Rr (f:FuncId) (P:Int→Bool) (Q:Int→List AV→aa→Prop):pH:=jz aB f (gC P Q)
theorem Fe {k:Nat} {f:FuncId} {P:Int→Bool} {Q:Int→List AV→aa→Prop} (h:∀ x C H,Q x C H→cd k (.fn f) (.int .i64 x::C) H=some (.bool (P x),H)):(Rr f P Q).Ok (cd k):=by
 refine jX (aD _) (fun args H x hx=>?_)
 unfold gC at hx
 split at hx
 · obtain ⟨h1,h2⟩:=Tr.dm hx
   rw[h _ _ _ h1,← Tr.ab h2]
 · exact (Tr.ae hx).elim
def Cl (p:Nat→Bool) (m:Nat):Int:=if bX p m=true then (fN p m 0:Int) else -1
theorem FI (p:Nat→Bool) (k:Nat):lU (Int.ofNat 0) (Cl p k)=bX p k:=by
 rw[ml];unfold Cl
 cases h:bX p k with
 | true =>
   rw[if_pos rfl]
   simp only[Int.ofNat_eq_natCast,decide_eq_true_eq];omega
 | false=>rw[if_neg (by decide)];rfl
theorem jc {p:Nat→Bool} {k:Nat} (h:∀ j,j<k→p j=false):bX p k=false:=by
 cases e:bX p k with
 | false=>rfl
 | true =>
   obtain ⟨j,hj,e2⟩:=(dp _ _).1 e
   rw[h j hj] at e2;cases e2
theorem eZ {p:Nat→Bool} {k:Nat} (h:bX p k=false):∀ j,j<k→p j=false:=fun j hj=>by
 cases e:p j with
 | false=>rfl
 | true=>rw[(dp _ _).2 ⟨j,hj,e⟩] at h;cases h
theorem j9 {p q:Nat→Bool} {k:Nat} (h:∀ j,j<k→p j=q j):bX p k=bX q k:=by
 rw[Bool.eq_iff_iff,dp,dp]
 constructor
 · rintro ⟨j,hj,e⟩;exact ⟨j,hj,by rw[← h j hj];exact e⟩
 · rintro ⟨j,hj,e⟩;exact ⟨j,hj,by rw[h j hj];exact e⟩
theorem Mt {n f nt:Nat} {c:Code} (id:Nat) (I:Nat→ar→aa→Prop) (Q:ar×aa→Prop) (N:Nat) (hN:N<99999) {fr0:ar} {H0:aa} (h0:I 0 fr0 H0)
 (hr:∀ j fr H,I j fr H→∃ x,exec (bo n f nt) c fr H=some x∧((x.1=.normal∧j<N∧I (j+1) (tidy (ao H0) x.2.1 x.2.2).1 (tidy (ao H0) x.2.1 x.2.2).2)∨(x.1=.ret∧Q x.2))) :
 ∃ y,exec (bo n f nt) (.block id (.loop c)) fr0 H0=some (.ret,y)∧Q y:=by
 obtain ⟨x,h1,h2⟩:=sY (body:=exec (bo n f nt) c) (n:=ao H0) I (fun x=>x.1=.ret∧Q x.2) N (fun j fr H h=>by
  obtain ⟨x,h1,h2⟩:=hr j fr H h
  obtain ⟨e,f1,g1⟩:=x
  refine ⟨e,f1,g1,h1,?_⟩
  rcases h2 with h2 | ⟨h2,h3⟩
  · exact .inl h2
  · exact .inr ⟨by dsimp only at h2;rw[h2];simp,h2,h3⟩) 100000 0 fr0 H0 h0 (by omega)
 obtain ⟨e,f1,g1⟩:=x
 obtain ⟨h2,h3⟩:=h2
 dsimp only at h2 h3
 subst h2
 exact ⟨(f1,g1),eH (fun id' h=>by cases h) h1,h3⟩
def J6:List AV→Option (Prop×AV)
 | []=>some (True,.bool true)
 | _=>none
theorem RQ (n:Nat) (H:aa):cd (n+1) (.fn 16) [] H=some (.bool true,H):=by unfold cd cW;rfl
theorem Lj {c:Nat} {t:pH} (h:0<c) (ht:t.Ok (cd c)):(ur t 16 J6).Ok (cd c):=by
 obtain ⟨m,rfl⟩:∃ m,c=m+1:=⟨c-1,by omega⟩
 refine pU ht (fun args p v hg hp H=>?_)
 unfold J6 at hg
 split at hg
 · simp only[nP] at hg
   obtain ⟨_,rfl⟩:=hg
   exact RQ _ H
 · cases hg
noncomputable def bw (l:Nat) (t:Nat→Int) (k:Nat) (d:Nat→Int):AV:=.agg (.G [bU l t false,bU k d false])
end Go.Eng
end
section
namespace Go.Eng
open Go.Proofs
noncomputable def uv (lo hi:Int):aX:=⟨false,[(0,.row (.I .i64 [lo])),(0,.row (.I .i64 [hi]))]⟩
noncomputable def f83 (d:Nat):AV:=.fn (.func 83) [] [.ptr d 0 0 0,.ptr d 1 0 0]
noncomputable def DM (k:Nat) (b:Nat→Int) (full:Bool) (j:Int):ar:=[(0,bU k b full),(1,f83 2),(7,.int .i64 (Int.ofNat k)),(8,.int .i64 j)]
theorem UW (n:Nat) (lo hi:Int) (H:aa) (x:Int):aT Try.prog (cd n) 100000 83 Try.f83 (KtL.kt 83) (il aB n 0) aG aH [(.int .i64 x,none),(.ptr 2 0 0 0,none),(.ptr 2 1 0 0,none)] (az::az::uv lo hi::H) =
 (fun (Z0:aX)=>Tr.ite (bT x lo) (Tr.ok ((AV.bool true,some 1),az::az::Z0::H)) (Tr.ok ((AV.bool (bT hi x),none),az::az::Z0::H))) { lock:=false,bs:=[(0,ai.row (Row.I .i64 [lo])),(0,ai.row (Row.I .i64 [hi]))] }:=by kernel_rfl
theorem t94 (n k:Nat) (b:Nat→Int) (full:Bool) (lo hi:Int) (P:Int→Bool) (Q:Int→List AV→aa→Prop) (H:aa) (j:Int):aJ (bo n 94 19) (il (Rr 83 P Q) n 0) aG aH (part Try.f94 [1,0,1,0,0]) (hints (DM k b full j)) (az::az::uv lo hi::H) =
 (fun (Z0:aX)=>Tr.ite (bT j (Int.ofNat k)) (Tr.req (b8 j k) (Tr.req (bV (an 0 j 1) k) (Tr.reqP (Q (b (an 0 j 1)) [AV.ptr 2 0 0 0,AV.ptr 2 1 0 0] (az::az::Z0::H)) (Tr.ite (P (b (an 0 j 1))) (Tr.ok (Ex.ret,[(4,AV.int .i64 j,none)],az::az::Z0::H)) (Tr.ok (Ex.normal,[(0,AV.slcT none (Row.M [ah.arr .i64 b k]) 1 k full,none),(1,AV.fn (Fn.func 83) [] [AV.ptr 2 0 0 0,AV.ptr 2 1 0 0],none),(7,AV.int .i64 (Int.ofNat k),none),(8,AV.int .i64 (bu .i64 j (Int.ofNat 1)),none)],az::az::Z0::H)))))) (Tr.ok (Ex.exit 0,[(0,AV.slcT none (Row.M [ah.arr .i64 b k]) 1 k full,none),(1,AV.fn (Fn.func 83) [] [AV.ptr 2 0 0 0,AV.ptr 2 1 0 0],none),(7,AV.int .i64 (Int.ofNat k),none),(8,AV.int .i64 j,none),(9,AV.bool false,some 1)],az::az::Z0::H))) { lock:=false,bs:=[(0,ai.row (Row.I .i64 [lo])),(0,ai.row (Row.I .i64 [hi]))] }:=by kernel_rfl
theorem U4 (n k:Nat) (b:Nat→Int) (full:Bool) (lo hi:Int) (H:aa) (x:Bool) (r:Nat):aT Try.prog (cd n) 100000 94 Try.f94 (KtL.kt 94) (il aB n 0) (bG aG 0 (DM k b full 0) (az::az::uv lo hi::H) (.ite x (.ok (.ret,[(4,.int .i64 (Int.ofNat r),none)],az::az::uv lo hi::H)) (.ok (.normal,hints (DM k b full (Int.ofNat k)++[(9,.bool false)]),az::az::uv lo hi::H)))) aH [(bU k b full,none),(f83 1,none)] (az::uv lo hi::H) =
 (fun (Z0:aX)=>((fun (Z1:ar)=>Tr.reqP (Z1=Z1∧az::az::Z0::H=az::az::Z0::H) (Tr.ite x (Tr.ok ((AV.int .i64 (Int.ofNat r),none),az::Z0::H)) (Tr.ok ((AV.int .i64 (Int.negSucc 0),some 1),az::Z0::H)))) [(0,AV.slcT none (Row.M [ah.arr .i64 b k]) 1 k full),(1,AV.fn (Fn.func 83) [] [AV.ptr 2 0 0 0,AV.ptr 2 1 0 0]),(7,AV.int .i64 (Int.ofNat k)),(8,AV.int .i64 (Int.ofNat 0))])) { lock:=false,bs:=[(0,ai.row (Row.I .i64 [lo])),(0,ai.row (Row.I .i64 [hi]))] }:=by kernel_rfl
theorem UU (n k:Nat) (b:Nat→Int) (full:Bool) (lo hi:Int) (H:aa) (r:Int):aT Try.prog (cd n) 100000 82 Try.f82 (KtL.kt 82) (il (yk aB 94 [bU k b full,f83 1] (az::uv lo hi::H) (.ok (.int .i64 r,az::uv lo hi::H))) n 0) aG aH [(bU k b full,none),(f83 0,none)] (uv lo hi::H) =
 (fun (Z0:aX)=>((fun (Z1:List AV)=>Tr.reqP (Z1=Z1∧az::Z0::H=az::Z0::H) (Tr.ok ((AV.bool (lU (Int.ofNat 0) r),none),Z0::H))) [AV.slcT none (Row.M [ah.arr .i64 b k]) 1 k full,AV.fn (Fn.func 83) [] [AV.ptr 1 0 0 0,AV.ptr 1 1 0 0]])) { lock:=false,bs:=[(0,ai.row (Row.I .i64 [lo])),(0,ai.row (Row.I .i64 [hi]))] }:=by kernel_rfl
theorem UH (n k:Nat) (b:Nat→Int) (full:Bool) (lo hi:Int) (H:aa) (e:Bool):aT Try.prog (cd n) 100000 56 Try.f56 (KtL.kt 56) (il (yk aB 82 [bU k b full,f83 0] (uv lo hi::H) (.ok (.bool e,uv lo hi::H))) n 0) aG aH [(.int .i64 lo,none),(.int .i64 hi,none),(bU k b full,none)] H =
 (fun (Z0:List AV)=>((fun (Z1:aX)=>Tr.reqP (Z0=Z0∧Z1::H=Z1::H) (Tr.ok ((AV.bool (aQ e),none),H))) { lock:=false,bs:=[(0,ai.row (Row.I .i64 [lo])),(0,ai.row (Row.I .i64 [hi]))] })) [AV.slcT none (Row.M [ah.arr .i64 b k]) 1 k full,AV.fn (Fn.func 83) [] [AV.ptr 0 0 0 0,AV.ptr 0 1 0 0]]:=by kernel_rfl
theorem RM:∀ b,(0,b) ∈ aF (bh Try.f94)→b=.loop (part Try.f94 [1,0,1,0,0]):=dw (by kernel_rfl)
def fi (lo hi x:Int):Bool:=decide (x<lo) || decide (hi<x)
section
variable (n k:Nat) (b:Nat→Int) (full:Bool) (lo hi:Int) (H:aa)
theorem R8 (x:Int):cd (n+1) (.fn 83) [.int .i64 x,.ptr 2 0 0 0,.ptr 2 1 0 0] (az::az::uv lo hi::H)=some (.bool (fi lo hi x),az::az::uv lo hi::H):=by
 have hp:fi lo hi x=(decide (x<lo) || decide (hi<x)):=rfl
 rw[hp]
 refine aE (n:=n) Try.func83 rfl rfl rfl (UW n lo hi H x) (al n) (af _ _) (ag _ _) ?_
 rw[dj,dj]
 refine Tr.bk (fun hc=>Tr.bc ⟨?_,rfl⟩) (fun hc=>Tr.bc ⟨?_,rfl⟩)
 · rw[hc];rfl
 · rw[hc];rfl
theorem R7 (hk:k≤1000):cd (n+4) (.fn 82) [bU k b full,f83 0] (uv lo hi::H)=some (.bool (bX (fun j=>fi lo hi (b j)) k),uv lo hi::H):=by
 have hQ:∀ q x C H',(C=[.ptr 2 0 0 0,.ptr 2 1 0 0]∧H'=az::az::uv lo hi::H)→cd (n+2+q) (.fn 83) (.int .i64 x::C) H'=some (.bool (fi lo hi x),H'):=by
  rintro q x C H' ⟨rfl,rfl⟩
  rw[show n+2+q=n+1+q+1 by omega]
  exact R8 _ lo hi H x
 have hx:=gJ (n:=n+2) (f:=94) (nt:=19) (c:=part Try.f94 [1,0,1,0,0]) 0 (fun j=>DM k b full (j:Int)) (fun _=>az::az::uv lo hi::H) k (fun j=>fi lo hi (b j)) (fun j=>([(4,.int .i64 (j:Nat))],az::az::uv lo hi::H)) (DM k b full (Int.ofNat k)++[(9,.bool false)],az::az::uv lo hi::H) (by omega) (fun j hj=>?_) ?_
 · have h94:cd (n+3) (.fn 94) [bU k b full,f83 1] (az::uv lo hi::H)=some (.int .i64 (Cl (fun j=>fi lo hi (b j)) k),az::uv lo hi::H):=by
    refine aE (n:=n+2) Try.func94 rfl rfl rfl (U4 (n+2) k b full lo hi H (bX (fun j=>fi lo hi (b j)) k) (fN (fun j=>fi lo hi (b j)) k 0)) (al _) (ay (af _ _) RM (fun x h=>df h hx)) (ag _ _) ?_
    refine Tr.bg ⟨rfl,rfl⟩ (Tr.bk (fun hc=>Tr.bc ⟨?_,rfl⟩) (fun hc=>Tr.bc ⟨?_,rfl⟩))
    · unfold Cl;rw[if_pos hc];rfl
    · unfold Cl;rw[if_neg (by rw[hc];decide)];rfl
   refine aE (n:=n+3) Try.func82 rfl rfl rfl (UU (n+3) k b full lo hi H (Cl (fun j=>fi lo hi (b j)) k)) (aM _ (n+3) (fK (aD _) (fun x hy=>by rw[← Tr.ab hy];exact h94))) (af _ _) (ag _ _) ?_
   refine Tr.bg ⟨rfl,rfl⟩ (Tr.bc ⟨?_,rfl⟩)
   rw[FI]
 · refine aC (t94 (n+2) k b full lo hi (fi lo hi) _ H (j:Int)) (yT _ (n+2) 0 (fun q=>Fe (hQ q))) (af _ _) (ag _ _) ?_
   show Tr.all _ (fun x=>if fi lo hi (b j)=true then _ else _)
   rw[cK (by omega),gK]
   cases hp:fi lo hi (b j) with
   | true =>
     simp only[if_true]
     refine Tr.bk (fun hc=>?_) (fun hc=>?_)
     · repeat' first | (refine Tr.bk (fun hc=>?_) (fun hc=>?_)<;>(try simp (disch:=omega) only[nV,nW] at hc)<;>try omega) | (refine Tr.cC ?_ ?_;· (try simp (disch:=omega) only[nV,nW]);try omega) | (refine Tr.bg ?_ ?_;· first | exact trivial | rfl | exact ⟨rfl,rfl⟩ | exact ⟨rfl,rfl,rfl⟩ | (simp (disch:=omega) only[nV,nW];done) | ((try simp (disch:=omega) only[nV,nW]);omega)) | fail
       all_goals first
        | exact ⟨rfl,rfl⟩
        | (refine Tr.bg ⟨trivial,rfl⟩ ?_
           exact wF)
        | exact Tr.bc rfl
        | fail
     · simp (disch:=omega) only[nV,nW] at hc;omega
   | false =>
     simp only[Bool.false_eq_true,if_false]
     refine Tr.bk (fun hc=>?_) (fun hc=>?_)
     · repeat' first | (refine Tr.bk (fun hc=>?_) (fun hc=>?_)<;>(try simp (disch:=omega) only[nV,nW] at hc)<;>try omega) | (refine Tr.cC ?_ ?_;· (try simp (disch:=omega) only[nV,nW]);try omega) | (refine Tr.bg ?_ ?_;· first | exact trivial | rfl | exact ⟨rfl,rfl⟩ | exact ⟨rfl,rfl,rfl⟩ | (simp (disch:=omega) only[nV,nW];done) | ((try simp (disch:=omega) only[nV,nW]);omega)) | fail
       all_goals first
        | exact ⟨rfl,rfl⟩
        | (refine Tr.bg ⟨trivial,rfl⟩ ?_
           exact wF)
        | exact Tr.bc ⟨rfl,rfl⟩
        | fail
     · simp (disch:=omega) only[nV,nW] at hc;omega
 · obtain ⟨x,h1,rfl⟩:=aC (Q:=fun x=>x=(.exit 0,DM k b full (Int.ofNat k)++[(9,.bool false)],az::az::uv lo hi::H)) (t94 (n+2) k b full lo hi (fi lo hi) _ H (Int.ofNat k)) (yT _ (n+2) 0 (fun q=>Fe (hQ q))) (af _ _) (ag _ _) (by
    refine Tr.bk (fun hc=>?_) (fun hc=>Tr.bc rfl)
    simp (disch:=omega) only[nV,nW] at hc;omega)
   exact h1
theorem Rg (hk:k≤1000):cd (n+5) (.fn 56) [.int .i64 lo,.int .i64 hi,bU k b full] H=some (.bool (!bX (fun j=>fi lo hi (b j)) k),H):=by
 have h:=R7 n k b full lo hi H hk
 refine aE (n:=n+4) Try.func56 rfl rfl rfl (UH (n+4) k b full lo hi H (bX (fun j=>fi lo hi (b j)) k)) (aM _ (n+4) (fK (aD _) (fun x hy=>by rw[← Tr.ab hy];exact h))) (af _ _) (ag _ _) ?_
 rw[ia]
 exact wF
end
end Go.Eng
end
section
namespace Go.Eng
def cn (p:Nat→Bool):Nat→Nat
 | 0=>0
 | j+1=>cn p j+(p j).toNat
theorem oD (p:Nat→Bool):∀ n,cn p n≤n
 | 0=>Nat.le_refl _
 | n+1=>by
   have:=oD p n
   have:(p n).toNat≤1:=Bool.toNat_le _
   show cn p n+_≤_
   omega
theorem ey {p q:Nat→Bool}:∀ {n:Nat},(∀ j,j<n→p j=q j)→cn p n=cn q n
 | 0,_=>rfl
 | n+1,h=>by
   show cn p n+_=cn q n+_
   rw[ey (fun j hj=>h j (by omega)),h n (by omega)]
theorem gR {p q:Nat→Bool} {i:Nat} (h1:p i=false) (h2:q i=true):∀ {n:Nat},(∀ j,j<n→j≠i→q j=p j)→i<n→cn q n=cn p n+1
 | 0,_,hi=>by omega
 | n + 1,h,hi=>by
   show cn q n+_=cn p n+_+1
   by_cases e:i=n
   · subst e
     rw[h1,h2,ey (p:=q) (q:=p) (fun j hj=>h j (by omega) (by omega))]
     rfl
   · rw[gR h1 h2 (fun j hj hne=>h j (by omega) hne) (by omega),h n (by omega) (fun x=>e x.symm)]
     omega
theorem pT {p:Nat→Bool}:∀ {n:Nat},0<cn p n→∃ j,j<n∧p j=true
 | 0,h=>by simp[cn] at h
 | n + 1,h=>by
   have h:0<cn p n+(p n).toNat:=h
   cases e:p n with
   | true=>exact ⟨n,by omega,e⟩
   | false =>
     rw[e] at h
     obtain ⟨j,hj,e⟩:=pT (n:=n) (by simpa using h)
     exact ⟨j,by omega,e⟩
theorem mP {p:Nat→Bool} {n:Nat} (h:cn p n=0):∀ j,j<n→p j=false:=fun j hj=>by
 induction n with
 | zero=>omega
 | succ n ih =>
   have h:cn p n+(p n).toNat=0:=h
   by_cases e:j=n
   · subst e
     cases e:p j with
     | false=>rfl
     | true=>rw[e] at h;simp at h
   · exact ih (by omega) (by omega)
theorem mO {p:Nat→Bool} {n:Nat} (h:∀ j,j<n→p j=false):cn p n=0:=by
 induction n with
 | zero=>rfl
 | succ n ih =>
   show cn p n+_=0
   rw[ih (fun j hj=>h j (by omega)),h n (by omega)];rfl
theorem G9 {p:Nat→Bool} {n:Nat} (h:cn p n=n):∀ j,j<n→p j=true:=fun j hj=>by
 induction n with
 | zero=>omega
 | succ n ih =>
   have h:cn p n+(p n).toNat=n+1:=h
   have h2:=oD p n
   have h3:(p n).toNat≤1:=Bool.toNat_le _
   by_cases e:j=n
   · subst e
     cases e:p j with
     | true=>rfl
     | false=>rw[e] at h;simp at h;omega
   · exact ih (by omega) (by omega)
theorem Ha {p:Nat→Bool} {n:Nat} (h:cn p n<n):∃ j,j<n∧p j=false:=by
 apply Classical.byContradiction
 intro hc
 have:∀ j,j<n→p j=true:=fun j hj=>by
  cases e:p j with
  | true=>rfl
  | false=>exact absurd ⟨j,hj,e⟩ hc
 have e:∀ m,m≤n→cn p m=m:=by
  intro m
  induction m with
  | zero=>intro _;rfl
  | succ m ih =>
    intro hm
    show cn p m+_=_
    rw[ih (by omega),this m (by omega)];rfl
 have:=e n (Nat.le_refl _)
 omega
def bK (t:Nat→Int):Nat→Int→Int
 | 0,x=>x
 | m+1,x=>if 0≤bK t m x then t (bK t m x).toNat else bK t m x
theorem IA {t:Nat→Int} (m:Nat) (x:Int) (h:0≤x):bK t (m+1) x=bK t m (t x.toNat):=by
 induction m with
 | zero=>show (if 0≤x then _ else _)=_;rw[if_pos h];rfl
 | succ m ih =>
   show (if 0≤bK t (m+1) x then t (bK t (m+1) x).toNat else bK t (m+1) x)=_
   rw[ih];rfl
structure rA (l:Nat) (t:Nat→Int) (f:Nat→Int) (a:Nat) (tk:Nat→Bool) (tm:Nat→Nat):Prop where
 cnt:cn tk l=a
 on:∀ i,i<l→tk i=true→f i=-1∧tm i<a
 off:∀ i,i<l→tk i=false→f i=(cn (fun j=>!tk j && decide (t j=(i:Int))) l:Nat)
 pre:∀ i j,i<l→j<l→tk i=true→t j=(i:Int)→tk j=true∧tm j<tm i
theorem KH {l:Nat} {t f:Nat→Int} (h:∀ i,i<l→f i=(cn (fun j=>decide (t j=(i:Int))) l:Nat)):rA l t f 0 (fun _=>false) (fun _=>0) where
 cnt:=mO (fun _ _=>rfl)
 on:=fun i hi h=>by cases h
 off:=fun i hi _=>by rw[h i hi];rfl
 pre:=fun i j _ _ h=>by cases h
def uI (f:Nat→Int) (i:Nat) (x:Int):Nat→Int:=fun j=>if j=i then x else f j
def AH (t f:Nat→Int) (i:Nat):Nat→Int:=if 0≤t i then uI (uI f i (-1)) (t i).toNat (uI f i (-1) (t i).toNat-1) else uI f i (-1)
theorem rA.zero {l:Nat} {t f:Nat→Int} {a:Nat} {tk:Nat→Bool} {tm:Nat→Nat} (h:rA l t f a tk tm) {i:Nat} (hi:i<l) (hf:f i=0):tk i=false∧∀ j,j<l→t j=(i:Int)→tk j=true:=by
 have h1:tk i=false:=by
  cases e:tk i with
  | false=>rfl
  | true=>have:=(h.on i hi e).1;omega
 refine ⟨h1,fun j hj e=>?_⟩
 have h2:=h.off i hi h1
 rw[hf] at h2
 have:=mP (p:=fun j=>!tk j && decide (t j=(i:Int))) (n:=l) (by omega) j hj
 simp only[e,decide_true,Bool.and_true,Bool.not_eq_false'] at this
 exact this
theorem rA.take {l:Nat} {t f:Nat→Int} {a:Nat} {tk:Nat→Bool} {tm:Nat→Nat} (h:rA l t f a tk tm) {i:Nat} (hi:i<l) (hf:f i=0) :
 rA l t (AH t f i) (a+1) (fun j=>if j=i then true else tk j) (fun j=>if j=i then a else tm j)∧AH t f i i=-1∧∀ x,x<l→f x=-1→AH t f i x=-1:=by
 obtain ⟨h1,h2⟩:=h.zero hi hf
 have hti:∀ x:Nat,x<l→t i=(x:Int)→tk x=false∧x≠i:=fun x hx e=>by
  have hne:x≠i:=fun c=>by
   subst c
   have:=h2 x hx e
   rw[h1] at this;cases this
  refine ⟨?_,hne⟩
  cases c:tk x with
  | false=>rfl
  | true =>
    have:=(h.pre x i hx hi c e).1
    rw[h1] at this;cases this
 have at_i:AH t f i i=-1:=by
  unfold AH
  by_cases c:0≤t i
  · rw[if_pos c]
    have hne:i≠(t i).toNat:=fun e=>by
     have:t i=(i:Int):=by omega
     exact (hti i hi this).2 rfl
    show (if i=(t i).toNat then _ else (if i=i then _ else _))=_
    rw[if_neg hne,if_pos rfl]
  · rw[if_neg c];show (if i=i then _ else _)=_;rw[if_pos rfl]
 have at_x:∀ x,x≠i→AH t f i x=if t i=(x:Int) then f x-1 else f x:=fun x hx=>by
  unfold AH
  by_cases c:0≤t i
  · rw[if_pos c]
    show (if x=(t i).toNat then (if (t i).toNat=i then _ else f (t i).toNat)-1 else (if x=i then _ else f x))=_
    by_cases e:x=(t i).toNat
    · rw[if_pos e,← e,if_neg hx,if_pos (by omega)]
    · rw[if_neg e,if_neg hx,if_neg (by omega)]
  · rw[if_neg c,if_neg (by omega)]
    show (if x=i then _ else f x)=_
    rw[if_neg hx]
 refine ⟨⟨?_,?_,?_,?_⟩,at_i,fun x hx e=>?_⟩
 rotate_left 4
 · have hne:x≠i:=fun c=>by subst c;omega
   rw[at_x x hne]
   by_cases c:t i=(x:Int)
   · have:=h.off x hx (hti x hx c).1
     omega
   · rw[if_neg c];exact e
 · rw[gR (p:=tk) (i:=i) h1 (by simp) (fun j _ hj=>by simp[hj]) hi,h.cnt]
 · intro x hx e
   by_cases c:x=i
   · subst c;exact ⟨at_i,by simp⟩
   · simp only[c,if_false] at e ⊢
     obtain ⟨g1,g2⟩:=h.on x hx e
     rw[at_x x c,if_neg (fun e2=>by have:=(hti x hx e2).1;rw[e] at this;cases this)]
     exact ⟨g1,by omega⟩
 · intro x hx e
   by_cases c:x=i
   · subst c;simp at e
   · simp only[c,if_false] at e
     rw[at_x x c,h.off x hx e]
     by_cases e2:t i=(x:Int)
     · rw[if_pos e2]
       have:=gR (p:=fun j=>!(if j=i then true else tk j) && decide (t j=(x:Int))) (q:=fun j=>!tk j && decide (t j=(x:Int))) (i:=i) (n:=l) (by simp) (by simp[h1,e2]) (fun j _ hj=>by simp[hj]) hi
       rw[this];omega
     · rw[if_neg e2]
       congr 1
       refine ey (fun j hj=>?_)
       by_cases c2:j=i
       · subst c2;simp[e2]
       · simp[c2]
 · intro x j hx hj e ej
   by_cases c:x=i
   · subst c
     have:=h2 j hj ej
     have hne:j≠x:=fun c2=>by subst c2;rw[h1] at this;cases this
     simp only[hne,if_false,if_true,this,true_and]
     exact (h.on j hj this).2
   · simp only[c,if_false] at e
     obtain ⟨g1,g2⟩:=h.pre x j hx hj e ej
     have hne:j≠i:=fun c2=>by subst c2;rw[h1] at g1;cases g1
     simp only[hne,c,if_false]
     exact ⟨g1,g2⟩
theorem rA.le {l:Nat} {t f:Nat→Int} {a:Nat} {tk:Nat→Bool} {tm:Nat→Nat} (h:rA l t f a tk tm):a≤l:=by
 rw[← h.cnt];exact oD _ _
def iL (l:Nat) (t:Nat→Int):Bool:=bX (fun i=>decide (0≤bK t l (i:Int))) l
theorem Gd {l:Nat} {t f:Nat→Int} {tk:Nat→Bool} {tm:Nat→Nat} (h:rA l t f l tk tm) (ht:∀ j,j<l→t j<l):iL l t=false:=by
 have all:=G9 h.cnt
 refine jc (fun i hi=>?_)
 have key:∀ m,0≤bK t m (i:Int)→(bK t m (i:Int)).toNat<l∧m≤tm (bK t m (i:Int)).toNat:=by
  intro m
  induction m with
  | zero=>intro _;exact ⟨by show ((i:Int)).toNat<l;omega,Nat.zero_le _⟩
  | succ m ih =>
    intro hp
    have e:bK t (m+1) (i:Int)=if 0≤bK t m (i:Int) then t (bK t m (i:Int)).toNat else bK t m (i:Int):=rfl
    by_cases c:0≤bK t m (i:Int)
    · rw[if_pos c] at e
      obtain ⟨g1,g2⟩:=ih c
      rw[e] at hp ⊢
      have g3:=ht _ g1
      obtain ⟨_,g4⟩:=h.pre (t (bK t m (i:Int)).toNat).toNat _ (by omega) g1 (all _ (by omega)) (by omega)
      exact ⟨by omega,by omega⟩
    · rw[if_neg c] at e;rw[e] at hp;exact absurd hp c
 refine decide_eq_false (fun hc=>?_)
 obtain ⟨g1,g2⟩:=key l hc
 have:=(h.on _ g1 (all _ g1)).2
 omega
theorem D4 {l:Nat} {t f:Nat→Int} {a:Nat} {tk:Nat→Bool} {tm:Nat→Nat} (h:rA l t f a tk tm) (ha:a<l) (hf:∀ i,i<l→f i≠0):iL l t=true:=by
 obtain ⟨i0,hi0,e0⟩:=Ha (p:=tk) (n:=l) (by rw[h.cnt];exact ha)
 have key:∀ m,∃ x,x<l∧tk x=false∧0≤bK t m (x:Int):=by
  intro m
  induction m with
  | zero=>exact ⟨i0,hi0,e0,by show (0:Int)≤(i0:Int);omega⟩
  | succ m ih =>
    obtain ⟨x,hx,e,hs⟩:=ih
    have h1:=h.off x hx e
    have h2:=hf x hx
    obtain ⟨j,hj,e2⟩:=pT (p:=fun j=>!tk j && decide (t j=(x:Int))) (n:=l) (by omega)
    simp only[Bool.and_eq_true,Bool.not_eq_true',decide_eq_true_eq] at e2
    refine ⟨j,hj,e2.1,?_⟩
    rw[IA m _ (by omega),Int.toNat_natCast,e2.2]
    exact hs
 obtain ⟨x,hx,_,hs⟩:=key l
 exact (dp _ _).2 ⟨x,hx,decide_eq_true hs⟩
end Go.Eng
end
section
namespace Go.Eng
open Go.Proofs
noncomputable def yE (l:Nat) (t:Nat→Int) (j:Int):ar:=[(3,.ptr 0 1 0 0),(14,bU l t false),(15,.int .i64 (Int.ofNat l)),(16,.int .i64 j)]
noncomputable def w8 (l:Nat) (t:Nat→Int) (k:Nat) (d g:Nat→Int):aX:=⟨false,[(0,.row (.G [bU l t false,bU k d false])),(0,.row (.M [.one (bU l t false),.one (bU k d false),.arr .i64 g 30]))]⟩
noncomputable def eN (s:Nat) (l:Nat) (t:Nat→Int) (k:Nat) (d g:Nat→Int):AV:=.ptrT (some s) (.M [.one (bU l t false),.one (bU k d false),.arr .i64 g 30]) 0
theorem t57 (n l k:Nat) (t d g:Nat→Int) (H:aa) (j:Int):aJ (bo n 57 34) (il aB n 0) aG aH (part Try.f57 [1,1,1,0,1,0,0]) (hints (yE l t j)) (w8 l t k d g::H) =
 (fun (Z0:aX)=>((fun (Z1:aO)=>Tr.ite (bT j (Int.ofNat l)) (Tr.req (b8 j l) (Tr.req (bV (an 0 j 1) l) (Tr.ite (lU (Int.ofNat 0) (t (an 0 j 1))) (Tr.req (b8 (t (an 0 j 1)) 30) (Tr.req (b6 0 0) (Tr.req (ga (an 2 (t (an 0 j 1)) 1) 1 2 30) (Tr.req (b8 (t (an 0 j 1)) 30) (Tr.req (b6 0 0) (Tr.req (ga (an 2 (t (an 0 j 1)) 1) 1 2 30) (Tr.req (jZ (gH 0 0) (gH 0 1)) (Tr.ok (Ex.normal,Z1,{ lock:=false,bs:=[(0,ai.row (Row.G [AV.slcT none (Row.M [ah.arr .i64 t l]) 1 l false,AV.slcT none (Row.M [ah.arr .i64 d k]) 1 k false])),(0,ai.row (Row.M [ah.one (AV.slcT none (Row.M [ah.arr .i64 t l]) 1 l false),ah.one (AV.slcT none (Row.M [ah.arr .i64 d k]) 1 k false),ah.arr .i64 (fT g (ub (an 2 (t (an 0 j 1)) 1) 2) (bu .i64 (g (ub (an 2 (t (an 0 j 1)) 1) 2)) (Int.ofNat 1))) 30]))] } :: H))))))))) (Tr.ok (Ex.normal,Z1,Z0::H))))) (Tr.ok (Ex.exit 0,[(3,AV.ptr 0 1 0 0,none),(14,AV.slcT none (Row.M [ah.arr .i64 t l]) 1 l false,none),(15,AV.int .i64 (Int.ofNat l),none),(16,AV.int .i64 j,none),(17,AV.bool false,some 1)],Z0::H))) [(3,AV.ptr 0 1 0 0,none),(14,AV.slcT none (Row.M [ah.arr .i64 t l]) 1 l false,none),(15,AV.int .i64 (Int.ofNat l),none),(16,AV.int .i64 (bu .i64 j (Int.ofNat 1)),none)])) { lock:=false,bs:=[(0,ai.row (Row.G [AV.slcT none (Row.M [ah.arr .i64 t l]) 1 l false,AV.slcT none (Row.M [ah.arr .i64 d k]) 1 k false])),(0,ai.row (Row.M [ah.one (AV.slcT none (Row.M [ah.arr .i64 t l]) 1 l false),ah.one (AV.slcT none (Row.M [ah.arr .i64 d k]) 1 k false),ah.arr .i64 g 30]))] }:=by kernel_rfl
theorem UI (n l k:Nat) (t d g:Nat→Int) (H:aa):aT Try.prog (cd n) 100000 57 Try.f57 (KtL.kt 57) (il aB n 0) (bG aG 0 (yE l t 0) (w8 l t k d (fun _=>Int.ofNat 0)::H) (.ok (.normal,hints (yE l t (Int.ofNat l)++[(17,.bool false)]),w8 l t k d g::H))) aH [(bw l t k d,none)] H =
 (fun (Z0:aX)=>((fun (Z1:ar)=>Tr.req (bV 0 30) (Tr.req (b6 0 0) (Tr.reqP (Z1=Z1∧Z0::H=Z0::H) (Tr.ok ((AV.ptrT (some 0) (Row.M [ah.one (AV.slcT none (Row.M [ah.arr .i64 t l]) 1 l false),ah.one (AV.slcT none (Row.M [ah.arr .i64 d k]) 1 k false),ah.arr .i64 g 30]) 0,none),H))))) [(3,AV.ptr 0 1 0 0),(14,AV.slcT none (Row.M [ah.arr .i64 t l]) 1 l false),(15,AV.int .i64 (Int.ofNat l)),(16,AV.int .i64 (Int.ofNat 0))])) { lock:=false,bs:=[(0,ai.row (Row.G [AV.slcT none (Row.M [ah.arr .i64 t l]) 1 l false,AV.slcT none (Row.M [ah.arr .i64 d k]) 1 k false])),(0,ai.row (Row.M [ah.one (AV.slcT none (Row.M [ah.arr .i64 t l]) 1 l false),ah.one (AV.slcT none (Row.M [ah.arr .i64 d k]) 1 k false),ah.arr .i64 (fun x=>Int.ofNat 0) 30]))] }:=by kernel_rfl
theorem RF:∀ b,(0,b) ∈ aF (bh Try.f57)→b=.loop (part Try.f57 [1,1,1,0,1,0,0]):=dw (by kernel_rfl)
noncomputable def cZ (t:Nat→Int):Nat→Nat→Int
 | 0=>fun _=>0
 | j+1=>if 0≤t j then fT (cZ t j) (t j).toNat (cZ t j (t j).toNat+1) else cZ t j
theorem Cn (t:Nat→Int):∀ (j:Nat) (i:Nat),cZ t j i=(cn (fun x=>decide (t x=(i:Int))) j:Nat)
 | 0,i=>rfl
 | j + 1,i=>by
   have ih:=Cn t j i
   show (if 0≤t j then fT (cZ t j) (t j).toNat (cZ t j (t j).toNat+1) else cZ t j) i=((cn (fun x=>decide (t x=(i:Int))) j+(decide (t j=(i:Int))).toNat:Nat):Int)
   by_cases c:0≤t j
   · rw[if_pos c,ib]
     show (if i=(t j).toNat then _ else _)=_
     by_cases e:i=(t j).toNat
     · rw[if_pos e,← e,ih,decide_eq_true (show t j=(i:Int) by omega)]
       simp
     · rw[if_neg e,ih,decide_eq_false (show ¬ t j=(i:Int) by omega)]
       simp
   · rw[if_neg c,ih,decide_eq_false (show ¬ t j=(i:Int) by omega)]
     simp
section
variable (n l k:Nat) (t d:Nat→Int) (H:aa)
theorem T3 (hl:l≤30) (ht:∀ j,j<l→t j<l):exec (bo n 57 34) (.block 0 (.loop (part Try.f57 [1,1,1,0,1,0,0]))) (yE l t 0) (w8 l t k d (fun _=>Int.ofNat 0)::H)=some (.normal,yE l t (Int.ofNat l)++[(17,.bool false)],w8 l t k d (cZ t l)::H):=by
 refine iM 0 (fun j=>yE l t (j:Int)) (fun j=>w8 l t k d (cZ t j)::H) l (yE l t (Int.ofNat l)++[(17,.bool false)],w8 l t k d (cZ t l)::H) (by omega) (fun j hj=>?_) ?_
 · have htj:=ht j hj
   have hld:cZ t (j+1)=if 0≤t j then fT (cZ t j) (t j).toNat (cZ t j (t j).toNat+1) else cZ t j:=rfl
   refine aC (t57 n l k t d (cZ t j) H (j:Int)) (al n) (af _ _) (ag _ _) ?_
   rw[cK (by omega),gK]
   show Tr.all _ (fun x=>_∧tidy _ _ _=(_,w8 l t k d (cZ t (j+1))::H))
   rw[hld]
   by_cases c:0≤t j
   · have hg:=Cn t j (t j).toNat
     have hb:=oD (fun x=>decide (t x=(((t j).toNat:Nat):Int))) j
     have es:ub (an 2 (t j) 1) 2=(t j).toNat:=by rw[kX,ly];omega
     have ea:bu .i64 (cZ t j (t j).toNat) (Int.ofNat 1)=cZ t j (t j).toNat+1:=by
      rw[show Int.ofNat 1=1 from rfl];exact Ev (by omega) (by omega)
     rw[if_pos c,es,ea]
     generalize fT (cZ t j) (t j).toNat (cZ t j (t j).toNat+1)=T
     generalize t j=q at *
     exact wF
   · rw[if_neg c]
     generalize t j=q at *
     exact wF
 · obtain ⟨x,h1,rfl⟩:=aC (Q:=fun x=>x=(.exit 0,yE l t (Int.ofNat l)++[(17,.bool false)],w8 l t k d (cZ t l)::H)) (t57 n l k t d (cZ t l) H (Int.ofNat l)) (al n) (af _ _) (ag _ _) (by
    refine Tr.bk (fun hc=>?_) (fun hc=>Tr.bc rfl)
    simp (disch:=omega) only[nV,nW] at hc;omega)
   exact h1
theorem Rh (hl:l≤30) (ht:∀ j,j<l→t j<l):cd (n+1) (.fn 57) [bw l t k d] H=some (eN 0 l t k d (cZ t l),H):=by
 have hx:=T3 n l k t d H hl ht
 refine aE (n:=n) Try.func57 rfl rfl rfl (UI n l k t d (cZ t l) H) (al _) (ay (af _ _) RF (fun x hy=>bI hy hx)) (ag _ _) ?_
 generalize cZ t l=g at *
 exact wF
end
end Go.Eng
end
