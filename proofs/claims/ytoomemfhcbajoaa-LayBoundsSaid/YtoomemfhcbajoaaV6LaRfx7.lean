/- Lay: pick, as a function with a range over a map. -/
import Derived.Test.YtoomemfhcbajoaaV6EngRnFx5
import Derived.Test.YtoomemfhcbajoaaV6EngKtL
import Derived.Test.YtoomemfhcbajoaaProg
import Derived.KernelRfl
import Derived.Test.YtoomemfhcbajoaaV6EngThx4
import Derived.Test.YtoomemfhcbajoaaV6EngRnLx7
set_option maxRecDepth 100000
set_option linter.unusedVariables false
set_option linter.unusedSimpArgs false
section
namespace Go.Eng.Rf
open Go.Eng Go.Proofs
def cR:List Nat→Code→Code
 | [],c=>c
 | x :: p,c=>match c with
   | .seq a b=>match x with
     | 0=>cR p a
     | _=>cR p b
   | .cond _ a b=>match x with
     | 0=>cR p a
     | _=>cR p b
   | .block _ b=>cR p b
   | .loop b=>cR p b
   | .scope b=>cR p b
   | .rangeFunc _ _ a b=>match x with
     | 0=>cR p a
     | _=>cR p b
   | c=>c
def lD:Code→Array Oper
 | .region _ ops _=>ops
 | _=>#[]
noncomputable def eR:Code:=Try.f90.body.getD .skip
def Ky (l:List Oper):Oper:=l.headD { dst:=none,op:=.move (.tmp 0),type:=0,pos := "",after:=#[],guard:=none }
noncomputable def da:cN:={ id0:=3,ops0:=lD (cR [1,1,1,0,0] eR),pre:=(lD (cR [1,1,1,0,0] eR)).toList.take 1,ro:=Ky ((lD (cR [1,1,1,0,0] eR)).toList.drop 1),m:=9,ty:=95 }
noncomputable def bD:bu:={ out:=0,iS:=4,id2:=5,nxt:=1,ops1:=lD (cR [1,1,1,0,1,0,0,0] eR),ops2:=lD (cR [1,1,1,0,1,0,0,1,1,0,0] eR),no:=Ky (lD (cR [1,1,1,0,1,0,0,0] eR)).toList,eo:=Ky (lD (cR [1,1,1,0,1,0,0,1,1,0,0] eR)).toList,t1:=(lD (cR [1,1,1,0,1,0,0,0] eR)).toList.tail,t2:=(lD (cR [1,1,1,0,1,0,0,1,1,0,0] eR)).toList.tail,it:=10,nx:=11,mo:=12,en:=13,rest:=cR [1,1,1,0,1,0,0,1,1,0,1] eR,km:=16775424 }
noncomputable def pick:oD:={ f:=90,pre:=[cR [0] eR,cR [1,0] eR,cR [1,1,0] eR],S:=da,L:=bD,suf:=cR [1,1,1,1] eR }
theorem Bz:Try.f90.body=some (assemble pick.pre (da.code bD) pick.suf):=by kernel_rfl
theorem xD:da.ops0.toList=da.pre++[da.ro]:=by kernel_rfl
theorem xG:da.ro.op=.range da.ty (.tmp da.m):=by kernel_rfl
theorem xx:da.ro.dst=some bD.it:=by kernel_rfl
theorem xA:da.ro.guard=none:=by kernel_rfl
theorem xE:bD.ops1.toList=bD.no::bD.t1:=by kernel_rfl
theorem xH:bD.no.op=.next (.tmp bD.it) false:=by kernel_rfl
theorem xy:bD.no.dst=some bD.nx:=by kernel_rfl
theorem xB:bD.no.guard=none:=by kernel_rfl
theorem xF:bD.ops2.toList=bD.eo::bD.t2:=by kernel_rfl
theorem xI:bD.eo.op=.entry (.tmp bD.it):=by kernel_rfl
theorem xz:bD.eo.dst=some bD.en:=by kernel_rfl
theorem xC:bD.eo.guard=none:=by kernel_rfl
theorem xJ:pick.Ok Try.prog:=⟨⟨Try.f90,Try.func90,Bz⟩,⟨xD,xG,xx,xA,⟨_,_,Try.underlying95⟩⟩,⟨xE,xH,xy,xB,xF,xI,xz,xC⟩⟩
end Go.Eng.Rf
end
section
namespace Go.Eng
open Go.Proofs Go.ChangeShapes

noncomputable def Oy (n len:Nat) (z:Nat→Int):AV:=.slcT none (.M [.arr .i64 z (jr len n)]) n len false
noncomputable def lF:aW→FuncId→List AV→aa→Option (AV×aa):=fun call f args H=>cond (Nat.beq f 54) (nG Try.prog KtL.kt 100000 54 call args H) (cond (Nat.beq f 95) (nG Try.prog KtL.kt 100000 95 call args H) (cond (Nat.beq f 90) (tT Try.prog KtL.kt 100000 Rf.pick call args H) (Iz [⟨16,[],.bool true⟩] call f args H)))
def LJ (f:FuncId):Bool:=Nat.beq f 16 || Nat.beq f 1000000 || Nat.beq f 54 || Nat.beq f 95 || Nat.beq f 90
noncomputable def cd (n:Nat):aW:=cU Try.prog lF KtL.kt 100000 n
noncomputable def il (tab:nw) (n k:Nat):bJ:=D0 Try.prog lF KtL.kt 100000 LJ tab n k
noncomputable def bn (n:Nat) (f nt:Nat):Cx:=⟨Try.prog,cd n,100000,f,nt,KtL.kt f,none⟩

def Hj:List Nat→Code→Code
 | [],c=>c
 | x :: p,c=>match c with
   | .seq a b=>match x with
     | 0=>Hj p a
     | _=>Hj p b
   | .cond _ a b=>match x with
     | 0=>Hj p a
     | _=>Hj p b
   | .block _ b=>Hj p b
   | .loop b=>Hj p b
   | .scope b=>Hj p b
   | .rangeFunc _ _ a b=>match x with
     | 0=>Hj p a
     | _=>Hj p b
   | c=>c
noncomputable def part (f:Func) (p:List Nat):Code:=Hj p (bj f)
theorem Gq (g:FuncId) (h:LJ g=false) (c:aW) (args:List AV) (H:aa):lF c g args H=none:=by
 unfold LJ at h
 rw[Bool.or_eq_false_iff,Bool.or_eq_false_iff,Bool.or_eq_false_iff,Bool.or_eq_false_iff] at h
 obtain ⟨⟨⟨⟨h0,h1⟩,h2⟩,h3⟩,h4⟩:=h
 unfold lF Iz
 rw[h2,h3,h4,h1,cond_false,cond_false,cond_false,cond_false]
 simp only[By]
 have:Nat.beq 16 g=false:=by
  cases hb:Nat.beq 16 g with
  | false=>rfl
  | true=>have:=Nat.eq_of_beq_eq_true hb;subst this;simp at h0
 rw[this];rfl
theorem wi (n:Nat):∃ x,cU Try.prog lF KtL.kt 100000 n .mode [] []=some x:=by
 cases n<;>exact ⟨_,rfl⟩
theorem Iw (hN:df Try.prog) (hD:kM Try.prog) (hW:bz Try.prog ⟨16,[],.bool true⟩):vo Try.prog lF :=
 fun call hC f args H v H' h hne p M w cargs hH hA=>by
  unfold lF at h
  cases hb:Nat.beq f 54 with
  | true =>
    rw[hb,cond_true] at h
    have:=Nat.eq_of_beq_eq_true hb
    subst this
    exact tJ hN hD KtL.kt 100000 hC h hH hA
  | false =>
    rw[hb,cond_false] at h
    cases hb2:Nat.beq f 95 with
    | true =>
      rw[hb2,cond_true] at h
      have:=Nat.eq_of_beq_eq_true hb2
      subst this
      exact tJ hN hD KtL.kt 100000 hC h hH hA
    | false =>
      rw[hb2,cond_false] at h
      cases hb3:Nat.beq f 90 with
      | true =>
        rw[hb3,cond_true] at h
        have:=Nat.eq_of_beq_eq_true hb3
        subst this
        exact Ei hN hD Rf.xJ KtL.kt 100000 hC h hH hA
      | false =>
        rw[hb3,cond_false] at h
        exact IA _ (fun e he=>by
         simp only[List.mem_singleton] at he
         subst he
         exact hW) call hC f args H v H' h hne p M w cargs hH hA
theorem za (tab:nw) (n k:Nat) (ht:∀ k,tab.Ok (cd (n+k))):(il tab n k).Ok (cd (n+k)):=Cq _ _ _ _ _ _ _ Gq (fun k=>wi _) ht k
theorem ku (n k:Nat):(il aE n k).Ok (cd (n+k)):=za _ _ _ (fun k=>aF _)
theorem ao (n:Nat):(il aE n 0).Ok (cd n):=ku n 0
theorem My {f:FuncId} {fn:Func} {n:Nat} (hf:Try.prog.funcs[f]?=some fn) (hb:fn.body.isSome=true) (hn:LJ f=false) {args:List HV} (hle:Nat.ble args.length fn.ntmps=true) {H:aa} {callR:bJ} (hC:callR.Ok (cd n)) {bl:ik} (hB:bl.Ok (bn n f fn.ntmps) (bj fn)) {rg:sl} (hR:rg.Ok (bn n f fn.ntmps) (bj fn)) {y:HV×aa}
 (h:(aX Try.prog (cd n) 100000 f fn (KtL.kt f) callR bl rg args H).run=some y):cd (n+1) (.fn f) (p6 args) H=some (y.1.1,y.2) :=
 sv hf hb (Gq f hn _ _ _) hle hC hB hR h
theorem Mx {f:FuncId} {fn:Func} {n:Nat} (hf:Try.prog.funcs[f]?=some fn) (hb:fn.body.isSome=true) (hn:LJ f=false) {args:List HV} (hle:Nat.ble args.length fn.ntmps=true) {H:aa} {callR:bJ} {bl:ik} {rg:sl} {T:Tr (HV×aa)}
 (e:aX Try.prog (cd n) 100000 f fn (KtL.kt f) callR bl rg args H=T) (hC:callR.Ok (cd n)) (hB:bl.Ok (bn n f fn.ntmps) (bj fn)) (hR:rg.Ok (bn n f fn.ntmps) (bj fn)) {y:HV×aa} (hr:T.run=some y):cd (n+1) (.fn f) (p6 args) H=some (y.1.1,y.2) :=
 My hf hb hn hle hC hB hR (by rw[e];exact hr)
theorem Mv {n f nt:Nat} {c:Code} {callR:bJ} (hC:callR.Ok (cd n)) {bl:ik} (hB:bl.Ok (bn n f nt) c) {rg:sl} (hR:rg.Ok (bn n f nt) c) {fr:aq} {H:aa} {x:oE} (h:(aJ (bn n f nt) callR bl rg c (hints fr) H).run=some x):exec (bn n f nt) c fr H=some x.st:=by
 have:=oX hC c hB hR _ _ _ h
 rw[iy] at this
 exact this

def nK (bl:ik) (id0:Nat):ik:=fun id fr H=>cond (Nat.beq id id0) (some .bad) (bl id fr H)
theorem fc {bl:ik} {cx:Cx} {c:Code} (h:bl.Ok cx c) (id0:Nat):(nK bl id0).Ok cx c:=by
 intro id b hm fr H t y ht hy
 unfold nK at ht
 cases hb:Nat.beq id id0 with
 | true =>
   rw[hb,cond_true,Option.some.injEq] at ht
   subst ht
   exact (Tr.ae hy).elim
 | false =>
   rw[hb,cond_false] at ht
   exact h id b hm fr H t y ht hy
theorem Mt {n f nt:Nat} {c:Code} {callR:bJ} {bl:ik} {rg:sl} {fr:aq} {H:aa} {T:Tr oE} (e:aJ (bn n f nt) callR bl rg c (hints fr) H=T) (hC:callR.Ok (cd n)) (hB:bl.Ok (bn n f nt) c) (hR:rg.Ok (bn n f nt) c) {x:oE} (hr:T.run=some x):exec (bn n f nt) c fr H=some x.st :=
 Mv hC hB hR (by rw[e];exact hr)
section
variable {n f nt:Nat} {c:Code} {callR:bJ} {bl:ik} {rg:sl}
end
def bV (p:Nat→Bool) (N:Nat):Bool:=decide (fN p N 0<N)
theorem je {p:Nat→Bool} {N:Nat} (h:bV p N=true):fN p N 0<N:=by simpa[bV] using h
theorem qd {p:Nat→Bool} {N:Nat} (h:bV p N=false):fN p N 0=N:=by
 have h1:=(kZ p N 0).2.1
 have:¬ fN p N 0<N:=by simpa[bV] using h
 omega
theorem dm (p:Nat→Bool) (N:Nat):bV p N=true↔∃ i,i<N∧p i=true:=by
 obtain ⟨h1,h2,h3,h4⟩:=kZ p N 0
 constructor
 · intro h
   have:=je h
   exact ⟨_,this,h4 (by omega)⟩
 · rintro ⟨i,hi,hp⟩
   unfold bV
   rw[decide_eq_true_eq]
   apply Nat.lt_of_not_le
   intro hc
   have:=h3 i (by omega) (by omega)
   rw[this] at hp;cases hp
end Go.Eng
end
section
namespace Go.Eng
open Go.Proofs
theorem aD {f:FuncId} {fn:Func} {n:Nat} (hf:Try.prog.funcs[f]?=some fn) (hb:fn.body.isSome=true) (hn:LJ f=false) {args:List HV} (hle:Nat.ble args.length fn.ntmps=true) {H:aa} {callR:bJ} {bl:ik} {rg:sl} {T:Tr (HV×aa)}
 (e:aX Try.prog (cd n) 100000 f fn (KtL.kt f) callR bl rg args H=T) (hC:callR.Ok (cd n)) (hB:bl.Ok (bn n f fn.ntmps) (bj fn)) (hR:rg.Ok (bn n f fn.ntmps) (bj fn)) {v:AV} {H':aa} (h:T.all fun y=>y.1.1=v∧y.2=H'):cd (n+1) (.fn f) (p6 args) H=some (v,H'):=by
 obtain ⟨y,h1,h2,h3⟩:=h
 have:=Mx hf hb hn hle e hC hB hR h1
 rw[this,h2,h3]
theorem aB {n f nt:Nat} {c:Code} {callR:bJ} {bl:ik} {rg:sl} {fr:aq} {H:aa} {T:Tr oE} (e:aJ (bn n f nt) callR bl rg c (hints fr) H=T) (hC:callR.Ok (cd n)) (hB:bl.Ok (bn n f nt) c) (hR:rg.Ok (bn n f nt) c) {Q:Ex×aq×aa→Prop} (h:T.all fun x=>Q x.st):∃ x,exec (bn n f nt) c fr H=some x∧Q x:=by
 obtain ⟨x,h1,h2⟩:=h
 exact ⟨_,Mt e hC hB hR h1,h2⟩
section
variable {n f nt:Nat} {c:Code} {callR:bJ} {bl:ik} {rg:sl}
theorem Gb (id:Nat) (I:Nat→aq→aa→Prop) (Q:aq×aa→Prop) (N:Nat) (hN:N<99999) {fr0:aq} {H0:aa} (h0:I 0 fr0 H0)
 (hr:∀ j fr H,I j fr H→∃ x,exec (bn n f nt) c fr H=some x∧((x.1=.normal∧j<N∧I (j+1) (tidy (al H0) x.2.1 x.2.2).1 (tidy (al H0) x.2.1 x.2.2).2)∨(x.1=.exit id∧Q x.2))) :
 ∃ y,exec (bn n f nt) (.block id (.loop c)) fr0 H0=some (.normal,y)∧Q y:=by
 obtain ⟨x,h1,h2⟩:=te (body:=exec (bn n f nt) c) (n:=al H0) I (fun x=>x.1=.exit id∧Q x.2) N (fun j fr H h=>by
  obtain ⟨x,h1,h2⟩:=hr j fr H h
  obtain ⟨e,f1,g1⟩:=x
  refine ⟨e,f1,g1,h1,?_⟩
  rcases h2 with h2 | ⟨h2,h3⟩
  · exact .inl h2
  · exact .inr ⟨by dsimp only at h2;rw[h2];simp,h2,h3⟩) 100000 0 fr0 H0 h0 (by omega)
 obtain ⟨e,f1,g1⟩:=x
 obtain ⟨h2,h3⟩:=h2
 dsimp only at h2 h3
 subst h2
 exact ⟨(f1,g1),ey h1,h3⟩
theorem iv (id:Nat) (F:Nat→aq) (G:Nat→aa) (N:Nat) (p:Nat→Bool) (X:Nat→aq×aa) (Y:aq×aa) (hN:N<99999)
 (hs:∀ j,j<N→∃ x,exec (bn n f nt) c (F j) (G j)=some x∧if p j=true then x=(.ret,X j) else x.1=.normal∧tidy (al (G 0)) x.2.1 x.2.2=(F (j+1),G (j+1)))
 (he:exec (bn n f nt) c (F N) (G N)=some (.exit id,Y)):exec (bn n f nt) (.block id (.loop c)) (F 0) (G 0)=some (cond (bV p N) (.ret,X (fN p N 0)) (.normal,Y)):=by
 have key:=m5 (body:=exec (bn n f nt) c) (n:=al (G 0)) F G N p (fun j=>if j<N then (.ret,X j) else (.exit id,Y))
  (fun j hj hp=>by
    obtain ⟨x,h1,h2⟩:=hs j hj
    rw[if_neg (by rw[hp];simp)] at h2
    obtain ⟨e,f1,g1⟩:=x
    obtain ⟨rfl,h3⟩:=h2
    exact ⟨_,_,h1,h3⟩)
  (fun j hj hp=>by
    obtain ⟨x,h1,h2⟩:=hs j hj
    rw[if_pos hp] at h2
    subst h2
    rw[if_pos hj]
    exact ⟨h1,by simp⟩)
  (by
    rw[if_neg (by omega)]
    exact ⟨he,by simp⟩) N 0 100000 (by omega) (by omega)
 cases hc:bV p N with
 | true =>
   have:=je hc
   rw[if_pos this] at key
   exact eH (fun id' h=>by cases h) key
 | false =>
   have:=qd hc
   rw[if_neg (by omega)] at key
   exact ey key
end
theorem jf {n f nt:Nat} {c:Code} (id:Nat) (F:Nat→aq) (G:Nat→aa) (N:Nat) (Y:aq×aa) (hN:N<99999)
 (hs:∀ j,j<N→∃ x,exec (bn n f nt) c (F j) (G j)=some x∧(x.1=.normal∧tidy (al (G 0)) x.2.1 x.2.2=(F (j+1),G (j+1))))
 (he:exec (bn n f nt) c (F N) (G N)=some (.exit id,Y)):exec (bn n f nt) (.block id (.loop c)) (F 0) (G 0)=some (.normal,Y):=by
 have:=iv id F G N (fun _=>false) (fun _=>Y) Y hN (fun j hj=>by
  obtain ⟨x,h1,h2⟩:=hs j hj
  exact ⟨x,h1,by rw[if_neg (by simp)];exact h2⟩) he
 have h0:bV (fun _=>false) N=false:=by
  cases h:bV (fun _=>false) N with
  | false=>rfl
  | true=>obtain ⟨i,_,h2⟩:=(dm _ _).1 h;cases h2
 rw[h0] at this
 exact this
end Go.Eng
end
section
namespace Go.Eng
open Go.Proofs
noncomputable def av:aT:=⟨false,[]⟩
noncomputable def b6 (k:Nat) (b:Nat→Int) (full:Bool):AV:=.slcT none (.M [.arr .i64 b k]) 1 k full
noncomputable def vc (v k:Nat) (y:Nat→Int):aT:=⟨false,[(v,.row (.M [.arr .i64 y k]))]⟩
theorem aO (tab:nw) (n:Nat) (ht:tab.Ok (cd n)):(il tab n 0).Ok (cd n) :=
 ⟨wi _,fun tgt args H x h=>by
   unfold il D0 at h
   split at h
   · split at h
     · rename_i c hc
       exact ht _ _ hc _ _ _ h
     · exact (Tr.ae h).elim
   · exact (Tr.ae h).elim⟩
theorem dk {cx:Cx} {id:Nat} {B:Code} {fr:aq} {H:aa} {e:Bool} {X Y x:oE} (h:(Tr.ite e (Tr.ok X) (Tr.ok Y)).run=some x) (hx:exec cx (.block id B) fr H=some (cond e X.st Y.st)):exec cx (.block id B) fr H=some x.st:=by
 rw[hx]
 rcases Tr.eY h with ⟨hc,h⟩ | ⟨hc,h⟩
 · rw[hc,← Tr.ab h];rfl
 · rw[hc,← Tr.ab h];rfl
theorem bN {cx:Cx} {id:Nat} {B:Code} {fr:aq} {H:aa} {X x:oE} (h:(Tr.ok X).run=some x) (hx:exec cx (.block id B) fr H=some X.st):exec cx (.block id B) fr H=some x.st:=by
 rw[hx,← Tr.ab h]
theorem c7 {j:Nat} (h:j<2 ^ 31):bA .i64 (j:Int) (Int.ofNat 1)=((j+1:Nat):Int):=by rw[jB,show Int.ofNat 1=1 from rfl];exact rM (by omega) (by omega)
theorem iS (j:Nat):au 0 (j:Int) 1=j:=by rw[ln];omega
theorem LH {x:Int} (h:0≤x):au 0 x 1=x.toNat:=by rw[ln];omega
theorem G7 {x:Int} (h0:-9223372036854775808≤x) (h1:x≤9223372036854775807):nn .i64 x=x:=by rw[BQ,rM h0 h1]
theorem EJ {x y:Int} (h0:-9223372036854775808≤x+y) (h1:x+y≤9223372036854775807):bA .i64 x y=x+y:=by rw[jB,rM h0 h1]
theorem qM {x y:Int} (h0:-9223372036854775808≤x-y) (h1:x-y≤9223372036854775807):br .i64 x y=x-y:=by rw[nh,rM h0 h1]
theorem KQ (L:List Int) (j:Nat):ay L j=L.getD j 0:=congrFun (CC L) j
theorem CD (L:List Int) (v:Int):kO (dD (ay L) 0) L.length (ay [v])=ay (L++[v]):=by
 rw[cT,oI,iV];funext i
 by_cases h:i<L.length
 · simp[h,List.getElem?_append]
 · by_cases h2:i=L.length
   · subst h2;simp
   · have e1:[v][i-L.length]?=none:=List.getElem?_eq_none (by simp;omega)
     have e2:(L++[v])[i]?=none:=List.getElem?_eq_none (by simp;omega)
     simp only[h,if_false,List.getD_eq_getElem?_getD,e1,e2]
theorem KR (S:List Int) (j:Nat) (hj:j<S.length):ay S j=S[j]:=by
 rw[KQ,List.getD_eq_getElem?_getD,List.getElem?_eq_getElem hj];rfl
noncomputable def gX (A:List AV) (V:AV):List AV→Option (Prop×AV):=fun x=>some (x=A,V)
noncomputable def tX (t:nw) (f:FuncId) (A:List AV) (V:AV):nw:=wQ t f (gX A V)
theorem bp {c f:Nat} {t:nw} {A:List AV} {V:AV} (ht:t.Ok (cd c)) (h:∀ H,cd c (.fn f) A H=some (V,H)):(tX t f A V).Ok (cd c):=by
 refine mf ht (fun args p v hg hp H=>?_)
 unfold gX at hg
 simp only[nP] at hg
 obtain ⟨rfl,rfl⟩:=hg
 rw[hp];exact h H
noncomputable def tN (t:nw) (f:FuncId):nw:=wQ t f (fun _=>none)
theorem JN {c f:Nat} {t:nw} (ht:t.Ok (cd c)):(tN t f).Ok (cd c):=mf ht (fun args p v hg hp H=>by cases hg)
noncomputable def gC (P:Int→Bool) (Q:Int→List AV→aa→Prop) (args:List AV) (H:aa):Tr (AV×aa) :=
 match args with
 | .int .i64 x::C=>.reqP (Q x C H) (.ok (.bool (P x),H))
 | _=>.bad
noncomputable def RY (f:FuncId) (P:Int→Bool) (Q:Int→List AV→aa→Prop):nw:=gu aE f (gC P Q)
theorem Fy {k:Nat} {f:FuncId} {P:Int→Bool} {Q:Int→List AV→aa→Prop} (h:∀ x C H,Q x C H→cd k (.fn f) (.int .i64 x::C) H=some (.bool (P x),H)):(RY f P Q).Ok (cd k):=by
 refine im (aF _) (fun args H x hx=>?_)
 unfold gC at hx
 split at hx
 · obtain ⟨h1,h2⟩:=Tr.c8 hx
   rw[h _ _ _ h1,← Tr.ab h2]
 · exact (Tr.ae hx).elim
def Cu (p:Nat→Bool) (m:Nat):Int:=if bV p m=true then (fN p m 0:Int) else -1
theorem F3 (p:Nat→Bool) (k:Nat):lV (Int.ofNat 0) (Cu p k)=bV p k:=by
 rw[mC];unfold Cu
 cases h:bV p k with
 | true =>
   rw[if_pos rfl]
   simp only[Int.ofNat_eq_natCast,decide_eq_true_eq];omega
 | false=>rw[if_neg (by decide)];rfl
theorem jT {p:Nat→Bool} {k:Nat} (h:∀ j,j<k→p j=false):bV p k=false:=by
 cases e:bV p k with
 | false=>rfl
 | true =>
   obtain ⟨j,hj,e2⟩:=(dm _ _).1 e
   rw[h j hj] at e2;cases e2
theorem dR {p:Nat→Bool} {k:Nat} (h:bV p k=false):∀ j,j<k→p j=false:=fun j hj=>by
 cases e:p j with
 | false=>rfl
 | true=>rw[(dm _ _).2 ⟨j,hj,e⟩] at h;cases h
theorem ke {p q:Nat→Bool} {k:Nat} (h:∀ j,j<k→p j=q j):bV p k=bV q k:=by
 rw[Bool.eq_iff_iff,dm,dm]
 constructor
 · rintro ⟨j,hj,e⟩;exact ⟨j,hj,by rw[← h j hj];exact e⟩
 · rintro ⟨j,hj,e⟩;exact ⟨j,hj,by rw[h j hj];exact e⟩
theorem MX {n f nt:Nat} {c:Code} (id:Nat) (I:Nat→aq→aa→Prop) (Q:aq×aa→Prop) (N:Nat) (hN:N<99999) {fr0:aq} {H0:aa} (h0:I 0 fr0 H0)
 (hr:∀ j fr H,I j fr H→∃ x,exec (bn n f nt) c fr H=some x∧((x.1=.normal∧j<N∧I (j+1) (tidy (al H0) x.2.1 x.2.2).1 (tidy (al H0) x.2.1 x.2.2).2)∨(x.1=.ret∧Q x.2))) :
 ∃ y,exec (bn n f nt) (.block id (.loop c)) fr0 H0=some (.ret,y)∧Q y:=by
 obtain ⟨x,h1,h2⟩:=te (body:=exec (bn n f nt) c) (n:=al H0) I (fun x=>x.1=.ret∧Q x.2) N (fun j fr H h=>by
  obtain ⟨x,h1,h2⟩:=hr j fr H h
  obtain ⟨e,f1,g1⟩:=x
  refine ⟨e,f1,g1,h1,?_⟩
  rcases h2 with h2 | ⟨h2,h3⟩
  · exact .inl h2
  · exact .inr ⟨by dsimp only at h2;rw[h2];simp,h2,h3⟩) 100000 0 fr0 H0 h0 (by omega)
 obtain ⟨e,f1,g1⟩:=x
 obtain ⟨h2,h3⟩:=h2
 dsimp only at h2 h3
 subst h2
 exact ⟨(f1,g1),eH (fun id' h=>by cases h) h1,h3⟩
def MB:List AV→Option (Prop×AV)
 | []=>some (True,.bool true)
 | _=>none
theorem Sl (n:Nat) (H:aa):cd (n+1) (.fn 16) [] H=some (.bool true,H):=by unfold cd cU;rfl
theorem Mk {c:Nat} {t:nw} (h:0<c) (ht:t.Ok (cd c)):(wQ t 16 MB).Ok (cd c):=by
 obtain ⟨m,rfl⟩:∃ m,c=m+1:=⟨c-1,by omega⟩
 refine mf ht (fun args p v hg hp H=>?_)
 unfold MB at hg
 split at hg
 · simp only[nP] at hg
   obtain ⟨_,rfl⟩:=hg
   exact Sl _ H
 · cases hg
noncomputable def b5 (l:Nat) (t:Nat→Int) (k:Nat) (d:Nat→Int):AV:=.agg (.G [b6 l t false,b6 k d false])
end Go.Eng
end
section
namespace Go.Eng
open Go.Proofs
noncomputable def uH (lo hi:Int):aT:=⟨false,[(0,.row (.I .i64 [lo])),(0,.row (.I .i64 [hi]))]⟩
noncomputable def f83 (d:Nat):AV:=.fn (.func 83) [] [.ptr d 0 0 0,.ptr d 1 0 0]
noncomputable def DW (k:Nat) (b:Nat→Int) (full:Bool) (j:Int):aq:=[(0,b6 k b full),(1,f83 2),(7,.int .i64 (Int.ofNat k)),(8,.int .i64 j)]
theorem Vi (n:Nat) (lo hi:Int) (H:aa) (x:Int):aX Try.prog (cd n) 100000 83 Try.f83 (KtL.kt 83) (il aE n 0) aG aH [(.int .i64 x,none),(.ptr 2 0 0 0,none),(.ptr 2 1 0 0,none)] (av::av::uH lo hi::H) =
 (fun (Z0:aT)=>Tr.ite (bK x lo) (Tr.ok ((AV.bool true,some 1),av::av::Z0::H)) (Tr.ok ((AV.bool (bK hi x),none),av::av::Z0::H))) { lock:=false,bs:=[(0,ai.row (Row.I .i64 [lo])),(0,ai.row (Row.I .i64 [hi]))] }:=by kernel_rfl
theorem t94 (n k:Nat) (b:Nat→Int) (full:Bool) (lo hi:Int) (P:Int→Bool) (Q:Int→List AV→aa→Prop) (H:aa) (j:Int):aJ (bn n 94 19) (il (RY 83 P Q) n 0) aG aH (part Try.f94 [1,0,1,0,0]) (hints (DW k b full j)) (av::av::uH lo hi::H) =
 (fun (Z0:aT)=>Tr.ite (bK j (Int.ofNat k)) (Tr.req (cE j k) (Tr.req (cr (au 0 j 1) k) (Tr.reqP (Q (b (au 0 j 1)) [AV.ptr 2 0 0 0,AV.ptr 2 1 0 0] (av::av::Z0::H)) (Tr.ite (P (b (au 0 j 1))) (Tr.ok (Ex.ret,[(4,AV.int .i64 j,none)],av::av::Z0::H)) (Tr.ok (Ex.normal,[(0,AV.slcT none (Row.M [ah.arr .i64 b k]) 1 k full,none),(1,AV.fn (Fn.func 83) [] [AV.ptr 2 0 0 0,AV.ptr 2 1 0 0],none),(7,AV.int .i64 (Int.ofNat k),none),(8,AV.int .i64 (bA .i64 j (Int.ofNat 1)),none)],av::av::Z0::H)))))) (Tr.ok (Ex.exit 0,[(0,AV.slcT none (Row.M [ah.arr .i64 b k]) 1 k full,none),(1,AV.fn (Fn.func 83) [] [AV.ptr 2 0 0 0,AV.ptr 2 1 0 0],none),(7,AV.int .i64 (Int.ofNat k),none),(8,AV.int .i64 j,none),(9,AV.bool false,some 1)],av::av::Z0::H))) { lock:=false,bs:=[(0,ai.row (Row.I .i64 [lo])),(0,ai.row (Row.I .i64 [hi]))] }:=by kernel_rfl
theorem Vq (n k:Nat) (b:Nat→Int) (full:Bool) (lo hi:Int) (H:aa) (x:Bool) (r:Nat):aX Try.prog (cd n) 100000 94 Try.f94 (KtL.kt 94) (il aE n 0) (bS aG 0 (DW k b full 0) (av::av::uH lo hi::H) (.ite x (.ok (.ret,[(4,.int .i64 (Int.ofNat r),none)],av::av::uH lo hi::H)) (.ok (.normal,hints (DW k b full (Int.ofNat k)++[(9,.bool false)]),av::av::uH lo hi::H)))) aH [(b6 k b full,none),(f83 1,none)] (av::uH lo hi::H) =
 (fun (Z0:aT)=>((fun (Z1:aq)=>Tr.reqP (Z1=Z1∧av::av::Z0::H=av::av::Z0::H) (Tr.ite x (Tr.ok ((AV.int .i64 (Int.ofNat r),none),av::Z0::H)) (Tr.ok ((AV.int .i64 (Int.negSucc 0),some 1),av::Z0::H)))) [(0,AV.slcT none (Row.M [ah.arr .i64 b k]) 1 k full),(1,AV.fn (Fn.func 83) [] [AV.ptr 2 0 0 0,AV.ptr 2 1 0 0]),(7,AV.int .i64 (Int.ofNat k)),(8,AV.int .i64 (Int.ofNat 0))])) { lock:=false,bs:=[(0,ai.row (Row.I .i64 [lo])),(0,ai.row (Row.I .i64 [hi]))] }:=by kernel_rfl
theorem Vh (n k:Nat) (b:Nat→Int) (full:Bool) (lo hi:Int) (H:aa) (r:Int):aX Try.prog (cd n) 100000 82 Try.f82 (KtL.kt 82) (il (uG aE 94 [b6 k b full,f83 1] (av::uH lo hi::H) (.ok (.int .i64 r,av::uH lo hi::H))) n 0) aG aH [(b6 k b full,none),(f83 0,none)] (uH lo hi::H) =
 (fun (Z0:aT)=>((fun (Z1:List AV)=>Tr.reqP (Z1=Z1∧av::Z0::H=av::Z0::H) (Tr.ok ((AV.bool (lV (Int.ofNat 0) r),none),Z0::H))) [AV.slcT none (Row.M [ah.arr .i64 b k]) 1 k full,AV.fn (Fn.func 83) [] [AV.ptr 1 0 0 0,AV.ptr 1 1 0 0]])) { lock:=false,bs:=[(0,ai.row (Row.I .i64 [lo])),(0,ai.row (Row.I .i64 [hi]))] }:=by kernel_rfl
theorem U4 (n k:Nat) (b:Nat→Int) (full:Bool) (lo hi:Int) (H:aa) (e:Bool):aX Try.prog (cd n) 100000 56 Try.f56 (KtL.kt 56) (il (uG aE 82 [b6 k b full,f83 0] (uH lo hi::H) (.ok (.bool e,uH lo hi::H))) n 0) aG aH [(.int .i64 lo,none),(.int .i64 hi,none),(b6 k b full,none)] H =
 (fun (Z0:List AV)=>((fun (Z1:aT)=>Tr.reqP (Z0=Z0∧Z1::H=Z1::H) (Tr.ok ((AV.bool (aP e),none),H))) { lock:=false,bs:=[(0,ai.row (Row.I .i64 [lo])),(0,ai.row (Row.I .i64 [hi]))] })) [AV.slcT none (Row.M [ah.arr .i64 b k]) 1 k full,AV.fn (Fn.func 83) [] [AV.ptr 0 0 0 0,AV.ptr 0 1 0 0]]:=by kernel_rfl
theorem Sg:∀ b,(0,b) ∈ aI (bj Try.f94)→b=.loop (part Try.f94 [1,0,1,0,0]):=ep (by kernel_rfl)
def eJ (lo hi x:Int):Bool:=decide (x<lo) || decide (hi<x)
section
variable (n k:Nat) (b:Nat→Int) (full:Bool) (lo hi:Int) (H:aa)
theorem SE (x:Int):cd (n+1) (.fn 83) [.int .i64 x,.ptr 2 0 0 0,.ptr 2 1 0 0] (av::av::uH lo hi::H)=some (.bool (eJ lo hi x),av::av::uH lo hi::H):=by
 have hp:eJ lo hi x=(decide (x<lo) || decide (hi<x)):=rfl
 rw[hp]
 refine aD (n:=n) Try.func83 rfl rfl rfl (Vi n lo hi H x) (ao n) (af _ _) (ag _ _) ?_
 rw[cY,cY]
 refine Tr.bm (fun hc=>Tr.bf ⟨?_,rfl⟩) (fun hc=>Tr.bf ⟨?_,rfl⟩)
 · rw[hc];rfl
 · rw[hc];rfl
theorem SD (hk:k≤1000):cd (n+4) (.fn 82) [b6 k b full,f83 0] (uH lo hi::H)=some (.bool (bV (fun j=>eJ lo hi (b j)) k),uH lo hi::H):=by
 have hQ:∀ q x C H',(C=[.ptr 2 0 0 0,.ptr 2 1 0 0]∧H'=av::av::uH lo hi::H)→cd (n+2+q) (.fn 83) (.int .i64 x::C) H'=some (.bool (eJ lo hi x),H'):=by
  rintro q x C H' ⟨rfl,rfl⟩
  rw[show n+2+q=n+1+q+1 by omega]
  exact SE _ lo hi H x
 have hx:=iv (n:=n+2) (f:=94) (nt:=19) (c:=part Try.f94 [1,0,1,0,0]) 0 (fun j=>DW k b full (j:Int)) (fun _=>av::av::uH lo hi::H) k (fun j=>eJ lo hi (b j)) (fun j=>([(4,.int .i64 (j:Nat))],av::av::uH lo hi::H)) (DW k b full (Int.ofNat k)++[(9,.bool false)],av::av::uH lo hi::H) (by omega) (fun j hj=>?_) ?_
 · have h94:cd (n+3) (.fn 94) [b6 k b full,f83 1] (av::uH lo hi::H)=some (.int .i64 (Cu (fun j=>eJ lo hi (b j)) k),av::uH lo hi::H):=by
    refine aD (n:=n+2) Try.func94 rfl rfl rfl (Vq (n+2) k b full lo hi H (bV (fun j=>eJ lo hi (b j)) k) (fN (fun j=>eJ lo hi (b j)) k 0)) (ao _) (aA (af _ _) Sg (fun x h=>dk h hx)) (ag _ _) ?_
    refine Tr.ba ⟨rfl,rfl⟩ (Tr.bm (fun hc=>Tr.bf ⟨?_,rfl⟩) (fun hc=>Tr.bf ⟨?_,rfl⟩))
    · unfold Cu;rw[if_pos hc];rfl
    · unfold Cu;rw[if_neg (by rw[hc];decide)];rfl
   refine aD (n:=n+3) Try.func82 rfl rfl rfl (Vh (n+3) k b full lo hi H (Cu (fun j=>eJ lo hi (b j)) k)) (aO _ (n+3) (dQ (aF _) (fun x hy=>by rw[← Tr.ab hy];exact h94))) (af _ _) (ag _ _) ?_
   refine Tr.ba ⟨rfl,rfl⟩ (Tr.bf ⟨?_,rfl⟩)
   rw[F3]
 · refine aB (t94 (n+2) k b full lo hi (eJ lo hi) _ H (j:Int)) (za _ (n+2) 0 (fun q=>Fy (hQ q))) (af _ _) (ag _ _) ?_
   show Tr.all _ (fun x=>if eJ lo hi (b j)=true then _ else _)
   rw[c7 (by omega),iS]
   cases hp:eJ lo hi (b j) with
   | true =>
     simp only[if_true]
     refine Tr.bm (fun hc=>?_) (fun hc=>?_)
     · repeat' first | (refine Tr.bm (fun hc=>?_) (fun hc=>?_)<;>(try simp (disch:=omega) only[nV,nW] at hc)<;>try omega) | (refine Tr.cA ?_ ?_;· (try simp (disch:=omega) only[nV,nW]);try omega) | (refine Tr.ba ?_ ?_;· first | exact trivial | rfl | exact ⟨rfl,rfl⟩ | exact ⟨rfl,rfl,rfl⟩ | (simp (disch:=omega) only[nV,nW];done) | ((try simp (disch:=omega) only[nV,nW]);omega)) | fail
       all_goals first
        | exact ⟨rfl,rfl⟩
        | (refine Tr.ba ⟨trivial,rfl⟩ ?_
           exact wF)
        | exact Tr.bf rfl
        | fail
     · simp (disch:=omega) only[nV,nW] at hc;omega
   | false =>
     simp only[Bool.false_eq_true,if_false]
     refine Tr.bm (fun hc=>?_) (fun hc=>?_)
     · repeat' first | (refine Tr.bm (fun hc=>?_) (fun hc=>?_)<;>(try simp (disch:=omega) only[nV,nW] at hc)<;>try omega) | (refine Tr.cA ?_ ?_;· (try simp (disch:=omega) only[nV,nW]);try omega) | (refine Tr.ba ?_ ?_;· first | exact trivial | rfl | exact ⟨rfl,rfl⟩ | exact ⟨rfl,rfl,rfl⟩ | (simp (disch:=omega) only[nV,nW];done) | ((try simp (disch:=omega) only[nV,nW]);omega)) | fail
       all_goals first
        | exact ⟨rfl,rfl⟩
        | (refine Tr.ba ⟨trivial,rfl⟩ ?_
           exact wF)
        | exact Tr.bf ⟨rfl,rfl⟩
        | fail
     · simp (disch:=omega) only[nV,nW] at hc;omega
 · obtain ⟨x,h1,rfl⟩:=aB (Q:=fun x=>x=(.exit 0,DW k b full (Int.ofNat k)++[(9,.bool false)],av::av::uH lo hi::H)) (t94 (n+2) k b full lo hi (eJ lo hi) _ H (Int.ofNat k)) (za _ (n+2) 0 (fun q=>Fy (hQ q))) (af _ _) (ag _ _) (by
    refine Tr.bm (fun hc=>?_) (fun hc=>Tr.bf rfl)
    simp (disch:=omega) only[nV,nW] at hc;omega)
   exact h1
theorem RS (hk:k≤1000):cd (n+5) (.fn 56) [.int .i64 lo,.int .i64 hi,b6 k b full] H=some (.bool (!bV (fun j=>eJ lo hi (b j)) k),H):=by
 have h:=SD n k b full lo hi H hk
 refine aD (n:=n+4) Try.func56 rfl rfl rfl (U4 (n+4) k b full lo hi H (bV (fun j=>eJ lo hi (b j)) k)) (aO _ (n+4) (dQ (aF _) (fun x hy=>by rw[← Tr.ab hy];exact h))) (af _ _) (ag _ _) ?_
 rw[ie]
 exact wF
end
end Go.Eng
end
section
namespace Go.Eng
def cn (p:Nat→Bool):Nat→Nat
 | 0=>0
 | j+1=>cn p j+(p j).toNat
theorem oO (p:Nat→Bool):∀ n,cn p n≤n
 | 0=>Nat.le_refl _
 | n+1=>by
   have:=oO p n
   have:(p n).toNat≤1:=Bool.toNat_le _
   show cn p n+_≤_
   omega
theorem eT {p q:Nat→Bool}:∀ {n:Nat},(∀ j,j<n→p j=q j)→cn p n=cn q n
 | 0,_=>rfl
 | n+1,h=>by
   show cn p n+_=cn q n+_
   rw[eT (fun j hj=>h j (by omega)),h n (by omega)]
theorem gT {p q:Nat→Bool} {i:Nat} (h1:p i=false) (h2:q i=true):∀ {n:Nat},(∀ j,j<n→j≠i→q j=p j)→i<n→cn q n=cn p n+1
 | 0,_,hi=>by omega
 | n + 1,h,hi=>by
   show cn q n+_=cn p n+_+1
   by_cases e:i=n
   · subst e
     rw[h1,h2,eT (p:=q) (q:=p) (fun j hj=>h j (by omega) (by omega))]
     rfl
   · rw[gT h1 h2 (fun j hj hne=>h j (by omega) hne) (by omega),h n (by omega) (fun x=>e x.symm)]
     omega
theorem qa {p:Nat→Bool}:∀ {n:Nat},0<cn p n→∃ j,j<n∧p j=true
 | 0,h=>by simp[cn] at h
 | n + 1,h=>by
   have h:0<cn p n+(p n).toNat:=h
   cases e:p n with
   | true=>exact ⟨n,by omega,e⟩
   | false =>
     rw[e] at h
     obtain ⟨j,hj,e⟩:=qa (n:=n) (by simpa using h)
     exact ⟨j,by omega,e⟩
theorem kV {p:Nat→Bool} {n:Nat} (h:cn p n=0):∀ j,j<n→p j=false:=fun j hj=>by
 induction n with
 | zero=>omega
 | succ n ih =>
   have h:cn p n+(p n).toNat=0:=h
   by_cases e:j=n
   · subst e
     cases e:p j with
     | false=>rfl
     | true=>rw[e] at h;simp at h
   · exact ih (by omega) (by omega)
theorem mW {p:Nat→Bool} {n:Nat} (h:∀ j,j<n→p j=false):cn p n=0:=by
 induction n with
 | zero=>rfl
 | succ n ih =>
   show cn p n+_=0
   rw[ih (fun j hj=>h j (by omega)),h n (by omega)];rfl
theorem B7 {p:Nat→Bool} {n:Nat} (h:cn p n=n):∀ j,j<n→p j=true:=fun j hj=>by
 induction n with
 | zero=>omega
 | succ n ih =>
   have h:cn p n+(p n).toNat=n+1:=h
   have h2:=oO p n
   have h3:(p n).toNat≤1:=Bool.toNat_le _
   by_cases e:j=n
   · subst e
     cases e:p j with
     | true=>rfl
     | false=>rw[e] at h;simp at h;omega
   · exact ih (by omega) (by omega)
theorem HF {p:Nat→Bool} {n:Nat} (h:cn p n<n):∃ j,j<n∧p j=false:=by
 apply Classical.byContradiction
 intro hc
 have:∀ j,j<n→p j=true:=fun j hj=>by
  cases e:p j with
  | true=>rfl
  | false=>exact absurd ⟨j,hj,e⟩ hc
 have e:∀ m,m≤n→cn p m=m:=by
  intro m
  induction m with
  | zero=>intro _;rfl
  | succ m ih =>
    intro hm
    show cn p m+_=_
    rw[ih (by omega),this m (by omega)];rfl
 have:=e n (Nat.le_refl _)
 omega
def bE (t:Nat→Int):Nat→Int→Int
 | 0,x=>x
 | m+1,x=>if 0≤bE t m x then t (bE t m x).toNat else bE t m x
theorem IX {t:Nat→Int} (m:Nat) (x:Int) (h:0≤x):bE t (m+1) x=bE t m (t x.toNat):=by
 induction m with
 | zero=>show (if 0≤x then _ else _)=_;rw[if_pos h];rfl
 | succ m ih =>
   show (if 0≤bE t (m+1) x then t (bE t (m+1) x).toNat else bE t (m+1) x)=_
   rw[ih];rfl
structure rO (l:Nat) (t:Nat→Int) (f:Nat→Int) (a:Nat) (tk:Nat→Bool) (tm:Nat→Nat):Prop where
 cnt:cn tk l=a
 on:∀ i,i<l→tk i=true→f i=-1∧tm i<a
 off:∀ i,i<l→tk i=false→f i=(cn (fun j=>!tk j && decide (t j=(i:Int))) l:Nat)
 pre:∀ i j,i<l→j<l→tk i=true→t j=(i:Int)→tk j=true∧tm j<tm i
theorem K6 {l:Nat} {t f:Nat→Int} (h:∀ i,i<l→f i=(cn (fun j=>decide (t j=(i:Int))) l:Nat)):rO l t f 0 (fun _=>false) (fun _=>0) where
 cnt:=mW (fun _ _=>rfl)
 on:=fun i hi h=>by cases h
 off:=fun i hi _=>by rw[h i hi];rfl
 pre:=fun i j _ _ h=>by cases h
def uI (f:Nat→Int) (i:Nat) (x:Int):Nat→Int:=fun j=>if j=i then x else f j
def AO (t f:Nat→Int) (i:Nat):Nat→Int:=if 0≤t i then uI (uI f i (-1)) (t i).toNat (uI f i (-1) (t i).toNat-1) else uI f i (-1)
theorem rO.zero {l:Nat} {t f:Nat→Int} {a:Nat} {tk:Nat→Bool} {tm:Nat→Nat} (h:rO l t f a tk tm) {i:Nat} (hi:i<l) (hf:f i=0):tk i=false∧∀ j,j<l→t j=(i:Int)→tk j=true:=by
 have h1:tk i=false:=by
  cases e:tk i with
  | false=>rfl
  | true=>have:=(h.on i hi e).1;omega
 refine ⟨h1,fun j hj e=>?_⟩
 have h2:=h.off i hi h1
 rw[hf] at h2
 have:=kV (p:=fun j=>!tk j && decide (t j=(i:Int))) (n:=l) (by omega) j hj
 simp only[e,decide_true,Bool.and_true,Bool.not_eq_false'] at this
 exact this
theorem rO.take {l:Nat} {t f:Nat→Int} {a:Nat} {tk:Nat→Bool} {tm:Nat→Nat} (h:rO l t f a tk tm) {i:Nat} (hi:i<l) (hf:f i=0) :
 rO l t (AO t f i) (a+1) (fun j=>if j=i then true else tk j) (fun j=>if j=i then a else tm j)∧AO t f i i=-1∧∀ x,x<l→f x=-1→AO t f i x=-1:=by
 obtain ⟨h1,h2⟩:=h.zero hi hf
 have hti:∀ x:Nat,x<l→t i=(x:Int)→tk x=false∧x≠i:=fun x hx e=>by
  have hne:x≠i:=fun c=>by
   subst c
   have:=h2 x hx e
   rw[h1] at this;cases this
  refine ⟨?_,hne⟩
  cases c:tk x with
  | false=>rfl
  | true =>
    have:=(h.pre x i hx hi c e).1
    rw[h1] at this;cases this
 have at_i:AO t f i i=-1:=by
  unfold AO
  by_cases c:0≤t i
  · rw[if_pos c]
    have hne:i≠(t i).toNat:=fun e=>by
     have:t i=(i:Int):=by omega
     exact (hti i hi this).2 rfl
    show (if i=(t i).toNat then _ else (if i=i then _ else _))=_
    rw[if_neg hne,if_pos rfl]
  · rw[if_neg c];show (if i=i then _ else _)=_;rw[if_pos rfl]
 have at_x:∀ x,x≠i→AO t f i x=if t i=(x:Int) then f x-1 else f x:=fun x hx=>by
  unfold AO
  by_cases c:0≤t i
  · rw[if_pos c]
    show (if x=(t i).toNat then (if (t i).toNat=i then _ else f (t i).toNat)-1 else (if x=i then _ else f x))=_
    by_cases e:x=(t i).toNat
    · rw[if_pos e,← e,if_neg hx,if_pos (by omega)]
    · rw[if_neg e,if_neg hx,if_neg (by omega)]
  · rw[if_neg c,if_neg (by omega)]
    show (if x=i then _ else f x)=_
    rw[if_neg hx]
 refine ⟨⟨?_,?_,?_,?_⟩,at_i,fun x hx e=>?_⟩
 rotate_left 4
 · have hne:x≠i:=fun c=>by subst c;omega
   rw[at_x x hne]
   by_cases c:t i=(x:Int)
   · have:=h.off x hx (hti x hx c).1
     omega
   · rw[if_neg c];exact e
 · rw[gT (p:=tk) (i:=i) h1 (by simp) (fun j _ hj=>by simp[hj]) hi,h.cnt]
 · intro x hx e
   by_cases c:x=i
   · subst c;exact ⟨at_i,by simp⟩
   · simp only[c,if_false] at e ⊢
     obtain ⟨g1,g2⟩:=h.on x hx e
     rw[at_x x c,if_neg (fun e2=>by have:=(hti x hx e2).1;rw[e] at this;cases this)]
     exact ⟨g1,by omega⟩
 · intro x hx e
   by_cases c:x=i
   · subst c;simp at e
   · simp only[c,if_false] at e
     rw[at_x x c,h.off x hx e]
     by_cases e2:t i=(x:Int)
     · rw[if_pos e2]
       have:=gT (p:=fun j=>!(if j=i then true else tk j) && decide (t j=(x:Int))) (q:=fun j=>!tk j && decide (t j=(x:Int))) (i:=i) (n:=l) (by simp) (by simp[h1,e2]) (fun j _ hj=>by simp[hj]) hi
       rw[this];omega
     · rw[if_neg e2]
       congr 1
       refine eT (fun j hj=>?_)
       by_cases c2:j=i
       · subst c2;simp[e2]
       · simp[c2]
 · intro x j hx hj e ej
   by_cases c:x=i
   · subst c
     have:=h2 j hj ej
     have hne:j≠x:=fun c2=>by subst c2;rw[h1] at this;cases this
     simp only[hne,if_false,if_true,this,true_and]
     exact (h.on j hj this).2
   · simp only[c,if_false] at e
     obtain ⟨g1,g2⟩:=h.pre x j hx hj e ej
     have hne:j≠i:=fun c2=>by subst c2;rw[h1] at g1;cases g1
     simp only[hne,c,if_false]
     exact ⟨g1,g2⟩
theorem rO.le {l:Nat} {t f:Nat→Int} {a:Nat} {tk:Nat→Bool} {tm:Nat→Nat} (h:rO l t f a tk tm):a≤l:=by
 rw[← h.cnt];exact oO _ _
def iF (l:Nat) (t:Nat→Int):Bool:=bV (fun i=>decide (0≤bE t l (i:Int))) l
theorem Gy {l:Nat} {t f:Nat→Int} {tk:Nat→Bool} {tm:Nat→Nat} (h:rO l t f l tk tm) (ht:∀ j,j<l→t j<l):iF l t=false:=by
 have all:=B7 h.cnt
 refine jT (fun i hi=>?_)
 have key:∀ m,0≤bE t m (i:Int)→(bE t m (i:Int)).toNat<l∧m≤tm (bE t m (i:Int)).toNat:=by
  intro m
  induction m with
  | zero=>intro _;exact ⟨by show ((i:Int)).toNat<l;omega,Nat.zero_le _⟩
  | succ m ih =>
    intro hp
    have e:bE t (m+1) (i:Int)=if 0≤bE t m (i:Int) then t (bE t m (i:Int)).toNat else bE t m (i:Int):=rfl
    by_cases c:0≤bE t m (i:Int)
    · rw[if_pos c] at e
      obtain ⟨g1,g2⟩:=ih c
      rw[e] at hp ⊢
      have g3:=ht _ g1
      obtain ⟨_,g4⟩:=h.pre (t (bE t m (i:Int)).toNat).toNat _ (by omega) g1 (all _ (by omega)) (by omega)
      exact ⟨by omega,by omega⟩
    · rw[if_neg c] at e;rw[e] at hp;exact absurd hp c
 refine decide_eq_false (fun hc=>?_)
 obtain ⟨g1,g2⟩:=key l hc
 have:=(h.on _ g1 (all _ g1)).2
 omega
theorem Eg {l:Nat} {t f:Nat→Int} {a:Nat} {tk:Nat→Bool} {tm:Nat→Nat} (h:rO l t f a tk tm) (ha:a<l) (hf:∀ i,i<l→f i≠0):iF l t=true:=by
 obtain ⟨i0,hi0,e0⟩:=HF (p:=tk) (n:=l) (by rw[h.cnt];exact ha)
 have key:∀ m,∃ x,x<l∧tk x=false∧0≤bE t m (x:Int):=by
  intro m
  induction m with
  | zero=>exact ⟨i0,hi0,e0,by show (0:Int)≤(i0:Int);omega⟩
  | succ m ih =>
    obtain ⟨x,hx,e,hs⟩:=ih
    have h1:=h.off x hx e
    have h2:=hf x hx
    obtain ⟨j,hj,e2⟩:=qa (p:=fun j=>!tk j && decide (t j=(x:Int))) (n:=l) (by omega)
    simp only[Bool.and_eq_true,Bool.not_eq_true',decide_eq_true_eq] at e2
    refine ⟨j,hj,e2.1,?_⟩
    rw[IX m _ (by omega),Int.toNat_natCast,e2.2]
    exact hs
 obtain ⟨x,hx,_,hs⟩:=key l
 exact (dm _ _).2 ⟨x,hx,decide_eq_true hs⟩
end Go.Eng
end
section
namespace Go.Eng
open Go.Proofs
noncomputable def yM (l:Nat) (t:Nat→Int) (j:Int):aq:=[(3,.ptr 0 1 0 0),(14,b6 l t false),(15,.int .i64 (Int.ofNat l)),(16,.int .i64 j)]
noncomputable def xn (l:Nat) (t:Nat→Int) (k:Nat) (d g:Nat→Int):aT:=⟨false,[(0,.row (.G [b6 l t false,b6 k d false])),(0,.row (.M [.one (b6 l t false),.one (b6 k d false),.arr .i64 g 30]))]⟩
noncomputable def dy (s:Nat) (l:Nat) (t:Nat→Int) (k:Nat) (d g:Nat→Int):AV:=.ptrT (some s) (.M [.one (b6 l t false),.one (b6 k d false),.arr .i64 g 30]) 0
theorem t57 (n l k:Nat) (t d g:Nat→Int) (H:aa) (j:Int):aJ (bn n 57 34) (il aE n 0) aG aH (part Try.f57 [1,1,1,0,1,0,0]) (hints (yM l t j)) (xn l t k d g::H) =
 (fun (Z0:aT)=>((fun (Z1:aN)=>Tr.ite (bK j (Int.ofNat l)) (Tr.req (cE j l) (Tr.req (cr (au 0 j 1) l) (Tr.ite (lV (Int.ofNat 0) (t (au 0 j 1))) (Tr.req (cE (t (au 0 j 1)) 30) (Tr.req (b9 0 0) (Tr.req (gq (au 2 (t (au 0 j 1)) 1) 1 2 30) (Tr.req (cE (t (au 0 j 1)) 30) (Tr.req (b9 0 0) (Tr.req (gq (au 2 (t (au 0 j 1)) 1) 1 2 30) (Tr.req (j6 (gM 0 0) (gM 0 1)) (Tr.ok (Ex.normal,Z1,{ lock:=false,bs:=[(0,ai.row (Row.G [AV.slcT none (Row.M [ah.arr .i64 t l]) 1 l false,AV.slcT none (Row.M [ah.arr .i64 d k]) 1 k false])),(0,ai.row (Row.M [ah.one (AV.slcT none (Row.M [ah.arr .i64 t l]) 1 l false),ah.one (AV.slcT none (Row.M [ah.arr .i64 d k]) 1 k false),ah.arr .i64 (fX g (ur (au 2 (t (au 0 j 1)) 1) 2) (bA .i64 (g (ur (au 2 (t (au 0 j 1)) 1) 2)) (Int.ofNat 1))) 30]))] } :: H))))))))) (Tr.ok (Ex.normal,Z1,Z0::H))))) (Tr.ok (Ex.exit 0,[(3,AV.ptr 0 1 0 0,none),(14,AV.slcT none (Row.M [ah.arr .i64 t l]) 1 l false,none),(15,AV.int .i64 (Int.ofNat l),none),(16,AV.int .i64 j,none),(17,AV.bool false,some 1)],Z0::H))) [(3,AV.ptr 0 1 0 0,none),(14,AV.slcT none (Row.M [ah.arr .i64 t l]) 1 l false,none),(15,AV.int .i64 (Int.ofNat l),none),(16,AV.int .i64 (bA .i64 j (Int.ofNat 1)),none)])) { lock:=false,bs:=[(0,ai.row (Row.G [AV.slcT none (Row.M [ah.arr .i64 t l]) 1 l false,AV.slcT none (Row.M [ah.arr .i64 d k]) 1 k false])),(0,ai.row (Row.M [ah.one (AV.slcT none (Row.M [ah.arr .i64 t l]) 1 l false),ah.one (AV.slcT none (Row.M [ah.arr .i64 d k]) 1 k false),ah.arr .i64 g 30]))] }:=by kernel_rfl
theorem U5 (n l k:Nat) (t d g:Nat→Int) (H:aa):aX Try.prog (cd n) 100000 57 Try.f57 (KtL.kt 57) (il aE n 0) (bS aG 0 (yM l t 0) (xn l t k d (fun _=>Int.ofNat 0)::H) (.ok (.normal,hints (yM l t (Int.ofNat l)++[(17,.bool false)]),xn l t k d g::H))) aH [(b5 l t k d,none)] H =
 (fun (Z0:aT)=>((fun (Z1:aq)=>Tr.req (cr 0 30) (Tr.req (b9 0 0) (Tr.reqP (Z1=Z1∧Z0::H=Z0::H) (Tr.ok ((AV.ptrT (some 0) (Row.M [ah.one (AV.slcT none (Row.M [ah.arr .i64 t l]) 1 l false),ah.one (AV.slcT none (Row.M [ah.arr .i64 d k]) 1 k false),ah.arr .i64 g 30]) 0,none),H))))) [(3,AV.ptr 0 1 0 0),(14,AV.slcT none (Row.M [ah.arr .i64 t l]) 1 l false),(15,AV.int .i64 (Int.ofNat l)),(16,AV.int .i64 (Int.ofNat 0))])) { lock:=false,bs:=[(0,ai.row (Row.G [AV.slcT none (Row.M [ah.arr .i64 t l]) 1 l false,AV.slcT none (Row.M [ah.arr .i64 d k]) 1 k false])),(0,ai.row (Row.M [ah.one (AV.slcT none (Row.M [ah.arr .i64 t l]) 1 l false),ah.one (AV.slcT none (Row.M [ah.arr .i64 d k]) 1 k false),ah.arr .i64 (fun x=>Int.ofNat 0) 30]))] }:=by kernel_rfl
theorem Sc:∀ b,(0,b) ∈ aI (bj Try.f57)→b=.loop (part Try.f57 [1,1,1,0,1,0,0]):=ep (by kernel_rfl)
noncomputable def cQ (t:Nat→Int):Nat→Nat→Int
 | 0=>fun _=>0
 | j+1=>if 0≤t j then fX (cQ t j) (t j).toNat (cQ t j (t j).toNat+1) else cQ t j
theorem Cw (t:Nat→Int):∀ (j:Nat) (i:Nat),cQ t j i=(cn (fun x=>decide (t x=(i:Int))) j:Nat)
 | 0,i=>rfl
 | j + 1,i=>by
   have ih:=Cw t j i
   show (if 0≤t j then fX (cQ t j) (t j).toNat (cQ t j (t j).toNat+1) else cQ t j) i=((cn (fun x=>decide (t x=(i:Int))) j+(decide (t j=(i:Int))).toNat:Nat):Int)
   by_cases c:0≤t j
   · rw[if_pos c,ig]
     show (if i=(t j).toNat then _ else _)=_
     by_cases e:i=(t j).toNat
     · rw[if_pos e,← e,ih,decide_eq_true (show t j=(i:Int) by omega)]
       simp
     · rw[if_neg e,ih,decide_eq_false (show ¬ t j=(i:Int) by omega)]
       simp
   · rw[if_neg c,ih,decide_eq_false (show ¬ t j=(i:Int) by omega)]
     simp
section
variable (n l k:Nat) (t d:Nat→Int) (H:aa)
theorem Uu (hl:l≤30) (ht:∀ j,j<l→t j<l):exec (bn n 57 34) (.block 0 (.loop (part Try.f57 [1,1,1,0,1,0,0]))) (yM l t 0) (xn l t k d (fun _=>Int.ofNat 0)::H)=some (.normal,yM l t (Int.ofNat l)++[(17,.bool false)],xn l t k d (cQ t l)::H):=by
 refine jf 0 (fun j=>yM l t (j:Int)) (fun j=>xn l t k d (cQ t j)::H) l (yM l t (Int.ofNat l)++[(17,.bool false)],xn l t k d (cQ t l)::H) (by omega) (fun j hj=>?_) ?_
 · have htj:=ht j hj
   have hld:cQ t (j+1)=if 0≤t j then fX (cQ t j) (t j).toNat (cQ t j (t j).toNat+1) else cQ t j:=rfl
   refine aB (t57 n l k t d (cQ t j) H (j:Int)) (ao n) (af _ _) (ag _ _) ?_
   rw[c7 (by omega),iS]
   show Tr.all _ (fun x=>_∧tidy _ _ _=(_,xn l t k d (cQ t (j+1))::H))
   rw[hld]
   by_cases c:0≤t j
   · have hg:=Cw t j (t j).toNat
     have hb:=oO (fun x=>decide (t x=(((t j).toNat:Nat):Int))) j
     have es:ur (au 2 (t j) 1) 2=(t j).toNat:=by rw[ln,lK];omega
     have ea:bA .i64 (cQ t j (t j).toNat) (Int.ofNat 1)=cQ t j (t j).toNat+1:=by
      rw[show Int.ofNat 1=1 from rfl];exact EJ (by omega) (by omega)
     rw[if_pos c,es,ea]
     generalize fX (cQ t j) (t j).toNat (cQ t j (t j).toNat+1)=T
     generalize t j=q at *
     exact wF
   · rw[if_neg c]
     generalize t j=q at *
     exact wF
 · obtain ⟨x,h1,rfl⟩:=aB (Q:=fun x=>x=(.exit 0,yM l t (Int.ofNat l)++[(17,.bool false)],xn l t k d (cQ t l)::H)) (t57 n l k t d (cQ t l) H (Int.ofNat l)) (ao n) (af _ _) (ag _ _) (by
    refine Tr.bm (fun hc=>?_) (fun hc=>Tr.bf rfl)
    simp (disch:=omega) only[nV,nW] at hc;omega)
   exact h1
theorem RT (hl:l≤30) (ht:∀ j,j<l→t j<l):cd (n+1) (.fn 57) [b5 l t k d] H=some (dy 0 l t k d (cQ t l),H):=by
 have hx:=Uu n l k t d H hl ht
 refine aD (n:=n) Try.func57 rfl rfl rfl (U5 n l k t d (cQ t l) H) (ao _) (aA (af _ _) Sc (fun x hy=>bN hy hx)) (ag _ _) ?_
 generalize cQ t l=g at *
 exact wF
end
end Go.Eng
end
