/- Lay: pick, as a function with a range over a map. -/
import Derived.Test.YtoomemfhcbajoaaV8EngRnFx5
import Derived.Test.YtoomemfhcbajoaaV8EngKtL
import Derived.Test.YtoomemfhcbajoaaProg
import Derived.KernelRfl
import Derived.Test.YtoomemfhcbajoaaV8EngThx4
import Derived.Test.YtoomemfhcbajoaaV8EngRnLx7
set_option maxRecDepth 100000
set_option linter.unusedVariables false
set_option linter.unusedSimpArgs false
section
namespace Go.Eng.Rf
open Go.Eng Go.Proofs
def cA:List Nat→Code→Code
 | [],c=>c
 | x :: p,c=>match c with
   | .seq a b=>match x with
     | 0=>cA p a
     | _=>cA p b
   | .cond _ a b=>match x with
     | 0=>cA p a
     | _=>cA p b
   | .block _ b=>cA p b
   | .loop b=>cA p b
   | .scope b=>cA p b
   | .rangeFunc _ _ a b=>match x with
     | 0=>cA p a
     | _=>cA p b
   | c=>c
def kQ:Code→Array Oper
 | .region _ ops _=>ops
 | _=>#[]
noncomputable def ey:Code:=Try.f90.body.getD .skip
def I1 (l:List Oper):Oper:=l.headD { dst:=none,op:=.move (.tmp 0),type:=0,pos := "",after:=#[],guard:=none }
noncomputable def cO:cw:={ id0:=3,ops0:=kQ (cA [1,1,1,0,0] ey),pre:=(kQ (cA [1,1,1,0,0] ey)).toList.take 1,ro:=I1 ((kQ (cA [1,1,1,0,0] ey)).toList.drop 1),m:=9,ty:=95 }
noncomputable def bu:bm:={ out:=0,nj:=4,id2:=5,nxt:=1,ops1:=kQ (cA [1,1,1,0,1,0,0,0] ey),ops2:=kQ (cA [1,1,1,0,1,0,0,1,1,0,0] ey),no:=I1 (kQ (cA [1,1,1,0,1,0,0,0] ey)).toList,eo:=I1 (kQ (cA [1,1,1,0,1,0,0,1,1,0,0] ey)).toList,t1:=(kQ (cA [1,1,1,0,1,0,0,0] ey)).toList.tail,t2:=(kQ (cA [1,1,1,0,1,0,0,1,1,0,0] ey)).toList.tail,it:=10,nx:=11,mo:=12,en:=13,rest:=cA [1,1,1,0,1,0,0,1,1,0,1] ey,km:=16775424 }
noncomputable def pick:nR:={ f:=90,pre:=[cA [0] ey,cA [1,0] ey,cA [1,1,0] ey],S:=cO,L:=bu,suf:=cA [1,1,1,1] ey }
theorem Ak:Try.f90.body=some (assemble pick.pre (cO.code bu) pick.suf):=by kernel_rfl
theorem wo:cO.ops0.toList=cO.pre++[cO.ro]:=by kernel_rfl
theorem wv:cO.ro.op=.range cO.ty (.tmp cO.m):=by kernel_rfl
theorem wg:cO.ro.dst=some bu.it:=by kernel_rfl
theorem wj:cO.ro.guard=none:=by kernel_rfl
theorem wq:bu.ops1.toList=bu.no::bu.t1:=by kernel_rfl
theorem wx:bu.no.op=.next (.tmp bu.it) false:=by kernel_rfl
theorem wh:bu.no.dst=some bu.nx:=by kernel_rfl
theorem wk:bu.no.guard=none:=by kernel_rfl
theorem wu:bu.ops2.toList=bu.eo::bu.t2:=by kernel_rfl
theorem wy:bu.eo.op=.entry (.tmp bu.it):=by kernel_rfl
theorem wi:bu.eo.dst=some bu.en:=by kernel_rfl
theorem wm:bu.eo.guard=none:=by kernel_rfl
theorem wz:pick.Ok Try.prog:=⟨⟨Try.f90,Try.func90,Ak⟩,⟨wo,wv,wg,wj,⟨_,_,Try.underlying95⟩⟩,⟨wq,wx,wh,wk,wu,wy,wi,wm⟩⟩
end Go.Eng.Rf
end
section
namespace Go.Eng
open Go.Proofs Go.ChangeShapes

noncomputable def L9 (n len:Nat) (z:Nat→Int):AV:=.slcT none (.M [.arr .i64 z (iQ len n)]) n len false
noncomputable def sE:aJ→FuncId→List AV→aa→Option (AV×aa):=fun call f args H=>cond (Nat.beq f 54) (yx Try.prog KtL.kt 100000 54 call args H) (cond (Nat.beq f 95) (yx Try.prog KtL.kt 100000 95 call args H) (cond (Nat.beq f 90) (sJ Try.prog KtL.kt 100000 Rf.pick call args H) (G4 [⟨16,[],.bool true⟩] call f args H)))
def J6 (f:FuncId):Bool:=Nat.beq f 16 || Nat.beq f 1000000 || Nat.beq f 54 || Nat.beq f 95 || Nat.beq f 90
noncomputable def cd (n:Nat):aJ:=cI Try.prog sE KtL.kt 100000 n
noncomputable def il (tab:pf) (n k:Nat):bB:=CY Try.prog sE KtL.kt 100000 J6 tab n k
noncomputable def bA (n:Nat) (f nt:Nat):Cx:=⟨Try.prog,cd n,100000,f,nt,KtL.kt f,none⟩

def FR:List Nat→Code→Code
 | [],c=>c
 | x :: p,c=>match c with
   | .seq a b=>match x with
     | 0=>FR p a
     | _=>FR p b
   | .cond _ a b=>match x with
     | 0=>FR p a
     | _=>FR p b
   | .block _ b=>FR p b
   | .loop b=>FR p b
   | .scope b=>FR p b
   | .rangeFunc _ _ a b=>match x with
     | 0=>FR p a
     | _=>FR p b
   | c=>c
noncomputable def part (f:Func) (p:List Nat):Code:=FR p (bR f)
theorem EX (g:FuncId) (h:J6 g=false) (c:aJ) (args:List AV) (H:aa):sE c g args H=none:=by
 unfold J6 at h
 rw[Bool.or_eq_false_iff,Bool.or_eq_false_iff,Bool.or_eq_false_iff,Bool.or_eq_false_iff] at h
 obtain ⟨⟨⟨⟨h0,h1⟩,h2⟩,h3⟩,h4⟩:=h
 unfold sE G4
 rw[h2,h3,h4,h1,cond_false,cond_false,cond_false,cond_false]
 simp only[Aj]
 have:Nat.beq 16 g=false:=by
  cases hb:Nat.beq 16 g with
  | false=>rfl
  | true=>have:=Nat.eq_of_beq_eq_true hb;subst this;simp at h0
 rw[this];rfl
theorem uW (n:Nat):∃ x,cI Try.prog sE KtL.kt 100000 n .mode [] []=some x:=by
 cases n<;>exact ⟨_,rfl⟩
theorem G0 (hN:cS Try.prog) (hD:kf Try.prog) (hW:bp Try.prog ⟨16,[],.bool true⟩):tU Try.prog sE :=
 fun call hC f args H v H' h hne p M w cargs hH hA=>by
  unfold sE at h
  cases hb:Nat.beq f 54 with
  | true =>
    rw[hb,cond_true] at h
    have:=Nat.eq_of_beq_eq_true hb
    subst this
    exact sA hN hD KtL.kt 100000 hC h hH hA
  | false =>
    rw[hb,cond_false] at h
    cases hb2:Nat.beq f 95 with
    | true =>
      rw[hb2,cond_true] at h
      have:=Nat.eq_of_beq_eq_true hb2
      subst this
      exact sA hN hD KtL.kt 100000 hC h hH hA
    | false =>
      rw[hb2,cond_false] at h
      cases hb3:Nat.beq f 90 with
      | true =>
        rw[hb3,cond_true] at h
        have:=Nat.eq_of_beq_eq_true hb3
        subst this
        exact Dh hN hD Rf.wz KtL.kt 100000 hC h hH hA
      | false =>
        rw[hb3,cond_false] at h
        exact G5 _ (fun e he=>by
         simp only[List.mem_singleton] at he
         subst he
         exact hW) call hC f args H v H' h hne p M w cargs hH hA
theorem xP (tab:pf) (n k:Nat) (ht:∀ k,tab.Ok (cd (n+k))):(il tab n k).Ok (cd (n+k)):=Br _ _ _ _ _ _ _ EX (fun k=>uW _) ht k
theorem lj (n k:Nat):(il aQ n k).Ok (cd (n+k)):=xP _ _ _ (fun k=>aX _)
theorem aB (n:Nat):(il aQ n 0).Ok (cd n):=lj n 0
theorem KH {f:FuncId} {fn:Func} {n:Nat} (hf:Try.prog.funcs[f]?=some fn) (hb:fn.body.isSome=true) (hn:J6 f=false) {args:List HV} (hle:Nat.ble args.length fn.ntmps=true) {H:aa} {callR:bB} (hC:callR.Ok (cd n)) {bl:gN} (hB:bl.Ok (bA n f fn.ntmps) (bR fn)) {rg:rr} (hR:rg.Ok (bA n f fn.ntmps) (bR fn)) {y:HV×aa}
 (h:(bz Try.prog (cd n) 100000 f fn (KtL.kt f) callR bl rg args H).run=some y):cd (n+1) (.fn f) (qP args) H=some (y.1.1,y.2) :=
 xe hf hb (EX f hn _ _ _) hle hC hB hR h
theorem KG {f:FuncId} {fn:Func} {n:Nat} (hf:Try.prog.funcs[f]?=some fn) (hb:fn.body.isSome=true) (hn:J6 f=false) {args:List HV} (hle:Nat.ble args.length fn.ntmps=true) {H:aa} {callR:bB} {bl:gN} {rg:rr} {T:Tr (HV×aa)}
 (e:bz Try.prog (cd n) 100000 f fn (KtL.kt f) callR bl rg args H=T) (hC:callR.Ok (cd n)) (hB:bl.Ok (bA n f fn.ntmps) (bR fn)) (hR:rg.Ok (bA n f fn.ntmps) (bR fn)) {y:HV×aa} (hr:T.run=some y):cd (n+1) (.fn f) (qP args) H=some (y.1.1,y.2) :=
 KH hf hb hn hle hC hB hR (by rw[e];exact hr)
theorem KE {n f nt:Nat} {c:Code} {callR:bB} (hC:callR.Ok (cd n)) {bl:gN} (hB:bl.Ok (bA n f nt) c) {rg:rr} (hR:rg.Ok (bA n f nt) c) {fr:aq} {H:aa} {x:nS} (h:(aN (bA n f nt) callR bl rg c (hints fr) H).run=some x):exec (bA n f nt) c fr H=some x.st:=by
 have:=oh hC c hB hR _ _ _ h
 rw[gT] at this
 exact this

def m4 (bl:gN) (id0:Nat):gN:=fun id fr H=>cond (Nat.beq id id0) (some .bad) (bl id fr H)
theorem eK {bl:gN} {cx:Cx} {c:Code} (h:bl.Ok cx c) (id0:Nat):(m4 bl id0).Ok cx c:=by
 intro id b hm fr H t y ht hy
 unfold m4 at ht
 cases hb:Nat.beq id id0 with
 | true =>
   rw[hb,cond_true,Option.some.injEq] at ht
   subst ht
   exact (Tr.ae hy).elim
 | false =>
   rw[hb,cond_false] at ht
   exact h id b hm fr H t y ht hy
theorem KD {n f nt:Nat} {c:Code} {callR:bB} {bl:gN} {rg:rr} {fr:aq} {H:aa} {T:Tr nS} (e:aN (bA n f nt) callR bl rg c (hints fr) H=T) (hC:callR.Ok (cd n)) (hB:bl.Ok (bA n f nt) c) (hR:rg.Ok (bA n f nt) c) {x:nS} (hr:T.run=some x):exec (bA n f nt) c fr H=some x.st :=
 KE hC hB hR (by rw[e];exact hr)
section
variable {n f nt:Nat} {c:Code} {callR:bB} {bl:gN} {rg:rr}
end
def dC (p:Nat→Bool) (N:Nat):Bool:=decide (fN p N 0<N)
theorem iH {p:Nat→Bool} {N:Nat} (h:dC p N=true):fN p N 0<N:=by simpa[dC] using h
theorem px {p:Nat→Bool} {N:Nat} (h:dC p N=false):fN p N 0=N:=by
 have h1:=(mj p N 0).2.1
 have:¬ fN p N 0<N:=by simpa[dC] using h
 omega
theorem dY (p:Nat→Bool) (N:Nat):dC p N=true↔∃ i,i<N∧p i=true:=by
 obtain ⟨h1,h2,h3,h4⟩:=mj p N 0
 constructor
 · intro h
   have:=iH h
   exact ⟨_,this,h4 (by omega)⟩
 · rintro ⟨i,hi,hp⟩
   unfold dC
   rw[decide_eq_true_eq]
   apply Nat.lt_of_not_le
   intro hc
   have:=h3 i (by omega) (by omega)
   rw[this] at hp;cases hp
end Go.Eng
end
section
namespace Go.Eng
open Go.Proofs
theorem aR {f:FuncId} {fn:Func} {n:Nat} (hf:Try.prog.funcs[f]?=some fn) (hb:fn.body.isSome=true) (hn:J6 f=false) {args:List HV} (hle:Nat.ble args.length fn.ntmps=true) {H:aa} {callR:bB} {bl:gN} {rg:rr} {T:Tr (HV×aa)}
 (e:bz Try.prog (cd n) 100000 f fn (KtL.kt f) callR bl rg args H=T) (hC:callR.Ok (cd n)) (hB:bl.Ok (bA n f fn.ntmps) (bR fn)) (hR:rg.Ok (bA n f fn.ntmps) (bR fn)) {v:AV} {H':aa} (h:T.all fun y=>y.1.1=v∧y.2=H'):cd (n+1) (.fn f) (qP args) H=some (v,H'):=by
 obtain ⟨y,h1,h2,h3⟩:=h
 have:=KG hf hb hn hle e hC hB hR h1
 rw[this,h2,h3]
theorem aO {n f nt:Nat} {c:Code} {callR:bB} {bl:gN} {rg:rr} {fr:aq} {H:aa} {T:Tr nS} (e:aN (bA n f nt) callR bl rg c (hints fr) H=T) (hC:callR.Ok (cd n)) (hB:bl.Ok (bA n f nt) c) (hR:rg.Ok (bA n f nt) c) {Q:Ex×aq×aa→Prop} (h:T.all fun x=>Q x.st):∃ x,exec (bA n f nt) c fr H=some x∧Q x:=by
 obtain ⟨x,h1,h2⟩:=h
 exact ⟨_,KD e hC hB hR h1,h2⟩
section
variable {n f nt:Nat} {c:Code} {callR:bB} {bl:gN} {rg:rr}
theorem EH (id:Nat) (I:Nat→aq→aa→Prop) (Q:aq×aa→Prop) (N:Nat) (hN:N<99999) {fr0:aq} {H0:aa} (h0:I 0 fr0 H0)
 (hr:∀ j fr H,I j fr H→∃ x,exec (bA n f nt) c fr H=some x∧((x.1=.normal∧j<N∧I (j+1) (tidy (al H0) x.2.1 x.2.2).1 (tidy (al H0) x.2.1 x.2.2).2)∨(x.1=.exit id∧Q x.2))) :
 ∃ y,exec (bA n f nt) (.block id (.loop c)) fr0 H0=some (.normal,y)∧Q y:=by
 obtain ⟨x,h1,h2⟩:=oD (body:=exec (bA n f nt) c) (n:=al H0) I (fun x=>x.1=.exit id∧Q x.2) N (fun j fr H h=>by
  obtain ⟨x,h1,h2⟩:=hr j fr H h
  obtain ⟨e,f1,g1⟩:=x
  refine ⟨e,f1,g1,h1,?_⟩
  rcases h2 with h2 | ⟨h2,h3⟩
  · exact .inl h2
  · exact .inr ⟨by dsimp only at h2;rw[h2];simp,h2,h3⟩) 100000 0 fr0 H0 h0 (by omega)
 obtain ⟨e,f1,g1⟩:=x
 obtain ⟨h2,h3⟩:=h2
 dsimp only at h2 h3
 subst h2
 exact ⟨(f1,g1),cW h1,h3⟩
theorem qk (id:Nat) (F:Nat→aq) (G:Nat→aa) (N:Nat) (p:Nat→Bool) (X:Nat→aq×aa) (Y:aq×aa) (hN:N<99999)
 (hs:∀ j,j<N→∃ x,exec (bA n f nt) c (F j) (G j)=some x∧if p j=true then x=(.ret,X j) else x.1=.normal∧tidy (al (G 0)) x.2.1 x.2.2=(F (j+1),G (j+1)))
 (he:exec (bA n f nt) c (F N) (G N)=some (.exit id,Y)):exec (bA n f nt) (.block id (.loop c)) (F 0) (G 0)=some (cond (dC p N) (.ret,X (fN p N 0)) (.normal,Y)):=by
 have key:=mq (body:=exec (bA n f nt) c) (n:=al (G 0)) F G N p (fun j=>if j<N then (.ret,X j) else (.exit id,Y))
  (fun j hj hp=>by
    obtain ⟨x,h1,h2⟩:=hs j hj
    rw[if_neg (by rw[hp];simp)] at h2
    obtain ⟨e,f1,g1⟩:=x
    obtain ⟨rfl,h3⟩:=h2
    exact ⟨_,_,h1,h3⟩)
  (fun j hj hp=>by
    obtain ⟨x,h1,h2⟩:=hs j hj
    rw[if_pos hp] at h2
    subst h2
    rw[if_pos hj]
    exact ⟨h1,by simp⟩)
  (by
    rw[if_neg (by omega)]
    exact ⟨he,by simp⟩) N 0 100000 (by omega) (by omega)
 cases hc:dC p N with
 | true =>
   have:=iH hc
   rw[if_pos this] at key
   exact cR (fun id' h=>by cases h) key
 | false =>
   have:=px hc
   rw[if_neg (by omega)] at key
   exact cW key
end
theorem ot {n f nt:Nat} {c:Code} (id:Nat) (F:Nat→aq) (G:Nat→aa) (N:Nat) (Y:aq×aa) (hN:N<99999)
 (hs:∀ j,j<N→∃ x,exec (bA n f nt) c (F j) (G j)=some x∧(x.1=.normal∧tidy (al (G 0)) x.2.1 x.2.2=(F (j+1),G (j+1))))
 (he:exec (bA n f nt) c (F N) (G N)=some (.exit id,Y)):exec (bA n f nt) (.block id (.loop c)) (F 0) (G 0)=some (.normal,Y):=by
 have:=qk id F G N (fun _=>false) (fun _=>Y) Y hN (fun j hj=>by
  obtain ⟨x,h1,h2⟩:=hs j hj
  exact ⟨x,h1,by rw[if_neg (by simp)];exact h2⟩) he
 have h0:dC (fun _=>false) N=false:=by
  cases h:dC (fun _=>false) N with
  | false=>rfl
  | true=>obtain ⟨i,_,h2⟩:=(dY _ _).1 h;cases h2
 rw[h0] at this
 exact this
end Go.Eng
end
section
namespace Go.Eng
open Go.Proofs
noncomputable def aG:aV:=⟨false,[]⟩
noncomputable def dc (k:Nat) (b:Nat→Int) (full:Bool):AV:=.slcT none (.M [.arr .i64 b k]) 1 k full
noncomputable def GK (v k:Nat) (y:Nat→Int):aV:=⟨false,[(v,.row (.M [.arr .i64 y k]))]⟩
theorem bj (tab:pf) (n:Nat) (ht:tab.Ok (cd n)):(il tab n 0).Ok (cd n) :=
 ⟨uW _,fun tgt args H x h=>by
   unfold il CY at h
   split at h
   · split at h
     · rename_i c hc
       exact ht _ _ hc _ _ _ h
     · exact (Tr.ae h).elim
   · exact (Tr.ae h).elim⟩
theorem jf {cx:Cx} {id:Nat} {B:Code} {fr:aq} {H:aa} {e:Bool} {X Y x:nS} (h:(Tr.ite e (Tr.ok X) (Tr.ok Y)).run=some x) (hx:exec cx (.block id B) fr H=some (cond e X.st Y.st)):exec cx (.block id B) fr H=some x.st:=by
 rw[hx]
 rcases Tr.ff h with ⟨hc,h⟩ | ⟨hc,h⟩
 · rw[hc,← Tr.ab h];rfl
 · rw[hc,← Tr.ab h];rfl
theorem cG {cx:Cx} {id:Nat} {B:Code} {fr:aq} {H:aa} {X x:nS} (h:(Tr.ok X).run=some x) (hx:exec cx (.block id B) fr H=some X.st):exec cx (.block id B) fr H=some x.st:=by
 rw[hx,← Tr.ab h]
theorem ft {j:Nat} (h:j<2 ^ 31):bf .i64 (j:Int) (Int.ofNat 1)=((j+1:Nat):Int):=by rw[jc,show Int.ofNat 1=1 from rfl];exact lq (by omega) (by omega)
theorem nj (j:Nat):aA 0 (j:Int) 1=j:=by rw[kG];omega
theorem L4 {x:Int} (h:0≤x):aA 0 x 1=x.toNat:=by rw[kG];omega
theorem J0 {x:Int} (h0:-9223372036854775808≤x) (h1:x≤9223372036854775807):FU .i64 x=x:=by rw[AH,lq h0 h1]
theorem Cu {x y:Int} (h0:-9223372036854775808≤x+y) (h1:x+y≤9223372036854775807):bf .i64 x y=x+y:=by rw[jc,lq h0 h1]
theorem Aq {x y:Int} (h0:-9223372036854775808≤x-y) (h1:x-y≤9223372036854775807):cB .i64 x y=x-y:=by rw[mF,lq h0 h1]
theorem Jk (L:List Int) (j:Nat):aK L j=L.getD j 0:=congrFun (BA L) j
theorem BB (L:List Int) (v:Int):w8 (ep (aK L) 0) L.length (aK [v])=aK (L++[v]):=by
 rw[gi,vu,jj];funext i
 by_cases h:i<L.length
 · simp[h,List.getElem?_append]
 · by_cases h2:i=L.length
   · subst h2;simp
   · have e1:[v][i-L.length]?=none:=List.getElem?_eq_none (by simp;omega)
     have e2:(L++[v])[i]?=none:=List.getElem?_eq_none (by simp;omega)
     simp only[h,if_false,List.getD_eq_getElem?_getD,e1,e2]
theorem Jl (S:List Int) (j:Nat) (hj:j<S.length):aK S j=S[j]:=by
 rw[Jk,List.getD_eq_getElem?_getD,List.getElem?_eq_getElem hj];rfl
noncomputable def gX (A:List AV) (V:AV):List AV→Option (Prop×AV):=fun x=>some (x=A,V)
noncomputable def tX (t:pf) (f:FuncId) (A:List AV) (V:AV):pf:=FN t f (gX A V)
theorem cL {c f:Nat} {t:pf} {A:List AV} {V:AV} (ht:t.Ok (cd c)) (h:∀ H,cd c (.fn f) A H=some (V,H)):(tX t f A V).Ok (cd c):=by
 refine rP ht (fun args p v hg hp H=>?_)
 unfold gX at hg
 simp only[nP] at hg
 obtain ⟨rfl,rfl⟩:=hg
 rw[hp];exact h H
noncomputable def tN (t:pf) (f:FuncId):pf:=FN t f (fun _=>none)
theorem zg {c f:Nat} {t:pf} (ht:t.Ok (cd c)):(tN t f).Ok (cd c):=rP ht (fun args p v hg hp H=>by cases hg)
noncomputable def gC (P:Int→Bool) (Q:Int→List AV→aa→Prop) (args:List AV) (H:aa):Tr (AV×aa) :=
 match args with
 | .int .i64 x::C=>.reqP (Q x C H) (.ok (.bool (P x),H))
 | _=>.bad
noncomputable def OR (f:FuncId) (P:Int→Bool) (Q:Int→List AV→aa→Prop):pf:=jb aQ f (gC P Q)
theorem D9 {k:Nat} {f:FuncId} {P:Int→Bool} {Q:Int→List AV→aa→Prop} (h:∀ x C H,Q x C H→cd k (.fn f) (.int .i64 x::C) H=some (.bool (P x),H)):(OR f P Q).Ok (cd k):=by
 refine jG (aX _) (fun args H x hx=>?_)
 unfold gC at hx
 split at hx
 · obtain ⟨h1,h2⟩:=Tr.cY hx
   rw[h _ _ _ h1,← Tr.ab h2]
 · exact (Tr.ae hx).elim
def FQ (p:Nat→Bool) (m:Nat):Int:=if dC p m=true then (fN p m 0:Int) else -1
theorem Jb (p:Nat→Bool) (k:Nat):mU (Int.ofNat 0) (FQ p k)=dC p k:=by
 rw[kJ];unfold FQ
 cases h:dC p k with
 | true =>
   rw[if_pos rfl]
   simp only[Int.ofNat_eq_natCast,decide_eq_true_eq];omega
 | false=>rw[if_neg (by decide)];rfl
theorem jx {p:Nat→Bool} {k:Nat} (h:∀ j,j<k→p j=false):dC p k=false:=by
 cases e:dC p k with
 | false=>rfl
 | true =>
   obtain ⟨j,hj,e2⟩:=(dY _ _).1 e
   rw[h j hj] at e2;cases e2
theorem gI {p:Nat→Bool} {k:Nat} (h:dC p k=false):∀ j,j<k→p j=false:=fun j hj=>by
 cases e:p j with
 | false=>rfl
 | true=>rw[(dY _ _).2 ⟨j,hj,e⟩] at h;cases h
theorem pw {p q:Nat→Bool} {k:Nat} (h:∀ j,j<k→p j=q j):dC p k=dC q k:=by
 rw[Bool.eq_iff_iff,dY,dY]
 constructor
 · rintro ⟨j,hj,e⟩;exact ⟨j,hj,by rw[← h j hj];exact e⟩
 · rintro ⟨j,hj,e⟩;exact ⟨j,hj,by rw[h j hj];exact e⟩
theorem K2 {n f nt:Nat} {c:Code} (id:Nat) (I:Nat→aq→aa→Prop) (Q:aq×aa→Prop) (N:Nat) (hN:N<99999) {fr0:aq} {H0:aa} (h0:I 0 fr0 H0)
 (hr:∀ j fr H,I j fr H→∃ x,exec (bA n f nt) c fr H=some x∧((x.1=.normal∧j<N∧I (j+1) (tidy (al H0) x.2.1 x.2.2).1 (tidy (al H0) x.2.1 x.2.2).2)∨(x.1=.ret∧Q x.2))) :
 ∃ y,exec (bA n f nt) (.block id (.loop c)) fr0 H0=some (.ret,y)∧Q y:=by
 obtain ⟨x,h1,h2⟩:=oD (body:=exec (bA n f nt) c) (n:=al H0) I (fun x=>x.1=.ret∧Q x.2) N (fun j fr H h=>by
  obtain ⟨x,h1,h2⟩:=hr j fr H h
  obtain ⟨e,f1,g1⟩:=x
  refine ⟨e,f1,g1,h1,?_⟩
  rcases h2 with h2 | ⟨h2,h3⟩
  · exact .inl h2
  · exact .inr ⟨by dsimp only at h2;rw[h2];simp,h2,h3⟩) 100000 0 fr0 H0 h0 (by omega)
 obtain ⟨e,f1,g1⟩:=x
 obtain ⟨h2,h3⟩:=h2
 dsimp only at h2 h3
 subst h2
 exact ⟨(f1,g1),cR (fun id' h=>by cases h) h1,h3⟩
def L3:List AV→Option (Prop×AV)
 | []=>some (True,.bool true)
 | _=>none
theorem O9 (n:Nat) (H:aa):cd (n+1) (.fn 16) [] H=some (.bool true,H):=by unfold cd cI;rfl
theorem Mx {c:Nat} {t:pf} (h:0<c) (ht:t.Ok (cd c)):(FN t 16 L3).Ok (cd c):=by
 obtain ⟨m,rfl⟩:∃ m,c=m+1:=⟨c-1,by omega⟩
 refine rP ht (fun args p v hg hp H=>?_)
 unfold L3 at hg
 split at hg
 · simp only[nP] at hg
   obtain ⟨_,rfl⟩:=hg
   exact O9 _ H
 · cases hg
noncomputable def dV (l:Nat) (t:Nat→Int) (k:Nat) (d:Nat→Int):AV:=.agg (.G [dc l t false,dc k d false])
end Go.Eng
end
section
namespace Go.Eng
open Go.Proofs
noncomputable def ti (lo hi:Int):aV:=⟨false,[(0,.row (.I .i64 [lo])),(0,.row (.I .i64 [hi]))]⟩
noncomputable def f83 (d:Nat):AV:=.fn (.func 83) [] [.ptr d 0 0 0,.ptr d 1 0 0]
noncomputable def CU (k:Nat) (b:Nat→Int) (full:Bool) (j:Int):aq:=[(0,dc k b full),(1,f83 2),(7,.int .i64 (Int.ofNat k)),(8,.int .i64 j)]
theorem RO (n:Nat) (lo hi:Int) (H:aa) (x:Int):bz Try.prog (cd n) 100000 83 Try.f83 (KtL.kt 83) (il aQ n 0) aT aU [(.int .i64 x,none),(.ptr 2 0 0 0,none),(.ptr 2 1 0 0,none)] (aG::aG::ti lo hi::H) =
 (fun (Z0:aV)=>Tr.ite (cF x lo) (Tr.ok ((AV.bool true,some 1),aG::aG::Z0::H)) (Tr.ok ((AV.bool (cF hi x),none),aG::aG::Z0::H))) { lock:=false,bs:=[(0,ak.row (Row.I .i64 [lo])),(0,ak.row (Row.I .i64 [hi]))] }:=by kernel_rfl
theorem t94 (n k:Nat) (b:Nat→Int) (full:Bool) (lo hi:Int) (P:Int→Bool) (Q:Int→List AV→aa→Prop) (H:aa) (j:Int):aN (bA n 94 19) (il (OR 83 P Q) n 0) aT aU (part Try.f94 [1,0,1,0,0]) (hints (CU k b full j)) (aG::aG::ti lo hi::H) =
 (fun (Z0:aV)=>Tr.ite (cF j (Int.ofNat k)) (Tr.req (dJ j k) (Tr.req (dg (aA 0 j 1) k) (Tr.reqP (Q (b (aA 0 j 1)) [AV.ptr 2 0 0 0,AV.ptr 2 1 0 0] (aG::aG::Z0::H)) (Tr.ite (P (b (aA 0 j 1))) (Tr.ok (Ex.ret,[(4,AV.int .i64 j,none)],aG::aG::Z0::H)) (Tr.ok (Ex.normal,[(0,AV.slcT none (Row.M [ah.arr .i64 b k]) 1 k full,none),(1,AV.fn (Fn.func 83) [] [AV.ptr 2 0 0 0,AV.ptr 2 1 0 0],none),(7,AV.int .i64 (Int.ofNat k),none),(8,AV.int .i64 (bf .i64 j (Int.ofNat 1)),none)],aG::aG::Z0::H)))))) (Tr.ok (Ex.exit 0,[(0,AV.slcT none (Row.M [ah.arr .i64 b k]) 1 k full,none),(1,AV.fn (Fn.func 83) [] [AV.ptr 2 0 0 0,AV.ptr 2 1 0 0],none),(7,AV.int .i64 (Int.ofNat k),none),(8,AV.int .i64 j,none),(9,AV.bool false,some 1)],aG::aG::Z0::H))) { lock:=false,bs:=[(0,ak.row (Row.I .i64 [lo])),(0,ak.row (Row.I .i64 [hi]))] }:=by kernel_rfl
theorem RU (n k:Nat) (b:Nat→Int) (full:Bool) (lo hi:Int) (H:aa) (x:Bool) (r:Nat):bz Try.prog (cd n) 100000 94 Try.f94 (KtL.kt 94) (il aQ n 0) (dp aT 0 (CU k b full 0) (aG::aG::ti lo hi::H) (.ite x (.ok (.ret,[(4,.int .i64 (Int.ofNat r),none)],aG::aG::ti lo hi::H)) (.ok (.normal,hints (CU k b full (Int.ofNat k)++[(9,.bool false)]),aG::aG::ti lo hi::H)))) aU [(dc k b full,none),(f83 1,none)] (aG::ti lo hi::H) =
 (fun (Z0:aV)=>((fun (Z1:aq)=>Tr.reqP (Z1=Z1∧aG::aG::Z0::H=aG::aG::Z0::H) (Tr.ite x (Tr.ok ((AV.int .i64 (Int.ofNat r),none),aG::Z0::H)) (Tr.ok ((AV.int .i64 (Int.negSucc 0),some 1),aG::Z0::H)))) [(0,AV.slcT none (Row.M [ah.arr .i64 b k]) 1 k full),(1,AV.fn (Fn.func 83) [] [AV.ptr 2 0 0 0,AV.ptr 2 1 0 0]),(7,AV.int .i64 (Int.ofNat k)),(8,AV.int .i64 (Int.ofNat 0))])) { lock:=false,bs:=[(0,ak.row (Row.I .i64 [lo])),(0,ak.row (Row.I .i64 [hi]))] }:=by kernel_rfl
theorem RM (n k:Nat) (b:Nat→Int) (full:Bool) (lo hi:Int) (H:aa) (r:Int):bz Try.prog (cd n) 100000 82 Try.f82 (KtL.kt 82) (il (A5 aQ 94 [dc k b full,f83 1] (aG::ti lo hi::H) (.ok (.int .i64 r,aG::ti lo hi::H))) n 0) aT aU [(dc k b full,none),(f83 0,none)] (ti lo hi::H) =
 (fun (Z0:aV)=>((fun (Z1:List AV)=>Tr.reqP (Z1=Z1∧aG::Z0::H=aG::Z0::H) (Tr.ok ((AV.bool (mU (Int.ofNat 0) r),none),Z0::H))) [AV.slcT none (Row.M [ah.arr .i64 b k]) 1 k full,AV.fn (Fn.func 83) [] [AV.ptr 1 0 0 0,AV.ptr 1 1 0 0]])) { lock:=false,bs:=[(0,ak.row (Row.I .i64 [lo])),(0,ak.row (Row.I .i64 [hi]))] }:=by kernel_rfl
theorem RC (n k:Nat) (b:Nat→Int) (full:Bool) (lo hi:Int) (H:aa) (e:Bool):bz Try.prog (cd n) 100000 56 Try.f56 (KtL.kt 56) (il (A5 aQ 82 [dc k b full,f83 0] (ti lo hi::H) (.ok (.bool e,ti lo hi::H))) n 0) aT aU [(.int .i64 lo,none),(.int .i64 hi,none),(dc k b full,none)] H =
 (fun (Z0:List AV)=>((fun (Z1:aV)=>Tr.reqP (Z0=Z0∧Z1::H=Z1::H) (Tr.ok ((AV.bool (bx e),none),H))) { lock:=false,bs:=[(0,ak.row (Row.I .i64 [lo])),(0,ak.row (Row.I .i64 [hi]))] })) [AV.slcT none (Row.M [ah.arr .i64 b k]) 1 k full,AV.fn (Fn.func 83) [] [AV.ptr 0 0 0 0,AV.ptr 0 1 0 0]]:=by kernel_rfl
theorem O6:∀ b,(0,b) ∈ aM (bR Try.f94)→b=.loop (part Try.f94 [1,0,1,0,0]):=g7 (by kernel_rfl)
def fQ (lo hi x:Int):Bool:=decide (x<lo) || decide (hi<x)
section
variable (n k:Nat) (b:Nat→Int) (full:Bool) (lo hi:Int) (H:aa)
theorem Pn (x:Int):cd (n+1) (.fn 83) [.int .i64 x,.ptr 2 0 0 0,.ptr 2 1 0 0] (aG::aG::ti lo hi::H)=some (.bool (fQ lo hi x),aG::aG::ti lo hi::H):=by
 have hp:fQ lo hi x=(decide (x<lo) || decide (hi<x)):=rfl
 rw[hp]
 refine aR (n:=n) Try.func83 rfl rfl rfl (RO n lo hi H x) (aB n) (af _ _) (ag _ _) ?_
 rw[eH,eH]
 refine Tr.bn (fun hc=>Tr.bc ⟨?_,rfl⟩) (fun hc=>Tr.bc ⟨?_,rfl⟩)
 · rw[hc];rfl
 · rw[hc];rfl
theorem Pm (hk:k≤1000):cd (n+4) (.fn 82) [dc k b full,f83 0] (ti lo hi::H)=some (.bool (dC (fun j=>fQ lo hi (b j)) k),ti lo hi::H):=by
 have hQ:∀ q x C H',(C=[.ptr 2 0 0 0,.ptr 2 1 0 0]∧H'=aG::aG::ti lo hi::H)→cd (n+2+q) (.fn 83) (.int .i64 x::C) H'=some (.bool (fQ lo hi x),H'):=by
  rintro q x C H' ⟨rfl,rfl⟩
  rw[show n+2+q=n+1+q+1 by omega]
  exact Pn _ lo hi H x
 have hx:=qk (n:=n+2) (f:=94) (nt:=19) (c:=part Try.f94 [1,0,1,0,0]) 0 (fun j=>CU k b full (j:Int)) (fun _=>aG::aG::ti lo hi::H) k (fun j=>fQ lo hi (b j)) (fun j=>([(4,.int .i64 (j:Nat))],aG::aG::ti lo hi::H)) (CU k b full (Int.ofNat k)++[(9,.bool false)],aG::aG::ti lo hi::H) (by omega) (fun j hj=>?_) ?_
 · have h94:cd (n+3) (.fn 94) [dc k b full,f83 1] (aG::ti lo hi::H)=some (.int .i64 (FQ (fun j=>fQ lo hi (b j)) k),aG::ti lo hi::H):=by
    refine aR (n:=n+2) Try.func94 rfl rfl rfl (RU (n+2) k b full lo hi H (dC (fun j=>fQ lo hi (b j)) k) (fN (fun j=>fQ lo hi (b j)) k 0)) (aB _) (aW (af _ _) O6 (fun x h=>jf h hx)) (ag _ _) ?_
    refine Tr.bg ⟨rfl,rfl⟩ (Tr.bn (fun hc=>Tr.bc ⟨?_,rfl⟩) (fun hc=>Tr.bc ⟨?_,rfl⟩))
    · unfold FQ;rw[if_pos hc];rfl
    · unfold FQ;rw[if_neg (by rw[hc];decide)];rfl
   refine aR (n:=n+3) Try.func82 rfl rfl rfl (RM (n+3) k b full lo hi H (FQ (fun j=>fQ lo hi (b j)) k)) (bj _ (n+3) (iG (aX _) (fun x hy=>by rw[← Tr.ab hy];exact h94))) (af _ _) (ag _ _) ?_
   refine Tr.bg ⟨rfl,rfl⟩ (Tr.bc ⟨?_,rfl⟩)
   rw[Jb]
 · refine aO (t94 (n+2) k b full lo hi (fQ lo hi) _ H (j:Int)) (xP _ (n+2) 0 (fun q=>D9 (hQ q))) (af _ _) (ag _ _) ?_
   show Tr.all _ (fun x=>if fQ lo hi (b j)=true then _ else _)
   rw[ft (by omega),nj]
   cases hp:fQ lo hi (b j) with
   | true =>
     simp only[if_true]
     refine Tr.bn (fun hc=>?_) (fun hc=>?_)
     · repeat' first | (refine Tr.bn (fun hc=>?_) (fun hc=>?_)<;>(try simp (disch:=omega) only[nV,nW] at hc)<;>try omega) | (refine Tr.cj ?_ ?_;· (try simp (disch:=omega) only[nV,nW]);try omega) | (refine Tr.bg ?_ ?_;· first | exact trivial | rfl | exact ⟨rfl,rfl⟩ | exact ⟨rfl,rfl,rfl⟩ | (simp (disch:=omega) only[nV,nW];done) | ((try simp (disch:=omega) only[nV,nW]);omega)) | fail
       all_goals first
        | exact ⟨rfl,rfl⟩
        | (refine Tr.bg ⟨trivial,rfl⟩ ?_
           exact wF)
        | exact Tr.bc rfl
        | fail
     · simp (disch:=omega) only[nV,nW] at hc;omega
   | false =>
     simp only[Bool.false_eq_true,if_false]
     refine Tr.bn (fun hc=>?_) (fun hc=>?_)
     · repeat' first | (refine Tr.bn (fun hc=>?_) (fun hc=>?_)<;>(try simp (disch:=omega) only[nV,nW] at hc)<;>try omega) | (refine Tr.cj ?_ ?_;· (try simp (disch:=omega) only[nV,nW]);try omega) | (refine Tr.bg ?_ ?_;· first | exact trivial | rfl | exact ⟨rfl,rfl⟩ | exact ⟨rfl,rfl,rfl⟩ | (simp (disch:=omega) only[nV,nW];done) | ((try simp (disch:=omega) only[nV,nW]);omega)) | fail
       all_goals first
        | exact ⟨rfl,rfl⟩
        | (refine Tr.bg ⟨trivial,rfl⟩ ?_
           exact wF)
        | exact Tr.bc ⟨rfl,rfl⟩
        | fail
     · simp (disch:=omega) only[nV,nW] at hc;omega
 · obtain ⟨x,h1,rfl⟩:=aO (Q:=fun x=>x=(.exit 0,CU k b full (Int.ofNat k)++[(9,.bool false)],aG::aG::ti lo hi::H)) (t94 (n+2) k b full lo hi (fQ lo hi) _ H (Int.ofNat k)) (xP _ (n+2) 0 (fun q=>D9 (hQ q))) (af _ _) (ag _ _) (by
    refine Tr.bn (fun hc=>?_) (fun hc=>Tr.bc rfl)
    simp (disch:=omega) only[nV,nW] at hc;omega)
   exact h1
theorem Pf (hk:k≤1000):cd (n+5) (.fn 56) [.int .i64 lo,.int .i64 hi,dc k b full] H=some (.bool (!dC (fun j=>fQ lo hi (b j)) k),H):=by
 have h:=Pm n k b full lo hi H hk
 refine aR (n:=n+4) Try.func56 rfl rfl rfl (RC (n+4) k b full lo hi H (dC (fun j=>fQ lo hi (b j)) k)) (bj _ (n+4) (iG (aX _) (fun x hy=>by rw[← Tr.ab hy];exact h))) (af _ _) (ag _ _) ?_
 rw[gL]
 exact wF
end
end Go.Eng
end
section
namespace Go.Eng
def cn (p:Nat→Bool):Nat→Nat
 | 0=>0
 | j+1=>cn p j+(p j).toNat
theorem lB (p:Nat→Bool):∀ n,cn p n≤n
 | 0=>Nat.le_refl _
 | n+1=>by
   have:=lB p n
   have:(p n).toNat≤1:=Bool.toNat_le _
   show cn p n+_≤_
   omega
theorem dq {p q:Nat→Bool}:∀ {n:Nat},(∀ j,j<n→p j=q j)→cn p n=cn q n
 | 0,_=>rfl
 | n+1,h=>by
   show cn p n+_=cn q n+_
   rw[dq (fun j hj=>h j (by omega)),h n (by omega)]
theorem g8 {p q:Nat→Bool} {i:Nat} (h1:p i=false) (h2:q i=true):∀ {n:Nat},(∀ j,j<n→j≠i→q j=p j)→i<n→cn q n=cn p n+1
 | 0,_,hi=>by omega
 | n + 1,h,hi=>by
   show cn q n+_=cn p n+_+1
   by_cases e:i=n
   · subst e
     rw[h1,h2,dq (p:=q) (q:=p) (fun j hj=>h j (by omega) (by omega))]
     rfl
   · rw[g8 h1 h2 (fun j hj hne=>h j (by omega) hne) (by omega),h n (by omega) (fun x=>e x.symm)]
     omega
theorem po {p:Nat→Bool}:∀ {n:Nat},0<cn p n→∃ j,j<n∧p j=true
 | 0,h=>by simp[cn] at h
 | n + 1,h=>by
   have h:0<cn p n+(p n).toNat:=h
   cases e:p n with
   | true=>exact ⟨n,by omega,e⟩
   | false =>
     rw[e] at h
     obtain ⟨j,hj,e⟩:=po (n:=n) (by simpa using h)
     exact ⟨j,by omega,e⟩
theorem mg {p:Nat→Bool} {n:Nat} (h:cn p n=0):∀ j,j<n→p j=false:=fun j hj=>by
 induction n with
 | zero=>omega
 | succ n ih =>
   have h:cn p n+(p n).toNat=0:=h
   by_cases e:j=n
   · subst e
     cases e:p j with
     | false=>rfl
     | true=>rw[e] at h;simp at h
   · exact ih (by omega) (by omega)
theorem kr {p:Nat→Bool} {n:Nat} (h:∀ j,j<n→p j=false):cn p n=0:=by
 induction n with
 | zero=>rfl
 | succ n ih =>
   show cn p n+_=0
   rw[ih (fun j hj=>h j (by omega)),h n (by omega)];rfl
theorem Ga {p:Nat→Bool} {n:Nat} (h:cn p n=n):∀ j,j<n→p j=true:=fun j hj=>by
 induction n with
 | zero=>omega
 | succ n ih =>
   have h:cn p n+(p n).toNat=n+1:=h
   have h2:=lB p n
   have h3:(p n).toNat≤1:=Bool.toNat_le _
   by_cases e:j=n
   · subst e
     cases e:p j with
     | true=>rfl
     | false=>rw[e] at h;simp at h;omega
   · exact ih (by omega) (by omega)
theorem Gb {p:Nat→Bool} {n:Nat} (h:cn p n<n):∃ j,j<n∧p j=false:=by
 apply Classical.byContradiction
 intro hc
 have:∀ j,j<n→p j=true:=fun j hj=>by
  cases e:p j with
  | true=>rfl
  | false=>exact absurd ⟨j,hj,e⟩ hc
 have e:∀ m,m≤n→cn p m=m:=by
  intro m
  induction m with
  | zero=>intro _;rfl
  | succ m ih =>
    intro hm
    show cn p m+_=_
    rw[ih (by omega),this m (by omega)];rfl
 have:=e n (Nat.le_refl _)
 omega
def bO (t:Nat→Int):Nat→Int→Int
 | 0,x=>x
 | m+1,x=>if 0≤bO t m x then t (bO t m x).toNat else bO t m x
theorem Hm {t:Nat→Int} (m:Nat) (x:Int) (h:0≤x):bO t (m+1) x=bO t m (t x.toNat):=by
 induction m with
 | zero=>show (if 0≤x then _ else _)=_;rw[if_pos h];rfl
 | succ m ih =>
   show (if 0≤bO t (m+1) x then t (bO t (m+1) x).toNat else bO t (m+1) x)=_
   rw[ih];rfl
structure qO (l:Nat) (t:Nat→Int) (f:Nat→Int) (a:Nat) (tk:Nat→Bool) (tm:Nat→Nat):Prop where
 cnt:cn tk l=a
 on:∀ i,i<l→tk i=true→f i=-1∧tm i<a
 off:∀ i,i<l→tk i=false→f i=(cn (fun j=>!tk j && decide (t j=(i:Int))) l:Nat)
 pre:∀ i j,i<l→j<l→tk i=true→t j=(i:Int)→tk j=true∧tm j<tm i
theorem Jy {l:Nat} {t f:Nat→Int} (h:∀ i,i<l→f i=(cn (fun j=>decide (t j=(i:Int))) l:Nat)):qO l t f 0 (fun _=>false) (fun _=>0) where
 cnt:=kr (fun _ _=>rfl)
 on:=fun i hi h=>by cases h
 off:=fun i hi _=>by rw[h i hi];rfl
 pre:=fun i j _ _ h=>by cases h
def uI (f:Nat→Int) (i:Nat) (x:Int):Nat→Int:=fun j=>if j=i then x else f j
def zB (t f:Nat→Int) (i:Nat):Nat→Int:=if 0≤t i then uI (uI f i (-1)) (t i).toNat (uI f i (-1) (t i).toNat-1) else uI f i (-1)
theorem qO.zero {l:Nat} {t f:Nat→Int} {a:Nat} {tk:Nat→Bool} {tm:Nat→Nat} (h:qO l t f a tk tm) {i:Nat} (hi:i<l) (hf:f i=0):tk i=false∧∀ j,j<l→t j=(i:Int)→tk j=true:=by
 have h1:tk i=false:=by
  cases e:tk i with
  | false=>rfl
  | true=>have:=(h.on i hi e).1;omega
 refine ⟨h1,fun j hj e=>?_⟩
 have h2:=h.off i hi h1
 rw[hf] at h2
 have:=mg (p:=fun j=>!tk j && decide (t j=(i:Int))) (n:=l) (by omega) j hj
 simp only[e,decide_true,Bool.and_true,Bool.not_eq_false'] at this
 exact this
theorem qO.take {l:Nat} {t f:Nat→Int} {a:Nat} {tk:Nat→Bool} {tm:Nat→Nat} (h:qO l t f a tk tm) {i:Nat} (hi:i<l) (hf:f i=0) :
 qO l t (zB t f i) (a+1) (fun j=>if j=i then true else tk j) (fun j=>if j=i then a else tm j)∧zB t f i i=-1∧∀ x,x<l→f x=-1→zB t f i x=-1:=by
 obtain ⟨h1,h2⟩:=h.zero hi hf
 have hti:∀ x:Nat,x<l→t i=(x:Int)→tk x=false∧x≠i:=fun x hx e=>by
  have hne:x≠i:=fun c=>by
   subst c
   have:=h2 x hx e
   rw[h1] at this;cases this
  refine ⟨?_,hne⟩
  cases c:tk x with
  | false=>rfl
  | true =>
    have:=(h.pre x i hx hi c e).1
    rw[h1] at this;cases this
 have at_i:zB t f i i=-1:=by
  unfold zB
  by_cases c:0≤t i
  · rw[if_pos c]
    have hne:i≠(t i).toNat:=fun e=>by
     have:t i=(i:Int):=by omega
     exact (hti i hi this).2 rfl
    show (if i=(t i).toNat then _ else (if i=i then _ else _))=_
    rw[if_neg hne,if_pos rfl]
  · rw[if_neg c];show (if i=i then _ else _)=_;rw[if_pos rfl]
 have at_x:∀ x,x≠i→zB t f i x=if t i=(x:Int) then f x-1 else f x:=fun x hx=>by
  unfold zB
  by_cases c:0≤t i
  · rw[if_pos c]
    show (if x=(t i).toNat then (if (t i).toNat=i then _ else f (t i).toNat)-1 else (if x=i then _ else f x))=_
    by_cases e:x=(t i).toNat
    · rw[if_pos e,← e,if_neg hx,if_pos (by omega)]
    · rw[if_neg e,if_neg hx,if_neg (by omega)]
  · rw[if_neg c,if_neg (by omega)]
    show (if x=i then _ else f x)=_
    rw[if_neg hx]
 refine ⟨⟨?_,?_,?_,?_⟩,at_i,fun x hx e=>?_⟩
 rotate_left 4
 · have hne:x≠i:=fun c=>by subst c;omega
   rw[at_x x hne]
   by_cases c:t i=(x:Int)
   · have:=h.off x hx (hti x hx c).1
     omega
   · rw[if_neg c];exact e
 · rw[g8 (p:=tk) (i:=i) h1 (by simp) (fun j _ hj=>by simp[hj]) hi,h.cnt]
 · intro x hx e
   by_cases c:x=i
   · subst c;exact ⟨at_i,by simp⟩
   · simp only[c,if_false] at e ⊢
     obtain ⟨g1,g2⟩:=h.on x hx e
     rw[at_x x c,if_neg (fun e2=>by have:=(hti x hx e2).1;rw[e] at this;cases this)]
     exact ⟨g1,by omega⟩
 · intro x hx e
   by_cases c:x=i
   · subst c;simp at e
   · simp only[c,if_false] at e
     rw[at_x x c,h.off x hx e]
     by_cases e2:t i=(x:Int)
     · rw[if_pos e2]
       have:=g8 (p:=fun j=>!(if j=i then true else tk j) && decide (t j=(x:Int))) (q:=fun j=>!tk j && decide (t j=(x:Int))) (i:=i) (n:=l) (by simp) (by simp[h1,e2]) (fun j _ hj=>by simp[hj]) hi
       rw[this];omega
     · rw[if_neg e2]
       congr 1
       refine dq (fun j hj=>?_)
       by_cases c2:j=i
       · subst c2;simp[e2]
       · simp[c2]
 · intro x j hx hj e ej
   by_cases c:x=i
   · subst c
     have:=h2 j hj ej
     have hne:j≠x:=fun c2=>by subst c2;rw[h1] at this;cases this
     simp only[hne,if_false,if_true,this,true_and]
     exact (h.on j hj this).2
   · simp only[c,if_false] at e
     obtain ⟨g1,g2⟩:=h.pre x j hx hj e ej
     have hne:j≠i:=fun c2=>by subst c2;rw[h1] at g1;cases g1
     simp only[hne,c,if_false]
     exact ⟨g1,g2⟩
theorem qO.le {l:Nat} {t f:Nat→Int} {a:Nat} {tk:Nat→Bool} {tm:Nat→Nat} (h:qO l t f a tk tm):a≤l:=by
 rw[← h.cnt];exact lB _ _
def g9 (l:Nat) (t:Nat→Int):Bool:=dC (fun i=>decide (0≤bO t l (i:Int))) l
theorem Fe {l:Nat} {t f:Nat→Int} {tk:Nat→Bool} {tm:Nat→Nat} (h:qO l t f l tk tm) (ht:∀ j,j<l→t j<l):g9 l t=false:=by
 have all:=Ga h.cnt
 refine jx (fun i hi=>?_)
 have key:∀ m,0≤bO t m (i:Int)→(bO t m (i:Int)).toNat<l∧m≤tm (bO t m (i:Int)).toNat:=by
  intro m
  induction m with
  | zero=>intro _;exact ⟨by show ((i:Int)).toNat<l;omega,Nat.zero_le _⟩
  | succ m ih =>
    intro hp
    have e:bO t (m+1) (i:Int)=if 0≤bO t m (i:Int) then t (bO t m (i:Int)).toNat else bO t m (i:Int):=rfl
    by_cases c:0≤bO t m (i:Int)
    · rw[if_pos c] at e
      obtain ⟨g1,g2⟩:=ih c
      rw[e] at hp ⊢
      have g3:=ht _ g1
      obtain ⟨_,g4⟩:=h.pre (t (bO t m (i:Int)).toNat).toNat _ (by omega) g1 (all _ (by omega)) (by omega)
      exact ⟨by omega,by omega⟩
    · rw[if_neg c] at e;rw[e] at hp;exact absurd hp c
 refine decide_eq_false (fun hc=>?_)
 obtain ⟨g1,g2⟩:=key l hc
 have:=(h.on _ g1 (all _ g1)).2
 omega
theorem Df {l:Nat} {t f:Nat→Int} {a:Nat} {tk:Nat→Bool} {tm:Nat→Nat} (h:qO l t f a tk tm) (ha:a<l) (hf:∀ i,i<l→f i≠0):g9 l t=true:=by
 obtain ⟨i0,hi0,e0⟩:=Gb (p:=tk) (n:=l) (by rw[h.cnt];exact ha)
 have key:∀ m,∃ x,x<l∧tk x=false∧0≤bO t m (x:Int):=by
  intro m
  induction m with
  | zero=>exact ⟨i0,hi0,e0,by show (0:Int)≤(i0:Int);omega⟩
  | succ m ih =>
    obtain ⟨x,hx,e,hs⟩:=ih
    have h1:=h.off x hx e
    have h2:=hf x hx
    obtain ⟨j,hj,e2⟩:=po (p:=fun j=>!tk j && decide (t j=(x:Int))) (n:=l) (by omega)
    simp only[Bool.and_eq_true,Bool.not_eq_true',decide_eq_true_eq] at e2
    refine ⟨j,hj,e2.1,?_⟩
    rw[Hm m _ (by omega),Int.toNat_natCast,e2.2]
    exact hs
 obtain ⟨x,hx,_,hs⟩:=key l
 exact (dY _ _).2 ⟨x,hx,decide_eq_true hs⟩
end Go.Eng
end
section
namespace Go.Eng
open Go.Proofs
noncomputable def xA (l:Nat) (t:Nat→Int) (j:Int):aq:=[(3,.ptr 0 1 0 0),(14,dc l t false),(15,.int .i64 (Int.ofNat l)),(16,.int .i64 j)]
noncomputable def v5 (l:Nat) (t:Nat→Int) (k:Nat) (d g:Nat→Int):aV:=⟨false,[(0,.row (.G [dc l t false,dc k d false])),(0,.row (.M [.one (dc l t false),.one (dc k d false),.arr .i64 g 30]))]⟩
noncomputable def dK (s:Nat) (l:Nat) (t:Nat→Int) (k:Nat) (d g:Nat→Int):AV:=.ptrT (some s) (.M [.one (dc l t false),.one (dc k d false),.arr .i64 g 30]) 0
theorem t57 (n l k:Nat) (t d g:Nat→Int) (H:aa) (j:Int):aN (bA n 57 34) (il aQ n 0) aT aU (part Try.f57 [1,1,1,0,1,0,0]) (hints (xA l t j)) (v5 l t k d g::H) =
 (fun (Z0:aV)=>((fun (Z1:aC)=>Tr.ite (cF j (Int.ofNat l)) (Tr.req (dJ j l) (Tr.req (dg (aA 0 j 1) l) (Tr.ite (mU (Int.ofNat 0) (t (aA 0 j 1))) (Tr.req (dJ (t (aA 0 j 1)) 30) (Tr.req (cT 0 0) (Tr.req (kH (aA 2 (t (aA 0 j 1)) 1) 1 2 30) (Tr.req (dJ (t (aA 0 j 1)) 30) (Tr.req (cT 0 0) (Tr.req (kH (aA 2 (t (aA 0 j 1)) 1) 1 2 30) (Tr.req (jI (jz 0 0) (jz 0 1)) (Tr.ok (Ex.normal,Z1,{ lock:=false,bs:=[(0,ak.row (Row.G [AV.slcT none (Row.M [ah.arr .i64 t l]) 1 l false,AV.slcT none (Row.M [ah.arr .i64 d k]) 1 k false])),(0,ak.row (Row.M [ah.one (AV.slcT none (Row.M [ah.arr .i64 t l]) 1 l false),ah.one (AV.slcT none (Row.M [ah.arr .i64 d k]) 1 k false),ah.arr .i64 (c7 g (s4 (aA 2 (t (aA 0 j 1)) 1) 2) (bf .i64 (g (s4 (aA 2 (t (aA 0 j 1)) 1) 2)) (Int.ofNat 1))) 30]))] } :: H))))))))) (Tr.ok (Ex.normal,Z1,Z0::H))))) (Tr.ok (Ex.exit 0,[(3,AV.ptr 0 1 0 0,none),(14,AV.slcT none (Row.M [ah.arr .i64 t l]) 1 l false,none),(15,AV.int .i64 (Int.ofNat l),none),(16,AV.int .i64 j,none),(17,AV.bool false,some 1)],Z0::H))) [(3,AV.ptr 0 1 0 0,none),(14,AV.slcT none (Row.M [ah.arr .i64 t l]) 1 l false,none),(15,AV.int .i64 (Int.ofNat l),none),(16,AV.int .i64 (bf .i64 j (Int.ofNat 1)),none)])) { lock:=false,bs:=[(0,ak.row (Row.G [AV.slcT none (Row.M [ah.arr .i64 t l]) 1 l false,AV.slcT none (Row.M [ah.arr .i64 d k]) 1 k false])),(0,ak.row (Row.M [ah.one (AV.slcT none (Row.M [ah.arr .i64 t l]) 1 l false),ah.one (AV.slcT none (Row.M [ah.arr .i64 d k]) 1 k false),ah.arr .i64 g 30]))] }:=by kernel_rfl
theorem RD (n l k:Nat) (t d g:Nat→Int) (H:aa):bz Try.prog (cd n) 100000 57 Try.f57 (KtL.kt 57) (il aQ n 0) (dp aT 0 (xA l t 0) (v5 l t k d (fun _=>Int.ofNat 0)::H) (.ok (.normal,hints (xA l t (Int.ofNat l)++[(17,.bool false)]),v5 l t k d g::H))) aU [(dV l t k d,none)] H =
 (fun (Z0:aV)=>((fun (Z1:aq)=>Tr.req (dg 0 30) (Tr.req (cT 0 0) (Tr.reqP (Z1=Z1∧Z0::H=Z0::H) (Tr.ok ((AV.ptrT (some 0) (Row.M [ah.one (AV.slcT none (Row.M [ah.arr .i64 t l]) 1 l false),ah.one (AV.slcT none (Row.M [ah.arr .i64 d k]) 1 k false),ah.arr .i64 g 30]) 0,none),H))))) [(3,AV.ptr 0 1 0 0),(14,AV.slcT none (Row.M [ah.arr .i64 t l]) 1 l false),(15,AV.int .i64 (Int.ofNat l)),(16,AV.int .i64 (Int.ofNat 0))])) { lock:=false,bs:=[(0,ak.row (Row.G [AV.slcT none (Row.M [ah.arr .i64 t l]) 1 l false,AV.slcT none (Row.M [ah.arr .i64 d k]) 1 k false])),(0,ak.row (Row.M [ah.one (AV.slcT none (Row.M [ah.arr .i64 t l]) 1 l false),ah.one (AV.slcT none (Row.M [ah.arr .i64 d k]) 1 k false),ah.arr .i64 (fun x=>Int.ofNat 0) 30]))] }:=by kernel_rfl
theorem O0:∀ b,(0,b) ∈ aM (bR Try.f57)→b=.loop (part Try.f57 [1,1,1,0,1,0,0]):=g7 (by kernel_rfl)
noncomputable def cu (t:Nat→Int):Nat→Nat→Int
 | 0=>fun _=>0
 | j+1=>if 0≤t j then c7 (cu t j) (t j).toNat (cu t j (t j).toNat+1) else cu t j
theorem Bv (t:Nat→Int):∀ (j:Nat) (i:Nat),cu t j i=(cn (fun x=>decide (t x=(i:Int))) j:Nat)
 | 0,i=>rfl
 | j + 1,i=>by
   have ih:=Bv t j i
   show (if 0≤t j then c7 (cu t j) (t j).toNat (cu t j (t j).toNat+1) else cu t j) i=((cn (fun x=>decide (t x=(i:Int))) j+(decide (t j=(i:Int))).toNat:Nat):Int)
   by_cases c:0≤t j
   · rw[if_pos c,kZ]
     show (if i=(t j).toNat then _ else _)=_
     by_cases e:i=(t j).toNat
     · rw[if_pos e,← e,ih,decide_eq_true (show t j=(i:Int) by omega)]
       simp
     · rw[if_neg e,ih,decide_eq_false (show ¬ t j=(i:Int) by omega)]
       simp
   · rw[if_neg c,ih,decide_eq_false (show ¬ t j=(i:Int) by omega)]
     simp
section
variable (n l k:Nat) (t d:Nat→Int) (H:aa)
theorem Q6 (hl:l≤30) (ht:∀ j,j<l→t j<l):exec (bA n 57 34) (.block 0 (.loop (part Try.f57 [1,1,1,0,1,0,0]))) (xA l t 0) (v5 l t k d (fun _=>Int.ofNat 0)::H)=some (.normal,xA l t (Int.ofNat l)++[(17,.bool false)],v5 l t k d (cu t l)::H):=by
 refine ot 0 (fun j=>xA l t (j:Int)) (fun j=>v5 l t k d (cu t j)::H) l (xA l t (Int.ofNat l)++[(17,.bool false)],v5 l t k d (cu t l)::H) (by omega) (fun j hj=>?_) ?_
 · have htj:=ht j hj
   have hld:cu t (j+1)=if 0≤t j then c7 (cu t j) (t j).toNat (cu t j (t j).toNat+1) else cu t j:=rfl
   refine aO (t57 n l k t d (cu t j) H (j:Int)) (aB n) (af _ _) (ag _ _) ?_
   rw[ft (by omega),nj]
   show Tr.all _ (fun x=>_∧tidy _ _ _=(_,v5 l t k d (cu t (j+1))::H))
   rw[hld]
   by_cases c:0≤t j
   · have hg:=Bv t j (t j).toNat
     have hb:=lB (fun x=>decide (t x=(((t j).toNat:Nat):Int))) j
     have es:s4 (aA 2 (t j) 1) 2=(t j).toNat:=by rw[kG,kV];omega
     have ea:bf .i64 (cu t j (t j).toNat) (Int.ofNat 1)=cu t j (t j).toNat+1:=by
      rw[show Int.ofNat 1=1 from rfl];exact Cu (by omega) (by omega)
     rw[if_pos c,es,ea]
     generalize c7 (cu t j) (t j).toNat (cu t j (t j).toNat+1)=T
     generalize t j=q at *
     exact wF
   · rw[if_neg c]
     generalize t j=q at *
     exact wF
 · obtain ⟨x,h1,rfl⟩:=aO (Q:=fun x=>x=(.exit 0,xA l t (Int.ofNat l)++[(17,.bool false)],v5 l t k d (cu t l)::H)) (t57 n l k t d (cu t l) H (Int.ofNat l)) (aB n) (af _ _) (ag _ _) (by
    refine Tr.bn (fun hc=>?_) (fun hc=>Tr.bc rfl)
    simp (disch:=omega) only[nV,nW] at hc;omega)
   exact h1
theorem ON (hl:l≤30) (ht:∀ j,j<l→t j<l):cd (n+1) (.fn 57) [dV l t k d] H=some (dK 0 l t k d (cu t l),H):=by
 have hx:=Q6 n l k t d H hl ht
 refine aR (n:=n) Try.func57 rfl rfl rfl (RD n l k t d (cu t l) H) (aB _) (aW (af _ _) O0 (fun x hy=>cG hy hx)) (ag _ _) ?_
 generalize cu t l=g at *
 exact wF
end
end Go.Eng
end
