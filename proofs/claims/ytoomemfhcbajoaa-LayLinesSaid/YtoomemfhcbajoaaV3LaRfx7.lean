/- Lay: pick, as a function with a range over a map. -/
import Derived.Test.YtoomemfhcbajoaaV3EngRnFx5
import Derived.Test.YtoomemfhcbajoaaV3EngKtL
import Derived.Test.YtoomemfhcbajoaaProg
import Derived.KernelRfl
import Derived.Test.YtoomemfhcbajoaaV3EngThx4
import Derived.Test.YtoomemfhcbajoaaV3EngRnLx7
set_option maxRecDepth 100000
set_option linter.unusedVariables false
set_option linter.unusedSimpArgs false
section
namespace Go.Eng.Rf
open Go.Eng Go.Proofs
def cK:List Nat→Code→Code
 | [],c=>c
 | x :: p,c=>match c with
   | .seq a b=>match x with
     | 0=>cK p a
     | _=>cK p b
   | .cond _ a b=>match x with
     | 0=>cK p a
     | _=>cK p b
   | .block _ b=>cK p b
   | .loop b=>cK p b
   | .scope b=>cK p b
   | .rangeFunc _ _ a b=>match x with
     | 0=>cK p a
     | _=>cK p b
   | c=>c
def kZ:Code→Array Oper
 | .region _ ops _=>ops
 | _=>#[]
noncomputable def eD:Code:=Try.f90.body.getD .skip
def Ji (l:List Oper):Oper:=l.headD { dst:=none,op:=.move (.tmp 0),type:=0,pos := "",after:=#[],guard:=none }
noncomputable def cY:cH:={ id0:=3,ops0:=kZ (cK [1,1,1,0,0] eD),pre:=(kZ (cK [1,1,1,0,0] eD)).toList.take 1,ro:=Ji ((kZ (cK [1,1,1,0,0] eD)).toList.drop 1),m:=9,ty:=95 }
noncomputable def bA:bp:={ out:=0,jo:=4,id2:=5,nxt:=1,ops1:=kZ (cK [1,1,1,0,1,0,0,0] eD),ops2:=kZ (cK [1,1,1,0,1,0,0,1,1,0,0] eD),no:=Ji (kZ (cK [1,1,1,0,1,0,0,0] eD)).toList,eo:=Ji (kZ (cK [1,1,1,0,1,0,0,1,1,0,0] eD)).toList,t1:=(kZ (cK [1,1,1,0,1,0,0,0] eD)).toList.tail,t2:=(kZ (cK [1,1,1,0,1,0,0,1,1,0,0] eD)).toList.tail,it:=10,nx:=11,mo:=12,en:=13,rest:=cK [1,1,1,0,1,0,0,1,1,0,1] eD,km:=16775424 }
noncomputable def pick:n5:={ f:=90,pre:=[cK [0] eD,cK [1,0] eD,cK [1,1,0] eD],S:=cY,L:=bA,suf:=cK [1,1,1,1] eD }
theorem AK:Try.f90.body=some (assemble pick.pre (cY.code bA) pick.suf):=by kernel_rfl
theorem wN:cY.ops0.toList=cY.pre++[cY.ro]:=by kernel_rfl
theorem wQ:cY.ro.op=.range cY.ty (.tmp cY.m):=by kernel_rfl
theorem wH:cY.ro.dst=some bA.it:=by kernel_rfl
theorem wK:cY.ro.guard=none:=by kernel_rfl
theorem wO:bA.ops1.toList=bA.no::bA.t1:=by kernel_rfl
theorem wR:bA.no.op=.next (.tmp bA.it) false:=by kernel_rfl
theorem wI:bA.no.dst=some bA.nx:=by kernel_rfl
theorem wL:bA.no.guard=none:=by kernel_rfl
theorem wP:bA.ops2.toList=bA.eo::bA.t2:=by kernel_rfl
theorem wS:bA.eo.op=.entry (.tmp bA.it):=by kernel_rfl
theorem wJ:bA.eo.dst=some bA.en:=by kernel_rfl
theorem wM:bA.eo.guard=none:=by kernel_rfl
theorem wT:pick.Ok Try.prog:=⟨⟨Try.f90,Try.func90,AK⟩,⟨wN,wQ,wH,wK,⟨_,_,Try.underlying95⟩⟩,⟨wO,wR,wI,wL,wP,wS,wJ,wM⟩⟩
end Go.Eng.Rf
end
section
namespace Go.Eng
open Go.Proofs Go.ChangeShapes

noncomputable def MI (n len:Nat) (z:Nat→Int):AV:=.slcT none (.M [.arr .i64 z (iU len n)]) n len false
noncomputable def ld:aV→FuncId→List AV→aa→Option (AV×aa):=fun call f args H=>cond (Nat.beq f 54) (na Try.prog KtL.kt 100000 54 call args H) (cond (Nat.beq f 95) (na Try.prog KtL.kt 100000 95 call args H) (cond (Nat.beq f 90) (s6 Try.prog KtL.kt 100000 Rf.pick call args H) (Hk [⟨16,[],.bool true⟩] call f args H)))
def Km (f:FuncId):Bool:=Nat.beq f 16 || Nat.beq f 1000000 || Nat.beq f 54 || Nat.beq f 95 || Nat.beq f 90
noncomputable def cd (n:Nat):aV:=cM Try.prog ld KtL.kt 100000 n
noncomputable def il (tab:py) (n k:Nat):bG:=C5 Try.prog ld KtL.kt 100000 Km tab n k
noncomputable def bt (n:Nat) (f nt:Nat):Cx:=⟨Try.prog,cd n,100000,f,nt,KtL.kt f,none⟩

def F6:List Nat→Code→Code
 | [],c=>c
 | x :: p,c=>match c with
   | .seq a b=>match x with
     | 0=>F6 p a
     | _=>F6 p b
   | .cond _ a b=>match x with
     | 0=>F6 p a
     | _=>F6 p b
   | .block _ b=>F6 p b
   | .loop b=>F6 p b
   | .scope b=>F6 p b
   | .rangeFunc _ _ a b=>match x with
     | 0=>F6 p a
     | _=>F6 p b
   | c=>c
noncomputable def part (f:Func) (p:List Nat):Code:=F6 p (bm f)
theorem Fl (g:FuncId) (h:Km g=false) (c:aV) (args:List AV) (H:aa):ld c g args H=none:=by
 unfold Km at h
 rw[Bool.or_eq_false_iff,Bool.or_eq_false_iff,Bool.or_eq_false_iff,Bool.or_eq_false_iff] at h
 obtain ⟨⟨⟨⟨h0,h1⟩,h2⟩,h3⟩,h4⟩:=h
 unfold ld Hk
 rw[h2,h3,h4,h1,cond_false,cond_false,cond_false,cond_false]
 simp only[AJ]
 have:Nat.beq 16 g=false:=by
  cases hb:Nat.beq 16 g with
  | false=>rfl
  | true=>have:=Nat.eq_of_beq_eq_true hb;subst this;simp at h0
 rw[this];rfl
theorem vt (n:Nat):∃ x,cM Try.prog ld KtL.kt 100000 n .mode [] []=some x:=by
 cases n<;>exact ⟨_,rfl⟩
theorem Hh (hN:c7 Try.prog) (hD:kx Try.prog) (hW:bw Try.prog ⟨16,[],.bool true⟩):uw Try.prog ld :=
 fun call hC f args H v H' h hne p M w cargs hH hA=>by
  unfold ld at h
  cases hb:Nat.beq f 54 with
  | true =>
    rw[hb,cond_true] at h
    have:=Nat.eq_of_beq_eq_true hb
    subst this
    exact sV hN hD KtL.kt 100000 hC h hH hA
  | false =>
    rw[hb,cond_false] at h
    cases hb2:Nat.beq f 95 with
    | true =>
      rw[hb2,cond_true] at h
      have:=Nat.eq_of_beq_eq_true hb2
      subst this
      exact sV hN hD KtL.kt 100000 hC h hH hA
    | false =>
      rw[hb2,cond_false] at h
      cases hb3:Nat.beq f 90 with
      | true =>
        rw[hb3,cond_true] at h
        have:=Nat.eq_of_beq_eq_true hb3
        subst this
        exact Dq hN hD Rf.wT KtL.kt 100000 hC h hH hA
      | false =>
        rw[hb3,cond_false] at h
        exact Hl _ (fun e he=>by
         simp only[List.mem_singleton] at he
         subst he
         exact hW) call hC f args H v H' h hne p M w cargs hH hA
theorem yh (tab:py) (n k:Nat) (ht:∀ k,tab.Ok (cd (n+k))):(il tab n k).Ok (cd (n+k)):=Bz _ _ _ _ _ _ _ Fl (fun k=>vt _) ht k
theorem lD (n k:Nat):(il aH n k).Ok (cd (n+k)):=yh _ _ _ (fun k=>aG _)
theorem av (n:Nat):(il aH n 0).Ok (cd n):=lD n 0
theorem K3 {f:FuncId} {fn:Func} {n:Nat} (hf:Try.prog.funcs[f]?=some fn) (hb:fn.body.isSome=true) (hn:Km f=false) {args:List HV} (hle:Nat.ble args.length fn.ntmps=true) {H:aa} {callR:bG} (hC:callR.Ok (cd n)) {bl:gR} (hB:bl.Ok (bt n f fn.ntmps) (bm fn)) {rg:rP} (hR:rg.Ok (bt n f fn.ntmps) (bm fn)) {y:HV×aa}
 (h:(aZ Try.prog (cd n) 100000 f fn (KtL.kt f) callR bl rg args H).run=some y):cd (n+1) (.fn f) (pG args) H=some (y.1.1,y.2) :=
 rX hf hb (Fl f hn _ _ _) hle hC hB hR h
theorem K2 {f:FuncId} {fn:Func} {n:Nat} (hf:Try.prog.funcs[f]?=some fn) (hb:fn.body.isSome=true) (hn:Km f=false) {args:List HV} (hle:Nat.ble args.length fn.ntmps=true) {H:aa} {callR:bG} {bl:gR} {rg:rP} {T:Tr (HV×aa)}
 (e:aZ Try.prog (cd n) 100000 f fn (KtL.kt f) callR bl rg args H=T) (hC:callR.Ok (cd n)) (hB:bl.Ok (bt n f fn.ntmps) (bm fn)) (hR:rg.Ok (bt n f fn.ntmps) (bm fn)) {y:HV×aa} (hr:T.run=some y):cd (n+1) (.fn f) (pG args) H=some (y.1.1,y.2) :=
 K3 hf hb hn hle hC hB hR (by rw[e];exact hr)
theorem K0 {n f nt:Nat} {c:Code} {callR:bG} (hC:callR.Ok (cd n)) {bl:gR} (hB:bl.Ok (bt n f nt) c) {rg:rP} (hR:rg.Ok (bt n f nt) c) {fr:ao} {H:aa} {x:n6} (h:(aQ (bt n f nt) callR bl rg c (hints fr) H).run=some x):exec (bt n f nt) c fr H=some x.st:=by
 have:=oA hC c hB hR _ _ _ h
 rw[gZ] at this
 exact this

def mw (bl:gR) (id0:Nat):gR:=fun id fr H=>cond (Nat.beq id id0) (some .bad) (bl id fr H)
theorem dW {bl:gR} {cx:Cx} {c:Code} (h:bl.Ok cx c) (id0:Nat):(mw bl id0).Ok cx c:=by
 intro id b hm fr H t y ht hy
 unfold mw at ht
 cases hb:Nat.beq id id0 with
 | true =>
   rw[hb,cond_true,Option.some.injEq] at ht
   subst ht
   exact (Tr.ae hy).elim
 | false =>
   rw[hb,cond_false] at ht
   exact h id b hm fr H t y ht hy
theorem KZ {n f nt:Nat} {c:Code} {callR:bG} {bl:gR} {rg:rP} {fr:ao} {H:aa} {T:Tr n6} (e:aQ (bt n f nt) callR bl rg c (hints fr) H=T) (hC:callR.Ok (cd n)) (hB:bl.Ok (bt n f nt) c) (hR:rg.Ok (bt n f nt) c) {x:n6} (hr:T.run=some x):exec (bt n f nt) c fr H=some x.st :=
 K0 hC hB hR (by rw[e];exact hr)
section
variable {n f nt:Nat} {c:Code} {callR:bG} {bl:gR} {rg:rP}
end
def cU (p:Nat→Bool) (N:Nat):Bool:=decide (fN p N 0<N)
theorem iK {p:Nat→Bool} {N:Nat} (h:cU p N=true):fN p N 0<N:=by simpa[cU] using h
theorem pQ {p:Nat→Bool} {N:Nat} (h:cU p N=false):fN p N 0=N:=by
 have h1:=(mE p N 0).2.1
 have:¬ fN p N 0<N:=by simpa[cU] using h
 omega
theorem dI (p:Nat→Bool) (N:Nat):cU p N=true↔∃ i,i<N∧p i=true:=by
 obtain ⟨h1,h2,h3,h4⟩:=mE p N 0
 constructor
 · intro h
   have:=iK h
   exact ⟨_,this,h4 (by omega)⟩
 · rintro ⟨i,hi,hp⟩
   unfold cU
   rw[decide_eq_true_eq]
   apply Nat.lt_of_not_le
   intro hc
   have:=h3 i (by omega) (by omega)
   rw[this] at hp;cases hp
end Go.Eng
end
section
namespace Go.Eng
open Go.Proofs
theorem aL {f:FuncId} {fn:Func} {n:Nat} (hf:Try.prog.funcs[f]?=some fn) (hb:fn.body.isSome=true) (hn:Km f=false) {args:List HV} (hle:Nat.ble args.length fn.ntmps=true) {H:aa} {callR:bG} {bl:gR} {rg:rP} {T:Tr (HV×aa)}
 (e:aZ Try.prog (cd n) 100000 f fn (KtL.kt f) callR bl rg args H=T) (hC:callR.Ok (cd n)) (hB:bl.Ok (bt n f fn.ntmps) (bm fn)) (hR:rg.Ok (bt n f fn.ntmps) (bm fn)) {v:AV} {H':aa} (h:T.all fun y=>y.1.1=v∧y.2=H'):cd (n+1) (.fn f) (pG args) H=some (v,H'):=by
 obtain ⟨y,h1,h2,h3⟩:=h
 have:=K2 hf hb hn hle e hC hB hR h1
 rw[this,h2,h3]
theorem aK {n f nt:Nat} {c:Code} {callR:bG} {bl:gR} {rg:rP} {fr:ao} {H:aa} {T:Tr n6} (e:aQ (bt n f nt) callR bl rg c (hints fr) H=T) (hC:callR.Ok (cd n)) (hB:bl.Ok (bt n f nt) c) (hR:rg.Ok (bt n f nt) c) {Q:Ex×ao×aa→Prop} (h:T.all fun x=>Q x.st):∃ x,exec (bt n f nt) c fr H=some x∧Q x:=by
 obtain ⟨x,h1,h2⟩:=h
 exact ⟨_,KZ e hC hB hR h1,h2⟩
section
variable {n f nt:Nat} {c:Code} {callR:bG} {bl:gR} {rg:rP}
theorem EZ (id:Nat) (I:Nat→ao→aa→Prop) (Q:ao×aa→Prop) (N:Nat) (hN:N<99999) {fr0:ao} {H0:aa} (h0:I 0 fr0 H0)
 (hr:∀ j fr H,I j fr H→∃ x,exec (bt n f nt) c fr H=some x∧((x.1=.normal∧j<N∧I (j+1) (tidy (al H0) x.2.1 x.2.2).1 (tidy (al H0) x.2.1 x.2.2).2)∨(x.1=.exit id∧Q x.2))) :
 ∃ y,exec (bt n f nt) (.block id (.loop c)) fr0 H0=some (.normal,y)∧Q y:=by
 obtain ⟨x,h1,h2⟩:=sB (body:=exec (bt n f nt) c) (n:=al H0) I (fun x=>x.1=.exit id∧Q x.2) N (fun j fr H h=>by
  obtain ⟨x,h1,h2⟩:=hr j fr H h
  obtain ⟨e,f1,g1⟩:=x
  refine ⟨e,f1,g1,h1,?_⟩
  rcases h2 with h2 | ⟨h2,h3⟩
  · exact .inl h2
  · exact .inr ⟨by dsimp only at h2;rw[h2];simp,h2,h3⟩) 100000 0 fr0 H0 h0 (by omega)
 obtain ⟨e,f1,g1⟩:=x
 obtain ⟨h2,h3⟩:=h2
 dsimp only at h2 h3
 subst h2
 exact ⟨(f1,g1),dT h1,h3⟩
theorem lA (id:Nat) (F:Nat→ao) (G:Nat→aa) (N:Nat) (p:Nat→Bool) (X:Nat→ao×aa) (Y:ao×aa) (hN:N<99999)
 (hs:∀ j,j<N→∃ x,exec (bt n f nt) c (F j) (G j)=some x∧if p j=true then x=(.ret,X j) else x.1=.normal∧tidy (al (G 0)) x.2.1 x.2.2=(F (j+1),G (j+1)))
 (he:exec (bt n f nt) c (F N) (G N)=some (.exit id,Y)):exec (bt n f nt) (.block id (.loop c)) (F 0) (G 0)=some (cond (cU p N) (.ret,X (fN p N 0)) (.normal,Y)):=by
 have key:=mH (body:=exec (bt n f nt) c) (n:=al (G 0)) F G N p (fun j=>if j<N then (.ret,X j) else (.exit id,Y))
  (fun j hj hp=>by
    obtain ⟨x,h1,h2⟩:=hs j hj
    rw[if_neg (by rw[hp];simp)] at h2
    obtain ⟨e,f1,g1⟩:=x
    obtain ⟨rfl,h3⟩:=h2
    exact ⟨_,_,h1,h3⟩)
  (fun j hj hp=>by
    obtain ⟨x,h1,h2⟩:=hs j hj
    rw[if_pos hp] at h2
    subst h2
    rw[if_pos hj]
    exact ⟨h1,by simp⟩)
  (by
    rw[if_neg (by omega)]
    exact ⟨he,by simp⟩) N 0 100000 (by omega) (by omega)
 cases hc:cU p N with
 | true =>
   have:=iK hc
   rw[if_pos this] at key
   exact eg (fun id' h=>by cases h) key
 | false =>
   have:=pQ hc
   rw[if_neg (by omega)] at key
   exact dT key
end
theorem jD {n f nt:Nat} {c:Code} (id:Nat) (F:Nat→ao) (G:Nat→aa) (N:Nat) (Y:ao×aa) (hN:N<99999)
 (hs:∀ j,j<N→∃ x,exec (bt n f nt) c (F j) (G j)=some x∧(x.1=.normal∧tidy (al (G 0)) x.2.1 x.2.2=(F (j+1),G (j+1))))
 (he:exec (bt n f nt) c (F N) (G N)=some (.exit id,Y)):exec (bt n f nt) (.block id (.loop c)) (F 0) (G 0)=some (.normal,Y):=by
 have:=lA id F G N (fun _=>false) (fun _=>Y) Y hN (fun j hj=>by
  obtain ⟨x,h1,h2⟩:=hs j hj
  exact ⟨x,h1,by rw[if_neg (by simp)];exact h2⟩) he
 have h0:cU (fun _=>false) N=false:=by
  cases h:cU (fun _=>false) N with
  | false=>rfl
  | true=>obtain ⟨i,_,h2⟩:=(dI _ _).1 h;cases h2
 rw[h0] at this
 exact this
end Go.Eng
end
section
namespace Go.Eng
open Go.Proofs
noncomputable def aB:aW:=⟨false,[]⟩
noncomputable def bP (k:Nat) (b:Nat→Int) (full:Bool):AV:=.slcT none (.M [.arr .i64 b k]) 1 k full
noncomputable def yF (v k:Nat) (y:Nat→Int):aW:=⟨false,[(v,.row (.M [.arr .i64 y k]))]⟩
theorem aS (tab:py) (n:Nat) (ht:tab.Ok (cd n)):(il tab n 0).Ok (cd n) :=
 ⟨vt _,fun tgt args H x h=>by
   unfold il C5 at h
   split at h
   · split at h
     · rename_i c hc
       exact ht _ _ hc _ _ _ h
     · exact (Tr.ae h).elim
   · exact (Tr.ae h).elim⟩
theorem fp {cx:Cx} {id:Nat} {B:Code} {fr:ao} {H:aa} {e:Bool} {X Y x:n6} (h:(Tr.ite e (Tr.ok X) (Tr.ok Y)).run=some x) (hx:exec cx (.block id B) fr H=some (cond e X.st Y.st)):exec cx (.block id B) fr H=some x.st:=by
 rw[hx]
 rcases Tr.g5 h with ⟨hc,h⟩ | ⟨hc,h⟩
 · rw[hc,← Tr.ab h];rfl
 · rw[hc,← Tr.ab h];rfl
theorem bL {cx:Cx} {id:Nat} {B:Code} {fr:ao} {H:aa} {X x:n6} (h:(Tr.ok X).run=some x) (hx:exec cx (.block id B) fr H=some X.st):exec cx (.block id B) fr H=some x.st:=by
 rw[hx,← Tr.ab h]
theorem dx {j:Nat} (h:j<2 ^ 31):bE .i64 (j:Int) (Int.ofNat 1)=((j+1:Nat):Int):=by rw[jg,show Int.ofNat 1=1 from rfl];exact pw (by omega) (by omega)
theorem jo (j:Nat):ar 0 (j:Int) 1=j:=by rw[kQ];omega
theorem ME {x:Int} (h:0≤x):ar 0 x 1=x.toNat:=by rw[kQ];omega
theorem Ke {x:Int} (h0:-9223372036854775808≤x) (h1:x≤9223372036854775807):DK .i64 x=x:=by rw[AZ,pw h0 h1]
theorem Cz {x y:Int} (h0:-9223372036854775808≤x+y) (h1:x+y≤9223372036854775807):bE .i64 x y=x+y:=by rw[jg,pw h0 h1]
theorem qt {x y:Int} (h0:-9223372036854775808≤x-y) (h1:x-y≤9223372036854775807):bB .i64 x y=x-y:=by rw[mP,pw h0 h1]
theorem JA (L:List Int) (j:Nat):aA L j=L.getD j 0:=congrFun (BI L) j
theorem wu (L:List Int) (v:Int):lO (dE (aA L) 0) L.length (aA [v])=aA (L++[v]):=by
 rw[c5,oa,gO];funext i
 by_cases h:i<L.length
 · simp[h,List.getElem?_append]
 · by_cases h2:i=L.length
   · subst h2;simp
   · have e1:[v][i-L.length]?=none:=List.getElem?_eq_none (by simp;omega)
     have e2:(L++[v])[i]?=none:=List.getElem?_eq_none (by simp;omega)
     simp only[h,if_false,List.getD_eq_getElem?_getD,e1,e2]
theorem JB (S:List Int) (j:Nat) (hj:j<S.length):aA S j=S[j]:=by
 rw[JA,List.getD_eq_getElem?_getD,List.getElem?_eq_getElem hj];rfl
noncomputable def dA:List Int→AV
 | []=>.nils
 | a::r=>.slcT none (.M [.arr .i64 (aA (a::r)) (r.length+1)]) 1 (r.length+1) false
noncomputable def gX (A:List AV) (V:AV):List AV→Option (Prop×AV):=fun x=>some (x=A,V)
noncomputable def tX (t:py) (f:FuncId) (A:List AV) (V:AV):py:=Ah t f (gX A V)
theorem bf {c f:Nat} {t:py} {A:List AV} {V:AV} (ht:t.Ok (cd c)) (h:∀ H,cd c (.fn f) A H=some (V,H)):(tX t f A V).Ok (cd c):=by
 refine pL ht (fun args p v hg hp H=>?_)
 unfold gX at hg
 simp only[nP] at hg
 obtain ⟨rfl,rfl⟩:=hg
 rw[hp];exact h H
noncomputable def tN (t:py) (f:FuncId):py:=Ah t f (fun _=>none)
theorem Mc {c f:Nat} {t:py} (ht:t.Ok (cd c)):(tN t f).Ok (cd c):=pL ht (fun args p v hg hp H=>by cases hg)
noncomputable def gC (P:Int→Bool) (Q:Int→List AV→aa→Prop) (args:List AV) (H:aa):Tr (AV×aa) :=
 match args with
 | .int .i64 x::C=>.reqP (Q x C H) (.ok (.bool (P x),H))
 | _=>.bad
noncomputable def PV (f:FuncId) (P:Int→Bool) (Q:Int→List AV→aa→Prop):py:=jf aH f (gC P Q)
theorem Eo {k:Nat} {f:FuncId} {P:Int→Bool} {Q:Int→List AV→aa→Prop} (h:∀ x C H,Q x C H→cd k (.fn f) (.int .i64 x::C) H=some (.bool (P x),H)):(PV f P Q).Ok (cd k):=by
 refine jN (aG _) (fun args H x hx=>?_)
 unfold gC at hx
 split at hx
 · obtain ⟨h1,h2⟩:=Tr.db hx
   rw[h _ _ _ h1,← Tr.ab h2]
 · exact (Tr.ae hx).elim
def F5 (p:Nat→Bool) (m:Nat):Int:=if cU p m=true then (fN p m 0:Int) else -1
theorem Js (p:Nat→Bool) (k:Nat):jF (Int.ofNat 0) (F5 p k)=cU p k:=by
 rw[iR];unfold F5
 cases h:cU p k with
 | true =>
   rw[if_pos rfl]
   simp only[Int.ofNat_eq_natCast,decide_eq_true_eq];omega
 | false=>rw[if_neg (by decide)];rfl
theorem kI {p:Nat→Bool} {k:Nat} (h:∀ j,j<k→p j=false):cU p k=false:=by
 cases e:cU p k with
 | false=>rfl
 | true =>
   obtain ⟨j,hj,e2⟩:=(dI _ _).1 e
   rw[h j hj] at e2;cases e2
theorem gd {p:Nat→Bool} {k:Nat} (h:cU p k=false):∀ j,j<k→p j=false:=fun j hj=>by
 cases e:p j with
 | false=>rfl
 | true=>rw[(dI _ _).2 ⟨j,hj,e⟩] at h;cases h
theorem pP {p q:Nat→Bool} {k:Nat} (h:∀ j,j<k→p j=q j):cU p k=cU q k:=by
 rw[Bool.eq_iff_iff,dI,dI]
 constructor
 · rintro ⟨j,hj,e⟩;exact ⟨j,hj,by rw[← h j hj];exact e⟩
 · rintro ⟨j,hj,e⟩;exact ⟨j,hj,by rw[h j hj];exact e⟩
theorem Ln {n f nt:Nat} {c:Code} (id:Nat) (I:Nat→ao→aa→Prop) (Q:ao×aa→Prop) (N:Nat) (hN:N<99999) {fr0:ao} {H0:aa} (h0:I 0 fr0 H0)
 (hr:∀ j fr H,I j fr H→∃ x,exec (bt n f nt) c fr H=some x∧((x.1=.normal∧j<N∧I (j+1) (tidy (al H0) x.2.1 x.2.2).1 (tidy (al H0) x.2.1 x.2.2).2)∨(x.1=.ret∧Q x.2))) :
 ∃ y,exec (bt n f nt) (.block id (.loop c)) fr0 H0=some (.ret,y)∧Q y:=by
 obtain ⟨x,h1,h2⟩:=sB (body:=exec (bt n f nt) c) (n:=al H0) I (fun x=>x.1=.ret∧Q x.2) N (fun j fr H h=>by
  obtain ⟨x,h1,h2⟩:=hr j fr H h
  obtain ⟨e,f1,g1⟩:=x
  refine ⟨e,f1,g1,h1,?_⟩
  rcases h2 with h2 | ⟨h2,h3⟩
  · exact .inl h2
  · exact .inr ⟨by dsimp only at h2;rw[h2];simp,h2,h3⟩) 100000 0 fr0 H0 h0 (by omega)
 obtain ⟨e,f1,g1⟩:=x
 obtain ⟨h2,h3⟩:=h2
 dsimp only at h2 h3
 subst h2
 exact ⟨(f1,g1),eg (fun id' h=>by cases h) h1,h3⟩
def Kj:List AV→Option (Prop×AV)
 | []=>some (True,.bool true)
 | _=>none
theorem Qg (n:Nat) (H:aa):cd (n+1) (.fn 16) [] H=some (.bool true,H):=by unfold cd cM;rfl
theorem KP {c:Nat} {t:py} (h:0<c) (ht:t.Ok (cd c)):(Ah t 16 Kj).Ok (cd c):=by
 obtain ⟨m,rfl⟩:∃ m,c=m+1:=⟨c-1,by omega⟩
 refine pL ht (fun args p v hg hp H=>?_)
 unfold Kj at hg
 split at hg
 · simp only[nP] at hg
   obtain ⟨_,rfl⟩:=hg
   exact Qg _ H
 · cases hg
noncomputable def cg (l:Nat) (t:Nat→Int) (k:Nat) (d:Nat→Int):AV:=.agg (.G [bP l t false,bP k d false])
end Go.Eng
end
section
namespace Go.Eng
open Go.Proofs
noncomputable def tP (lo hi:Int):aW:=⟨false,[(0,.row (.I .i64 [lo])),(0,.row (.I .i64 [hi]))]⟩
noncomputable def f83 (d:Nat):AV:=.fn (.func 83) [] [.ptr d 0 0 0,.ptr d 1 0 0]
noncomputable def CZ (k:Nat) (b:Nat→Int) (full:Bool) (j:Int):ao:=[(0,bP k b full),(1,f83 2),(7,.int .i64 (Int.ofNat k)),(8,.int .i64 j)]
theorem S8 (n:Nat) (lo hi:Int) (H:aa) (x:Int):aZ Try.prog (cd n) 100000 83 Try.f83 (KtL.kt 83) (il aH n 0) aN aO [(.int .i64 x,none),(.ptr 2 0 0 0,none),(.ptr 2 1 0 0,none)] (aB::aB::tP lo hi::H) =
 (fun (Z0:aW)=>Tr.ite (bV x lo) (Tr.ok ((AV.bool true,some 1),aB::aB::Z0::H)) (Tr.ok ((AV.bool (bV hi x),none),aB::aB::Z0::H))) { lock:=false,bs:=[(0,ak.row (Row.I .i64 [lo])),(0,ak.row (Row.I .i64 [hi]))] }:=by kernel_rfl
theorem t94 (n k:Nat) (b:Nat→Int) (full:Bool) (lo hi:Int) (P:Int→Bool) (Q:Int→List AV→aa→Prop) (H:aa) (j:Int):aQ (bt n 94 19) (il (PV 83 P Q) n 0) aN aO (part Try.f94 [1,0,1,0,0]) (hints (CZ k b full j)) (aB::aB::tP lo hi::H) =
 (fun (Z0:aW)=>Tr.ite (bV j (Int.ofNat k)) (Tr.req (cS j k) (Tr.req (cJ (ar 0 j 1) k) (Tr.reqP (Q (b (ar 0 j 1)) [AV.ptr 2 0 0 0,AV.ptr 2 1 0 0] (aB::aB::Z0::H)) (Tr.ite (P (b (ar 0 j 1))) (Tr.ok (Ex.ret,[(4,AV.int .i64 j,none)],aB::aB::Z0::H)) (Tr.ok (Ex.normal,[(0,AV.slcT none (Row.M [ah.arr .i64 b k]) 1 k full,none),(1,AV.fn (Fn.func 83) [] [AV.ptr 2 0 0 0,AV.ptr 2 1 0 0],none),(7,AV.int .i64 (Int.ofNat k),none),(8,AV.int .i64 (bE .i64 j (Int.ofNat 1)),none)],aB::aB::Z0::H)))))) (Tr.ok (Ex.exit 0,[(0,AV.slcT none (Row.M [ah.arr .i64 b k]) 1 k full,none),(1,AV.fn (Fn.func 83) [] [AV.ptr 2 0 0 0,AV.ptr 2 1 0 0],none),(7,AV.int .i64 (Int.ofNat k),none),(8,AV.int .i64 j,none),(9,AV.bool false,some 1)],aB::aB::Z0::H))) { lock:=false,bs:=[(0,ak.row (Row.I .i64 [lo])),(0,ak.row (Row.I .i64 [hi]))] }:=by kernel_rfl
theorem Tf (n k:Nat) (b:Nat→Int) (full:Bool) (lo hi:Int) (H:aa) (x:Bool) (r:Nat):aZ Try.prog (cd n) 100000 94 Try.f94 (KtL.kt 94) (il aH n 0) (bZ aN 0 (CZ k b full 0) (aB::aB::tP lo hi::H) (.ite x (.ok (.ret,[(4,.int .i64 (Int.ofNat r),none)],aB::aB::tP lo hi::H)) (.ok (.normal,hints (CZ k b full (Int.ofNat k)++[(9,.bool false)]),aB::aB::tP lo hi::H)))) aO [(bP k b full,none),(f83 1,none)] (aB::tP lo hi::H) =
 (fun (Z0:aW)=>((fun (Z1:ao)=>Tr.reqP (Z1=Z1∧aB::aB::Z0::H=aB::aB::Z0::H) (Tr.ite x (Tr.ok ((AV.int .i64 (Int.ofNat r),none),aB::Z0::H)) (Tr.ok ((AV.int .i64 (Int.negSucc 0),some 1),aB::Z0::H)))) [(0,AV.slcT none (Row.M [ah.arr .i64 b k]) 1 k full),(1,AV.fn (Fn.func 83) [] [AV.ptr 2 0 0 0,AV.ptr 2 1 0 0]),(7,AV.int .i64 (Int.ofNat k)),(8,AV.int .i64 (Int.ofNat 0))])) { lock:=false,bs:=[(0,ak.row (Row.I .i64 [lo])),(0,ak.row (Row.I .i64 [hi]))] }:=by kernel_rfl
theorem S7 (n k:Nat) (b:Nat→Int) (full:Bool) (lo hi:Int) (H:aa) (r:Int):aZ Try.prog (cd n) 100000 82 Try.f82 (KtL.kt 82) (il (Ag aH 94 [bP k b full,f83 1] (aB::tP lo hi::H) (.ok (.int .i64 r,aB::tP lo hi::H))) n 0) aN aO [(bP k b full,none),(f83 0,none)] (tP lo hi::H) =
 (fun (Z0:aW)=>((fun (Z1:List AV)=>Tr.reqP (Z1=Z1∧aB::Z0::H=aB::Z0::H) (Tr.ok ((AV.bool (jF (Int.ofNat 0) r),none),Z0::H))) [AV.slcT none (Row.M [ah.arr .i64 b k]) 1 k full,AV.fn (Fn.func 83) [] [AV.ptr 1 0 0 0,AV.ptr 1 1 0 0]])) { lock:=false,bs:=[(0,ak.row (Row.I .i64 [lo])),(0,ak.row (Row.I .i64 [hi]))] }:=by kernel_rfl
theorem SW (n k:Nat) (b:Nat→Int) (full:Bool) (lo hi:Int) (H:aa) (e:Bool):aZ Try.prog (cd n) 100000 56 Try.f56 (KtL.kt 56) (il (Ag aH 82 [bP k b full,f83 0] (tP lo hi::H) (.ok (.bool e,tP lo hi::H))) n 0) aN aO [(.int .i64 lo,none),(.int .i64 hi,none),(bP k b full,none)] H =
 (fun (Z0:List AV)=>((fun (Z1:aW)=>Tr.reqP (Z0=Z0∧Z1::H=Z1::H) (Tr.ok ((AV.bool (ay e),none),H))) { lock:=false,bs:=[(0,ak.row (Row.I .i64 [lo])),(0,ak.row (Row.I .i64 [hi]))] })) [AV.slcT none (Row.M [ah.arr .i64 b k]) 1 k full,AV.fn (Fn.func 83) [] [AV.ptr 0 0 0 0,AV.ptr 0 1 0 0]]:=by kernel_rfl
theorem Qc:∀ b,(0,b) ∈ aJ (bm Try.f94)→b=.loop (part Try.f94 [1,0,1,0,0]):=fa (by kernel_rfl)
def eV (lo hi x:Int):Bool:=decide (x<lo) || decide (hi<x)
section
variable (n k:Nat) (b:Nat→Int) (full:Bool) (lo hi:Int) (H:aa)
theorem Qx (x:Int):cd (n+1) (.fn 83) [.int .i64 x,.ptr 2 0 0 0,.ptr 2 1 0 0] (aB::aB::tP lo hi::H)=some (.bool (eV lo hi x),aB::aB::tP lo hi::H):=by
 have hp:eV lo hi x=(decide (x<lo) || decide (hi<x)):=rfl
 rw[hp]
 refine aL (n:=n) Try.func83 rfl rfl rfl (S8 n lo hi H x) (av n) (af _ _) (ag _ _) ?_
 rw[eL,eL]
 refine Tr.bx (fun hc=>Tr.bk ⟨?_,rfl⟩) (fun hc=>Tr.bk ⟨?_,rfl⟩)
 · rw[hc];rfl
 · rw[hc];rfl
theorem Qw (hk:k≤1000):cd (n+4) (.fn 82) [bP k b full,f83 0] (tP lo hi::H)=some (.bool (cU (fun j=>eV lo hi (b j)) k),tP lo hi::H):=by
 have hQ:∀ q x C H',(C=[.ptr 2 0 0 0,.ptr 2 1 0 0]∧H'=aB::aB::tP lo hi::H)→cd (n+2+q) (.fn 83) (.int .i64 x::C) H'=some (.bool (eV lo hi x),H'):=by
  rintro q x C H' ⟨rfl,rfl⟩
  rw[show n+2+q=n+1+q+1 by omega]
  exact Qx _ lo hi H x
 have hx:=lA (n:=n+2) (f:=94) (nt:=19) (c:=part Try.f94 [1,0,1,0,0]) 0 (fun j=>CZ k b full (j:Int)) (fun _=>aB::aB::tP lo hi::H) k (fun j=>eV lo hi (b j)) (fun j=>([(4,.int .i64 (j:Nat))],aB::aB::tP lo hi::H)) (CZ k b full (Int.ofNat k)++[(9,.bool false)],aB::aB::tP lo hi::H) (by omega) (fun j hj=>?_) ?_
 · have h94:cd (n+3) (.fn 94) [bP k b full,f83 1] (aB::tP lo hi::H)=some (.int .i64 (F5 (fun j=>eV lo hi (b j)) k),aB::tP lo hi::H):=by
    refine aL (n:=n+2) Try.func94 rfl rfl rfl (Tf (n+2) k b full lo hi H (cU (fun j=>eV lo hi (b j)) k) (fN (fun j=>eV lo hi (b j)) k 0)) (av _) (aD (af _ _) Qc (fun x h=>fp h hx)) (ag _ _) ?_
    refine Tr.bn ⟨rfl,rfl⟩ (Tr.bx (fun hc=>Tr.bk ⟨?_,rfl⟩) (fun hc=>Tr.bk ⟨?_,rfl⟩))
    · unfold F5;rw[if_pos hc];rfl
    · unfold F5;rw[if_neg (by rw[hc];decide)];rfl
   refine aL (n:=n+3) Try.func82 rfl rfl rfl (S7 (n+3) k b full lo hi H (F5 (fun j=>eV lo hi (b j)) k)) (aS _ (n+3) (ie (aG _) (fun x hy=>by rw[← Tr.ab hy];exact h94))) (af _ _) (ag _ _) ?_
   refine Tr.bn ⟨rfl,rfl⟩ (Tr.bk ⟨?_,rfl⟩)
   rw[Js]
 · refine aK (t94 (n+2) k b full lo hi (eV lo hi) _ H (j:Int)) (yh _ (n+2) 0 (fun q=>Eo (hQ q))) (af _ _) (ag _ _) ?_
   show Tr.all _ (fun x=>if eV lo hi (b j)=true then _ else _)
   rw[dx (by omega),jo]
   cases hp:eV lo hi (b j) with
   | true =>
     simp only[if_true]
     refine Tr.bx (fun hc=>?_) (fun hc=>?_)
     · repeat' first | (refine Tr.bx (fun hc=>?_) (fun hc=>?_)<;>(try simp (disch:=omega) only[nV,nW] at hc)<;>try omega) | (refine Tr.cL ?_ ?_;· (try simp (disch:=omega) only[nV,nW]);try omega) | (refine Tr.bn ?_ ?_;· first | exact trivial | rfl | exact ⟨rfl,rfl⟩ | exact ⟨rfl,rfl,rfl⟩ | (simp (disch:=omega) only[nV,nW];done) | ((try simp (disch:=omega) only[nV,nW]);omega)) | fail
       all_goals first
        | exact ⟨rfl,rfl⟩
        | (refine Tr.bn ⟨trivial,rfl⟩ ?_
           exact wF)
        | exact Tr.bk rfl
        | fail
     · simp (disch:=omega) only[nV,nW] at hc;omega
   | false =>
     simp only[Bool.false_eq_true,if_false]
     refine Tr.bx (fun hc=>?_) (fun hc=>?_)
     · repeat' first | (refine Tr.bx (fun hc=>?_) (fun hc=>?_)<;>(try simp (disch:=omega) only[nV,nW] at hc)<;>try omega) | (refine Tr.cL ?_ ?_;· (try simp (disch:=omega) only[nV,nW]);try omega) | (refine Tr.bn ?_ ?_;· first | exact trivial | rfl | exact ⟨rfl,rfl⟩ | exact ⟨rfl,rfl,rfl⟩ | (simp (disch:=omega) only[nV,nW];done) | ((try simp (disch:=omega) only[nV,nW]);omega)) | fail
       all_goals first
        | exact ⟨rfl,rfl⟩
        | (refine Tr.bn ⟨trivial,rfl⟩ ?_
           exact wF)
        | exact Tr.bk ⟨rfl,rfl⟩
        | fail
     · simp (disch:=omega) only[nV,nW] at hc;omega
 · obtain ⟨x,h1,rfl⟩:=aK (Q:=fun x=>x=(.exit 0,CZ k b full (Int.ofNat k)++[(9,.bool false)],aB::aB::tP lo hi::H)) (t94 (n+2) k b full lo hi (eV lo hi) _ H (Int.ofNat k)) (yh _ (n+2) 0 (fun q=>Eo (hQ q))) (af _ _) (ag _ _) (by
    refine Tr.bx (fun hc=>?_) (fun hc=>Tr.bk rfl)
    simp (disch:=omega) only[nV,nW] at hc;omega)
   exact h1
theorem PO (hk:k≤1000):cd (n+5) (.fn 56) [.int .i64 lo,.int .i64 hi,bP k b full] H=some (.bool (!cU (fun j=>eV lo hi (b j)) k),H):=by
 have h:=Qw n k b full lo hi H hk
 refine aL (n:=n+4) Try.func56 rfl rfl rfl (SW (n+4) k b full lo hi H (cU (fun j=>eV lo hi (b j)) k)) (aS _ (n+4) (ie (aG _) (fun x hy=>by rw[← Tr.ab hy];exact h))) (af _ _) (ag _ _) ?_
 rw[fx]
 exact wF
end
end Go.Eng
end
section
namespace Go.Eng
def cn (p:Nat→Bool):Nat→Nat
 | 0=>0
 | j+1=>cn p j+(p j).toNat
theorem m5 (p:Nat→Bool):∀ n,cn p n≤n
 | 0=>Nat.le_refl _
 | n+1=>by
   have:=m5 p n
   have:(p n).toNat≤1:=Bool.toNat_le _
   show cn p n+_≤_
   omega
theorem eF {p q:Nat→Bool}:∀ {n:Nat},(∀ j,j<n→p j=q j)→cn p n=cn q n
 | 0,_=>rfl
 | n+1,h=>by
   show cn p n+_=cn q n+_
   rw[eF (fun j hj=>h j (by omega)),h n (by omega)]
theorem ib {p q:Nat→Bool} {i:Nat} (h1:p i=false) (h2:q i=true):∀ {n:Nat},(∀ j,j<n→j≠i→q j=p j)→i<n→cn q n=cn p n+1
 | 0,_,hi=>by omega
 | n + 1,h,hi=>by
   show cn q n+_=cn p n+_+1
   by_cases e:i=n
   · subst e
     rw[h1,h2,eF (p:=q) (q:=p) (fun j hj=>h j (by omega) (by omega))]
     rfl
   · rw[ib h1 h2 (fun j hj hne=>h j (by omega) hne) (by omega),h n (by omega) (fun x=>e x.symm)]
     omega
theorem pK {p:Nat→Bool}:∀ {n:Nat},0<cn p n→∃ j,j<n∧p j=true
 | 0,h=>by simp[cn] at h
 | n + 1,h=>by
   have h:0<cn p n+(p n).toNat:=h
   cases e:p n with
   | true=>exact ⟨n,by omega,e⟩
   | false =>
     rw[e] at h
     obtain ⟨j,hj,e⟩:=pK (n:=n) (by simpa using h)
     exact ⟨j,by omega,e⟩
theorem kE {p:Nat→Bool} {n:Nat} (h:cn p n=0):∀ j,j<n→p j=false:=fun j hj=>by
 induction n with
 | zero=>omega
 | succ n ih =>
   have h:cn p n+(p n).toNat=0:=h
   by_cases e:j=n
   · subst e
     cases e:p j with
     | false=>rfl
     | true=>rw[e] at h;simp at h
   · exact ih (by omega) (by omega)
theorem mB {p:Nat→Bool} {n:Nat} (h:∀ j,j<n→p j=false):cn p n=0:=by
 induction n with
 | zero=>rfl
 | succ n ih =>
   show cn p n+_=0
   rw[ih (fun j hj=>h j (by omega)),h n (by omega)];rfl
theorem Gp {p:Nat→Bool} {n:Nat} (h:cn p n=n):∀ j,j<n→p j=true:=fun j hj=>by
 induction n with
 | zero=>omega
 | succ n ih =>
   have h:cn p n+(p n).toNat=n+1:=h
   have h2:=m5 p n
   have h3:(p n).toNat≤1:=Bool.toNat_le _
   by_cases e:j=n
   · subst e
     cases e:p j with
     | true=>rfl
     | false=>rw[e] at h;simp at h;omega
   · exact ih (by omega) (by omega)
theorem Gq {p:Nat→Bool} {n:Nat} (h:cn p n<n):∃ j,j<n∧p j=false:=by
 apply Classical.byContradiction
 intro hc
 have:∀ j,j<n→p j=true:=fun j hj=>by
  cases e:p j with
  | true=>rfl
  | false=>exact absurd ⟨j,hj,e⟩ hc
 have e:∀ m,m≤n→cn p m=m:=by
  intro m
  induction m with
  | zero=>intro _;rfl
  | succ m ih =>
    intro hm
    show cn p m+_=_
    rw[ih (by omega),this m (by omega)];rfl
 have:=e n (Nat.le_refl _)
 omega
def bX (t:Nat→Int):Nat→Int→Int
 | 0,x=>x
 | m+1,x=>if 0≤bX t m x then t (bX t m x).toNat else bX t m x
theorem HH {t:Nat→Int} (m:Nat) (x:Int) (h:0≤x):bX t (m+1) x=bX t m (t x.toNat):=by
 induction m with
 | zero=>show (if 0≤x then _ else _)=_;rw[if_pos h];rfl
 | succ m ih =>
   show (if 0≤bX t (m+1) x then t (bX t (m+1) x).toNat else bX t (m+1) x)=_
   rw[ih];rfl
structure ri (l:Nat) (t:Nat→Int) (f:Nat→Int) (a:Nat) (tk:Nat→Bool) (tm:Nat→Nat):Prop where
 cnt:cn tk l=a
 on:∀ i,i<l→tk i=true→f i=-1∧tm i<a
 off:∀ i,i<l→tk i=false→f i=(cn (fun j=>!tk j && decide (t j=(i:Int))) l:Nat)
 pre:∀ i j,i<l→j<l→tk i=true→t j=(i:Int)→tk j=true∧tm j<tm i
theorem JO {l:Nat} {t f:Nat→Int} (h:∀ i,i<l→f i=(cn (fun j=>decide (t j=(i:Int))) l:Nat)):ri l t f 0 (fun _=>false) (fun _=>0) where
 cnt:=mB (fun _ _=>rfl)
 on:=fun i hi h=>by cases h
 off:=fun i hi _=>by rw[h i hi];rfl
 pre:=fun i j _ _ h=>by cases h
def uI (f:Nat→Int) (i:Nat) (x:Int):Nat→Int:=fun j=>if j=i then x else f j
def zW (t f:Nat→Int) (i:Nat):Nat→Int:=if 0≤t i then uI (uI f i (-1)) (t i).toNat (uI f i (-1) (t i).toNat-1) else uI f i (-1)
theorem ri.zero {l:Nat} {t f:Nat→Int} {a:Nat} {tk:Nat→Bool} {tm:Nat→Nat} (h:ri l t f a tk tm) {i:Nat} (hi:i<l) (hf:f i=0):tk i=false∧∀ j,j<l→t j=(i:Int)→tk j=true:=by
 have h1:tk i=false:=by
  cases e:tk i with
  | false=>rfl
  | true=>have:=(h.on i hi e).1;omega
 refine ⟨h1,fun j hj e=>?_⟩
 have h2:=h.off i hi h1
 rw[hf] at h2
 have:=kE (p:=fun j=>!tk j && decide (t j=(i:Int))) (n:=l) (by omega) j hj
 simp only[e,decide_true,Bool.and_true,Bool.not_eq_false'] at this
 exact this
theorem ri.take {l:Nat} {t f:Nat→Int} {a:Nat} {tk:Nat→Bool} {tm:Nat→Nat} (h:ri l t f a tk tm) {i:Nat} (hi:i<l) (hf:f i=0) :
 ri l t (zW t f i) (a+1) (fun j=>if j=i then true else tk j) (fun j=>if j=i then a else tm j)∧zW t f i i=-1∧∀ x,x<l→f x=-1→zW t f i x=-1:=by
 obtain ⟨h1,h2⟩:=h.zero hi hf
 have hti:∀ x:Nat,x<l→t i=(x:Int)→tk x=false∧x≠i:=fun x hx e=>by
  have hne:x≠i:=fun c=>by
   subst c
   have:=h2 x hx e
   rw[h1] at this;cases this
  refine ⟨?_,hne⟩
  cases c:tk x with
  | false=>rfl
  | true =>
    have:=(h.pre x i hx hi c e).1
    rw[h1] at this;cases this
 have at_i:zW t f i i=-1:=by
  unfold zW
  by_cases c:0≤t i
  · rw[if_pos c]
    have hne:i≠(t i).toNat:=fun e=>by
     have:t i=(i:Int):=by omega
     exact (hti i hi this).2 rfl
    show (if i=(t i).toNat then _ else (if i=i then _ else _))=_
    rw[if_neg hne,if_pos rfl]
  · rw[if_neg c];show (if i=i then _ else _)=_;rw[if_pos rfl]
 have at_x:∀ x,x≠i→zW t f i x=if t i=(x:Int) then f x-1 else f x:=fun x hx=>by
  unfold zW
  by_cases c:0≤t i
  · rw[if_pos c]
    show (if x=(t i).toNat then (if (t i).toNat=i then _ else f (t i).toNat)-1 else (if x=i then _ else f x))=_
    by_cases e:x=(t i).toNat
    · rw[if_pos e,← e,if_neg hx,if_pos (by omega)]
    · rw[if_neg e,if_neg hx,if_neg (by omega)]
  · rw[if_neg c,if_neg (by omega)]
    show (if x=i then _ else f x)=_
    rw[if_neg hx]
 refine ⟨⟨?_,?_,?_,?_⟩,at_i,fun x hx e=>?_⟩
 rotate_left 4
 · have hne:x≠i:=fun c=>by subst c;omega
   rw[at_x x hne]
   by_cases c:t i=(x:Int)
   · have:=h.off x hx (hti x hx c).1
     omega
   · rw[if_neg c];exact e
 · rw[ib (p:=tk) (i:=i) h1 (by simp) (fun j _ hj=>by simp[hj]) hi,h.cnt]
 · intro x hx e
   by_cases c:x=i
   · subst c;exact ⟨at_i,by simp⟩
   · simp only[c,if_false] at e ⊢
     obtain ⟨g1,g2⟩:=h.on x hx e
     rw[at_x x c,if_neg (fun e2=>by have:=(hti x hx e2).1;rw[e] at this;cases this)]
     exact ⟨g1,by omega⟩
 · intro x hx e
   by_cases c:x=i
   · subst c;simp at e
   · simp only[c,if_false] at e
     rw[at_x x c,h.off x hx e]
     by_cases e2:t i=(x:Int)
     · rw[if_pos e2]
       have:=ib (p:=fun j=>!(if j=i then true else tk j) && decide (t j=(x:Int))) (q:=fun j=>!tk j && decide (t j=(x:Int))) (i:=i) (n:=l) (by simp) (by simp[h1,e2]) (fun j _ hj=>by simp[hj]) hi
       rw[this];omega
     · rw[if_neg e2]
       congr 1
       refine eF (fun j hj=>?_)
       by_cases c2:j=i
       · subst c2;simp[e2]
       · simp[c2]
 · intro x j hx hj e ej
   by_cases c:x=i
   · subst c
     have:=h2 j hj ej
     have hne:j≠x:=fun c2=>by subst c2;rw[h1] at this;cases this
     simp only[hne,if_false,if_true,this,true_and]
     exact (h.on j hj this).2
   · simp only[c,if_false] at e
     obtain ⟨g1,g2⟩:=h.pre x j hx hj e ej
     have hne:j≠i:=fun c2=>by subst c2;rw[h1] at g1;cases g1
     simp only[hne,c,if_false]
     exact ⟨g1,g2⟩
theorem ri.le {l:Nat} {t f:Nat→Int} {a:Nat} {tk:Nat→Bool} {tm:Nat→Nat} (h:ri l t f a tk tm):a≤l:=by
 rw[← h.cnt];exact m5 _ _
def ig (l:Nat) (t:Nat→Int):Bool:=cU (fun i=>decide (0≤bX t l (i:Int))) l
theorem Fu {l:Nat} {t f:Nat→Int} {tk:Nat→Bool} {tm:Nat→Nat} (h:ri l t f l tk tm) (ht:∀ j,j<l→t j<l):ig l t=false:=by
 have all:=Gp h.cnt
 refine kI (fun i hi=>?_)
 have key:∀ m,0≤bX t m (i:Int)→(bX t m (i:Int)).toNat<l∧m≤tm (bX t m (i:Int)).toNat:=by
  intro m
  induction m with
  | zero=>intro _;exact ⟨by show ((i:Int)).toNat<l;omega,Nat.zero_le _⟩
  | succ m ih =>
    intro hp
    have e:bX t (m+1) (i:Int)=if 0≤bX t m (i:Int) then t (bX t m (i:Int)).toNat else bX t m (i:Int):=rfl
    by_cases c:0≤bX t m (i:Int)
    · rw[if_pos c] at e
      obtain ⟨g1,g2⟩:=ih c
      rw[e] at hp ⊢
      have g3:=ht _ g1
      obtain ⟨_,g4⟩:=h.pre (t (bX t m (i:Int)).toNat).toNat _ (by omega) g1 (all _ (by omega)) (by omega)
      exact ⟨by omega,by omega⟩
    · rw[if_neg c] at e;rw[e] at hp;exact absurd hp c
 refine decide_eq_false (fun hc=>?_)
 obtain ⟨g1,g2⟩:=key l hc
 have:=(h.on _ g1 (all _ g1)).2
 omega
theorem Dn {l:Nat} {t f:Nat→Int} {a:Nat} {tk:Nat→Bool} {tm:Nat→Nat} (h:ri l t f a tk tm) (ha:a<l) (hf:∀ i,i<l→f i≠0):ig l t=true:=by
 obtain ⟨i0,hi0,e0⟩:=Gq (p:=tk) (n:=l) (by rw[h.cnt];exact ha)
 have key:∀ m,∃ x,x<l∧tk x=false∧0≤bX t m (x:Int):=by
  intro m
  induction m with
  | zero=>exact ⟨i0,hi0,e0,by show (0:Int)≤(i0:Int);omega⟩
  | succ m ih =>
    obtain ⟨x,hx,e,hs⟩:=ih
    have h1:=h.off x hx e
    have h2:=hf x hx
    obtain ⟨j,hj,e2⟩:=pK (p:=fun j=>!tk j && decide (t j=(x:Int))) (n:=l) (by omega)
    simp only[Bool.and_eq_true,Bool.not_eq_true',decide_eq_true_eq] at e2
    refine ⟨j,hj,e2.1,?_⟩
    rw[HH m _ (by omega),Int.toNat_natCast,e2.2]
    exact hs
 obtain ⟨x,hx,_,hs⟩:=key l
 exact (dI _ _).2 ⟨x,hx,decide_eq_true hs⟩
end Go.Eng
end
section
namespace Go.Eng
open Go.Proofs
noncomputable def xV (l:Nat) (t:Nat→Int) (j:Int):ao:=[(3,.ptr 0 1 0 0),(14,bP l t false),(15,.int .i64 (Int.ofNat l)),(16,.int .i64 j)]
noncomputable def wx (l:Nat) (t:Nat→Int) (k:Nat) (d g:Nat→Int):aW:=⟨false,[(0,.row (.G [bP l t false,bP k d false])),(0,.row (.M [.one (bP l t false),.one (bP k d false),.arr .i64 g 30]))]⟩
noncomputable def dv (s:Nat) (l:Nat) (t:Nat→Int) (k:Nat) (d g:Nat→Int):AV:=.ptrT (some s) (.M [.one (bP l t false),.one (bP k d false),.arr .i64 g 30]) 0
theorem t57 (n l k:Nat) (t d g:Nat→Int) (H:aa) (j:Int):aQ (bt n 57 34) (il aH n 0) aN aO (part Try.f57 [1,1,1,0,1,0,0]) (hints (xV l t j)) (wx l t k d g::H) =
 (fun (Z0:aW)=>((fun (Z1:aI)=>Tr.ite (bV j (Int.ofNat l)) (Tr.req (cS j l) (Tr.req (cJ (ar 0 j 1) l) (Tr.ite (jF (Int.ofNat 0) (t (ar 0 j 1))) (Tr.req (cS (t (ar 0 j 1)) 30) (Tr.req (cu 0 0) (Tr.req (fW (ar 2 (t (ar 0 j 1)) 1) 1 2 30) (Tr.req (cS (t (ar 0 j 1)) 30) (Tr.req (cu 0 0) (Tr.req (fW (ar 2 (t (ar 0 j 1)) 1) 1 2 30) (Tr.req (jP (ik 0 0) (ik 0 1)) (Tr.ok (Ex.normal,Z1,{ lock:=false,bs:=[(0,ak.row (Row.G [AV.slcT none (Row.M [ah.arr .i64 t l]) 1 l false,AV.slcT none (Row.M [ah.arr .i64 d k]) 1 k false])),(0,ak.row (Row.M [ah.one (AV.slcT none (Row.M [ah.arr .i64 t l]) 1 l false),ah.one (AV.slcT none (Row.M [ah.arr .i64 d k]) 1 k false),ah.arr .i64 (fH g (tB (ar 2 (t (ar 0 j 1)) 1) 2) (bE .i64 (g (tB (ar 2 (t (ar 0 j 1)) 1) 2)) (Int.ofNat 1))) 30]))] } :: H))))))))) (Tr.ok (Ex.normal,Z1,Z0::H))))) (Tr.ok (Ex.exit 0,[(3,AV.ptr 0 1 0 0,none),(14,AV.slcT none (Row.M [ah.arr .i64 t l]) 1 l false,none),(15,AV.int .i64 (Int.ofNat l),none),(16,AV.int .i64 j,none),(17,AV.bool false,some 1)],Z0::H))) [(3,AV.ptr 0 1 0 0,none),(14,AV.slcT none (Row.M [ah.arr .i64 t l]) 1 l false,none),(15,AV.int .i64 (Int.ofNat l),none),(16,AV.int .i64 (bE .i64 j (Int.ofNat 1)),none)])) { lock:=false,bs:=[(0,ak.row (Row.G [AV.slcT none (Row.M [ah.arr .i64 t l]) 1 l false,AV.slcT none (Row.M [ah.arr .i64 d k]) 1 k false])),(0,ak.row (Row.M [ah.one (AV.slcT none (Row.M [ah.arr .i64 t l]) 1 l false),ah.one (AV.slcT none (Row.M [ah.arr .i64 d k]) 1 k false),ah.arr .i64 g 30]))] }:=by kernel_rfl
theorem SX (n l k:Nat) (t d g:Nat→Int) (H:aa):aZ Try.prog (cd n) 100000 57 Try.f57 (KtL.kt 57) (il aH n 0) (bZ aN 0 (xV l t 0) (wx l t k d (fun _=>Int.ofNat 0)::H) (.ok (.normal,hints (xV l t (Int.ofNat l)++[(17,.bool false)]),wx l t k d g::H))) aO [(cg l t k d,none)] H =
 (fun (Z0:aW)=>((fun (Z1:ao)=>Tr.req (cJ 0 30) (Tr.req (cu 0 0) (Tr.reqP (Z1=Z1∧Z0::H=Z0::H) (Tr.ok ((AV.ptrT (some 0) (Row.M [ah.one (AV.slcT none (Row.M [ah.arr .i64 t l]) 1 l false),ah.one (AV.slcT none (Row.M [ah.arr .i64 d k]) 1 k false),ah.arr .i64 g 30]) 0,none),H))))) [(3,AV.ptr 0 1 0 0),(14,AV.slcT none (Row.M [ah.arr .i64 t l]) 1 l false),(15,AV.int .i64 (Int.ofNat l)),(16,AV.int .i64 (Int.ofNat 0))])) { lock:=false,bs:=[(0,ak.row (Row.G [AV.slcT none (Row.M [ah.arr .i64 t l]) 1 l false,AV.slcT none (Row.M [ah.arr .i64 d k]) 1 k false])),(0,ak.row (Row.M [ah.one (AV.slcT none (Row.M [ah.arr .i64 t l]) 1 l false),ah.one (AV.slcT none (Row.M [ah.arr .i64 d k]) 1 k false),ah.arr .i64 (fun x=>Int.ofNat 0) 30]))] }:=by kernel_rfl
theorem P7:∀ b,(0,b) ∈ aJ (bm Try.f57)→b=.loop (part Try.f57 [1,1,1,0,1,0,0]):=fa (by kernel_rfl)
noncomputable def cw (t:Nat→Int):Nat→Nat→Int
 | 0=>fun _=>0
 | j+1=>if 0≤t j then fH (cw t j) (t j).toNat (cw t j (t j).toNat+1) else cw t j
theorem BD (t:Nat→Int):∀ (j:Nat) (i:Nat),cw t j i=(cn (fun x=>decide (t x=(i:Int))) j:Nat)
 | 0,i=>rfl
 | j + 1,i=>by
   have ih:=BD t j i
   show (if 0≤t j then fH (cw t j) (t j).toNat (cw t j (t j).toNat+1) else cw t j) i=((cn (fun x=>decide (t x=(i:Int))) j+(decide (t j=(i:Int))).toNat:Nat):Int)
   by_cases c:0≤t j
   · rw[if_pos c,mT]
     show (if i=(t j).toNat then _ else _)=_
     by_cases e:i=(t j).toNat
     · rw[if_pos e,← e,ih,decide_eq_true (show t j=(i:Int) by omega)]
       simp
     · rw[if_neg e,ih,decide_eq_false (show ¬ t j=(i:Int) by omega)]
       simp
   · rw[if_neg c,ih,decide_eq_false (show ¬ t j=(i:Int) by omega)]
     simp
section
variable (n l k:Nat) (t d:Nat→Int) (H:aa)
theorem Sn (hl:l≤30) (ht:∀ j,j<l→t j<l):exec (bt n 57 34) (.block 0 (.loop (part Try.f57 [1,1,1,0,1,0,0]))) (xV l t 0) (wx l t k d (fun _=>Int.ofNat 0)::H)=some (.normal,xV l t (Int.ofNat l)++[(17,.bool false)],wx l t k d (cw t l)::H):=by
 refine jD 0 (fun j=>xV l t (j:Int)) (fun j=>wx l t k d (cw t j)::H) l (xV l t (Int.ofNat l)++[(17,.bool false)],wx l t k d (cw t l)::H) (by omega) (fun j hj=>?_) ?_
 · have htj:=ht j hj
   have hld:cw t (j+1)=if 0≤t j then fH (cw t j) (t j).toNat (cw t j (t j).toNat+1) else cw t j:=rfl
   refine aK (t57 n l k t d (cw t j) H (j:Int)) (av n) (af _ _) (ag _ _) ?_
   rw[dx (by omega),jo]
   show Tr.all _ (fun x=>_∧tidy _ _ _=(_,wx l t k d (cw t (j+1))::H))
   rw[hld]
   by_cases c:0≤t j
   · have hg:=BD t j (t j).toNat
     have hb:=m5 (fun x=>decide (t x=(((t j).toNat:Nat):Int))) j
     have es:tB (ar 2 (t j) 1) 2=(t j).toNat:=by rw[kQ,ll];omega
     have ea:bE .i64 (cw t j (t j).toNat) (Int.ofNat 1)=cw t j (t j).toNat+1:=by
      rw[show Int.ofNat 1=1 from rfl];exact Cz (by omega) (by omega)
     rw[if_pos c,es,ea]
     generalize fH (cw t j) (t j).toNat (cw t j (t j).toNat+1)=T
     generalize t j=q at *
     exact wF
   · rw[if_neg c]
     generalize t j=q at *
     exact wF
 · obtain ⟨x,h1,rfl⟩:=aK (Q:=fun x=>x=(.exit 0,xV l t (Int.ofNat l)++[(17,.bool false)],wx l t k d (cw t l)::H)) (t57 n l k t d (cw t l) H (Int.ofNat l)) (av n) (af _ _) (ag _ _) (by
    refine Tr.bx (fun hc=>?_) (fun hc=>Tr.bk rfl)
    simp (disch:=omega) only[nV,nW] at hc;omega)
   exact h1
theorem PQ (hl:l≤30) (ht:∀ j,j<l→t j<l):cd (n+1) (.fn 57) [cg l t k d] H=some (dv 0 l t k d (cw t l),H):=by
 have hx:=Sn n l k t d H hl ht
 refine aL (n:=n) Try.func57 rfl rfl rfl (SX n l k t d (cw t l) H) (av _) (aD (af _ _) P7 (fun x hy=>bL hy hx)) (ag _ _) ?_
 generalize cw t l=g at *
 exact wF
end
end Go.Eng
end
