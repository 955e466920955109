/- Lay: pick, as a function with a range over a map. -/
import Derived.Test.YtoomemfhcbajoaaV5EngRnFx5
import Derived.Test.YtoomemfhcbajoaaV5EngKtL
import Derived.Test.YtoomemfhcbajoaaProg
import Derived.KernelRfl
import Derived.Test.YtoomemfhcbajoaaV5EngThx4
import Derived.Test.YtoomemfhcbajoaaV5EngRnLx7
set_option maxRecDepth 100000
set_option linter.unusedVariables false
set_option linter.unusedSimpArgs false
section
namespace Go.Eng.Rf
open Go.Eng Go.Proofs
def cL:List Nat→Code→Code
 | [],c=>c
 | x :: p,c=>match c with
   | .seq a b=>match x with
     | 0=>cL p a
     | _=>cL p b
   | .cond _ a b=>match x with
     | 0=>cL p a
     | _=>cL p b
   | .block _ b=>cL p b
   | .loop b=>cL p b
   | .scope b=>cL p b
   | .rangeFunc _ _ a b=>match x with
     | 0=>cL p a
     | _=>cL p b
   | c=>c
def kX:Code→Array Oper
 | .region _ ops _=>ops
 | _=>#[]
noncomputable def ey:Code:=Try.f90.body.getD .skip
def I5 (l:List Oper):Oper:=l.headD { dst:=none,op:=.move (.tmp 0),type:=0,pos := "",after:=#[],guard:=none }
noncomputable def cZ:cK:={ id0:=3,ops0:=kX (cL [1,1,1,0,0] ey),pre:=(kX (cL [1,1,1,0,0] ey)).toList.take 1,ro:=I5 ((kX (cL [1,1,1,0,0] ey)).toList.drop 1),m:=9,ty:=95 }
noncomputable def bz:bp:={ out:=0,mV:=4,id2:=5,nxt:=1,ops1:=kX (cL [1,1,1,0,1,0,0,0] ey),ops2:=kX (cL [1,1,1,0,1,0,0,1,1,0,0] ey),no:=I5 (kX (cL [1,1,1,0,1,0,0,0] ey)).toList,eo:=I5 (kX (cL [1,1,1,0,1,0,0,1,1,0,0] ey)).toList,t1:=(kX (cL [1,1,1,0,1,0,0,0] ey)).toList.tail,t2:=(kX (cL [1,1,1,0,1,0,0,1,1,0,0] ey)).toList.tail,it:=10,nx:=11,mo:=12,en:=13,rest:=cL [1,1,1,0,1,0,0,1,1,0,1] ey,km:=16775424 }
noncomputable def pick:n7:={ f:=90,pre:=[cL [0] ey,cL [1,0] ey,cL [1,1,0] ey],S:=cZ,L:=bz,suf:=cL [1,1,1,1] ey }
theorem AD:Try.f90.body=some (assemble pick.pre (cZ.code bz) pick.suf):=by kernel_rfl
theorem wE:cZ.ops0.toList=cZ.pre++[cZ.ro]:=by kernel_rfl
theorem wI:cZ.ro.op=.range cZ.ty (.tmp cZ.m):=by kernel_rfl
theorem wy:cZ.ro.dst=some bz.it:=by kernel_rfl
theorem wB:cZ.ro.guard=none:=by kernel_rfl
theorem wG:bz.ops1.toList=bz.no::bz.t1:=by kernel_rfl
theorem wJ:bz.no.op=.next (.tmp bz.it) false:=by kernel_rfl
theorem wz:bz.no.dst=some bz.nx:=by kernel_rfl
theorem wC:bz.no.guard=none:=by kernel_rfl
theorem wH:bz.ops2.toList=bz.eo::bz.t2:=by kernel_rfl
theorem wK:bz.eo.op=.entry (.tmp bz.it):=by kernel_rfl
theorem wA:bz.eo.dst=some bz.en:=by kernel_rfl
theorem wD:bz.eo.guard=none:=by kernel_rfl
theorem wL:pick.Ok Try.prog:=⟨⟨Try.f90,Try.func90,AD⟩,⟨wE,wI,wy,wB,⟨_,_,Try.underlying95⟩⟩,⟨wG,wJ,wz,wC,wH,wK,wA,wD⟩⟩
end Go.Eng.Rf
end
section
namespace Go.Eng
open Go.Proofs Go.ChangeShapes

noncomputable def Mm (n len:Nat) (z:Nat→Int):AV:=.slcT none (.M [.arr .i64 z (iZ len n)]) n len false
noncomputable def sP:aQ→FuncId→List AV→aa→Option (AV×aa):=fun call f args H=>cond (Nat.beq f 54) (yO Try.prog KtL.kt 100000 54 call args H) (cond (Nat.beq f 95) (yO Try.prog KtL.kt 100000 95 call args H) (cond (Nat.beq f 90) (sV Try.prog KtL.kt 100000 Rf.pick call args H) (G8 [⟨16,[],.bool true⟩] call f args H)))
def Kb (f:FuncId):Bool:=Nat.beq f 16 || Nat.beq f 1000000 || Nat.beq f 54 || Nat.beq f 95 || Nat.beq f 90
noncomputable def cd (n:Nat):aQ:=cT Try.prog sP KtL.kt 100000 n
noncomputable def il (tab:n5) (n k:Nat):bE:=CZ Try.prog sP KtL.kt 100000 Kb tab n k
noncomputable def bx (n:Nat) (f nt:Nat):Cx:=⟨Try.prog,cd n,100000,f,nt,KtL.kt f,none⟩

def FV:List Nat→Code→Code
 | [],c=>c
 | x :: p,c=>match c with
   | .seq a b=>match x with
     | 0=>FV p a
     | _=>FV p b
   | .cond _ a b=>match x with
     | 0=>FV p a
     | _=>FV p b
   | .block _ b=>FV p b
   | .loop b=>FV p b
   | .scope b=>FV p b
   | .rangeFunc _ _ a b=>match x with
     | 0=>FV p a
     | _=>FV p b
   | c=>c
noncomputable def part (f:Func) (p:List Nat):Code:=FV p (bO f)
theorem EZ (g:FuncId) (h:Kb g=false) (c:aQ) (args:List AV) (H:aa):sP c g args H=none:=by
 unfold Kb at h
 rw[Bool.or_eq_false_iff,Bool.or_eq_false_iff,Bool.or_eq_false_iff,Bool.or_eq_false_iff] at h
 obtain ⟨⟨⟨⟨h0,h1⟩,h2⟩,h3⟩,h4⟩:=h
 unfold sP G8
 rw[h2,h3,h4,h1,cond_false,cond_false,cond_false,cond_false]
 simp only[AB]
 have:Nat.beq 16 g=false:=by
  cases hb:Nat.beq 16 g with
  | false=>rfl
  | true=>have:=Nat.eq_of_beq_eq_true hb;subst this;simp at h0
 rw[this];rfl
theorem vj (n:Nat):∃ x,cT Try.prog sP KtL.kt 100000 n .mode [] []=some x:=by
 cases n<;>exact ⟨_,rfl⟩
theorem G5 (hN:c8 Try.prog) (hD:kr Try.prog) (hW:bu Try.prog ⟨16,[],.bool true⟩):uk Try.prog sP :=
 fun call hC f args H v H' h hne p M w cargs hH hA=>by
  unfold sP at h
  cases hb:Nat.beq f 54 with
  | true =>
    rw[hb,cond_true] at h
    have:=Nat.eq_of_beq_eq_true hb
    subst this
    exact sL hN hD KtL.kt 100000 hC h hH hA
  | false =>
    rw[hb,cond_false] at h
    cases hb2:Nat.beq f 95 with
    | true =>
      rw[hb2,cond_true] at h
      have:=Nat.eq_of_beq_eq_true hb2
      subst this
      exact sL hN hD KtL.kt 100000 hC h hH hA
    | false =>
      rw[hb2,cond_false] at h
      cases hb3:Nat.beq f 90 with
      | true =>
        rw[hb3,cond_true] at h
        have:=Nat.eq_of_beq_eq_true hb3
        subst this
        exact Dh hN hD Rf.wL KtL.kt 100000 hC h hH hA
      | false =>
        rw[hb3,cond_false] at h
        exact G9 _ (fun e he=>by
         simp only[List.mem_singleton] at he
         subst he
         exact hW) call hC f args H v H' h hne p M w cargs hH hA
theorem yb (tab:n5) (n k:Nat) (ht:∀ k,tab.Ok (cd (n+k))):(il tab n k).Ok (cd (n+k)):=Bw _ _ _ _ _ _ _ EZ (fun k=>vj _) ht k
theorem ly (n k:Nat):(il aK n k).Ok (cd (n+k)):=yb _ _ _ (fun k=>aR _)
theorem aw (n:Nat):(il aK n 0).Ok (cd n):=ly n 0
theorem KP {f:FuncId} {fn:Func} {n:Nat} (hf:Try.prog.funcs[f]?=some fn) (hb:fn.body.isSome=true) (hn:Kb f=false) {args:List HV} (hle:Nat.ble args.length fn.ntmps=true) {H:aa} {callR:bE} (hC:callR.Ok (cd n)) {bl:gv} (hB:bl.Ok (bx n f fn.ntmps) (bO fn)) {rg:ri} (hR:rg.Ok (bx n f fn.ntmps) (bO fn)) {y:HV×aa}
 (h:(bn Try.prog (cd n) 100000 f fn (KtL.kt f) callR bl rg args H).run=some y):cd (n+1) (.fn f) (qX args) H=some (y.1.1,y.2) :=
 xx hf hb (EZ f hn _ _ _) hle hC hB hR h
theorem KO {f:FuncId} {fn:Func} {n:Nat} (hf:Try.prog.funcs[f]?=some fn) (hb:fn.body.isSome=true) (hn:Kb f=false) {args:List HV} (hle:Nat.ble args.length fn.ntmps=true) {H:aa} {callR:bE} {bl:gv} {rg:ri} {T:Tr (HV×aa)}
 (e:bn Try.prog (cd n) 100000 f fn (KtL.kt f) callR bl rg args H=T) (hC:callR.Ok (cd n)) (hB:bl.Ok (bx n f fn.ntmps) (bO fn)) (hR:rg.Ok (bx n f fn.ntmps) (bO fn)) {y:HV×aa} (hr:T.run=some y):cd (n+1) (.fn f) (qX args) H=some (y.1.1,y.2) :=
 KP hf hb hn hle hC hB hR (by rw[e];exact hr)
theorem KM {n f nt:Nat} {c:Code} {callR:bE} (hC:callR.Ok (cd n)) {bl:gv} (hB:bl.Ok (bx n f nt) c) {rg:ri} (hR:rg.Ok (bx n f nt) c) {fr:ar} {H:aa} {x:nj} (h:(aG (bx n f nt) callR bl rg c (hints fr) H).run=some x):exec (bx n f nt) c fr H=some x.st:=by
 have:=oA hC c hB hR _ _ _ h
 rw[g8] at this
 exact this

def nh (bl:gv) (id0:Nat):gv:=fun id fr H=>cond (Nat.beq id id0) (some .bad) (bl id fr H)
theorem eK {bl:gv} {cx:Cx} {c:Code} (h:bl.Ok cx c) (id0:Nat):(nh bl id0).Ok cx c:=by
 intro id b hm fr H t y ht hy
 unfold nh at ht
 cases hb:Nat.beq id id0 with
 | true =>
   rw[hb,cond_true,Option.some.injEq] at ht
   subst ht
   exact (Tr.ae hy).elim
 | false =>
   rw[hb,cond_false] at ht
   exact h id b hm fr H t y ht hy
theorem KL {n f nt:Nat} {c:Code} {callR:bE} {bl:gv} {rg:ri} {fr:ar} {H:aa} {T:Tr nj} (e:aG (bx n f nt) callR bl rg c (hints fr) H=T) (hC:callR.Ok (cd n)) (hB:bl.Ok (bx n f nt) c) (hR:rg.Ok (bx n f nt) c) {x:nj} (hr:T.run=some x):exec (bx n f nt) c fr H=some x.st :=
 KM hC hB hR (by rw[e];exact hr)
section
variable {n f nt:Nat} {c:Code} {callR:bE} {bl:gv} {rg:ri}
end
def fA (p:Nat→Bool) (N:Nat):Bool:=decide (fN p N 0<N)
theorem iP {p:Nat→Bool} {N:Nat} (h:fA p N=true):fN p N 0<N:=by simpa[fA] using h
theorem pG {p:Nat→Bool} {N:Nat} (h:fA p N=false):fN p N 0=N:=by
 have h1:=(mB p N 0).2.1
 have:¬ fN p N 0<N:=by simpa[fA] using h
 omega
theorem gQ (p:Nat→Bool) (N:Nat):fA p N=true↔∃ i,i<N∧p i=true:=by
 obtain ⟨h1,h2,h3,h4⟩:=mB p N 0
 constructor
 · intro h
   have:=iP h
   exact ⟨_,this,h4 (by omega)⟩
 · rintro ⟨i,hi,hp⟩
   unfold fA
   rw[decide_eq_true_eq]
   apply Nat.lt_of_not_le
   intro hc
   have:=h3 i (by omega) (by omega)
   rw[this] at hp;cases hp
end Go.Eng
end
section
namespace Go.Eng
open Go.Proofs
theorem aS {f:FuncId} {fn:Func} {n:Nat} (hf:Try.prog.funcs[f]?=some fn) (hb:fn.body.isSome=true) (hn:Kb f=false) {args:List HV} (hle:Nat.ble args.length fn.ntmps=true) {H:aa} {callR:bE} {bl:gv} {rg:ri} {T:Tr (HV×aa)}
 (e:bn Try.prog (cd n) 100000 f fn (KtL.kt f) callR bl rg args H=T) (hC:callR.Ok (cd n)) (hB:bl.Ok (bx n f fn.ntmps) (bO fn)) (hR:rg.Ok (bx n f fn.ntmps) (bO fn)) {v:AV} {H':aa} (h:T.all fun y=>y.1.1=v∧y.2=H'):cd (n+1) (.fn f) (qX args) H=some (v,H'):=by
 obtain ⟨y,h1,h2,h3⟩:=h
 have:=KO hf hb hn hle e hC hB hR h1
 rw[this,h2,h3]
theorem aF {n f nt:Nat} {c:Code} {callR:bE} {bl:gv} {rg:ri} {fr:ar} {H:aa} {T:Tr nj} (e:aG (bx n f nt) callR bl rg c (hints fr) H=T) (hC:callR.Ok (cd n)) (hB:bl.Ok (bx n f nt) c) (hR:rg.Ok (bx n f nt) c) {Q:Ex×ar×aa→Prop} (h:T.all fun x=>Q x.st):∃ x,exec (bx n f nt) c fr H=some x∧Q x:=by
 obtain ⟨x,h1,h2⟩:=h
 exact ⟨_,KL e hC hB hR h1,h2⟩
section
variable {n f nt:Nat} {c:Code} {callR:bE} {bl:gv} {rg:ri}
theorem EI (id:Nat) (I:Nat→ar→aa→Prop) (Q:ar×aa→Prop) (N:Nat) (hN:N<99999) {fr0:ar} {H0:aa} (h0:I 0 fr0 H0)
 (hr:∀ j fr H,I j fr H→∃ x,exec (bx n f nt) c fr H=some x∧((x.1=.normal∧j<N∧I (j+1) (tidy (an H0) x.2.1 x.2.2).1 (tidy (an H0) x.2.1 x.2.2).2)∨(x.1=.exit id∧Q x.2))) :
 ∃ y,exec (bx n f nt) (.block id (.loop c)) fr0 H0=some (.normal,y)∧Q y:=by
 obtain ⟨x,h1,h2⟩:=sq (body:=exec (bx n f nt) c) (n:=an H0) I (fun x=>x.1=.exit id∧Q x.2) N (fun j fr H h=>by
  obtain ⟨x,h1,h2⟩:=hr j fr H h
  obtain ⟨e,f1,g1⟩:=x
  refine ⟨e,f1,g1,h1,?_⟩
  rcases h2 with h2 | ⟨h2,h3⟩
  · exact .inl h2
  · exact .inr ⟨by dsimp only at h2;rw[h2];simp,h2,h3⟩) 100000 0 fr0 H0 h0 (by omega)
 obtain ⟨e,f1,g1⟩:=x
 obtain ⟨h2,h3⟩:=h2
 dsimp only at h2 h3
 subst h2
 exact ⟨(f1,g1),dT h1,h3⟩
theorem qu (id:Nat) (F:Nat→ar) (G:Nat→aa) (N:Nat) (p:Nat→Bool) (X:Nat→ar×aa) (Y:ar×aa) (hN:N<99999)
 (hs:∀ j,j<N→∃ x,exec (bx n f nt) c (F j) (G j)=some x∧if p j=true then x=(.ret,X j) else x.1=.normal∧tidy (an (G 0)) x.2.1 x.2.2=(F (j+1),G (j+1)))
 (he:exec (bx n f nt) c (F N) (G N)=some (.exit id,Y)):exec (bx n f nt) (.block id (.loop c)) (F 0) (G 0)=some (cond (fA p N) (.ret,X (fN p N 0)) (.normal,Y)):=by
 have key:=mE (body:=exec (bx n f nt) c) (n:=an (G 0)) F G N p (fun j=>if j<N then (.ret,X j) else (.exit id,Y))
  (fun j hj hp=>by
    obtain ⟨x,h1,h2⟩:=hs j hj
    rw[if_neg (by rw[hp];simp)] at h2
    obtain ⟨e,f1,g1⟩:=x
    obtain ⟨rfl,h3⟩:=h2
    exact ⟨_,_,h1,h3⟩)
  (fun j hj hp=>by
    obtain ⟨x,h1,h2⟩:=hs j hj
    rw[if_pos hp] at h2
    subst h2
    rw[if_pos hj]
    exact ⟨h1,by simp⟩)
  (by
    rw[if_neg (by omega)]
    exact ⟨he,by simp⟩) N 0 100000 (by omega) (by omega)
 cases hc:fA p N with
 | true =>
   have:=iP hc
   rw[if_pos this] at key
   exact dZ (fun id' h=>by cases h) key
 | false =>
   have:=pG hc
   rw[if_neg (by omega)] at key
   exact dT key
end
theorem jG {n f nt:Nat} {c:Code} (id:Nat) (F:Nat→ar) (G:Nat→aa) (N:Nat) (Y:ar×aa) (hN:N<99999)
 (hs:∀ j,j<N→∃ x,exec (bx n f nt) c (F j) (G j)=some x∧(x.1=.normal∧tidy (an (G 0)) x.2.1 x.2.2=(F (j+1),G (j+1))))
 (he:exec (bx n f nt) c (F N) (G N)=some (.exit id,Y)):exec (bx n f nt) (.block id (.loop c)) (F 0) (G 0)=some (.normal,Y):=by
 have:=qu id F G N (fun _=>false) (fun _=>Y) Y hN (fun j hj=>by
  obtain ⟨x,h1,h2⟩:=hs j hj
  exact ⟨x,h1,by rw[if_neg (by simp)];exact h2⟩) he
 have h0:fA (fun _=>false) N=false:=by
  cases h:fA (fun _=>false) N with
  | false=>rfl
  | true=>obtain ⟨i,_,h2⟩:=(gQ _ _).1 h;cases h2
 rw[h0] at this
 exact this
end Go.Eng
end
section
namespace Go.Eng
open Go.Proofs
noncomputable def aD:aU:=⟨false,[]⟩
noncomputable def b7 (k:Nat) (b:Nat→Int) (full:Bool):AV:=.slcT none (.M [.arr .i64 b k]) 1 k full
noncomputable def C6 (v k:Nat) (y:Nat→Int):aU:=⟨false,[(v,.row (.M [.arr .i64 y k]))]⟩
theorem aX (tab:n5) (n:Nat) (ht:tab.Ok (cd n)):(il tab n 0).Ok (cd n) :=
 ⟨vj _,fun tgt args H x h=>by
   unfold il CZ at h
   split at h
   · split at h
     · rename_i c hc
       exact ht _ _ hc _ _ _ h
     · exact (Tr.ae h).elim
   · exact (Tr.ae h).elim⟩
theorem jm {cx:Cx} {id:Nat} {B:Code} {fr:ar} {H:aa} {e:Bool} {X Y x:nj} (h:(Tr.ite e (Tr.ok X) (Tr.ok Y)).run=some x) (hx:exec cx (.block id B) fr H=some (cond e X.st Y.st)):exec cx (.block id B) fr H=some x.st:=by
 rw[hx]
 rcases Tr.gd h with ⟨hc,h⟩ | ⟨hc,h⟩
 · rw[hc,← Tr.ab h];rfl
 · rw[hc,← Tr.ab h];rfl
theorem bU {cx:Cx} {id:Nat} {B:Code} {fr:ar} {H:aa} {X x:nj} (h:(Tr.ok X).run=some x) (hx:exec cx (.block id B) fr H=some X.st):exec cx (.block id B) fr H=some x.st:=by
 rw[hx,← Tr.ab h]
theorem dJ {j:Nat} (h:j<2 ^ 31):br .i64 (j:Int) (Int.ofNat 1)=((j+1:Nat):Int):=by rw[jj,show Int.ofNat 1=1 from rfl];exact po (by omega) (by omega)
theorem mV (j:Nat):ay 0 (j:Int) 1=j:=by rw[kO];omega
theorem J9 {x:Int} (h:0≤x):ay 0 x 1=x.toNat:=by rw[kO];omega
theorem FN {x:Int} (h0:-9223372036854775808≤x) (h1:x≤9223372036854775807):tE .i64 x=x:=by rw[AT,po h0 h1]
theorem Cs {x y:Int} (h0:-9223372036854775808≤x+y) (h1:x+y≤9223372036854775807):br .i64 x y=x+y:=by rw[jj,po h0 h1]
theorem ui {x y:Int} (h0:-9223372036854775808≤x-y) (h1:x-y≤9223372036854775807):bP .i64 x y=x-y:=by rw[mN,po h0 h1]
theorem Jn (L:List Int) (j:Nat):al L j=L.getD j 0:=congrFun (BF L) j
theorem wg (L:List Int) (v:Int):jO (bm (al L) 0) L.length (al [v])=al (L++[v]):=by
 rw[di,vH,gT];funext i
 by_cases h:i<L.length
 · simp[h,List.getElem?_append]
 · by_cases h2:i=L.length
   · subst h2;simp
   · have e1:[v][i-L.length]?=none:=List.getElem?_eq_none (by simp;omega)
     have e2:(L++[v])[i]?=none:=List.getElem?_eq_none (by simp;omega)
     simp only[h,if_false,List.getD_eq_getElem?_getD,e1,e2]
theorem Jo (S:List Int) (j:Nat) (hj:j<S.length):al S j=S[j]:=by
 rw[Jn,List.getD_eq_getElem?_getD,List.getElem?_eq_getElem hj];rfl
noncomputable def dA:List Int→AV
 | []=>.nils
 | a::r=>.slcT none (.M [.arr .i64 (al (a::r)) (r.length+1)]) 1 (r.length+1) false
noncomputable def gX (A:List AV) (V:AV):List AV→Option (Prop×AV):=fun x=>some (x=A,V)
noncomputable def tX (t:n5) (f:FuncId) (A:List AV) (V:AV):n5:=xC t f (gX A V)
theorem b5 {c f:Nat} {t:n5} {A:List AV} {V:AV} (ht:t.Ok (cd c)) (h:∀ H,cd c (.fn f) A H=some (V,H)):(tX t f A V).Ok (cd c):=by
 refine np ht (fun args p v hg hp H=>?_)
 unfold gX at hg
 simp only[nP] at hg
 obtain ⟨rfl,rfl⟩:=hg
 rw[hp];exact h H
noncomputable def tN (t:n5) (f:FuncId):n5:=xC t f (fun _=>none)
theorem FH {c f:Nat} {t:n5} (ht:t.Ok (cd c)):(tN t f).Ok (cd c):=np ht (fun args p v hg hp H=>by cases hg)
noncomputable def gC (P:Int→Bool) (Q:Int→List AV→aa→Prop) (args:List AV) (H:aa):Tr (AV×aa) :=
 match args with
 | .int .i64 x::C=>.reqP (Q x C H) (.ok (.bool (P x),H))
 | _=>.bad
noncomputable def Pq (f:FuncId) (P:Int→Bool) (Q:Int→List AV→aa→Prop):n5:=gY aK f (gC P Q)
theorem D9 {k:Nat} {f:FuncId} {P:Int→Bool} {Q:Int→List AV→aa→Prop} (h:∀ x C H,Q x C H→cd k (.fn f) (.int .i64 x::C) H=some (.bool (P x),H)):(Pq f P Q).Ok (cd k):=by
 refine iN (aR _) (fun args H x hx=>?_)
 unfold gC at hx
 split at hx
 · obtain ⟨h1,h2⟩:=Tr.cW hx
   rw[h _ _ _ h1,← Tr.ab h2]
 · exact (Tr.ae hx).elim
def FU (p:Nat→Bool) (m:Nat):Int:=if fA p m=true then (fN p m 0:Int) else -1
theorem Jf (p:Nat→Bool) (k:Nat):lH (Int.ofNat 0) (FU p k)=fA p k:=by
 rw[l5];unfold FU
 cases h:fA p k with
 | true =>
   rw[if_pos rfl]
   simp only[Int.ofNat_eq_natCast,decide_eq_true_eq];omega
 | false=>rw[if_neg (by decide)];rfl
theorem nu {p:Nat→Bool} {k:Nat} (h:∀ j,j<k→p j=false):fA p k=false:=by
 cases e:fA p k with
 | false=>rfl
 | true =>
   obtain ⟨j,hj,e2⟩:=(gQ _ _).1 e
   rw[h j hj] at e2;cases e2
theorem jq {p:Nat→Bool} {k:Nat} (h:fA p k=false):∀ j,j<k→p j=false:=fun j hj=>by
 cases e:p j with
 | false=>rfl
 | true=>rw[(gQ _ _).2 ⟨j,hj,e⟩] at h;cases h
theorem pF {p q:Nat→Bool} {k:Nat} (h:∀ j,j<k→p j=q j):fA p k=fA q k:=by
 rw[Bool.eq_iff_iff,gQ,gQ]
 constructor
 · rintro ⟨j,hj,e⟩;exact ⟨j,hj,by rw[← h j hj];exact e⟩
 · rintro ⟨j,hj,e⟩;exact ⟨j,hj,by rw[h j hj];exact e⟩
theorem Lc {n f nt:Nat} {c:Code} (id:Nat) (I:Nat→ar→aa→Prop) (Q:ar×aa→Prop) (N:Nat) (hN:N<99999) {fr0:ar} {H0:aa} (h0:I 0 fr0 H0)
 (hr:∀ j fr H,I j fr H→∃ x,exec (bx n f nt) c fr H=some x∧((x.1=.normal∧j<N∧I (j+1) (tidy (an H0) x.2.1 x.2.2).1 (tidy (an H0) x.2.1 x.2.2).2)∨(x.1=.ret∧Q x.2))) :
 ∃ y,exec (bx n f nt) (.block id (.loop c)) fr0 H0=some (.ret,y)∧Q y:=by
 obtain ⟨x,h1,h2⟩:=sq (body:=exec (bx n f nt) c) (n:=an H0) I (fun x=>x.1=.ret∧Q x.2) N (fun j fr H h=>by
  obtain ⟨x,h1,h2⟩:=hr j fr H h
  obtain ⟨e,f1,g1⟩:=x
  refine ⟨e,f1,g1,h1,?_⟩
  rcases h2 with h2 | ⟨h2,h3⟩
  · exact .inl h2
  · exact .inr ⟨by dsimp only at h2;rw[h2];simp,h2,h3⟩) 100000 0 fr0 H0 h0 (by omega)
 obtain ⟨e,f1,g1⟩:=x
 obtain ⟨h2,h3⟩:=h2
 dsimp only at h2 h3
 subst h2
 exact ⟨(f1,g1),dZ (fun id' h=>by cases h) h1,h3⟩
def KU:List AV→Option (Prop×AV)
 | []=>some (True,.bool true)
 | _=>none
theorem PM (n:Nat) (H:aa):cd (n+1) (.fn 16) [] H=some (.bool true,H):=by unfold cd cT;rfl
theorem MN {c:Nat} {t:n5} (h:0<c) (ht:t.Ok (cd c)):(xC t 16 KU).Ok (cd c):=by
 obtain ⟨m,rfl⟩:∃ m,c=m+1:=⟨c-1,by omega⟩
 refine np ht (fun args p v hg hp H=>?_)
 unfold KU at hg
 split at hg
 · simp only[nP] at hg
   obtain ⟨_,rfl⟩:=hg
   exact PM _ H
 · cases hg
noncomputable def dx (l:Nat) (t:Nat→Int) (k:Nat) (d:Nat→Int):AV:=.agg (.G [b7 l t false,b7 k d false])
end Go.Eng
end
section
namespace Go.Eng
open Go.Proofs
noncomputable def tD (lo hi:Int):aU:=⟨false,[(0,.row (.I .i64 [lo])),(0,.row (.I .i64 [hi]))]⟩
noncomputable def f83 (d:Nat):AV:=.fn (.func 83) [] [.ptr d 0 0 0,.ptr d 1 0 0]
noncomputable def CV (k:Nat) (b:Nat→Int) (full:Bool) (j:Int):ar:=[(0,b7 k b full),(1,f83 2),(7,.int .i64 (Int.ofNat k)),(8,.int .i64 j)]
theorem Sy (n:Nat) (lo hi:Int) (H:aa) (x:Int):bn Try.prog (cd n) 100000 83 Try.f83 (KtL.kt 83) (il aK n 0) aO aP [(.int .i64 x,none),(.ptr 2 0 0 0,none),(.ptr 2 1 0 0,none)] (aD::aD::tD lo hi::H) =
 (fun (Z0:aU)=>Tr.ite (cq x lo) (Tr.ok ((AV.bool true,some 1),aD::aD::Z0::H)) (Tr.ok ((AV.bool (cq hi x),none),aD::aD::Z0::H))) { lock:=false,bs:=[(0,ai.row (Row.I .i64 [lo])),(0,ai.row (Row.I .i64 [hi]))] }:=by kernel_rfl
theorem t94 (n k:Nat) (b:Nat→Int) (full:Bool) (lo hi:Int) (P:Int→Bool) (Q:Int→List AV→aa→Prop) (H:aa) (j:Int):aG (bx n 94 19) (il (Pq 83 P Q) n 0) aO aP (part Try.f94 [1,0,1,0,0]) (hints (CV k b full j)) (aD::aD::tD lo hi::H) =
 (fun (Z0:aU)=>Tr.ite (cq j (Int.ofNat k)) (Tr.req (dv j k) (Tr.req (c9 (ay 0 j 1) k) (Tr.reqP (Q (b (ay 0 j 1)) [AV.ptr 2 0 0 0,AV.ptr 2 1 0 0] (aD::aD::Z0::H)) (Tr.ite (P (b (ay 0 j 1))) (Tr.ok (Ex.ret,[(4,AV.int .i64 j,none)],aD::aD::Z0::H)) (Tr.ok (Ex.normal,[(0,AV.slcT none (Row.M [ah.arr .i64 b k]) 1 k full,none),(1,AV.fn (Fn.func 83) [] [AV.ptr 2 0 0 0,AV.ptr 2 1 0 0],none),(7,AV.int .i64 (Int.ofNat k),none),(8,AV.int .i64 (br .i64 j (Int.ofNat 1)),none)],aD::aD::Z0::H)))))) (Tr.ok (Ex.exit 0,[(0,AV.slcT none (Row.M [ah.arr .i64 b k]) 1 k full,none),(1,AV.fn (Fn.func 83) [] [AV.ptr 2 0 0 0,AV.ptr 2 1 0 0],none),(7,AV.int .i64 (Int.ofNat k),none),(8,AV.int .i64 j,none),(9,AV.bool false,some 1)],aD::aD::Z0::H))) { lock:=false,bs:=[(0,ai.row (Row.I .i64 [lo])),(0,ai.row (Row.I .i64 [hi]))] }:=by kernel_rfl
theorem SE (n k:Nat) (b:Nat→Int) (full:Bool) (lo hi:Int) (H:aa) (x:Bool) (r:Nat):bn Try.prog (cd n) 100000 94 Try.f94 (KtL.kt 94) (il aK n 0) (cX aO 0 (CV k b full 0) (aD::aD::tD lo hi::H) (.ite x (.ok (.ret,[(4,.int .i64 (Int.ofNat r),none)],aD::aD::tD lo hi::H)) (.ok (.normal,hints (CV k b full (Int.ofNat k)++[(9,.bool false)]),aD::aD::tD lo hi::H)))) aP [(b7 k b full,none),(f83 1,none)] (aD::tD lo hi::H) =
 (fun (Z0:aU)=>((fun (Z1:ar)=>Tr.reqP (Z1=Z1∧aD::aD::Z0::H=aD::aD::Z0::H) (Tr.ite x (Tr.ok ((AV.int .i64 (Int.ofNat r),none),aD::Z0::H)) (Tr.ok ((AV.int .i64 (Int.negSucc 0),some 1),aD::Z0::H)))) [(0,AV.slcT none (Row.M [ah.arr .i64 b k]) 1 k full),(1,AV.fn (Fn.func 83) [] [AV.ptr 2 0 0 0,AV.ptr 2 1 0 0]),(7,AV.int .i64 (Int.ofNat k)),(8,AV.int .i64 (Int.ofNat 0))])) { lock:=false,bs:=[(0,ai.row (Row.I .i64 [lo])),(0,ai.row (Row.I .i64 [hi]))] }:=by kernel_rfl
theorem Sx (n k:Nat) (b:Nat→Int) (full:Bool) (lo hi:Int) (H:aa) (r:Int):bn Try.prog (cd n) 100000 82 Try.f82 (KtL.kt 82) (il (z9 aK 94 [b7 k b full,f83 1] (aD::tD lo hi::H) (.ok (.int .i64 r,aD::tD lo hi::H))) n 0) aO aP [(b7 k b full,none),(f83 0,none)] (tD lo hi::H) =
 (fun (Z0:aU)=>((fun (Z1:List AV)=>Tr.reqP (Z1=Z1∧aD::Z0::H=aD::Z0::H) (Tr.ok ((AV.bool (lH (Int.ofNat 0) r),none),Z0::H))) [AV.slcT none (Row.M [ah.arr .i64 b k]) 1 k full,AV.fn (Fn.func 83) [] [AV.ptr 1 0 0 0,AV.ptr 1 1 0 0]])) { lock:=false,bs:=[(0,ai.row (Row.I .i64 [lo])),(0,ai.row (Row.I .i64 [hi]))] }:=by kernel_rfl
theorem Sl (n k:Nat) (b:Nat→Int) (full:Bool) (lo hi:Int) (H:aa) (e:Bool):bn Try.prog (cd n) 100000 56 Try.f56 (KtL.kt 56) (il (z9 aK 82 [b7 k b full,f83 0] (tD lo hi::H) (.ok (.bool e,tD lo hi::H))) n 0) aO aP [(.int .i64 lo,none),(.int .i64 hi,none),(b7 k b full,none)] H =
 (fun (Z0:List AV)=>((fun (Z1:aU)=>Tr.reqP (Z0=Z0∧Z1::H=Z1::H) (Tr.ok ((AV.bool (ba e),none),H))) { lock:=false,bs:=[(0,ai.row (Row.I .i64 [lo])),(0,ai.row (Row.I .i64 [hi]))] })) [AV.slcT none (Row.M [ah.arr .i64 b k]) 1 k full,AV.fn (Fn.func 83) [] [AV.ptr 0 0 0 0,AV.ptr 0 1 0 0]]:=by kernel_rfl
theorem PH:∀ b,(0,b) ∈ aN (bO Try.f94)→b=.loop (part Try.f94 [1,0,1,0,0]):=gq (by kernel_rfl)
def fM (lo hi x:Int):Bool:=decide (x<lo) || decide (hi<x)
section
variable (n k:Nat) (b:Nat→Int) (full:Bool) (lo hi:Int) (H:aa)
theorem P1 (x:Int):cd (n+1) (.fn 83) [.int .i64 x,.ptr 2 0 0 0,.ptr 2 1 0 0] (aD::aD::tD lo hi::H)=some (.bool (fM lo hi x),aD::aD::tD lo hi::H):=by
 have hp:fM lo hi x=(decide (x<lo) || decide (hi<x)):=rfl
 rw[hp]
 refine aS (n:=n) Try.func83 rfl rfl rfl (Sy n lo hi H x) (aw n) (af _ _) (ag _ _) ?_
 rw[eY,eY]
 refine Tr.bj (fun hc=>Tr.bg ⟨?_,rfl⟩) (fun hc=>Tr.bg ⟨?_,rfl⟩)
 · rw[hc];rfl
 · rw[hc];rfl
theorem P0 (hk:k≤1000):cd (n+4) (.fn 82) [b7 k b full,f83 0] (tD lo hi::H)=some (.bool (fA (fun j=>fM lo hi (b j)) k),tD lo hi::H):=by
 have hQ:∀ q x C H',(C=[.ptr 2 0 0 0,.ptr 2 1 0 0]∧H'=aD::aD::tD lo hi::H)→cd (n+2+q) (.fn 83) (.int .i64 x::C) H'=some (.bool (fM lo hi x),H'):=by
  rintro q x C H' ⟨rfl,rfl⟩
  rw[show n+2+q=n+1+q+1 by omega]
  exact P1 _ lo hi H x
 have hx:=qu (n:=n+2) (f:=94) (nt:=19) (c:=part Try.f94 [1,0,1,0,0]) 0 (fun j=>CV k b full (j:Int)) (fun _=>aD::aD::tD lo hi::H) k (fun j=>fM lo hi (b j)) (fun j=>([(4,.int .i64 (j:Nat))],aD::aD::tD lo hi::H)) (CV k b full (Int.ofNat k)++[(9,.bool false)],aD::aD::tD lo hi::H) (by omega) (fun j hj=>?_) ?_
 · have h94:cd (n+3) (.fn 94) [b7 k b full,f83 1] (aD::tD lo hi::H)=some (.int .i64 (FU (fun j=>fM lo hi (b j)) k),aD::tD lo hi::H):=by
    refine aS (n:=n+2) Try.func94 rfl rfl rfl (SE (n+2) k b full lo hi H (fA (fun j=>fM lo hi (b j)) k) (fN (fun j=>fM lo hi (b j)) k 0)) (aw _) (aW (af _ _) PH (fun x h=>jm h hx)) (ag _ _) ?_
    refine Tr.aY ⟨rfl,rfl⟩ (Tr.bj (fun hc=>Tr.bg ⟨?_,rfl⟩) (fun hc=>Tr.bg ⟨?_,rfl⟩))
    · unfold FU;rw[if_pos hc];rfl
    · unfold FU;rw[if_neg (by rw[hc];decide)];rfl
   refine aS (n:=n+3) Try.func82 rfl rfl rfl (Sx (n+3) k b full lo hi H (FU (fun j=>fM lo hi (b j)) k)) (aX _ (n+3) (ig (aR _) (fun x hy=>by rw[← Tr.ab hy];exact h94))) (af _ _) (ag _ _) ?_
   refine Tr.aY ⟨rfl,rfl⟩ (Tr.bg ⟨?_,rfl⟩)
   rw[Jf]
 · refine aF (t94 (n+2) k b full lo hi (fM lo hi) _ H (j:Int)) (yb _ (n+2) 0 (fun q=>D9 (hQ q))) (af _ _) (ag _ _) ?_
   show Tr.all _ (fun x=>if fM lo hi (b j)=true then _ else _)
   rw[dJ (by omega),mV]
   cases hp:fM lo hi (b j) with
   | true =>
     simp only[if_true]
     refine Tr.bj (fun hc=>?_) (fun hc=>?_)
     · repeat' first | (refine Tr.bj (fun hc=>?_) (fun hc=>?_)<;>(try simp (disch:=omega) only[nV,nW] at hc)<;>try omega) | (refine Tr.cu ?_ ?_;· (try simp (disch:=omega) only[nV,nW]);try omega) | (refine Tr.aY ?_ ?_;· first | exact trivial | rfl | exact ⟨rfl,rfl⟩ | exact ⟨rfl,rfl,rfl⟩ | (simp (disch:=omega) only[nV,nW];done) | ((try simp (disch:=omega) only[nV,nW]);omega)) | fail
       all_goals first
        | exact ⟨rfl,rfl⟩
        | (refine Tr.aY ⟨trivial,rfl⟩ ?_
           exact wF)
        | exact Tr.bg rfl
        | fail
     · simp (disch:=omega) only[nV,nW] at hc;omega
   | false =>
     simp only[Bool.false_eq_true,if_false]
     refine Tr.bj (fun hc=>?_) (fun hc=>?_)
     · repeat' first | (refine Tr.bj (fun hc=>?_) (fun hc=>?_)<;>(try simp (disch:=omega) only[nV,nW] at hc)<;>try omega) | (refine Tr.cu ?_ ?_;· (try simp (disch:=omega) only[nV,nW]);try omega) | (refine Tr.aY ?_ ?_;· first | exact trivial | rfl | exact ⟨rfl,rfl⟩ | exact ⟨rfl,rfl,rfl⟩ | (simp (disch:=omega) only[nV,nW];done) | ((try simp (disch:=omega) only[nV,nW]);omega)) | fail
       all_goals first
        | exact ⟨rfl,rfl⟩
        | (refine Tr.aY ⟨trivial,rfl⟩ ?_
           exact wF)
        | exact Tr.bg ⟨rfl,rfl⟩
        | fail
     · simp (disch:=omega) only[nV,nW] at hc;omega
 · obtain ⟨x,h1,rfl⟩:=aF (Q:=fun x=>x=(.exit 0,CV k b full (Int.ofNat k)++[(9,.bool false)],aD::aD::tD lo hi::H)) (t94 (n+2) k b full lo hi (fM lo hi) _ H (Int.ofNat k)) (yb _ (n+2) 0 (fun q=>D9 (hQ q))) (af _ _) (ag _ _) (by
    refine Tr.bj (fun hc=>?_) (fun hc=>Tr.bg rfl)
    simp (disch:=omega) only[nV,nW] at hc;omega)
   exact h1
theorem PT (hk:k≤1000):cd (n+5) (.fn 56) [.int .i64 lo,.int .i64 hi,b7 k b full] H=some (.bool (!fA (fun j=>fM lo hi (b j)) k),H):=by
 have h:=P0 n k b full lo hi H hk
 refine aS (n:=n+4) Try.func56 rfl rfl rfl (Sl (n+4) k b full lo hi H (fA (fun j=>fM lo hi (b j)) k)) (aX _ (n+4) (ig (aR _) (fun x hy=>by rw[← Tr.ab hy];exact h))) (af _ _) (ag _ _) ?_
 rw[gU]
 exact wF
end
end Go.Eng
end
section
namespace Go.Eng
def cn (p:Nat→Bool):Nat→Nat
 | 0=>0
 | j+1=>cn p j+(p j).toNat
theorem oh (p:Nat→Bool):∀ n,cn p n≤n
 | 0=>Nat.le_refl _
 | n+1=>by
   have:=oh p n
   have:(p n).toNat≤1:=Bool.toNat_le _
   show cn p n+_≤_
   omega
theorem eB {p q:Nat→Bool}:∀ {n:Nat},(∀ j,j<n→p j=q j)→cn p n=cn q n
 | 0,_=>rfl
 | n+1,h=>by
   show cn p n+_=cn q n+_
   rw[eB (fun j hj=>h j (by omega)),h n (by omega)]
theorem ie {p q:Nat→Bool} {i:Nat} (h1:p i=false) (h2:q i=true):∀ {n:Nat},(∀ j,j<n→j≠i→q j=p j)→i<n→cn q n=cn p n+1
 | 0,_,hi=>by omega
 | n + 1,h,hi=>by
   show cn q n+_=cn p n+_+1
   by_cases e:i=n
   · subst e
     rw[h1,h2,eB (p:=q) (q:=p) (fun j hj=>h j (by omega) (by omega))]
     rfl
   · rw[ie h1 h2 (fun j hj hne=>h j (by omega) hne) (by omega),h n (by omega) (fun x=>e x.symm)]
     omega
theorem pC {p:Nat→Bool}:∀ {n:Nat},0<cn p n→∃ j,j<n∧p j=true
 | 0,h=>by simp[cn] at h
 | n + 1,h=>by
   have h:0<cn p n+(p n).toNat:=h
   cases e:p n with
   | true=>exact ⟨n,by omega,e⟩
   | false =>
     rw[e] at h
     obtain ⟨j,hj,e⟩:=pC (n:=n) (by simpa using h)
     exact ⟨j,by omega,e⟩
theorem kC {p:Nat→Bool} {n:Nat} (h:cn p n=0):∀ j,j<n→p j=false:=fun j hj=>by
 induction n with
 | zero=>omega
 | succ n ih =>
   have h:cn p n+(p n).toNat=0:=h
   by_cases e:j=n
   · subst e
     cases e:p j with
     | false=>rfl
     | true=>rw[e] at h;simp at h
   · exact ih (by omega) (by omega)
theorem oi {p:Nat→Bool} {n:Nat} (h:∀ j,j<n→p j=false):cn p n=0:=by
 induction n with
 | zero=>rfl
 | succ n ih =>
   show cn p n+_=0
   rw[ih (fun j hj=>h j (by omega)),h n (by omega)];rfl
theorem Gb {p:Nat→Bool} {n:Nat} (h:cn p n=n):∀ j,j<n→p j=true:=fun j hj=>by
 induction n with
 | zero=>omega
 | succ n ih =>
   have h:cn p n+(p n).toNat=n+1:=h
   have h2:=oh p n
   have h3:(p n).toNat≤1:=Bool.toNat_le _
   by_cases e:j=n
   · subst e
     cases e:p j with
     | true=>rfl
     | false=>rw[e] at h;simp at h;omega
   · exact ih (by omega) (by omega)
theorem Gc {p:Nat→Bool} {n:Nat} (h:cn p n<n):∃ j,j<n∧p j=false:=by
 apply Classical.byContradiction
 intro hc
 have:∀ j,j<n→p j=true:=fun j hj=>by
  cases e:p j with
  | true=>rfl
  | false=>exact absurd ⟨j,hj,e⟩ hc
 have e:∀ m,m≤n→cn p m=m:=by
  intro m
  induction m with
  | zero=>intro _;rfl
  | succ m ih =>
    intro hm
    show cn p m+_=_
    rw[ih (by omega),this m (by omega)];rfl
 have:=e n (Nat.le_refl _)
 omega
def bF (t:Nat→Int):Nat→Int→Int
 | 0,x=>x
 | m+1,x=>if 0≤bF t m x then t (bF t m x).toNat else bF t m x
theorem Ht {t:Nat→Int} (m:Nat) (x:Int) (h:0≤x):bF t (m+1) x=bF t m (t x.toNat):=by
 induction m with
 | zero=>show (if 0≤x then _ else _)=_;rw[if_pos h];rfl
 | succ m ih =>
   show (if 0≤bF t (m+1) x then t (bF t (m+1) x).toNat else bF t (m+1) x)=_
   rw[ih];rfl
structure qW (l:Nat) (t:Nat→Int) (f:Nat→Int) (a:Nat) (tk:Nat→Bool) (tm:Nat→Nat):Prop where
 cnt:cn tk l=a
 on:∀ i,i<l→tk i=true→f i=-1∧tm i<a
 off:∀ i,i<l→tk i=false→f i=(cn (fun j=>!tk j && decide (t j=(i:Int))) l:Nat)
 pre:∀ i j,i<l→j<l→tk i=true→t j=(i:Int)→tk j=true∧tm j<tm i
theorem JB {l:Nat} {t f:Nat→Int} (h:∀ i,i<l→f i=(cn (fun j=>decide (t j=(i:Int))) l:Nat)):qW l t f 0 (fun _=>false) (fun _=>0) where
 cnt:=oi (fun _ _=>rfl)
 on:=fun i hi h=>by cases h
 off:=fun i hi _=>by rw[h i hi];rfl
 pre:=fun i j _ _ h=>by cases h
def uI (f:Nat→Int) (i:Nat) (x:Int):Nat→Int:=fun j=>if j=i then x else f j
def zO (t f:Nat→Int) (i:Nat):Nat→Int:=if 0≤t i then uI (uI f i (-1)) (t i).toNat (uI f i (-1) (t i).toNat-1) else uI f i (-1)
theorem qW.zero {l:Nat} {t f:Nat→Int} {a:Nat} {tk:Nat→Bool} {tm:Nat→Nat} (h:qW l t f a tk tm) {i:Nat} (hi:i<l) (hf:f i=0):tk i=false∧∀ j,j<l→t j=(i:Int)→tk j=true:=by
 have h1:tk i=false:=by
  cases e:tk i with
  | false=>rfl
  | true=>have:=(h.on i hi e).1;omega
 refine ⟨h1,fun j hj e=>?_⟩
 have h2:=h.off i hi h1
 rw[hf] at h2
 have:=kC (p:=fun j=>!tk j && decide (t j=(i:Int))) (n:=l) (by omega) j hj
 simp only[e,decide_true,Bool.and_true,Bool.not_eq_false'] at this
 exact this
theorem qW.take {l:Nat} {t f:Nat→Int} {a:Nat} {tk:Nat→Bool} {tm:Nat→Nat} (h:qW l t f a tk tm) {i:Nat} (hi:i<l) (hf:f i=0) :
 qW l t (zO t f i) (a+1) (fun j=>if j=i then true else tk j) (fun j=>if j=i then a else tm j)∧zO t f i i=-1∧∀ x,x<l→f x=-1→zO t f i x=-1:=by
 obtain ⟨h1,h2⟩:=h.zero hi hf
 have hti:∀ x:Nat,x<l→t i=(x:Int)→tk x=false∧x≠i:=fun x hx e=>by
  have hne:x≠i:=fun c=>by
   subst c
   have:=h2 x hx e
   rw[h1] at this;cases this
  refine ⟨?_,hne⟩
  cases c:tk x with
  | false=>rfl
  | true =>
    have:=(h.pre x i hx hi c e).1
    rw[h1] at this;cases this
 have at_i:zO t f i i=-1:=by
  unfold zO
  by_cases c:0≤t i
  · rw[if_pos c]
    have hne:i≠(t i).toNat:=fun e=>by
     have:t i=(i:Int):=by omega
     exact (hti i hi this).2 rfl
    show (if i=(t i).toNat then _ else (if i=i then _ else _))=_
    rw[if_neg hne,if_pos rfl]
  · rw[if_neg c];show (if i=i then _ else _)=_;rw[if_pos rfl]
 have at_x:∀ x,x≠i→zO t f i x=if t i=(x:Int) then f x-1 else f x:=fun x hx=>by
  unfold zO
  by_cases c:0≤t i
  · rw[if_pos c]
    show (if x=(t i).toNat then (if (t i).toNat=i then _ else f (t i).toNat)-1 else (if x=i then _ else f x))=_
    by_cases e:x=(t i).toNat
    · rw[if_pos e,← e,if_neg hx,if_pos (by omega)]
    · rw[if_neg e,if_neg hx,if_neg (by omega)]
  · rw[if_neg c,if_neg (by omega)]
    show (if x=i then _ else f x)=_
    rw[if_neg hx]
 refine ⟨⟨?_,?_,?_,?_⟩,at_i,fun x hx e=>?_⟩
 rotate_left 4
 · have hne:x≠i:=fun c=>by subst c;omega
   rw[at_x x hne]
   by_cases c:t i=(x:Int)
   · have:=h.off x hx (hti x hx c).1
     omega
   · rw[if_neg c];exact e
 · rw[ie (p:=tk) (i:=i) h1 (by simp) (fun j _ hj=>by simp[hj]) hi,h.cnt]
 · intro x hx e
   by_cases c:x=i
   · subst c;exact ⟨at_i,by simp⟩
   · simp only[c,if_false] at e ⊢
     obtain ⟨g1,g2⟩:=h.on x hx e
     rw[at_x x c,if_neg (fun e2=>by have:=(hti x hx e2).1;rw[e] at this;cases this)]
     exact ⟨g1,by omega⟩
 · intro x hx e
   by_cases c:x=i
   · subst c;simp at e
   · simp only[c,if_false] at e
     rw[at_x x c,h.off x hx e]
     by_cases e2:t i=(x:Int)
     · rw[if_pos e2]
       have:=ie (p:=fun j=>!(if j=i then true else tk j) && decide (t j=(x:Int))) (q:=fun j=>!tk j && decide (t j=(x:Int))) (i:=i) (n:=l) (by simp) (by simp[h1,e2]) (fun j _ hj=>by simp[hj]) hi
       rw[this];omega
     · rw[if_neg e2]
       congr 1
       refine eB (fun j hj=>?_)
       by_cases c2:j=i
       · subst c2;simp[e2]
       · simp[c2]
 · intro x j hx hj e ej
   by_cases c:x=i
   · subst c
     have:=h2 j hj ej
     have hne:j≠x:=fun c2=>by subst c2;rw[h1] at this;cases this
     simp only[hne,if_false,if_true,this,true_and]
     exact (h.on j hj this).2
   · simp only[c,if_false] at e
     obtain ⟨g1,g2⟩:=h.pre x j hx hj e ej
     have hne:j≠i:=fun c2=>by subst c2;rw[h1] at g1;cases g1
     simp only[hne,c,if_false]
     exact ⟨g1,g2⟩
theorem qW.le {l:Nat} {t f:Nat→Int} {a:Nat} {tk:Nat→Bool} {tm:Nat→Nat} (h:qW l t f a tk tm):a≤l:=by
 rw[← h.cnt];exact oh _ _
def iw (l:Nat) (t:Nat→Int):Bool:=fA (fun i=>decide (0≤bF t l (i:Int))) l
theorem Fg {l:Nat} {t f:Nat→Int} {tk:Nat→Bool} {tm:Nat→Nat} (h:qW l t f l tk tm) (ht:∀ j,j<l→t j<l):iw l t=false:=by
 have all:=Gb h.cnt
 refine nu (fun i hi=>?_)
 have key:∀ m,0≤bF t m (i:Int)→(bF t m (i:Int)).toNat<l∧m≤tm (bF t m (i:Int)).toNat:=by
  intro m
  induction m with
  | zero=>intro _;exact ⟨by show ((i:Int)).toNat<l;omega,Nat.zero_le _⟩
  | succ m ih =>
    intro hp
    have e:bF t (m+1) (i:Int)=if 0≤bF t m (i:Int) then t (bF t m (i:Int)).toNat else bF t m (i:Int):=rfl
    by_cases c:0≤bF t m (i:Int)
    · rw[if_pos c] at e
      obtain ⟨g1,g2⟩:=ih c
      rw[e] at hp ⊢
      have g3:=ht _ g1
      obtain ⟨_,g4⟩:=h.pre (t (bF t m (i:Int)).toNat).toNat _ (by omega) g1 (all _ (by omega)) (by omega)
      exact ⟨by omega,by omega⟩
    · rw[if_neg c] at e;rw[e] at hp;exact absurd hp c
 refine decide_eq_false (fun hc=>?_)
 obtain ⟨g1,g2⟩:=key l hc
 have:=(h.on _ g1 (all _ g1)).2
 omega
theorem Df {l:Nat} {t f:Nat→Int} {a:Nat} {tk:Nat→Bool} {tm:Nat→Nat} (h:qW l t f a tk tm) (ha:a<l) (hf:∀ i,i<l→f i≠0):iw l t=true:=by
 obtain ⟨i0,hi0,e0⟩:=Gc (p:=tk) (n:=l) (by rw[h.cnt];exact ha)
 have key:∀ m,∃ x,x<l∧tk x=false∧0≤bF t m (x:Int):=by
  intro m
  induction m with
  | zero=>exact ⟨i0,hi0,e0,by show (0:Int)≤(i0:Int);omega⟩
  | succ m ih =>
    obtain ⟨x,hx,e,hs⟩:=ih
    have h1:=h.off x hx e
    have h2:=hf x hx
    obtain ⟨j,hj,e2⟩:=pC (p:=fun j=>!tk j && decide (t j=(x:Int))) (n:=l) (by omega)
    simp only[Bool.and_eq_true,Bool.not_eq_true',decide_eq_true_eq] at e2
    refine ⟨j,hj,e2.1,?_⟩
    rw[Ht m _ (by omega),Int.toNat_natCast,e2.2]
    exact hs
 obtain ⟨x,hx,_,hs⟩:=key l
 exact (gQ _ _).2 ⟨x,hx,decide_eq_true hs⟩
end Go.Eng
end
section
namespace Go.Eng
open Go.Proofs
noncomputable def xR (l:Nat) (t:Nat→Int) (j:Int):ar:=[(3,.ptr 0 1 0 0),(14,b7 l t false),(15,.int .i64 (Int.ofNat l)),(16,.int .i64 j)]
noncomputable def wi (l:Nat) (t:Nat→Int) (k:Nat) (d g:Nat→Int):aU:=⟨false,[(0,.row (.G [b7 l t false,b7 k d false])),(0,.row (.M [.one (b7 l t false),.one (b7 k d false),.arr .i64 g 30]))]⟩
noncomputable def dC (s:Nat) (l:Nat) (t:Nat→Int) (k:Nat) (d g:Nat→Int):AV:=.ptrT (some s) (.M [.one (b7 l t false),.one (b7 k d false),.arr .i64 g 30]) 0
theorem t57 (n l k:Nat) (t d g:Nat→Int) (H:aa) (j:Int):aG (bx n 57 34) (il aK n 0) aO aP (part Try.f57 [1,1,1,0,1,0,0]) (hints (xR l t j)) (wi l t k d g::H) =
 (fun (Z0:aU)=>((fun (Z1:aE)=>Tr.ite (cq j (Int.ofNat l)) (Tr.req (dv j l) (Tr.req (c9 (ay 0 j 1) l) (Tr.ite (lH (Int.ofNat 0) (t (ay 0 j 1))) (Tr.req (dv (t (ay 0 j 1)) 30) (Tr.req (bM 0 0) (Tr.req (iB (ay 2 (t (ay 0 j 1)) 1) 1 2 30) (Tr.req (dv (t (ay 0 j 1)) 30) (Tr.req (bM 0 0) (Tr.req (iB (ay 2 (t (ay 0 j 1)) 1) 1 2 30) (Tr.req (cM (bY 0 0) (bY 0 1)) (Tr.ok (Ex.normal,Z1,{ lock:=false,bs:=[(0,ai.row (Row.G [AV.slcT none (Row.M [ah.arr .i64 t l]) 1 l false,AV.slcT none (Row.M [ah.arr .i64 d k]) 1 k false])),(0,ai.row (Row.M [ah.one (AV.slcT none (Row.M [ah.arr .i64 t l]) 1 l false),ah.one (AV.slcT none (Row.M [ah.arr .i64 d k]) 1 k false),ah.arr .i64 (gm g (th (ay 2 (t (ay 0 j 1)) 1) 2) (br .i64 (g (th (ay 2 (t (ay 0 j 1)) 1) 2)) (Int.ofNat 1))) 30]))] } :: H))))))))) (Tr.ok (Ex.normal,Z1,Z0::H))))) (Tr.ok (Ex.exit 0,[(3,AV.ptr 0 1 0 0,none),(14,AV.slcT none (Row.M [ah.arr .i64 t l]) 1 l false,none),(15,AV.int .i64 (Int.ofNat l),none),(16,AV.int .i64 j,none),(17,AV.bool false,some 1)],Z0::H))) [(3,AV.ptr 0 1 0 0,none),(14,AV.slcT none (Row.M [ah.arr .i64 t l]) 1 l false,none),(15,AV.int .i64 (Int.ofNat l),none),(16,AV.int .i64 (br .i64 j (Int.ofNat 1)),none)])) { lock:=false,bs:=[(0,ai.row (Row.G [AV.slcT none (Row.M [ah.arr .i64 t l]) 1 l false,AV.slcT none (Row.M [ah.arr .i64 d k]) 1 k false])),(0,ai.row (Row.M [ah.one (AV.slcT none (Row.M [ah.arr .i64 t l]) 1 l false),ah.one (AV.slcT none (Row.M [ah.arr .i64 d k]) 1 k false),ah.arr .i64 g 30]))] }:=by kernel_rfl
theorem Sm (n l k:Nat) (t d g:Nat→Int) (H:aa):bn Try.prog (cd n) 100000 57 Try.f57 (KtL.kt 57) (il aK n 0) (cX aO 0 (xR l t 0) (wi l t k d (fun _=>Int.ofNat 0)::H) (.ok (.normal,hints (xR l t (Int.ofNat l)++[(17,.bool false)]),wi l t k d g::H))) aP [(dx l t k d,none)] H =
 (fun (Z0:aU)=>((fun (Z1:ar)=>Tr.req (c9 0 30) (Tr.req (bM 0 0) (Tr.reqP (Z1=Z1∧Z0::H=Z0::H) (Tr.ok ((AV.ptrT (some 0) (Row.M [ah.one (AV.slcT none (Row.M [ah.arr .i64 t l]) 1 l false),ah.one (AV.slcT none (Row.M [ah.arr .i64 d k]) 1 k false),ah.arr .i64 g 30]) 0,none),H))))) [(3,AV.ptr 0 1 0 0),(14,AV.slcT none (Row.M [ah.arr .i64 t l]) 1 l false),(15,AV.int .i64 (Int.ofNat l)),(16,AV.int .i64 (Int.ofNat 0))])) { lock:=false,bs:=[(0,ai.row (Row.G [AV.slcT none (Row.M [ah.arr .i64 t l]) 1 l false,AV.slcT none (Row.M [ah.arr .i64 d k]) 1 k false])),(0,ai.row (Row.M [ah.one (AV.slcT none (Row.M [ah.arr .i64 t l]) 1 l false),ah.one (AV.slcT none (Row.M [ah.arr .i64 d k]) 1 k false),ah.arr .i64 (fun x=>Int.ofNat 0) 30]))] }:=by kernel_rfl
theorem PA:∀ b,(0,b) ∈ aN (bO Try.f57)→b=.loop (part Try.f57 [1,1,1,0,1,0,0]):=gq (by kernel_rfl)
noncomputable def c7 (t:Nat→Int):Nat→Nat→Int
 | 0=>fun _=>0
 | j+1=>if 0≤t j then gm (c7 t j) (t j).toNat (c7 t j (t j).toNat+1) else c7 t j
theorem BA (t:Nat→Int):∀ (j:Nat) (i:Nat),c7 t j i=(cn (fun x=>decide (t x=(i:Int))) j:Nat)
 | 0,i=>rfl
 | j + 1,i=>by
   have ih:=BA t j i
   show (if 0≤t j then gm (c7 t j) (t j).toNat (c7 t j (t j).toNat+1) else c7 t j) i=((cn (fun x=>decide (t x=(i:Int))) j+(decide (t j=(i:Int))).toNat:Nat):Int)
   by_cases c:0≤t j
   · rw[if_pos c,mR]
     show (if i=(t j).toNat then _ else _)=_
     by_cases e:i=(t j).toNat
     · rw[if_pos e,← e,ih,decide_eq_true (show t j=(i:Int) by omega)]
       simp
     · rw[if_neg e,ih,decide_eq_false (show ¬ t j=(i:Int) by omega)]
       simp
   · rw[if_neg c,ih,decide_eq_false (show ¬ t j=(i:Int) by omega)]
     simp
section
variable (n l k:Nat) (t d:Nat→Int) (H:aa)
theorem RK (hl:l≤30) (ht:∀ j,j<l→t j<l):exec (bx n 57 34) (.block 0 (.loop (part Try.f57 [1,1,1,0,1,0,0]))) (xR l t 0) (wi l t k d (fun _=>Int.ofNat 0)::H)=some (.normal,xR l t (Int.ofNat l)++[(17,.bool false)],wi l t k d (c7 t l)::H):=by
 refine jG 0 (fun j=>xR l t (j:Int)) (fun j=>wi l t k d (c7 t j)::H) l (xR l t (Int.ofNat l)++[(17,.bool false)],wi l t k d (c7 t l)::H) (by omega) (fun j hj=>?_) ?_
 · have htj:=ht j hj
   have hld:c7 t (j+1)=if 0≤t j then gm (c7 t j) (t j).toNat (c7 t j (t j).toNat+1) else c7 t j:=rfl
   refine aF (t57 n l k t d (c7 t j) H (j:Int)) (aw n) (af _ _) (ag _ _) ?_
   rw[dJ (by omega),mV]
   show Tr.all _ (fun x=>_∧tidy _ _ _=(_,wi l t k d (c7 t (j+1))::H))
   rw[hld]
   by_cases c:0≤t j
   · have hg:=BA t j (t j).toNat
     have hb:=oh (fun x=>decide (t x=(((t j).toNat:Nat):Int))) j
     have es:th (ay 2 (t j) 1) 2=(t j).toNat:=by rw[kO,lg];omega
     have ea:br .i64 (c7 t j (t j).toNat) (Int.ofNat 1)=c7 t j (t j).toNat+1:=by
      rw[show Int.ofNat 1=1 from rfl];exact Cs (by omega) (by omega)
     rw[if_pos c,es,ea]
     generalize gm (c7 t j) (t j).toNat (c7 t j (t j).toNat+1)=T
     generalize t j=q at *
     exact wF
   · rw[if_neg c]
     generalize t j=q at *
     exact wF
 · obtain ⟨x,h1,rfl⟩:=aF (Q:=fun x=>x=(.exit 0,xR l t (Int.ofNat l)++[(17,.bool false)],wi l t k d (c7 t l)::H)) (t57 n l k t d (c7 t l) H (Int.ofNat l)) (aw n) (af _ _) (ag _ _) (by
    refine Tr.bj (fun hc=>?_) (fun hc=>Tr.bg rfl)
    simp (disch:=omega) only[nV,nW] at hc;omega)
   exact h1
theorem Pm (hl:l≤30) (ht:∀ j,j<l→t j<l):cd (n+1) (.fn 57) [dx l t k d] H=some (dC 0 l t k d (c7 t l),H):=by
 have hx:=RK n l k t d H hl ht
 refine aS (n:=n) Try.func57 rfl rfl rfl (Sm n l k t d (c7 t l) H) (aw _) (aW (af _ _) PA (fun x hy=>bU hy hx)) (ag _ _) ?_
 generalize c7 t l=g at *
 exact wF
end
end Go.Eng
end
