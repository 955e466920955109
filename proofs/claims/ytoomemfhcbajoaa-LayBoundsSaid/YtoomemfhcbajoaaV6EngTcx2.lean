/- The engine as a tree: slices, numbers, operations. -/
import Derived.Test.YtoomemfhcbajoaaV6EngTb
set_option linter.unusedVariables false
set_option linter.unusedSimpArgs false
section
namespace Go.Eng
noncomputable section

theorem Tr.aS {α:Type} {c:Bool} {t:Tr α} {x:α} (h:(cond c t .bad).run=some x):c=true∧t.run=some x:=by
 cases c with
 | true=>exact ⟨rfl,h⟩
 | false=>exact (Tr.ae h).elim
def KE (op:BinOp) (k:IntKind) (x y:Int):Tr AV :=
 match op with
 | .add=>.ok (.int k (bA k x y))
 | .sub=>.ok (.int k (br k x y))
 | .mul=>.ok (.int k (D8 k x y))
 | .quo=>.req (aP (b7 y 0)) (.ok (.int k (La k x y)))
 | .rem=>.req (aP (b7 y 0)) (.ok (.int k (fU k x y)))
 | .and=>.ok (.int k (Ka k x y))
 | .or=>.ok (.int k (Qq k x y))
 | .xor=>.ok (.int k (LC k x y))
 | .andNot=>.ok (.int k (OC k x y))
 | .eql=>.ok (.bool (b7 x y))
 | .neq=>.ok (.bool (aP (b7 x y)))
 | .lss=>.ok (.bool (bK x y))
 | .leq=>.ok (.bool (lV x y))
 | .gtr=>.ok (.bool (bK y x))
 | .geq=>.ok (.bool (lV y x))
 | _=>.bad
theorem HZ {op:BinOp} {k:IntKind} {x y:Int} {v:AV} (h:(KE op k x y).run=some v):iH op k x y=some v:=by
 unfold KE at h
 unfold iH
 cases op<;>dsimp only at h ⊢<;>try exact (Tr.ae h).elim
 case quo =>
  obtain ⟨hc,h⟩:=Tr.aR h
  rw[ie,iG] at hc
  have:¬ y=0:=by simpa using hc
  rw[if_neg this,← Tr.ab h,IE]
 case rem =>
  obtain ⟨hc,h⟩:=Tr.aR h
  rw[ie,iG] at hc
  have:¬ y=0:=by simpa using hc
  rw[if_neg this,← Tr.ab h,xN]
 all_goals
  have h:=Tr.ab h
  subst h
  first
   | rfl
   | (simp only[gt_iff_lt,ge_iff_le,jB,nh,pC,wK,Bx,yd,AR,iG,ie,cY,mC,bne];done)
   | (simp only[jB,nh,pC,wK,Bx,yd,AR,iG,ie,cY,mC];done)
   | (simp only[jB,nh,pC,wK,Bx,yd,AR,iG,ie,cY,mC];rfl)
def iU:List Int→List Int→Bool
 | [],[]=>true
 | [x],[y]=>b7 x y
 | x::x'::a,y::y'::b=>j6 (b7 x y) (iU (x'::a) (y'::b))
 | _,_=>false
theorem ti:∀ (l m:List Int),iU l m=fx l m
 | [],[]=>rfl
 | [],_::_=>by simp[iU,fx]
 | _::_,[]=>by simp[iU,fx]
 | [x],[y]=>by simp[iU,fx,iG]
 | [x],y::y'::b=>by simp[iU,fx]
 | x::x'::a,[y]=>by simp[iU,fx]
 | x::x'::a,y::y'::b=>by
   simp only[iU]
   rw[oF,iG,ti (x'::a) (y'::b)];rfl
def zb (r:Row):Option (IntKind×(Nat→Int)) :=
 match r with
 | .I k l=>some (k,ay l)
 | .M [.arr k z _]=>some (k,z)
 | _=>none
theorem tb (r:Row):zb r=r.ints:=by
 match r with
 | .I k l=>simp only[zb,Row.ints,iV]
 | .G l=>rfl
 | .F f n=>rfl
 | .M []=>rfl
 | .M [.arr k z n]=>rfl
 | .M (.one v::r)=>rfl
 | .M (.arr k z n::s::r)=>rfl
def LF (P:Program) (t:TypeId) (x y:AV):Tr Bool :=
 match x,y with
 | .bool a,.bool b=>match P.underlying t with
   | some .bool=>.ok (O3 a b)
   | _=>.bad
 | .nils,.slcT s r sz n f=>match P.underlying t with
   | some (.slice _)=>.req (cr 0 n) (.ok false)
   | _=>.bad
 | .slcT s r sz n f,.nils=>match P.underlying t with
   | some (.slice _)=>.req (cr 0 n) (.ok false)
   | _=>.bad
 | .agg (.I k a),.agg (.I k' b)=>cond (gQ k k') (match b8 P 20 t with
   | some n=>match fB P t with
     | some true=>cond (Nat.beq n (iT a)) (cond (Nat.beq (iT a) (iT b)) (.ok (iU a b)) .bad) .bad
     | _=>.bad
   | none=>.bad) .bad
 | .agg (.M l),.agg s=>eqMT P t (.M l) s
 | .agg (.I k a),.agg (.M l)=>eqMT P t (.I k a) (.M l)
 | x,y=>wh (AN P t x y)
where
 eqMT (P:Program) (t:TypeId) (r s:Row):Tr Bool :=
  match zb r,zb s with
  | some (k,z),some (k',z')=>cond (gQ k k') (match b8 P 20 t with
    | some n=>match fB P t with
      | some true=>cond (Nat.beq n (iM r)) (cond (Nat.beq (iM r) (iM s)) (.ok (nM z z' (iM r))) .bad) .bad
      | _=>.bad
    | none=>.bad) .bad
  | _,_=>.bad
theorem Cb {P:Program} {t:TypeId} {r s:Row} {b:Bool} (h:(LF.eqMT P t r s).run=some b):LD P t r s=some b:=by
 unfold LF.eqMT at h
 rw[tb,tb] at h
 unfold LD
 split at h
 · rename_i k z k' z' h1 h2
   rw[h1,h2]
   obtain ⟨hk,h⟩:=Tr.aS h
   rw[eZ,decide_eq_true_eq] at hk
   split at h
   · rename_i n hn
     split at h
     · rename_i ha
       obtain ⟨e1,h⟩:=Tr.aS h
       obtain ⟨e2,h⟩:=Tr.aS h
       rw[fH] at e1 e2 h
       rw[fH] at e2
       have e1:n=r.len:=by simpa using e1
       have e2:r.len=s.len:=by simpa using e2
       dsimp only
       rw[if_pos ⟨hk,by rw[hn,e1],ha,e2⟩,← Tr.ab h,vq]
     · exact (Tr.ae h).elim
   · exact (Tr.ae h).elim
 · exact (Tr.ae h).elim
theorem FE {P:Program} {t:TypeId} {x y:AV} {b:Bool} (h:(LF P t x y).run=some b):AN P t x y=some b:=by
 unfold LF at h
 split at h
 · split at h
   · rename_i hu
     unfold AN
     dsimp only
     rw[hu,← Tr.ab h,Kq]
   · exact (Tr.ae h).elim
 · split at h
   · rename_i hu
     obtain ⟨hc,h⟩:=Tr.aR h
     rw[gG,decide_eq_true_eq] at hc
     unfold AN
     dsimp only
     rw[hu]
     dsimp only
     rw[if_pos hc,Tr.ab h]
   · exact (Tr.ae h).elim
 · split at h
   · rename_i hu
     obtain ⟨hc,h⟩:=Tr.aR h
     rw[gG,decide_eq_true_eq] at hc
     unfold AN
     dsimp only
     rw[hu]
     dsimp only
     rw[if_pos hc,Tr.ab h]
   · exact (Tr.ae h).elim
 · obtain ⟨hk,h⟩:=Tr.aS h
   rw[eZ,decide_eq_true_eq] at hk
   split at h
   · rename_i n hn
     split at h
     · rename_i ha
       obtain ⟨e1,h⟩:=Tr.aS h
       obtain ⟨e2,h⟩:=Tr.aS h
       rw[dp] at e1 e2
       rw[dp] at e2
       have e1:=Nat.eq_of_beq_eq_true e1
       have e2:=Nat.eq_of_beq_eq_true e2
       unfold AN
       dsimp only
       rw[if_pos ⟨hk,by rw[hn,e1],ha,e2⟩,← Tr.ab h,ti]
     · exact (Tr.ae h).elim
   · exact (Tr.ae h).elim
 · unfold AN;exact Cb h
 · unfold AN;exact Cb h
 · rw[cZ] at h;exact h
def Fa (P:Program) (op:BinOp) (t:TypeId) (x y:AV):Tr AV :=
 match x,y with
 | .int k a,.int k' b=>match op with
   | .shl=>.req (lV 0 b) (.ok (.int k (Ll k a b)))
   | .shr=>.req (lV 0 b) (.ok (.int k (Lm k a b)))
   | op=>cond (gQ k k') (KE op k a b) .bad
 | x,y=>match op with
   | .eql=>(LF P t x y).bind fun b=>.ok (.bool b)
   | .neq=>(LF P t x y).bind fun b=>.ok (.bool (aP b))
   | _=>.bad
theorem Hw {P:Program} {op:BinOp} {t:TypeId} {x y v:AV} (h:(Fa P op t x y).run=some v):j7 P op t x y=some v:=by
 unfold Fa at h
 split at h
 · rename_i k a k' b
   split at h
   · obtain ⟨hc,h⟩:=Tr.aR h
     rw[mC,decide_eq_true_eq] at hc
     unfold j7
     dsimp only
     rw[if_neg (by omega),← Tr.ab h,IT]
   · obtain ⟨hc,h⟩:=Tr.aR h
     rw[mC,decide_eq_true_eq] at hc
     unfold j7
     dsimp only
     rw[if_neg (by omega),← Tr.ab h,IV]
   · rename_i h1 h2
     obtain ⟨hk,h⟩:=Tr.aS h
     rw[eZ,decide_eq_true_eq] at hk
     have:j7 P op t (.int k a) (.int k' b)=if k=k' then iH op k a b else none:=by
      unfold j7
      cases op<;>first | rfl | exact (h1 rfl).elim | exact (h2 rfl).elim
     rw[this,if_pos hk]
     exact HZ h
 · rename_i hn
   split at h
   · obtain ⟨b,h1,h⟩:=Tr.bind_some h
     have h2:=FE h1
     have:j7 P .eql t x y=(AN P t x y).map .bool:=by
      unfold j7
      cases x<;>cases y<;>first | rfl | exact (hn _ _ _ _ rfl rfl).elim
     rw[this,h2,← Tr.ab h];rfl
   · obtain ⟨b,h1,h⟩:=Tr.bind_some h
     have h2:=FE h1
     have:j7 P .neq t x y=(AN P t x y).map fun b=>.bool (!b):=by
      unfold j7
      cases x<;>cases y<;>first | rfl | exact (hn _ _ _ _ rfl rfl).elim
     rw[this,h2,← Tr.ab h,ie];rfl
   · exact (Tr.ae h).elim
def Rs (op:UnOp) (x:AV):Tr AV :=
 match op,x with
 | .not,.bool b=>.ok (.bool (aP b))
 | .neg,.int k n=>.ok (.int k (KX k n))
 | _,_=>.bad
theorem Ly {op:UnOp} {x v:AV} (h:(Rs op x).run=some v):Oh op x=some v:=by
 unfold Rs at h
 split at h
 · rw[← Tr.ab h,ie];rfl
 · rw[← Tr.ab h,Ir];rfl
 · exact (Tr.ae h).elim
def pB (mx:Bool) (k:IntKind) (x:Int):List AV→Tr AV
 | []=>.ok (.int k x)
 | v::r=>match v with
   | .int k' y=>cond (gQ k k') (pB mx k (cond mx (D6 x y) (jV x y)) r) .bad
   | _=>.bad
theorem og {mx:Bool} {k:IntKind}:∀ (l:List AV) (x:Int) (v:AV),(pB mx k x l).run=some v→fa mx k x l=some v
 | [],x,v,h=>by rw[← Tr.ab h];rfl
 | u :: r,x,v,h=>by
   simp only[pB] at h
   split at h
   · rename_i k' y
     obtain ⟨hk,h⟩:=Tr.aS h
     rw[eZ,decide_eq_true_eq] at hk
     simp only[fa]
     rw[if_pos hk,← og r _ v h,CJ,CK]
     cases mx<;>rfl
   · exact (Tr.ae h).elim

def jr (a sz:Nat):Nat :=
 match sz with
 | 1=>a
 | s=>Il a s
theorem cC (a sz:Nat):jr a sz=a*sz:=by
 unfold jr
 split
 · rw[Nat.mul_one]
 · rw[CN]
abbrev Rv:=Option Nat×Nat×Option Nat
def mV (lo hi mx:Option AV) (len:Nat):Tr Rv :=
 match mx with
 | none=>(match hi with
    | none=>.ok len
    | some (.int _ i)=>.req (mb i len) (.ok (dr i))
    | some _=>.bad:Tr Nat).bind fun h=>(match lo with
    | none=>.ok (none,h,none)
    | some (.int _ i)=>.req (mb i h) (.ok (some (dr i),h,none))
    | some _=>.bad)
 | some (.int _ m)=>.req (mb m len) (match hi with
    | some (.int _ i)=>.req (mb i (dr m)) (match lo with
      | none=>.ok (none,dr i,some (dr m))
      | some (.int _ j)=>.req (mb j (dr i)) (.ok (some (dr j),dr i,some (dr m)))
      | some _=>.bad)
    | _=>.bad)
 | some _=>.bad
def CB (l:Option Nat):Nat :=
 match l with
 | none=>0
 | some l=>l
theorem iq {i:Int} {k:IntKind} {d top:Nat} (h:mb i top=true):bound (some (.int k i)) d top=some (dr i):=by
 rw[B6,decide_eq_true_eq] at h
 simp only[bound]
 rw[if_pos h,lP]
theorem kS {lo hi mx:Option AV} {len:Nat} {b:Rv} (h:(mV lo hi mx len).run=some b):eK lo hi mx len=some (CB b.1,b.2.1,b.2.2):=by
 unfold mV at h
 unfold eK
 split at h
 · obtain ⟨h',h1,h⟩:=Tr.bind_some h
   have e1:bound hi len len=some h':=by
    split at h1
    · rw[← Tr.ab h1];rfl
    · obtain ⟨hc,h1⟩:=Tr.aR h1
      rw[iq hc,Tr.ab h1]
    · exact (Tr.ae h1).elim
   dsimp only
   rw[e1]
   dsimp only
   split at h
   · rw[← Tr.ab h];rfl
   · obtain ⟨hc,h⟩:=Tr.aR h
     rw[iq hc,← Tr.ab h];rfl
   · exact (Tr.ae h).elim
 · rename_i k m
   obtain ⟨hm,h⟩:=Tr.aR h
   dsimp only
   rw[iq hm]
   dsimp only
   split at h
   · rename_i k' i
     obtain ⟨hi,h⟩:=Tr.aR h
     simp only[Option.isSome_some,if_true]
     rw[iq hi]
     dsimp only
     split at h
     · rw[← Tr.ab h];rfl
     · obtain ⟨hc,h⟩:=Tr.aR h
       rw[iq hc,← Tr.ab h];rfl
     · exact (Tr.ae h).elim
   · exact (Tr.ae h).elim
 · exact (Tr.ae h).elim
def x8 (a:Nat) (l:Option Nat):Nat :=
 match l with
 | none=>a
 | some l=>ur a l
theorem ni (a:Nat) (l:Option Nat):x8 a l=a-CB l:=by
 cases l with
 | none=>rfl
 | some l=>exact lK a l
def EK (off:Nat) (l:Option Nat) (sz:Nat):Nat :=
 match l with
 | none=>off
 | some l=>bO off (jr l sz)
theorem BU (off:Nat) (l:Option Nat) (sz:Nat):EK off l sz=off+CB l*sz:=by
 cases l with
 | none=>simp[EK,CB]
 | some l=>simp only[EK,CB,bH,cC]
def C7 (r:Row) (l:Option Nat) (sz n:Nat):Tr Row :=
 match r with
 | .M [.arr k z N]=>.req (gM (bO (jr (CB l) sz) n) N) (.ok (.M [.arr k (match l with | none=>z | some l=>dD z (jr l sz)) n]))
 | .F f N=>.req (gM (bO (jr (CB l) sz) n) N) (.ok (.F (match l with | none=>f | some l=>fun j=>f (bO (jr l sz) j)) n))
 | _=>.bad
theorem Av {r q:Row} {l:Option Nat} {sz n:Nat} (h:(C7 r l sz n).run=some q):CB l*sz+n≤r.len∧r.sub (CB l*sz) n=q:=by
 unfold C7 at h
 split at h
 · rename_i k z N
   obtain ⟨hc,h⟩:=Tr.aR h
   rw[lr,decide_eq_true_eq,bH,cC] at hc
   refine ⟨by simp only[Row.len,az,aQ];omega,?_⟩
   rw[← Tr.ab h]
   cases l with
   | none=>simp only[Row.sub,CB,Nat.zero_mul,Nat.zero_add]
   | some l=>simp only[Row.sub,CB,mQ,cC]
 · rename_i f N
   obtain ⟨hc,h⟩:=Tr.aR h
   rw[lr,decide_eq_true_eq,bH,cC] at hc
   refine ⟨by simp only[Row.len];omega,?_⟩
   rw[← Tr.ab h]
   cases l with
   | none=>simp only[Row.sub,CB,Nat.zero_mul,Nat.zero_add]
   | some l=>simp only[Row.sub,CB,bH,cC]
 · exact (Tr.ae h).elim
def Pc (o:Option AV):Bool :=
 match o with
 | none=>true
 | some _=>false
def FP (mm:Option Nat) (full hiN:Bool) (h len:Nat):Bool :=
 match mm with
 | none=>cond hiN full (j6 full (b9 h len))
 | some m=>b9 h m
def BH (P:Program) (t:TypeId) (x:AV) (lo hi mx:Option AV):Tr AV :=
 match P.underlying t with
 | some (.slice e)=>match bk P e with
   | some z=>match x with
     | .slc d j v off sz len cap=>cond (Nat.beq z sz) ((mV lo hi mx len).bind fun b=>.ok (.slc d j v (EK off b.1 sz) sz (x8 b.2.1 b.1) (match b.2.2 with
       | none=>match cap with | none=>none | some c=>some (x8 c b.1)
       | some m=>some (x8 m b.1)))) .bad
     | .slcT s r sz len full=>cond (Nat.beq z sz) ((mV lo hi mx len).bind fun b=>(C7 r b.1 sz (jr (x8 b.2.1 b.1) sz)).bind fun q=>.ok (.slcT s q sz (x8 b.2.1 b.1) (FP b.2.2 full (Pc hi) b.2.1 len))) .bad
     | .nils=>(mV lo hi mx 0).bind fun _=>.ok .nils
     | _=>.bad
   | none=>.bad
 | some (.array n e)=>match bk P e with
   | some sz=>match x with
     | .ptr d j v off=>(mV lo hi mx n).bind fun b=>.ok (.slc d j v (EK off b.1 sz) sz (x8 b.2.1 b.1) (match b.2.2 with
       | none=>some (x8 n b.1)
       | some m=>some (x8 m b.1)))
     | _=>.bad
   | none=>.bad
 | _=>.bad
theorem Et {P:Program} {t:TypeId} {x v:AV} {lo hi mx:Option AV} (h:(BH P t x lo hi mx).run=some v):qO P t x lo hi mx=some v:=by
 unfold BH at h
 unfold qO
 split at h
 · rename_i e hu
   split at h
   · rename_i z hs
     split at h
     · rename_i d j ver off sz len cap
       obtain ⟨hz,h⟩:=Tr.aS h
       have hz:z=sz:=by simpa using hz
       subst hz
       obtain ⟨b,h1,h⟩:=Tr.bind_some h
       rw[hu]
       dsimp only
       rw[kS h1]
       dsimp only
       rw[if_pos hs,← Tr.ab h,BU,ni]
       obtain ⟨b1,b2,b3⟩:=b
       cases b3<;>cases cap<;>simp only[ni,Option.map_some,Option.map_none]
     · rename_i s r sz len full
       obtain ⟨hz,h⟩:=Tr.aS h
       have hz:z=sz:=by simpa using hz
       subst hz
       obtain ⟨b,h1,h⟩:=Tr.bind_some h
       obtain ⟨q,h2,h⟩:=Tr.bind_some h
       rw[hu]
       dsimp only
       have hb:=kS h1
       rw[hb]
       dsimp only
       obtain ⟨k1,k2⟩:=Av h2
       rw[cC,ni] at k1 k2
       rw[if_pos ⟨hs,k1⟩,k2,← Tr.ab h,ni]
       congr 2
       obtain ⟨b1,b2,b3⟩:=b
       dsimp only at hb ⊢
       cases b3 with
       | some m=>simp only[FP,gy];rw[Bool.eq_iff_iff];simp
       | none =>
         simp only[FP]
         cases hi with
         | some a =>
           simp only[Pc,cond_false,oF,gy]
           congr 1
           rw[Bool.eq_iff_iff];simp
         | none =>
           simp only[Pc,cond_true]
           have:b2=len:=by
            unfold eK at hb
            cases mx with
            | none =>
              dsimp only[bound] at hb
              split at hb
              · simp only[nP] at hb;exact hb.2.1.symm
              · simp at hb
            | some a =>
              dsimp only at hb
              split at hb
              · simp at hb
              · simp at hb
           rw[this];simp
     · obtain ⟨b,h1,h⟩:=Tr.bind_some h
       rw[hu]
       dsimp only
       rw[kS h1,hs,← Tr.ab h]
     · exact (Tr.ae h).elim
   · exact (Tr.ae h).elim
 · rename_i n e hu
   split at h
   · rename_i sz hs
     split at h
     · rename_i d j ver off
       obtain ⟨b,h1,h⟩:=Tr.bind_some h
       rw[hu]
       dsimp only
       rw[kS h1]
       dsimp only
       rw[hs,← Tr.ab h,BU,ni]
       obtain ⟨b1,b2,b3⟩:=b
       cases b3<;>simp only[ni]
     · exact (Tr.ae h).elim
   · exact (Tr.ae h).elim
 · exact (Tr.ae h).elim

def sA (H:aa) (sz n:Nat) (x:AV):Tr Row :=
 match x with
 | .slc d i v off sz' len cap=>(xT H d i v (some 0)).bind fun r=>cond (Nat.beq sz' sz) (.req (gM n len) (match r with
    | .M [.arr k z N]=>.req (gq off (jr n sz) 0 N) (.ok (.M [.arr k (dD z off) (jr n sz)]))
    | .I k l=>cond (uS (.I k l) off (Nat.mul n sz)) (.ok (BN d (Row.I k (iN (lT l off) (Nat.mul n sz))))) .bad
    | .G l=>cond (uS (.G l) off (Nat.mul n sz)) (.ok (BN d (Row.G (iN (lT l off) (Nat.mul n sz))))) .bad
    | .F f N=>.req (gq off (jr n sz) 0 N) (.ok (.F (fun j=>f (bO off j)) (jr n sz)))
    | _=>.bad)) .bad
 | .slcT s r sz' len _=>cond (Nat.beq sz' sz) (.req (gM n len) ((C7 r none sz (jr n sz)).bind fun q=>.ok (match s with | none=>q | some k=>BN k q))) .bad
 | _=>.bad
theorem Oj (d:Nat) (k:IntKind) (z:Nat→Int) (n:Nat):BN d (.M [.arr k z n])=.M [.arr k z n]:=by cases d<;>rfl
theorem Oi (d:Nat) (f:Nat→AV) (n:Nat):BN d (.F f n)=.F f n:=by cases d<;>rfl
theorem p8 {H:aa} {sz n:Nat} {x:AV} {q:Row} (h:(sA H sz n x).run=some q):eS H sz n x=some q:=by
 unfold sA at h
 split at h
 · rename_i d i v off sz' len cap
   obtain ⟨r,h1,h⟩:=Tr.bind_some h
   obtain ⟨hz,h⟩:=Tr.aS h
   have hz:sz'=sz:=by simpa using hz
   obtain ⟨hc,h⟩:=Tr.aR h
   rw[lr,decide_eq_true_eq] at hc
   unfold eS
   dsimp only
   rw[lH h1]
   dsimp only
   split at h
   · rename_i k z N
     obtain ⟨hc2,h⟩:=Tr.aR h
     rw[g5,decide_eq_true_eq,cC] at hc2
     rw[if_pos ⟨hz,hc,by simp only[Row.len,az,aQ];omega⟩,← Tr.ab h]
     simp only[Row.sub,Oj,mQ,cC]
   · rename_i k l
     obtain ⟨hc2,h⟩:=Tr.aS h
     rw[ld,decide_eq_true_eq] at hc2
     rw[if_pos ⟨hz,hc,hc2⟩,← Tr.ab h,gK,iu]
     rfl
   · rename_i l
     obtain ⟨hc2,h⟩:=Tr.aS h
     rw[ld,decide_eq_true_eq] at hc2
     rw[if_pos ⟨hz,hc,hc2⟩,← Tr.ab h,gK,iu]
     rfl
   · rename_i f N
     obtain ⟨hc2,h⟩:=Tr.aR h
     rw[g5,decide_eq_true_eq,cC] at hc2
     rw[if_pos ⟨hz,hc,by simp only[Row.len];omega⟩,← Tr.ab h]
     simp only[Row.sub,Oi,bH,cC]
   · exact (Tr.ae h).elim
 · rename_i s r sz' len full
   obtain ⟨hz,h⟩:=Tr.aS h
   have hz:sz'=sz:=by simpa using hz
   obtain ⟨hc,h⟩:=Tr.aR h
   rw[lr,decide_eq_true_eq] at hc
   obtain ⟨q',h1,h⟩:=Tr.bind_some h
   obtain ⟨k1,k2⟩:=Av h1
   rw[cC] at k1 k2
   simp only[CB,Nat.zero_mul,Nat.zero_add] at k1 k2
   unfold eS
   dsimp only
   rw[if_pos ⟨hz,hc,k1⟩,← Tr.ab h,k2]
   cases s<;>rfl
 · exact (Tr.ae h).elim

end
end Go.Eng
end
section
namespace Go.Eng
noncomputable section

theorem Tr.ka {α:Type} {c:Bool} {t:Tr α} {x:α} (h:(cond c .bad t).run=some x):c=false∧t.run=some x:=by
 cases c with
 | false=>exact ⟨rfl,h⟩
 | true=>exact (Tr.ae h).elim

def zO:AV→AV
 | .slcT none (.I k l) sz m _=>.slcT none (.M [.arr k (ay l) (iT l)]) sz m false
 | .slcT none (.M [.arr k z n]) sz m _=>.slcT none (.M [.arr k z n]) sz m false
 | v=>v
theorem zQ (v:AV):zO v=nF v:=by
 unfold zO nF
 split
 · simp only[iV,dp]
 · rfl
 · rename_i h1 h2
   split
   · exact absurd rfl (h1 _ _ _ _ _)
   · exact absurd rfl (h2 _ _ _ _ _ _)
   · rfl
def FH (r:Row):Row :=
 match r with
 | .I k l=>.M [.arr k (ay l) (iT l)]
 | .G [v]=>cond (rn v) (.F (fun _=>zO v) 1) (.G [v])
 | r=>r
theorem w6 (r:Row):FH r=rP true r:=by
 cases r with
 | I k l=>simp only[FH,rP,if_true,iV,dp]
 | F f n=>rfl
 | M l=>rfl
 | G l =>
   match l with
   | []=>rfl
   | [v] =>
     show cond (rn v) (Row.F (fun _=>zO v) 1) (Row.G [v])=if (true && rn v)=true then Row.F (fun _=>nF v) 1 else Row.G [v]
     rw[zQ]
     cases rn v<;>rfl
   | a::b::r=>rfl
def Vy:AV→Nat→Int
 | .slcT _ (.M [.arr _ z _]) _ _ _=>z
 | _=>fun _=>0
def UA:AV→Nat
 | .slcT _ (.M [.arr _ _ n]) _ _ _=>n
 | _=>0
def Uz:AV→Nat
 | .slcT _ _ _ m _=>m
 | _=>0
def Hp (r s:Row):Tr Row :=
 match r with
 | .M [.arr k z n]=>match zb s with
   | some (k',z')=>cond (gQ k' k) (.ok (.M [.arr k (kO z n z') (bO n (iM s))])) .bad
   | none=>.bad
 | .I k l=>match s with
   | .I k' l'=>cond (gQ k' k) (.ok (.I k (np l l'))) .bad
   | .M [.arr k' z' n']=>cond (gQ k' k) (.ok (.M [.arr k (kO (ay l) (iT l) z') (bO (iT l) n')])) .bad
   | _=>.bad
 | .G l=>match s with
   | .G l'=>.ok (.G (np l l'))
   | _=>.bad
 | .F f n=>match s with
   | .G [v]=>cond (rn v) (match zO v with
     | .slcT none (.M [.arr k z N]) sz m full=>.reqP (EN f k sz full)
       (.ok (.F (fun j=>.slcT none (.M [.arr k (IN (cr j n) (Vy (f j)) z) (Es (cr j n) (UA (f j)) N)]) sz (Es (cr j n) (Uz (f j)) m) full) (bO n 1)))
     | _=>.bad) .bad
   | _=>.bad
 | _=>.bad
theorem BX {r s q:Row} (h:(Hp r s).run=some q):r.app s=q:=by
 unfold Hp at h
 split at h
 · rename_i k z n
   rw[tb] at h
   split at h
   · rename_i k' z' hi
     obtain ⟨hk,h⟩:=Tr.aS h
     rw[eZ,decide_eq_true_eq] at hk
     have e:Row.app (.M [.arr k z n]) s=(match (Row.M [.arr k z n]).uM s with | some q=>q | none=>.G ((Row.M [.arr k z n]).toList++s.toList)):=by
      cases s<;>rfl
     rw[e]
     unfold Row.uM
     rw[hi]
     dsimp only[Row.ints]
     rw[if_pos hk,← Tr.ab h,oI,bH,fH]
     rfl
   · exact (Tr.ae h).elim
 · rename_i k l
   split at h
   · rename_i k' l'
     obtain ⟨hk,h⟩:=Tr.aS h
     rw[eZ,decide_eq_true_eq] at hk
     simp only[Row.app]
     rw[if_pos hk,← Tr.ab h,kP]
   · rename_i k' z' n'
     obtain ⟨hk,h⟩:=Tr.aS h
     rw[eZ,decide_eq_true_eq] at hk
     simp only[Row.app]
     unfold Row.uM
     dsimp only[Row.ints]
     rw[if_pos hk,← Tr.ab h,oI,bH,dp,iV]
     rfl
   · exact (Tr.ae h).elim
 · split at h
   · rw[← Tr.ab h,kP];rfl
   · exact (Tr.ae h).elim
 · rename_i f n
   split at h
   · rename_i v
     obtain ⟨hv,h⟩:=Tr.aS h
     split at h
     · rename_i k z N sz m full hn
       obtain ⟨hf,h⟩:=Tr.c8 h
       rw[zQ] at hn
       rw[← Tr.ab h,bH]
       show Row.F _ _=Row.F _ _
       congr 1
       funext j
       simp only[x0,xZ,gG]
       by_cases e:j<n
       · have hb:Nat.blt j n=true:=by rw[Nat.blt_eq];exact e
         rw[hb,if_pos rfl,decide_eq_true e]
         rw[BW] at hf
         obtain ⟨z',n',m',e'⟩:=hf j
         rw[e'];rfl
       · have hb:Nat.blt j n=false:=by
          cases hb:Nat.blt j n with
          | false=>rfl
          | true=>rw[Nat.blt_eq] at hb;exact absurd hb e
         rw[hb,if_neg (by simp),decide_eq_false e]
         show (if iB v=true then nF v else .undef)=_
         rw[if_pos (tc hv),hn]
         rfl
     · exact (Tr.ae h).elim
   · exact (Tr.ae h).elim
 · exact (Tr.ae h).elim
def MW (x:AV):Bool :=
 match x with
 | .slc _ _ _ _ _ _ (some _)=>true
 | _=>false
def MH (s:AV):Bool :=
 match s with
 | .nils | .slc .. | .slcT ..=>true
 | _=>false
def sj (P:Program) (e:TypeId) (n:Nat):Bool :=
 match (cI P e).bind AV.row with
 | some z=>Nat.beq (iM z) n
 | none=>false
theorem uD {P:Program} {e:TypeId} {n:Nat} (h:sj P e n=true):((cI P e).bind AV.row).map Row.len=some n:=by
 unfold sj at h
 split at h
 · rename_i z hz
   rw[fH] at h
   have h:=Nat.eq_of_beq_eq_true h
   rw[hz,Option.map_some,h]
 · simp at h
def Ci (H:aa) (nx sz m n:Nat) (s:AV) (new:Row):Tr (AV×Delta) :=
 (sA H sz m s).bind fun old=>(Hp old new).bind fun r=>.ok (.slc 0 nx 0 0 sz (bO m n) none,.push (.row (FH r)))
def x9 (r:Row) (off n:Nat):Tr Row :=
 match r with
 | .M [.arr k z N]=>.req (b9 (bO off n) N) (.ok (.M [.arr k (dD z off) n]))
 | .G l=>cond (Nat.beq (Nat.add off n) (iT l)) (.ok (.G (iN (lT l off) n))) .bad
 | .F f N=>.req (b9 (bO off n) N) (.ok (.F (fun j=>f (bO off j)) n))
 | _=>.bad
theorem BK {r q:Row} {off n:Nat} (h:(x9 r off n).run=some q):off+n=r.len∧r.sub off n=q:=by
 unfold x9 at h
 split at h
 · rename_i k z N
   obtain ⟨hc,h⟩:=Tr.aR h
   rw[gy,decide_eq_true_eq,bH] at hc
   refine ⟨by simp only[Row.len,az,aQ];omega,?_⟩
   rw[← Tr.ab h,mQ];rfl
 · rename_i l
   obtain ⟨hc,h⟩:=Tr.aS h
   rw[dp] at hc
   have hc:=Nat.eq_of_beq_eq_true hc
   exact ⟨hc,by rw[← Tr.ab h,gK,iu];rfl⟩
 · rename_i f N
   obtain ⟨hc,h⟩:=Tr.aR h
   rw[gy,decide_eq_true_eq,bH] at hc
   refine ⟨hc,?_⟩
   rw[← Tr.ab h]
   simp only[bH]
   rfl
 · exact (Tr.ae h).elim
def ER (P:Program) (nx:Nat) (e:TypeId) (s x:AV):Tr (AV×Delta) :=
 match P.info? e with
 | some inf=>match s with
   | .nils=>match x with
     | .int _ k=>cond (Nat.blt 0 inf.size) (cond (sj P e inf.size) (.req (D7 k k inf.bytes) (.ite (b7 k (Int.ofNat 0)) (.ok (.nils,.bc)) (.ok (.slc 0 nx 0 0 inf.size (dr k) none,.push (.row (FH (.I .i64 []))))))) .bad) .bad
     | _=>.bad
   | _=>.bad
 | none=>.bad
theorem ES {P:Program} {nx:Nat} {e:TypeId} {s x:AV} {y:AV×Delta} (h:(ER P nx e s x).run=some y):EP P true nx e s x=some y:=by
 unfold ER at h
 unfold EP
 split at h
 · rename_i inf hi
   rw[hi]
   split at h
   · split at h
     · rename_i kk k
       obtain ⟨hb,h⟩:=Tr.aS h
       obtain ⟨hz,h⟩:=Tr.aS h
       obtain ⟨hm,h⟩:=Tr.aR h
       rw[xr,decide_eq_true_eq] at hm
       dsimp only
       rw[if_pos ⟨hm.1,hm.2.2.2,hm.2.2.1,B5 hb,uD hz⟩]
       rcases Tr.eY h with ⟨hc,h⟩ | ⟨hc,h⟩
       · rw[iG,beq_iff_eq] at hc
         rw[if_pos (show k=0 from hc),Tr.ab h]
       · rw[iG,beq_eq_false_iff_ne] at hc
         rw[if_neg (show ¬ k=0 from hc),← Tr.ab h,w6,lP]
     · exact (Tr.ae h).elim
   · exact (Tr.ae h).elim
 · exact (Tr.ae h).elim
def oJ (P:Program) (H:aa) (nx:Nat) (t u:TypeId) (s x:AV):Tr (AV×Delta) :=
 match P.underlying t with
 | some (.slice e)=>match P.underlying u with
   | some (.slice _)=>match P.info? e with
     | some inf=>match n6 s with
       | some m=>match n6 x with
         | some n=>cond (MH s) (match MW x,n with
           | true,0=>.ok (s,.bc)
           | true,_=>main P H nx e inf s x m n
           | false,_=>.ite (b9 n 0) (.ok (s,.bc)) (main P H nx e inf s x m n)) .bad
         | none=>.bad
       | none=>.bad
     | none=>.bad
   | some (.int _)=>ER P nx e s x
   | _=>.bad
 | _=>.bad
where
 main (P : Program) (H:aa) (nx:Nat) (e:TypeId) (inf:TypeInfo) (s x:AV) (m n:Nat):Tr (AV×Delta) :=
  .req (eO m n inf.bytes) (cond (Nat.blt 0 inf.bytes) (cond (sj P e inf.size) ((sA H inf.size n x).bind fun new =>
   match s with
   | .nils=>.ok (.slc 0 nx 0 0 inf.size n none,.push (.row (FH new)))
   | .slcT _ _ _ _ full=>.req full (Ci H nx inf.size m n s new)
   | .slc d i v off sz _ (some c)=>.ite (cr c (bO m n)) (Ci H nx inf.size m n s new)
     (cond (fQ H d) .bad ((xT H d i v (some 0)).bind fun r=>cond (Nat.beq sz inf.size) (match r with
       | .M l=>match lO (kI d new) with
         | []=>.bad
         | y::ys=>(An (bO off (jr m sz)) (some 0) (y::ys) 0 l).bind fun l'=>.ok (.slc d i v off sz (bO m n) (some c),.set d i (v,.row (.M l')))
       | _=>.bad) .bad))
   | .slc d i v off sz _ none=>cond (fQ H d) .bad ((xT H d i v (some 0)).bind fun r=>cond (Nat.beq sz inf.size)
     ((x9 r off (jr m sz)).bind fun old=>(Hp old (kI d new)).bind fun r'=>.ok (.slc d i (Nat.succ v) 0 sz (bO m n) none,.set d i (Nat.succ v,.row r'))) .bad)
   | _=>.bad) .bad) .bad)
theorem sB {H:aa} {sz n:Nat} {x:AV} {q:Row} (h:eS H sz n x=some q):q.len=n*sz:=by
 unfold eS at h
 split at h
 · split at h
   · rename_i hn
     simp only[Option.some.injEq] at h
     rw[← h,hn];simp[Row.len]
   · simp at h
 · split at h
   · split at h
     · rename_i hf
       simp only[Option.some.injEq] at h
       rw[← h,pS,Row.dF _ _ _ hf.2.2]
     · simp at h
   · simp at h
 · split at h
   · rename_i hf
     simp only[Option.some.injEq] at h
     rw[← h]
     split
     · exact Row.dF _ _ _ (by omega)
     · rw[pS,Row.dF _ _ _ (by omega)]
   · simp at h
 · simp at h
theorem yS {H:aa} {nx sz m n:Nat} {s:AV} {new:Row} {y:AV×Delta} (h:(Ci H nx sz m n s new).run=some y):∃ old,eS H sz m s=some old∧y=(.slc 0 nx 0 0 sz (m+n) none,.push (.row (rP true (old.app new)))):=by
 unfold Ci at h
 obtain ⟨old,h1,h⟩:=Tr.bind_some h
 obtain ⟨r,h2,h⟩:=Tr.bind_some h
 refine ⟨old,p8 h1,?_⟩
 rw[← Tr.ab h,bH,w6,BX h2]
theorem AT         {P : Program} {H:aa} {nx:Nat} {t u:TypeId} {s x:AV} {y:AV×Delta} (h:(oJ P H nx t u s x).run=some y):oK P true H nx t u s x=some y:=by
 unfold oJ at h
 unfold oK
 split at h
 · rename_i e ht
   split at h
   · rename_i e' hu
     split at h
     · rename_i inf hi
       split at h
       · rename_i m hm
         split at h
         · rename_i n hn
           obtain ⟨hsl,h⟩:=Tr.aS h
           rw[ht,hu]
           dsimp only
           rw[hi,hm,hn]
           dsimp only
           have hcase:(n=0∧(s,Delta.bc)=y)∨(n≠0∧(oJ.main P H nx e inf s x m n).run=some y):=by
            cases hx:MW x with
            | true =>
              rw[hx] at h
              cases n with
              | zero=>exact .inl ⟨rfl,Tr.ab h⟩
              | succ n=>exact .inr ⟨by omega,h⟩
            | false =>
              rw[hx] at h
              rcases Tr.eY h with ⟨hc,h⟩ | ⟨hc,h⟩
              · rw[gy,decide_eq_true_eq] at hc
                exact .inl ⟨hc,Tr.ab h⟩
              · rw[gy,decide_eq_false_iff_not] at hc
                exact .inr ⟨hc,h⟩
           clear h
           rcases hcase with ⟨h0,h⟩ | ⟨h0,h⟩
           · rw[if_pos h0]
             cases s<;>simp[MH] at hsl<;>exact congrArg some h
           rw[if_neg h0]
           unfold oJ.main at h
           obtain ⟨hr,h⟩:=Tr.aR h
           rw[Ah,decide_eq_true_eq] at hr
           obtain ⟨hb,h⟩:=Tr.aS h
           obtain ⟨hz,h⟩:=Tr.aS h
           obtain ⟨new,h1,h⟩:=Tr.bind_some h
           have hcv:=p8 h1
           rw[if_pos ⟨hr.1,hr.2,B5 hb,uD hz⟩,hcv]
           dsimp only
           split at h
           · rw[← Tr.ab h,w6]
           · rename_i sT r szT Ia full
             obtain ⟨hf,h⟩:=Tr.aR h
             obtain ⟨old,h2,rfl⟩:=yS h
             subst hf
             dsimp only
             rw[h2]
           · rename_i d i v off sz len c _ _ _ _ _
             rcases Tr.eY h with ⟨hc,h⟩ | ⟨hc,h⟩
             · rw[gG,decide_eq_true_eq,bH] at hc
               obtain ⟨old,h2,rfl⟩:=yS h
               dsimp only
               rw[if_pos hc,h2]
             · rw[gG,decide_eq_false_iff_not,bH] at hc
               dsimp only
               rw[if_neg hc]
               rw[eC] at h
               obtain ⟨hl,h⟩:=Tr.ka h
               obtain ⟨r,h2,h⟩:=Tr.bind_some h
               obtain ⟨hs,h⟩:=Tr.aS h
               have hs:=Nat.eq_of_beq_eq_true hs
               rw[hl,if_neg (by simp),lH h2]
               dsimp only
               split at h
               · rename_i l _
                 rw[oz] at h
                 have hcl:=sB hcv
                 split at h
                 · exact (Tr.ae h).elim
                 · rename_i y0 ys hy
                   obtain ⟨l',h3,h⟩:=Tr.bind_some h
                   obtain ⟨k1,k2⟩:=ug _ _ _ _ h3
                   rw[bH,cC,Nat.add_zero] at k1 k2
                   have hlen:=Row.bh (kI d new)
                   rw[hy,fI,hcl] at hlen
                   have hfit:off+(m+n)*sz≤(Row.M l).len:=by
                    rcases k1 with k1 | k1
                    · simp at k1
                    · rw[hlen,← hs] at k1
                      rw[Nat.add_mul]
                      show _≤az l
                      omega
                   rw[if_pos ⟨hs,hfit⟩,hy,k2,← Tr.ab h,bH]
               · exact (Tr.ae h).elim
           · rename_i d i v off sz len _ _ _ _ _
             dsimp only
             rw[eC] at h
             obtain ⟨hl,h⟩:=Tr.ka h
             obtain ⟨r,h2,h⟩:=Tr.bind_some h
             obtain ⟨hs,h⟩:=Tr.aS h
             have hs:=Nat.eq_of_beq_eq_true hs
             obtain ⟨old,h3,h⟩:=Tr.bind_some h
             obtain ⟨r',h4,h⟩:=Tr.bind_some h
             obtain ⟨k1,k2⟩:=BK h3
             rw[cC] at k1 k2
             rw[hl,if_neg (by simp),lH h2]
             dsimp only
             rw[if_pos ⟨hs,k1⟩,k2,BX h4,← Tr.ab h,bH]
           · exact (Tr.ae h).elim
         · exact (Tr.ae h).elim
       · exact (Tr.ae h).elim
     · exact (Tr.ae h).elim
   · rename_i k' hu
     rw[ht,hu]
     exact ES h
   · exact (Tr.ae h).elim
 · exact (Tr.ae h).elim

end
end Go.Eng
end
