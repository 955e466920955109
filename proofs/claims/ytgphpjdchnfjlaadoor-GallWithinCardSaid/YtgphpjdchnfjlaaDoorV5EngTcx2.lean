/- The engine as a tree: slices, numbers, operations. -/
import Derived.Test.YtgphpjdchnfjlaaDoorV5EngTb
set_option linter.unusedVariables false
set_option linter.unusedSimpArgs false
section
namespace Go.Eng
noncomputable section

theorem Tr.a7 {α:Type} {c:Bool} {t:Tr α} {x:α} (h:(cond c t .bad).run=some x):c=true∧t.run=some x:=by
 cases c with
 | true=>exact ⟨rfl,h⟩
 | false=>exact (Tr.ai h).elim
def Mz (op:BinOp) (k:IntKind) (x y:Int):Tr AV :=
 match op with
 | .add=>.ok (.int k (bj k x y))
 | .sub=>.ok (.int k (bL k x y))
 | .mul=>.ok (.int k (ly k x y))
 | .quo=>.req (bf (cq y 0)) (.ok (.int k (ET k x y)))
 | .rem=>.req (bf (cq y 0)) (.ok (.int k (iT k x y)))
 | .and=>.ok (.int k (mj k x y))
 | .or=>.ok (.int k (sf k x y))
 | .xor=>.ok (.int k (NO k x y))
 | .andNot=>.ok (.int k (A3 k x y))
 | .eql=>.ok (.bool (cq x y))
 | .neq=>.ok (.bool (bf (cq x y)))
 | .lss=>.ok (.bool (bF x y))
 | .leq=>.ok (.bool (di x y))
 | .gtr=>.ok (.bool (bF y x))
 | .geq=>.ok (.bool (di y x))
 | _=>.bad
theorem I6 {op:BinOp} {k:IntKind} {x y:Int} {v:AV} (h:(Mz op k x y).run=some v):iF op k x y=some v:=by
 unfold Mz at h;unfold iF;cases op<;>dsimp only at h ⊢<;>try exact (Tr.ai h).elim
 case quo =>
  obtain ⟨hc,h⟩:=Tr.aX h
  rw[av,aQ] at hc
  have:¬ y=0:=by simpa using hc
  rw[if_neg this,← Tr.af h,DI]
 case rem =>
  obtain ⟨hc,h⟩:=Tr.aX h
  rw[av,aQ] at hc
  have:¬ y=0:=by simpa using hc
  rw[if_neg this,← Tr.af h,pN]
 all_goals
  have h:=Tr.af h
  subst h
  first
   | rfl
   | (simp only[gt_iff_lt,ge_iff_le,fT,eJ,lz,rG,tW,x3,so,aQ,av,bD,bk,bne];done)
   | (simp only[fT,eJ,lz,rG,tW,x3,so,aQ,av,bD,bk];done)
   | (simp only[fT,eJ,lz,rG,tW,x3,so,aQ,av,bD,bk];rfl)
def iR:List Int→List Int→Bool
 | [],[]=>true
 | [x],[y]=>cq x y
 | x::x'::a,y::y'::b=>bT (cq x y) (iR (x'::a) (y'::b))
 | _,_=>false
theorem tn:∀ (l m:List Int),iR l m=fi l m
 | [],[]=>rfl
 | [],_::_=>by simp[iR,fi]
 | _::_,[]=>by simp[iR,fi]
 | [x],[y]=>by simp[iR,fi,aQ]
 | [x],y::y'::b=>by simp[iR,fi]
 | x::x'::a,[y]=>by simp[iR,fi]
 | x::x'::a,y::y'::b=>by
   simp only[iR];rw[ct,aQ,tn (x'::a) (y'::b)];rfl
def yR (r:Row):Option (IntKind×(Nat→Int)) :=
 match r with
 | .I k l=>some (k,az l)
 | .M [.arr k z _]=>some (k,z)
 | _=>none
theorem tg (r:Row):yR r=r.ints:=by
 match r with
 | .I k l=>simp only[yR,Row.ints,lr]
 | .G l=>rfl
 | .F f n=>rfl
 | .M []=>rfl
 | .M [.arr k z n]=>rfl
 | .M (.one v::r)=>rfl
 | .M (.arr k z n::s::r)=>rfl
def NS (P:Program) (t:TypeId) (x y:AV):Tr Bool :=
 match x,y with
 | .bool a,.bool b=>match P.underlying t with
   | some .bool=>.ok (Rm a b)
   | _=>.bad
 | .nils,.slcT s r sz n f=>match P.underlying t with
   | some (.slice _)=>.req (bX 0 n) (.ok false)
   | _=>.bad
 | .slcT s r sz n f,.nils=>match P.underlying t with
   | some (.slice _)=>.req (bX 0 n) (.ok false)
   | _=>.bad
 | .agg (.I k a),.agg (.I k' b)=>cond (im k k') (match cG P 20 t with
   | some n=>match fo P t with
     | some true=>cond (Nat.beq n (kF a)) (cond (Nat.beq (kF a) (kF b)) (.ok (iR a b)) .bad) .bad
     | _=>.bad
   | none=>.bad) .bad
 | .agg (.M l),.agg s=>eqMT P t (.M l) s
 | .agg (.I k a),.agg (.M l)=>eqMT P t (.I k a) (.M l)
 | x,y=>wj (A4 P t x y)
where
 eqMT (P:Program) (t:TypeId) (r s:Row):Tr Bool :=
  match yR r,yR s with
  | some (k,z),some (k',z')=>cond (im k k') (match cG P 20 t with
    | some n=>match fo P t with
      | some true=>cond (Nat.beq n (iN r)) (cond (Nat.beq (iN r) (iN s)) (.ok (mi z z' (iN r))) .bad) .bad
      | _=>.bad
    | none=>.bad) .bad
  | _,_=>.bad
theorem CM {P:Program} {t:TypeId} {r s:Row} {b:Bool} (h:(NS.eqMT P t r s).run=some b):NR P t r s=some b:=by
 unfold NS.eqMT at h;rw[tg,tg] at h;unfold NR;split at h
 · rename_i k z k' z' h1 h2;rw[h1,h2];obtain ⟨hk,h⟩:=Tr.a7 h;rw[fq,decide_eq_true_eq] at hk;split at h
   · rename_i n hn;split at h
     · rename_i ha;obtain ⟨e1,h⟩:=Tr.a7 h;obtain ⟨e2,h⟩:=Tr.a7 h;rw[fv] at e1 e2 h;rw[fv] at e2;have e1:n=r.len:=by simpa using e1
       have e2:r.len=s.len:=by simpa using e2
       dsimp only;rw[if_pos ⟨hk,by rw[hn,e1],ha,e2⟩,← Tr.af h,vG]
     · exact (Tr.ai h).elim
   · exact (Tr.ai h).elim
 · exact (Tr.ai h).elim
theorem Gb {P:Program} {t:TypeId} {x y:AV} {b:Bool} (h:(NS P t x y).run=some b):A4 P t x y=some b:=by
 unfold NS at h;split at h
 · split at h
   · rename_i hu;unfold A4;dsimp only;rw[hu,← Tr.af h,L9]
   · exact (Tr.ai h).elim
 · split at h
   · rename_i hu;obtain ⟨hc,h⟩:=Tr.aX h;rw[iG,decide_eq_true_eq] at hc;unfold A4;dsimp only;rw[hu];dsimp only;rw[if_pos hc,Tr.af h]
   · exact (Tr.ai h).elim
 · split at h
   · rename_i hu;obtain ⟨hc,h⟩:=Tr.aX h;rw[iG,decide_eq_true_eq] at hc;unfold A4;dsimp only;rw[hu];dsimp only;rw[if_pos hc,Tr.af h]
   · exact (Tr.ai h).elim
 · obtain ⟨hk,h⟩:=Tr.a7 h;rw[fq,decide_eq_true_eq] at hk;split at h
   · rename_i n hn;split at h
     · rename_i ha;obtain ⟨e1,h⟩:=Tr.a7 h;obtain ⟨e2,h⟩:=Tr.a7 h;rw[eH] at e1 e2;rw[eH] at e2;have e1:=Nat.eq_of_beq_eq_true e1;have e2:=Nat.eq_of_beq_eq_true e2;unfold A4;dsimp only;rw[if_pos ⟨hk,by rw[hn,e1],ha,e2⟩,← Tr.af h,tn]
     · exact (Tr.ai h).elim
   · exact (Tr.ai h).elim
 · unfold A4;exact CM h
 · unfold A4;exact CM h
 · rw[dp] at h;exact h
def FK (P:Program) (op:BinOp) (t:TypeId) (x y:AV):Tr AV :=
 match x,y with
 | .int k a,.int k' b=>match op with
   | .shl=>.req (di 0 b) (.ok (.int k (eC k a b)))
   | .shr=>.req (di 0 b) (.ok (.int k (Ns k a b)))
   | op=>cond (im k k') (Mz op k a b) .bad
 | x,y=>match op with
   | .eql=>(NS P t x y).bind fun b=>.ok (.bool b)
   | .neq=>(NS P t x y).bind fun b=>.ok (.bool (bf b))
   | _=>.bad
theorem IB {P:Program} {op:BinOp} {t:TypeId} {x y v:AV} (h:(FK P op t x y).run=some v):kn P op t x y=some v:=by
 unfold FK at h;split at h
 · rename_i k a k' b;split at h
   · obtain ⟨hc,h⟩:=Tr.aX h;rw[bk,decide_eq_true_eq] at hc;unfold kn;dsimp only;rw[if_neg wO,← Tr.af h,xU]
   · obtain ⟨hc,h⟩:=Tr.aX h;rw[bk,decide_eq_true_eq] at hc;unfold kn;dsimp only;rw[if_neg wO,← Tr.af h,JX]
   · rename_i h1 h2;obtain ⟨hk,h⟩:=Tr.a7 h;rw[fq,decide_eq_true_eq] at hk;have:kn P op t (.int k a) (.int k' b)=if k=k' then iF op k a b else none:=by
      unfold kn;cases op<;>first | rfl | exact (h1 rfl).elim | exact (h2 rfl).elim
     rw[this,if_pos hk];exact I6 h
 · rename_i hn;split at h
   · obtain ⟨b,h1,h⟩:=Tr.bind_some h;have h2:=Gb h1;have:kn P .eql t x y=(A4 P t x y).map .bool:=by
      unfold kn;cases x<;>cases y<;>first | rfl | exact (hn _ _ _ _ rfl rfl).elim
     rw[this,h2,← Tr.af h];rfl
   · obtain ⟨b,h1,h⟩:=Tr.bind_some h;have h2:=Gb h1;have:kn P .neq t x y=(A4 P t x y).map fun b=>.bool (!b):=by
      unfold kn;cases x<;>cases y<;>first | rfl | exact (hn _ _ _ _ rfl rfl).elim
     rw[this,h2,← Tr.af h,av];rfl
   · exact (Tr.ai h).elim
def Ur (op:UnOp) (x:AV):Tr AV :=
 match op,x with
 | .not,.bool b=>.ok (.bool (bf b))
 | .neg,.int k n=>.ok (.int k (GX k n))
 | _,_=>.bad
theorem NK {op:UnOp} {x v:AV} (h:(Ur op x).run=some v):QR op x=some v:=by
 unfold Ur at h;split at h
 · rw[← Tr.af h,av];rfl
 · rw[← Tr.af h,Dn];rfl
 · exact (Tr.ai h).elim
def pF (mx:Bool) (k:IntKind) (x:Int):List AV→Tr AV
 | []=>.ok (.int k x)
 | v::r=>match v with
   | .int k' y=>cond (im k k') (pF mx k (cond mx (vp x y) (zp x y)) r) .bad
   | _=>.bad
theorem oB {mx:Bool} {k:IntKind}:∀ (l:List AV) (x:Int) (v:AV),(pF mx k x l).run=some v→eS mx k x l=some v
 | [],x,v,h=>by rw[← Tr.af h];rfl
 | u :: r,x,v,h=>by
   simp only[pF] at h;split at h
   · rename_i k' y;obtain ⟨hk,h⟩:=Tr.a7 h;rw[fq,decide_eq_true_eq] at hk;simp only[eS];rw[if_pos hk,← oB r _ v h,r7,r8];cases mx<;>rfl
   · exact (Tr.ai h).elim

def fR (a sz:Nat):Nat :=
 match sz with
 | 1=>a
 | s=>cr a s
theorem cY (a sz:Nat):fR a sz=a*sz:=by
 unfold fR;split
 · rw[Nat.mul_one]
 · rw[r9]
abbrev Uw:=Option Nat×Nat×Option Nat
def m9 (lo hi mx:Option AV) (len:Nat):Tr Uw :=
 match mx with
 | none=>(match hi with
    | none=>.ok len
    | some (.int _ i)=>.req (kT i len) (.ok (b8 i))
    | some _=>.bad:Tr Nat).bind fun h=>(match lo with
    | none=>.ok (none,h,none)
    | some (.int _ i)=>.req (kT i h) (.ok (some (b8 i),h,none))
    | some _=>.bad)
 | some (.int _ m)=>.req (kT m len) (match hi with
    | some (.int _ i)=>.req (kT i (b8 m)) (match lo with
      | none=>.ok (none,b8 i,some (b8 m))
      | some (.int _ j)=>.req (kT j (b8 i)) (.ok (some (b8 j),b8 i,some (b8 m)))
      | some _=>.bad)
    | _=>.bad)
 | some _=>.bad
def Dg (l:Option Nat):Nat :=
 match l with
 | none=>0
 | some l=>l
theorem ib {i:Int} {k:IntKind} {d top:Nat} (h:kT i top=true):bound (some (.int k i)) d top=some (b8 i):=by
 rw[CD,decide_eq_true_eq] at h;simp only[bound];rw[if_pos h,kd]
theorem kV {lo hi mx:Option AV} {len:Nat} {b:Uw} (h:(m9 lo hi mx len).run=some b):eF lo hi mx len=some (Dg b.1,b.2.1,b.2.2):=by
 unfold m9 at h;unfold eF;split at h
 · obtain ⟨h',h1,h⟩:=Tr.bind_some h;have e1:bound hi len len=some h':=by
    split at h1
    · rw[← Tr.af h1];rfl
    · obtain ⟨hc,h1⟩:=Tr.aX h1;rw[ib hc,Tr.af h1]
    · exact (Tr.ai h1).elim
   dsimp only;rw[e1];dsimp only;split at h
   · rw[← Tr.af h];rfl
   · obtain ⟨hc,h⟩:=Tr.aX h;rw[ib hc,← Tr.af h];rfl
   · exact (Tr.ai h).elim
 · rename_i k m;obtain ⟨hm,h⟩:=Tr.aX h;dsimp only;rw[ib hm];dsimp only;split at h
   · rename_i k' i;obtain ⟨hi,h⟩:=Tr.aX h;simp only[Option.isSome_some,if_true];rw[ib hi];dsimp only;split at h
     · rw[← Tr.af h];rfl
     · obtain ⟨hc,h⟩:=Tr.aX h;rw[ib hc,← Tr.af h];rfl
     · exact (Tr.ai h).elim
   · exact (Tr.ai h).elim
 · exact (Tr.ai h).elim
def xW (a:Nat) (l:Option Nat):Nat :=
 match l with
 | none=>a
 | some l=>bQ a l
theorem nv (a:Nat) (l:Option Nat):xW a l=a-Dg l:=by
 cases l with
 | none=>rfl
 | some l=>exact cw a l
def FB (off:Nat) (l:Option Nat) (sz:Nat):Nat :=
 match l with
 | none=>off
 | some l=>au off (fR l sz)
theorem Cw (off:Nat) (l:Option Nat) (sz:Nat):FB off l sz=off+Dg l*sz:=by
 cases l with
 | none=>simp[FB,Dg]
 | some l=>simp only[FB,Dg,aH,cY]
def DQ (r:Row) (l:Option Nat) (sz n:Nat):Tr Row :=
 match r with
 | .M [.arr k z N]=>.req (dW (au (fR (Dg l) sz) n) N) (.ok (.M [.arr k (match l with | none=>z | some l=>qO z (fR l sz)) n]))
 | .F f N=>.req (dW (au (fR (Dg l) sz) n) N) (.ok (.F (match l with | none=>f | some l=>fun j=>f (au (fR l sz) j)) n))
 | _=>.bad
theorem Ad {r q:Row} {l:Option Nat} {sz n:Nat} (h:(DQ r l sz n).run=some q):Dg l*sz+n≤r.len∧r.sub (Dg l*sz) n=q:=by
 unfold DQ at h;split at h
 · rename_i k z N;obtain ⟨hc,h⟩:=Tr.aX h;rw[ln,decide_eq_true_eq,aH,cY] at hc;refine ⟨by simp only[Row.len,aE,aV];omega,?_⟩;rw[← Tr.af h];cases l with
   | none=>simp only[Row.sub,Dg,Nat.zero_mul,Nat.zero_add]
   | some l=>simp only[Row.sub,Dg,m5,cY]
 · rename_i f N;obtain ⟨hc,h⟩:=Tr.aX h;rw[ln,decide_eq_true_eq,aH,cY] at hc;refine ⟨by simp only[Row.len];omega,?_⟩;rw[← Tr.af h];cases l with
   | none=>simp only[Row.sub,Dg,Nat.zero_mul,Nat.zero_add]
   | some l=>simp only[Row.sub,Dg,aH,cY]
 · exact (Tr.ai h).elim
def Rr (o:Option AV):Bool :=
 match o with
 | none=>true
 | some _=>false
def Gq (mm:Option Nat) (full hiN:Bool) (h len:Nat):Bool :=
 match mm with
 | none=>cond hiN full (bT full (cH h len))
 | some m=>cH h m
def Cb (P:Program) (t:TypeId) (x:AV) (lo hi mx:Option AV):Tr AV :=
 match P.underlying t with
 | some (.slice e)=>match bH P e with
   | some z=>match x with
     | .slc d j v off sz len cap=>cond (Nat.beq z sz) ((m9 lo hi mx len).bind fun b=>.ok (.slc d j v (FB off b.1 sz) sz (xW b.2.1 b.1) (match b.2.2 with
       | none=>match cap with | none=>none | some c=>some (xW c b.1)
       | some m=>some (xW m b.1)))) .bad
     | .slcT s r sz len full=>cond (Nat.beq z sz) ((m9 lo hi mx len).bind fun b=>(DQ r b.1 sz (fR (xW b.2.1 b.1) sz)).bind fun q=>.ok (.slcT s q sz (xW b.2.1 b.1) (Gq b.2.2 full (Rr hi) b.2.1 len))) .bad
     | .nils=>(m9 lo hi mx 0).bind fun _=>.ok .nils
     | _=>.bad
   | none=>.bad
 | some (.array n e)=>match bH P e with
   | some sz=>match x with
     | .ptr d j v off=>(m9 lo hi mx n).bind fun b=>.ok (.slc d j v (FB off b.1 sz) sz (xW b.2.1 b.1) (match b.2.2 with
       | none=>some (xW n b.1)
       | some m=>some (xW m b.1)))
     | _=>.bad
   | none=>.bad
 | _=>.bad
theorem Ff {P:Program} {t:TypeId} {x v:AV} {lo hi mx:Option AV} (h:(Cb P t x lo hi mx).run=some v):qP P t x lo hi mx=some v:=by
 unfold Cb at h;unfold qP;split at h
 · rename_i e hu;split at h
   · rename_i z hs;split at h
     · rename_i d j ver off sz len cap;obtain ⟨hz,h⟩:=Tr.a7 h;have hz:z=sz:=by simpa using hz
       subst hz;obtain ⟨b,h1,h⟩:=Tr.bind_some h;rw[hu];dsimp only;rw[kV h1];dsimp only;rw[if_pos hs,← Tr.af h,Cw,nv];obtain ⟨b1,b2,b3⟩:=b;cases b3<;>cases cap<;>simp only[nv,Option.map_some,Option.map_none]
     · rename_i s r sz len full;obtain ⟨hz,h⟩:=Tr.a7 h;have hz:z=sz:=by simpa using hz
       subst hz;obtain ⟨b,h1,h⟩:=Tr.bind_some h;obtain ⟨q,h2,h⟩:=Tr.bind_some h;rw[hu];dsimp only;have hb:=kV h1;rw[hb];dsimp only;obtain ⟨k1,k2⟩:=Ad h2;rw[cY,nv] at k1 k2;rw[if_pos ⟨hs,k1⟩,k2,← Tr.af h,nv];congr 2;obtain ⟨b1,b2,b3⟩:=b;dsimp only at hb ⊢;cases b3 with
       | some m=>simp only[Gq,fV];rw[Bool.eq_iff_iff];simp
       | none =>
         simp only[Gq];cases hi with
         | some a =>
           simp only[Rr,cond_false,ct,fV];congr 1;rw[Bool.eq_iff_iff];simp
         | none =>
           simp only[Rr,cond_true];have:b2=len:=by
            unfold eF at hb;cases mx with
            | none =>
              dsimp only[bound] at hb;split at hb
              · simp only[nP] at hb;exact hb.2.1.symm
              · simp at hb
            | some a =>
              dsimp only at hb;split at hb
              · simp at hb
              · simp at hb
           rw[this];simp
     · obtain ⟨b,h1,h⟩:=Tr.bind_some h;rw[hu];dsimp only;rw[kV h1,hs,← Tr.af h]
     · exact (Tr.ai h).elim
   · exact (Tr.ai h).elim
 · rename_i n e hu;split at h
   · rename_i sz hs;split at h
     · rename_i d j ver off;obtain ⟨b,h1,h⟩:=Tr.bind_some h;rw[hu];dsimp only;rw[kV h1];dsimp only;rw[hs,← Tr.af h,Cw,nv];obtain ⟨b1,b2,b3⟩:=b;cases b3<;>simp only[nv]
     · exact (Tr.ai h).elim
   · exact (Tr.ai h).elim
 · exact (Tr.ai h).elim

def sA (H:aa) (sz n:Nat) (x:AV):Tr Row :=
 match x with
 | .slc d i v off sz' len cap=>(xN H d i v (some 0)).bind fun r=>cond (Nat.beq sz' sz) (.req (dW n len) (match r with
    | .M [.arr k z N]=>.req (dP off (fR n sz) 0 N) (.ok (.M [.arr k (qO z off) (fR n sz)]))
    | .I k l=>cond (vg (.I k l) off (Nat.mul n sz)) (.ok (Cl d (Row.I k (lW (lS l off) (Nat.mul n sz))))) .bad
    | .G l=>cond (vg (.G l) off (Nat.mul n sz)) (.ok (Cl d (Row.G (lW (lS l off) (Nat.mul n sz))))) .bad
    | .F f N=>.req (dP off (fR n sz) 0 N) (.ok (.F (fun j=>f (au off j)) (fR n sz)))
    | _=>.bad)) .bad
 | .slcT s r sz' len _=>cond (Nat.beq sz' sz) (.req (dW n len) ((DQ r none sz (fR n sz)).bind fun q=>.ok (match s with | none=>q | some k=>Cl k q))) .bad
 | _=>.bad
theorem QA (d:Nat) (k:IntKind) (z:Nat→Int) (n:Nat):Cl d (.M [.arr k z n])=.M [.arr k z n]:=by cases d<;>rfl
theorem Qz (d:Nat) (f:Nat→AV) (n:Nat):Cl d (.F f n)=.F f n:=by cases d<;>rfl
theorem qd {H:aa} {sz n:Nat} {x:AV} {q:Row} (h:(sA H sz n x).run=some q):eO H sz n x=some q:=by
 unfold sA at h;split at h
 · rename_i d i v off sz' len cap;obtain ⟨r,h1,h⟩:=Tr.bind_some h;obtain ⟨hz,h⟩:=Tr.a7 h;have hz:sz'=sz:=by simpa using hz
   obtain ⟨hc,h⟩:=Tr.aX h;rw[ln,decide_eq_true_eq] at hc;unfold eO;dsimp only;rw[lI h1];dsimp only;split at h
   · rename_i k z N;obtain ⟨hc2,h⟩:=Tr.aX h;rw[j6,decide_eq_true_eq,cY] at hc2;rw[if_pos ⟨hz,hc,by simp only[Row.len,aE,aV];omega⟩,← Tr.af h];simp only[Row.sub,QA,m5,cY]
   · rename_i k l;obtain ⟨hc2,h⟩:=Tr.a7 h;rw[ld,decide_eq_true_eq] at hc2;rw[if_pos ⟨hz,hc,hc2⟩,← Tr.af h,iA,ik];rfl
   · rename_i l;obtain ⟨hc2,h⟩:=Tr.a7 h;rw[ld,decide_eq_true_eq] at hc2;rw[if_pos ⟨hz,hc,hc2⟩,← Tr.af h,iA,ik];rfl
   · rename_i f N;obtain ⟨hc2,h⟩:=Tr.aX h;rw[j6,decide_eq_true_eq,cY] at hc2;rw[if_pos ⟨hz,hc,by simp only[Row.len];omega⟩,← Tr.af h];simp only[Row.sub,Qz,aH,cY]
   · exact (Tr.ai h).elim
 · rename_i s r sz' len full;obtain ⟨hz,h⟩:=Tr.a7 h;have hz:sz'=sz:=by simpa using hz
   obtain ⟨hc,h⟩:=Tr.aX h;rw[ln,decide_eq_true_eq] at hc;obtain ⟨q',h1,h⟩:=Tr.bind_some h;obtain ⟨k1,k2⟩:=Ad h1;rw[cY] at k1 k2;simp only[Dg,Nat.zero_mul,Nat.zero_add] at k1 k2;unfold eO;dsimp only;rw[if_pos ⟨hz,hc,k1⟩,← Tr.af h,k2];cases s<;>rfl
 · exact (Tr.ai h).elim

end
end Go.Eng
end
section
namespace Go.Eng
noncomputable section

theorem Tr.ku {α:Type} {c:Bool} {t:Tr α} {x:α} (h:(cond c .bad t).run=some x):c=false∧t.run=some x:=by
 cases c with
 | false=>exact ⟨rfl,h⟩
 | true=>exact (Tr.ai h).elim

def we:AV→AV
 | .slcT none (.I k l) sz m _=>.slcT none (.M [.arr k (az l) (kF l)]) sz m false
 | .slcT none (.M [.arr k z n]) sz m _=>.slcT none (.M [.arr k z n]) sz m false
 | v=>v
theorem tK (v:AV):we v=jM v:=by
 unfold we jM;split
 · simp only[lr,eH]
 · rfl
 · rename_i h1 h2;split
   · exact absurd rfl (h1 _ _ _ _ _)
   · exact absurd rfl (h2 _ _ _ _ _ _)
   · rfl
def Gh (r:Row):Row :=
 match r with
 | .I k l=>.M [.arr k (az l) (kF l)]
 | .G [v]=>cond (rh v) (.F (fun _=>we v) 1) (.G [v])
 | r=>r
theorem w7 (r:Row):Gh r=rB true r:=by
 cases r with
 | I k l=>simp only[Gh,rB,if_true,lr,eH]
 | F f n=>rfl
 | M l=>rfl
 | G l =>
   match l with
   | []=>rfl
   | [v] =>
     show cond (rh v) (Row.F (fun _=>we v) 1) (Row.G [v])=if (true && rh v)=true then Row.F (fun _=>jM v) 1 else Row.G [v]
     rw[tK];cases rh v<;>rfl
   | a::b::r=>rfl
def Y6:AV→Nat→Int
 | .slcT _ (.M [.arr _ z _]) _ _ _=>z
 | _=>fun _=>0
def X0:AV→Nat
 | .slcT _ (.M [.arr _ _ n]) _ _ _=>n
 | _=>0
def XY:AV→Nat
 | .slcT _ _ _ m _=>m
 | _=>0
def Iu (r s:Row):Tr Row :=
 match r with
 | .M [.arr k z n]=>match yR s with
   | some (k',z')=>cond (im k' k) (.ok (.M [.arr k (qb z n z') (au n (iN s))])) .bad
   | none=>.bad
 | .I k l=>match s with
   | .I k' l'=>cond (im k' k) (.ok (.I k (ry l l'))) .bad
   | .M [.arr k' z' n']=>cond (im k' k) (.ok (.M [.arr k (qb (az l) (kF l) z') (au (kF l) n')])) .bad
   | _=>.bad
 | .G l=>match s with
   | .G l'=>.ok (.G (ry l l'))
   | _=>.bad
 | .F f n=>match s with
   | .G [v]=>cond (rh v) (match we v with
     | .slcT none (.M [.arr k z N]) sz m full=>.reqP (LO f k sz full)
       (.ok (.F (fun j=>.slcT none (.M [.arr k (Np (bX j n) (Y6 (f j)) z) (JP (bX j n) (X0 (f j)) N)]) sz (JP (bX j n) (XY (f j)) m) full) (au n 1)))
     | _=>.bad) .bad
   | _=>.bad
 | _=>.bad
theorem Cz {r s q:Row} (h:(Iu r s).run=some q):r.app s=q:=by
 unfold Iu at h;split at h
 · rename_i k z n;rw[tg] at h;split at h
   · rename_i k' z' hi;obtain ⟨hk,h⟩:=Tr.a7 h;rw[fq,decide_eq_true_eq] at hk;have e:Row.app (.M [.arr k z n]) s=(match (Row.M [.arr k z n]).uX s with | some q=>q | none=>.G ((Row.M [.arr k z n]).toList++s.toList)):=by
      cases s<;>rfl
     rw[e];unfold Row.uX;rw[hi];dsimp only[Row.ints];rw[if_pos hk,← Tr.af h,rI,aH,fv];rfl
   · exact (Tr.ai h).elim
 · rename_i k l;split at h
   · rename_i k' l';obtain ⟨hk,h⟩:=Tr.a7 h;rw[fq,decide_eq_true_eq] at hk;simp only[Row.app];rw[if_pos hk,← Tr.af h,rJ]
   · rename_i k' z' n';obtain ⟨hk,h⟩:=Tr.a7 h;rw[fq,decide_eq_true_eq] at hk;simp only[Row.app];unfold Row.uX;dsimp only[Row.ints];rw[if_pos hk,← Tr.af h,rI,aH,eH,lr];rfl
   · exact (Tr.ai h).elim
 · split at h
   · rw[← Tr.af h,rJ];rfl
   · exact (Tr.ai h).elim
 · rename_i f n;split at h
   · rename_i v;obtain ⟨hv,h⟩:=Tr.a7 h;split at h
     · rename_i k z N sz m full hn;obtain ⟨hf,h⟩:=Tr.gM h;rw[tK] at hn;rw[← Tr.af h,aH];show Row.F _ _=Row.F _ _;congr 1;funext j;simp only[JS,JQ,iG];by_cases e:j<n
       · have hb:Nat.blt j n=true:=by rw[Nat.blt_eq];exact e
         rw[hb,if_pos rfl,decide_eq_true e];rw[Iq] at hf;obtain ⟨z',n',m',e'⟩:=hf j;rw[e'];rfl
       · have hb:Nat.blt j n=false:=by
          cases hb:Nat.blt j n with
          | false=>rfl
          | true=>rw[Nat.blt_eq] at hb;exact absurd hb e
         rw[hb,if_neg (by simp),decide_eq_false e];show (if iu v=true then jM v else .undef)=_;rw[if_pos (th hv),hn];rfl
     · exact (Tr.ai h).elim
   · exact (Tr.ai h).elim
 · exact (Tr.ai h).elim
def Pf (x:AV):Bool :=
 match x with
 | .slc _ _ _ _ _ _ (some _)=>true
 | _=>false
def O1 (s:AV):Bool :=
 match s with
 | .nils | .slc .. | .slcT ..=>true
 | _=>false
def sk (P:Program) (e:TypeId) (n:Nat):Bool :=
 match (db P e).bind AV.row with
 | some z=>Nat.beq (iN z) n
 | none=>false
theorem uN {P:Program} {e:TypeId} {n:Nat} (h:sk P e n=true):((db P e).bind AV.row).map Row.len=some n:=by
 unfold sk at h;split at h
 · rename_i z hz;rw[fv] at h;have h:=Nat.eq_of_beq_eq_true h;rw[hz,Option.map_some,h]
 · simp at h
def CZ (H:aa) (nx sz m n:Nat) (s:AV) (new:Row):Tr (AV×Delta) :=
 (sA H sz m s).bind fun old=>(Iu old new).bind fun r=>.ok (.slc 0 nx 0 0 sz (au m n) none,.push (.row (Gh r)))
def xX (r:Row) (off n:Nat):Tr Row :=
 match r with
 | .M [.arr k z N]=>.req (cH (au off n) N) (.ok (.M [.arr k (qO z off) n]))
 | .G l=>cond (Nat.beq (Nat.add off n) (kF l)) (.ok (.G (lW (lS l off) n))) .bad
 | .F f N=>.req (cH (au off n) N) (.ok (.F (fun j=>f (au off j)) n))
 | _=>.bad
theorem Ch {r q:Row} {off n:Nat} (h:(xX r off n).run=some q):off+n=r.len∧r.sub off n=q:=by
 unfold xX at h;split at h
 · rename_i k z N;obtain ⟨hc,h⟩:=Tr.aX h;rw[fV,decide_eq_true_eq,aH] at hc;refine ⟨by simp only[Row.len,aE,aV];omega,?_⟩;rw[← Tr.af h,m5];rfl
 · rename_i l;obtain ⟨hc,h⟩:=Tr.a7 h;rw[eH] at hc;have hc:=Nat.eq_of_beq_eq_true hc;exact ⟨hc,by rw[← Tr.af h,iA,ik];rfl⟩
 · rename_i f N;obtain ⟨hc,h⟩:=Tr.aX h;rw[fV,decide_eq_true_eq,aH] at hc;refine ⟨hc,?_⟩;rw[← Tr.af h];simp only[aH];rfl
 · exact (Tr.ai h).elim
def FE (P:Program) (nx:Nat) (e:TypeId) (s x:AV):Tr (AV×Delta) :=
 match P.info? e with
 | some inf=>match s with
   | .nils=>match x with
     | .int _ k=>cond (Nat.blt 0 inf.size) (cond (sk P e inf.size) (.req (Dl k k inf.bytes) (.ite (cq k (Int.ofNat 0)) (.ok (.nils,.bG)) (.ok (.slc 0 nx 0 0 inf.size (b8 k) none,.push (.row (Gh (.I .i64 []))))))) .bad) .bad
     | _=>.bad
   | _=>.bad
 | none=>.bad
theorem FF {P:Program} {nx:Nat} {e:TypeId} {s x:AV} {y:AV×Delta} (h:(FE P nx e s x).run=some y):FD P true nx e s x=some y:=by
 unfold FE at h;unfold FD;split at h
 · rename_i inf hi;rw[hi];split at h
   · split at h
     · rename_i kk k;obtain ⟨hb,h⟩:=Tr.a7 h;obtain ⟨hz,h⟩:=Tr.a7 h;obtain ⟨hm,h⟩:=Tr.aX h;rw[BQ,decide_eq_true_eq] at hm;dsimp only;rw[if_pos ⟨hm.1,hm.2.2.2,hm.2.2.1,CC hb,uN hz⟩];rcases Tr.kD h with ⟨hc,h⟩ | ⟨hc,h⟩
       · rw[aQ,beq_iff_eq] at hc;rw[if_pos (show k=0 from hc),Tr.af h]
       · rw[aQ,beq_eq_false_iff_ne] at hc;rw[if_neg (show ¬ k=0 from hc),← Tr.af h,w7,kd]
     · exact (Tr.ai h).elim
   · exact (Tr.ai h).elim
 · exact (Tr.ai h).elim
def oV (P:Program) (H:aa) (nx:Nat) (t u:TypeId) (s x:AV):Tr (AV×Delta) :=
 match P.underlying t with
 | some (.slice e)=>match P.underlying u with
   | some (.slice _)=>match P.info? e with
     | some inf=>match ot s with
       | some m=>match ot x with
         | some n=>cond (O1 s) (match Pf x,n with
           | true,0=>.ok (s,.bG)
           | true,_=>main P H nx e inf s x m n
           | false,_=>.ite (cH n 0) (.ok (s,.bG)) (main P H nx e inf s x m n)) .bad
         | none=>.bad
       | none=>.bad
     | none=>.bad
   | some (.int _)=>FE P nx e s x
   | _=>.bad
 | _=>.bad
where
 main (P : Program) (H:aa) (nx:Nat) (e:TypeId) (inf:TypeInfo) (s x:AV) (m n:Nat):Tr (AV×Delta) :=
  .req (iv m n inf.bytes) (cond (Nat.blt 0 inf.bytes) (cond (sk P e inf.size) ((sA H inf.size n x).bind fun new =>
   match s with
   | .nils=>.ok (.slc 0 nx 0 0 inf.size n none,.push (.row (Gh new)))
   | .slcT _ _ _ _ full=>.req full (CZ H nx inf.size m n s new)
   | .slc d i v off sz _ (some c)=>.ite (bX c (au m n)) (CZ H nx inf.size m n s new)
     (cond (j5 H d) .bad ((xN H d i v (some 0)).bind fun r=>cond (Nat.beq sz inf.size) (match r with
       | .M l=>match lQ (jA d new) with
         | []=>.bad
         | y::ys=>(zZ (au off (fR m sz)) (some 0) (y::ys) 0 l).bind fun l'=>.ok (.slc d i v off sz (au m n) (some c),.set d i (v,.row (.M l')))
       | _=>.bad) .bad))
   | .slc d i v off sz _ none=>cond (j5 H d) .bad ((xN H d i v (some 0)).bind fun r=>cond (Nat.beq sz inf.size)
     ((xX r off (fR m sz)).bind fun old=>(Iu old (jA d new)).bind fun r'=>.ok (.slc d i (Nat.succ v) 0 sz (au m n) none,.set d i (Nat.succ v,.row r'))) .bad)
   | _=>.bad) .bad) .bad)
theorem sB {H:aa} {sz n:Nat} {x:AV} {q:Row} (h:eO H sz n x=some q):q.len=n*sz:=by
 unfold eO at h;split at h
 · split at h
   · rename_i hn;simp only[Option.some.injEq] at h;rw[← h,hn];simp[Row.len]
   · simp at h
 · split at h
   · split at h
     · rename_i hf;simp only[Option.some.injEq] at h;rw[← h,pV,Row.dC _ _ _ hf.2.2]
     · simp at h
   · simp at h
 · split at h
   · rename_i hf;simp only[Option.some.injEq] at h;rw[← h];split
     · exact Row.dC _ _ _ wO
     · rw[pV,Row.dC _ _ _ wO]
   · simp at h
 · simp at h
theorem yF {H:aa} {nx sz m n:Nat} {s:AV} {new:Row} {y:AV×Delta} (h:(CZ H nx sz m n s new).run=some y):∃ old,eO H sz m s=some old∧y=(.slc 0 nx 0 0 sz (m+n) none,.push (.row (rB true (old.app new)))):=by
 unfold CZ at h;obtain ⟨old,h1,h⟩:=Tr.bind_some h;obtain ⟨r,h2,h⟩:=Tr.bind_some h;refine ⟨old,qd h1,?_⟩;rw[← Tr.af h,aH,w7,Cz h2]
theorem A8         {P : Program} {H:aa} {nx:Nat} {t u:TypeId} {s x:AV} {y:AV×Delta} (h:(oV P H nx t u s x).run=some y):oW P true H nx t u s x=some y:=by
 unfold oV at h;unfold oW;split at h
 · rename_i e ht;split at h
   · rename_i e' hu;split at h
     · rename_i inf hi;split at h
       · rename_i m hm;split at h
         · rename_i n hn;obtain ⟨hsl,h⟩:=Tr.a7 h;rw[ht,hu];dsimp only;rw[hi,hm,hn];dsimp only;have hcase:(n=0∧(s,Delta.bG)=y)∨(n≠0∧(oV.main P H nx e inf s x m n).run=some y):=by
            cases hx:Pf x with
            | true =>
              rw[hx] at h;cases n with
              | zero=>exact .inl ⟨rfl,Tr.af h⟩
              | succ n=>exact .inr ⟨by omega,h⟩
            | false =>
              rw[hx] at h;rcases Tr.kD h with ⟨hc,h⟩ | ⟨hc,h⟩
              · rw[fV,decide_eq_true_eq] at hc;exact .inl ⟨hc,Tr.af h⟩
              · rw[fV,decide_eq_false_iff_not] at hc;exact .inr ⟨hc,h⟩
           clear h;rcases hcase with ⟨h0,h⟩ | ⟨h0,h⟩
           · rw[if_pos h0];cases s<;>simp[O1] at hsl<;>exact congrArg some h
           rw[if_neg h0];unfold oV.main at h;obtain ⟨hr,h⟩:=Tr.aX h;rw[zS,decide_eq_true_eq] at hr;obtain ⟨hb,h⟩:=Tr.a7 h;obtain ⟨hz,h⟩:=Tr.a7 h;obtain ⟨new,h1,h⟩:=Tr.bind_some h;have hcv:=qd h1;rw[if_pos ⟨hr.1,hr.2,CC hb,uN hz⟩,hcv];dsimp only;split at h
           · rw[← Tr.af h,w7]
           · rename_i sT r szT Jb full;obtain ⟨hf,h⟩:=Tr.aX h;obtain ⟨old,h2,rfl⟩:=yF h;subst hf;dsimp only;rw[h2]
           · rename_i d i v off sz len c _ _ _ _ _;rcases Tr.kD h with ⟨hc,h⟩ | ⟨hc,h⟩
             · rw[iG,decide_eq_true_eq,aH] at hc;obtain ⟨old,h2,rfl⟩:=yF h;dsimp only;rw[if_pos hc,h2]
             · rw[iG,decide_eq_false_iff_not,aH] at hc;dsimp only;rw[if_neg hc];rw[gG] at h;obtain ⟨hl,h⟩:=Tr.ku h;obtain ⟨r,h2,h⟩:=Tr.bind_some h;obtain ⟨hs,h⟩:=Tr.a7 h;have hs:=Nat.eq_of_beq_eq_true hs;rw[hl,if_neg (by simp),lI h2];dsimp only;split at h
               · rename_i l _;rw[oO] at h;have hcl:=sB hcv;split at h
                 · exact (Tr.ai h).elim
                 · rename_i y0 ys hy;obtain ⟨l',h3,h⟩:=Tr.bind_some h;obtain ⟨k1,k2⟩:=uy _ _ _ _ h3;rw[aH,cY,Nat.add_zero] at k1 k2;have hlen:=Row.bA (jA d new);rw[hy,fx,hcl] at hlen;have hfit:off+(m+n)*sz≤(Row.M l).len:=by
                    rcases k1 with k1 | k1
                    · simp at k1
                    · rw[hlen,← hs] at k1;rw[Nat.add_mul];show _≤aE l;omega
                   rw[if_pos ⟨hs,hfit⟩,hy,k2,← Tr.af h,aH]
               · exact (Tr.ai h).elim
           · rename_i d i v off sz len _ _ _ _ _;dsimp only;rw[gG] at h;obtain ⟨hl,h⟩:=Tr.ku h;obtain ⟨r,h2,h⟩:=Tr.bind_some h;obtain ⟨hs,h⟩:=Tr.a7 h;have hs:=Nat.eq_of_beq_eq_true hs;obtain ⟨old,h3,h⟩:=Tr.bind_some h;obtain ⟨r',h4,h⟩:=Tr.bind_some h;obtain ⟨k1,k2⟩:=Ch h3;rw[cY] at k1 k2;rw[hl,if_neg (by simp),lI h2];dsimp only;rw[if_pos ⟨hs,k1⟩,k2,Cz h4,← Tr.af h,aH]
           · exact (Tr.ai h).elim
         · exact (Tr.ai h).elim
       · exact (Tr.ai h).elim
     · exact (Tr.ai h).elim
   · rename_i k' hu;rw[ht,hu];exact FF h
   · exact (Tr.ai h).elim
 · exact (Tr.ai h).elim

end
end Go.Eng
end
