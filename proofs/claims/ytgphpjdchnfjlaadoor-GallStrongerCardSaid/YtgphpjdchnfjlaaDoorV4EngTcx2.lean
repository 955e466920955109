/- The engine as a tree: slices, numbers, operations. -/
import Derived.Test.YtgphpjdchnfjlaaDoorV4EngTb
set_option linter.unusedVariables false
set_option linter.unusedSimpArgs false
section
namespace Go.Eng
noncomputable section

theorem Tr.aW {α:Type} {c:Bool} {t:Tr α} {x:α} (h:(cond c t .bad).run=some x):c=true∧t.run=some x:=by
 cases c with
 | true=>exact ⟨rfl,h⟩
 | false=>exact (Tr.ag h).elim
def LQ (op:BinOp) (k:IntKind) (x y:Int):Tr AV :=
 match op with
 | .add=>.ok (.int k (a6 k x y))
 | .sub=>.ok (.int k (ct k x y))
 | .mul=>.ok (.int k (gk k x y))
 | .quo=>.req (aE (bw y 0)) (.ok (.int k (D7 k x y)))
 | .rem=>.req (aE (bw y 0)) (.ok (.int k (jo k x y)))
 | .and=>.ok (.int k (m5 k x y))
 | .or=>.ok (.int k (rH k x y))
 | .xor=>.ok (.int k (MS k x y))
 | .andNot=>.ok (.int k (Ah k x y))
 | .eql=>.ok (.bool (bw x y))
 | .neq=>.ok (.bool (aE (bw x y)))
 | .lss=>.ok (.bool (bH x y))
 | .leq=>.ok (.bool (dJ x y))
 | .gtr=>.ok (.bool (bH y x))
 | .geq=>.ok (.bool (dJ y x))
 | _=>.bad
theorem Ij {op:BinOp} {k:IntKind} {x y:Int} {v:AV} (h:(LQ op k x y).run=some v):ib op k x y=some v:=by
 unfold LQ at h;unfold ib;cases op<;>dsimp only at h ⊢<;>try exact (Tr.ag h).elim
 case quo =>
  obtain ⟨hc,h⟩:=Tr.aT h
  rw[aM,bm] at hc
  have:¬ y=0:=by simpa using hc
  rw[if_neg this,← Tr.ab h,CW]
 case rem =>
  obtain ⟨hc,h⟩:=Tr.aT h
  rw[aM,bm] at hc
  have:¬ y=0:=by simpa using hc
  rw[if_neg this,← Tr.ab h,iD]
 all_goals
  have h:=Tr.ab h
  subst h
  first
   | rfl
   | (simp only[gt_iff_lt,ge_iff_le,fH,ew,kY,rb,th,xt,rU,bm,aM,bK,bn,bne];done)
   | (simp only[fH,ew,kY,rb,th,xt,rU,bm,aM,bK,bn];done)
   | (simp only[fH,ew,kY,rb,th,xt,rU,bm,aM,bK,bn];rfl)
def iB:List Int→List Int→Bool
 | [],[]=>true
 | [x],[y]=>bw x y
 | x::x'::a,y::y'::b=>bJ (bw x y) (iB (x'::a) (y'::b))
 | _,_=>false
theorem sK:∀ (l m:List Int),iB l m=eW l m
 | [],[]=>rfl
 | [],_::_=>by simp[iB,eW]
 | _::_,[]=>by simp[iB,eW]
 | [x],[y]=>by simp[iB,eW,bm]
 | [x],y::y'::b=>by simp[iB,eW]
 | x::x'::a,[y]=>by simp[iB,eW]
 | x::x'::a,y::y'::b=>by
   simp only[iB];rw[cg,bm,sK (x'::a) (y'::b)];rfl
def yc (r:Row):Option (IntKind×(Nat→Int)) :=
 match r with
 | .I k l=>some (k,az l)
 | .M [.arr k z _]=>some (k,z)
 | _=>none
theorem sE (r:Row):yc r=r.ints:=by
 match r with
 | .I k l=>simp only[yc,Row.ints,kW]
 | .G l=>rfl
 | .F f n=>rfl
 | .M []=>rfl
 | .M [.arr k z n]=>rfl
 | .M (.one v::r)=>rfl
 | .M (.arr k z n::s::r)=>rfl
def MV (P:Program) (t:TypeId) (x y:AV):Tr Bool :=
 match x,y with
 | .bool a,.bool b=>match P.underlying t with
   | some .bool=>.ok (P7 a b)
   | _=>.bad
 | .nils,.slcT s r sz n f=>match P.underlying t with
   | some (.slice _)=>.req (cH 0 n) (.ok false)
   | _=>.bad
 | .slcT s r sz n f,.nils=>match P.underlying t with
   | some (.slice _)=>.req (cH 0 n) (.ok false)
   | _=>.bad
 | .agg (.I k a),.agg (.I k' b)=>cond (gL k k') (match b9 P 20 t with
   | some n=>match fa P t with
     | some true=>cond (Nat.beq n (kj a)) (cond (Nat.beq (kj a) (kj b)) (.ok (iB a b)) .bad) .bad
     | _=>.bad
   | none=>.bad) .bad
 | .agg (.M l),.agg s=>eqMT P t (.M l) s
 | .agg (.I k a),.agg (.M l)=>eqMT P t (.I k a) (.M l)
 | x,y=>vz (Ai P t x y)
where
 eqMT (P:Program) (t:TypeId) (r s:Row):Tr Bool :=
  match yc r,yc s with
  | some (k,z),some (k',z')=>cond (gL k k') (match b9 P 20 t with
    | some n=>match fa P t with
      | some true=>cond (Nat.beq n (iw r)) (cond (Nat.beq (iw r) (iw s)) (.ok (lP z z' (iw r))) .bad) .bad
      | _=>.bad
    | none=>.bad) .bad
  | _,_=>.bad
theorem B4 {P:Program} {t:TypeId} {r s:Row} {b:Bool} (h:(MV.eqMT P t r s).run=some b):MU P t r s=some b:=by
 unfold MV.eqMT at h;rw[sE,sE] at h;unfold MU;split at h
 · rename_i k z k' z' h1 h2;rw[h1,h2];obtain ⟨hk,h⟩:=Tr.aW h;rw[fe,decide_eq_true_eq] at hk;split at h
   · rename_i n hn;split at h
     · rename_i ha;obtain ⟨e1,h⟩:=Tr.aW h;obtain ⟨e2,h⟩:=Tr.aW h;rw[fg] at e1 e2 h;rw[fg] at e2;have e1:n=r.len:=by simpa using e1
       have e2:r.len=s.len:=by simpa using e2
       dsimp only;rw[if_pos ⟨hk,by rw[hn,e1],ha,e2⟩,← Tr.ab h,uS]
     · exact (Tr.ag h).elim
   · exact (Tr.ag h).elim
 · exact (Tr.ag h).elim
theorem Fp {P:Program} {t:TypeId} {x y:AV} {b:Bool} (h:(MV P t x y).run=some b):Ai P t x y=some b:=by
 unfold MV at h;split at h
 · split at h
   · rename_i hu;unfold Ai;dsimp only;rw[hu,← Tr.ab h,Ls]
   · exact (Tr.ag h).elim
 · split at h
   · rename_i hu;obtain ⟨hc,h⟩:=Tr.aT h;rw[ie,decide_eq_true_eq] at hc;unfold Ai;dsimp only;rw[hu];dsimp only;rw[if_pos hc,Tr.ab h]
   · exact (Tr.ag h).elim
 · split at h
   · rename_i hu;obtain ⟨hc,h⟩:=Tr.aT h;rw[ie,decide_eq_true_eq] at hc;unfold Ai;dsimp only;rw[hu];dsimp only;rw[if_pos hc,Tr.ab h]
   · exact (Tr.ag h).elim
 · obtain ⟨hk,h⟩:=Tr.aW h;rw[fe,decide_eq_true_eq] at hk;split at h
   · rename_i n hn;split at h
     · rename_i ha;obtain ⟨e1,h⟩:=Tr.aW h;obtain ⟨e2,h⟩:=Tr.aW h;rw[ev] at e1 e2;rw[ev] at e2;have e1:=Nat.eq_of_beq_eq_true e1;have e2:=Nat.eq_of_beq_eq_true e2;unfold Ai;dsimp only;rw[if_pos ⟨hk,by rw[hn,e1],ha,e2⟩,← Tr.ab h,sK]
     · exact (Tr.ag h).elim
   · exact (Tr.ag h).elim
 · unfold Ai;exact B4 h
 · unfold Ai;exact B4 h
 · rw[c5] at h;exact h
def EK (P:Program) (op:BinOp) (t:TypeId) (x y:AV):Tr AV :=
 match x,y with
 | .int k a,.int k' b=>match op with
   | .shl=>.req (dJ 0 b) (.ok (.int k (ef k a b)))
   | .shr=>.req (dJ 0 b) (.ok (.int k (Mz k a b)))
   | op=>cond (gL k k') (LQ op k a b) .bad
 | x,y=>match op with
   | .eql=>(MV P t x y).bind fun b=>.ok (.bool b)
   | .neq=>(MV P t x y).bind fun b=>.ok (.bool (aE b))
   | _=>.bad
theorem HI {P:Program} {op:BinOp} {t:TypeId} {x y v:AV} (h:(EK P op t x y).run=some v):j6 P op t x y=some v:=by
 unfold EK at h;split at h
 · rename_i k a k' b;split at h
   · obtain ⟨hc,h⟩:=Tr.aT h;rw[bn,decide_eq_true_eq] at hc;unfold j6;dsimp only;rw[if_neg (by omega),← Tr.ab h,xk]
   · obtain ⟨hc,h⟩:=Tr.aT h;rw[bn,decide_eq_true_eq] at hc;unfold j6;dsimp only;rw[if_neg (by omega),← Tr.ab h,Je]
   · rename_i h1 h2;obtain ⟨hk,h⟩:=Tr.aW h;rw[fe,decide_eq_true_eq] at hk;have:j6 P op t (.int k a) (.int k' b)=if k=k' then ib op k a b else none:=by
      unfold j6;cases op<;>first | rfl | exact (h1 rfl).elim | exact (h2 rfl).elim
     rw[this,if_pos hk];exact Ij h
 · rename_i hn;split at h
   · obtain ⟨b,h1,h⟩:=Tr.bind_some h;have h2:=Fp h1;have:j6 P .eql t x y=(Ai P t x y).map .bool:=by
      unfold j6;cases x<;>cases y<;>first | rfl | exact (hn _ _ _ _ rfl rfl).elim
     rw[this,h2,← Tr.ab h];rfl
   · obtain ⟨b,h1,h⟩:=Tr.bind_some h;have h2:=Fp h1;have:j6 P .neq t x y=(Ai P t x y).map fun b=>.bool (!b):=by
      unfold j6;cases x<;>cases y<;>first | rfl | exact (hn _ _ _ _ rfl rfl).elim
     rw[this,h2,← Tr.ab h,aM];rfl
   · exact (Tr.ag h).elim
def SP (op:UnOp) (x:AV):Tr AV :=
 match op,x with
 | .not,.bool b=>.ok (.bool (aE b))
 | .neg,.int k n=>.ok (.int k (Ga k n))
 | _,_=>.bad
theorem MN {op:UnOp} {x v:AV} (h:(SP op x).run=some v):PE op x=some v:=by
 unfold SP at h;split at h
 · rw[← Tr.ab h,aM];rfl
 · rw[← Tr.ab h,CE];rfl
 · exact (Tr.ag h).elim
def pf (mx:Bool) (k:IntKind) (x:Int):List AV→Tr AV
 | []=>.ok (.int k x)
 | v::r=>match v with
   | .int k' y=>cond (gL k k') (pf mx k (cond mx (uG x y) (yw x y)) r) .bad
   | _=>.bad
theorem nY {mx:Bool} {k:IntKind}:∀ (l:List AV) (x:Int) (v:AV),(pf mx k x l).run=some v→eH mx k x l=some v
 | [],x,v,h=>by rw[← Tr.ab h];rfl
 | u :: r,x,v,h=>by
   simp only[pf] at h;split at h
   · rename_i k' y;obtain ⟨hk,h⟩:=Tr.aW h;rw[fe,decide_eq_true_eq] at hk;simp only[eH];rw[if_pos hk,← nY r _ v h,rA,rB];cases mx<;>rfl
   · exact (Tr.ag h).elim

def fF (a sz:Nat):Nat :=
 match sz with
 | 1=>a
 | s=>bU a s
theorem cI (a sz:Nat):fF a sz=a*sz:=by
 unfold fF;split
 · rw[Nat.mul_one]
 · rw[pg]
abbrev SU:=Option Nat×Nat×Option Nat
def mJ (lo hi mx:Option AV) (len:Nat):Tr SU :=
 match mx with
 | none=>(match hi with
    | none=>.ok len
    | some (.int _ i)=>.req (kG i len) (.ok (bX i))
    | some _=>.bad:Tr Nat).bind fun h=>(match lo with
    | none=>.ok (none,h,none)
    | some (.int _ i)=>.req (kG i h) (.ok (some (bX i),h,none))
    | some _=>.bad)
 | some (.int _ m)=>.req (kG m len) (match hi with
    | some (.int _ i)=>.req (kG i (bX m)) (match lo with
      | none=>.ok (none,bX i,some (bX m))
      | some (.int _ j)=>.req (kG j (bX i)) (.ok (some (bX j),bX i,some (bX m)))
      | some _=>.bad)
    | _=>.bad)
 | some _=>.bad
def Cw (l:Option Nat):Nat :=
 match l with
 | none=>0
 | some l=>l
theorem gG {i:Int} {k:IntKind} {d top:Nat} (h:kG i top=true):bound (some (.int k i)) d top=some (bX i):=by
 rw[BT,decide_eq_true_eq] at h;simp only[bound];rw[if_pos h,jU]
theorem kI {lo hi mx:Option AV} {len:Nat} {b:SU} (h:(mJ lo hi mx len).run=some b):eh lo hi mx len=some (Cw b.1,b.2.1,b.2.2):=by
 unfold mJ at h;unfold eh;split at h
 · obtain ⟨h',h1,h⟩:=Tr.bind_some h;have e1:bound hi len len=some h':=by
    split at h1
    · rw[← Tr.ab h1];rfl
    · obtain ⟨hc,h1⟩:=Tr.aT h1;rw[gG hc,Tr.ab h1]
    · exact (Tr.ag h1).elim
   dsimp only;rw[e1];dsimp only;split at h
   · rw[← Tr.ab h];rfl
   · obtain ⟨hc,h⟩:=Tr.aT h;rw[gG hc,← Tr.ab h];rfl
   · exact (Tr.ag h).elim
 · rename_i k m;obtain ⟨hm,h⟩:=Tr.aT h;dsimp only;rw[gG hm];dsimp only;split at h
   · rename_i k' i;obtain ⟨hi,h⟩:=Tr.aT h;simp only[Option.isSome_some,if_true];rw[gG hi];dsimp only;split at h
     · rw[← Tr.ab h];rfl
     · obtain ⟨hc,h⟩:=Tr.aT h;rw[gG hc,← Tr.ab h];rfl
     · exact (Tr.ag h).elim
   · exact (Tr.ag h).elim
 · exact (Tr.ag h).elim
def xm (a:Nat) (l:Option Nat):Nat :=
 match l with
 | none=>a
 | some l=>cY a l
theorem mY (a:Nat) (l:Option Nat):xm a l=a-Cw l:=by
 cases l with
 | none=>rfl
 | some l=>exact cQ a l
def EA (off:Nat) (l:Option Nat) (sz:Nat):Nat :=
 match l with
 | none=>off
 | some l=>aq off (fF l sz)
theorem BM (off:Nat) (l:Option Nat) (sz:Nat):EA off l sz=off+Cw l*sz:=by
 cases l with
 | none=>simp[EA,Cw]
 | some l=>simp only[EA,Cw,aK,cI]
def C6 (r:Row) (l:Option Nat) (sz n:Nat):Tr Row :=
 match r with
 | .M [.arr k z N]=>.req (dD (aq (fF (Cw l) sz) n) N) (.ok (.M [.arr k (match l with | none=>z | some l=>dZ z (fF l sz)) n]))
 | .F f N=>.req (dD (aq (fF (Cw l) sz) n) N) (.ok (.F (match l with | none=>f | some l=>fun j=>f (aq (fF l sz) j)) n))
 | _=>.bad
theorem zg {r q:Row} {l:Option Nat} {sz n:Nat} (h:(C6 r l sz n).run=some q):Cw l*sz+n≤r.len∧r.sub (Cw l*sz) n=q:=by
 unfold C6 at h;split at h
 · rename_i k z N;obtain ⟨hc,h⟩:=Tr.aT h;rw[kU,decide_eq_true_eq,aK,cI] at hc;refine ⟨by simp only[Row.len,aA,aQ];omega,?_⟩;rw[← Tr.ab h];cases l with
   | none=>simp only[Row.sub,Cw,Nat.zero_mul,Nat.zero_add]
   | some l=>simp only[Row.sub,Cw,mD,cI]
 · rename_i f N;obtain ⟨hc,h⟩:=Tr.aT h;rw[kU,decide_eq_true_eq,aK,cI] at hc;refine ⟨by simp only[Row.len];omega,?_⟩;rw[← Tr.ab h];cases l with
   | none=>simp only[Row.sub,Cw,Nat.zero_mul,Nat.zero_add]
   | some l=>simp only[Row.sub,Cw,aK,cI]
 · exact (Tr.ag h).elim
def Qd (o:Option AV):Bool :=
 match o with
 | none=>true
 | some _=>false
def FB (mm:Option Nat) (full hiN:Bool) (h len:Nat):Bool :=
 match mm with
 | none=>cond hiN full (bJ full (cj h len))
 | some m=>cj h m
def Bs (P:Program) (t:TypeId) (x:AV) (lo hi mx:Option AV):Tr AV :=
 match P.underlying t with
 | some (.slice e)=>match bA P e with
   | some z=>match x with
     | .slc d j v off sz len cap=>cond (Nat.beq z sz) ((mJ lo hi mx len).bind fun b=>.ok (.slc d j v (EA off b.1 sz) sz (xm b.2.1 b.1) (match b.2.2 with
       | none=>match cap with | none=>none | some c=>some (xm c b.1)
       | some m=>some (xm m b.1)))) .bad
     | .slcT s r sz len full=>cond (Nat.beq z sz) ((mJ lo hi mx len).bind fun b=>(C6 r b.1 sz (fF (xm b.2.1 b.1) sz)).bind fun q=>.ok (.slcT s q sz (xm b.2.1 b.1) (FB b.2.2 full (Qd hi) b.2.1 len))) .bad
     | .nils=>(mJ lo hi mx 0).bind fun _=>.ok .nils
     | _=>.bad
   | none=>.bad
 | some (.array n e)=>match bA P e with
   | some sz=>match x with
     | .ptr d j v off=>(mJ lo hi mx n).bind fun b=>.ok (.slc d j v (EA off b.1 sz) sz (xm b.2.1 b.1) (match b.2.2 with
       | none=>some (xm n b.1)
       | some m=>some (xm m b.1)))
     | _=>.bad
   | none=>.bad
 | _=>.bad
theorem Eg {P:Program} {t:TypeId} {x v:AV} {lo hi mx:Option AV} (h:(Bs P t x lo hi mx).run=some v):qn P t x lo hi mx=some v:=by
 unfold Bs at h;unfold qn;split at h
 · rename_i e hu;split at h
   · rename_i z hs;split at h
     · rename_i d j ver off sz len cap;obtain ⟨hz,h⟩:=Tr.aW h;have hz:z=sz:=by simpa using hz
       subst hz;obtain ⟨b,h1,h⟩:=Tr.bind_some h;rw[hu];dsimp only;rw[kI h1];dsimp only;rw[if_pos hs,← Tr.ab h,BM,mY];obtain ⟨b1,b2,b3⟩:=b;cases b3<;>cases cap<;>simp only[mY,Option.map_some,Option.map_none]
     · rename_i s r sz len full;obtain ⟨hz,h⟩:=Tr.aW h;have hz:z=sz:=by simpa using hz
       subst hz;obtain ⟨b,h1,h⟩:=Tr.bind_some h;obtain ⟨q,h2,h⟩:=Tr.bind_some h;rw[hu];dsimp only;have hb:=kI h1;rw[hb];dsimp only;obtain ⟨k1,k2⟩:=zg h2;rw[cI,mY] at k1 k2;rw[if_pos ⟨hs,k1⟩,k2,← Tr.ab h,mY];congr 2;obtain ⟨b1,b2,b3⟩:=b;dsimp only at hb ⊢;cases b3 with
       | some m=>simp only[FB,fJ];rw[Bool.eq_iff_iff];simp
       | none =>
         simp only[FB];cases hi with
         | some a =>
           simp only[Qd,cond_false,cg,fJ];congr 1;rw[Bool.eq_iff_iff];simp
         | none =>
           simp only[Qd,cond_true];have:b2=len:=by
            unfold eh at hb;cases mx with
            | none =>
              dsimp only[bound] at hb;split at hb
              · simp only[nP] at hb;exact hb.2.1.symm
              · simp at hb
            | some a =>
              dsimp only at hb;split at hb
              · simp at hb
              · simp at hb
           rw[this];simp
     · obtain ⟨b,h1,h⟩:=Tr.bind_some h;rw[hu];dsimp only;rw[kI h1,hs,← Tr.ab h]
     · exact (Tr.ag h).elim
   · exact (Tr.ag h).elim
 · rename_i n e hu;split at h
   · rename_i sz hs;split at h
     · rename_i d j ver off;obtain ⟨b,h1,h⟩:=Tr.bind_some h;rw[hu];dsimp only;rw[kI h1];dsimp only;rw[hs,← Tr.ab h,BM,mY];obtain ⟨b1,b2,b3⟩:=b;cases b3<;>simp only[mY]
     · exact (Tr.ag h).elim
   · exact (Tr.ag h).elim
 · exact (Tr.ag h).elim

def r6 (H:aa) (sz n:Nat) (x:AV):Tr Row :=
 match x with
 | .slc d i v off sz' len cap=>(xc H d i v (some 0)).bind fun r=>cond (Nat.beq sz' sz) (.req (dD n len) (match r with
    | .M [.arr k z N]=>.req (dT off (fF n sz) 0 N) (.ok (.M [.arr k (dZ z off) (fF n sz)]))
    | .I k l=>cond (uy (.I k l) off (Nat.mul n sz)) (.ok (BC d (Row.I k (lF (lB l off) (Nat.mul n sz))))) .bad
    | .G l=>cond (uy (.G l) off (Nat.mul n sz)) (.ok (BC d (Row.G (lF (lB l off) (Nat.mul n sz))))) .bad
    | .F f N=>.req (dT off (fF n sz) 0 N) (.ok (.F (fun j=>f (aq off j)) (fF n sz)))
    | _=>.bad)) .bad
 | .slcT s r sz' len _=>cond (Nat.beq sz' sz) (.req (dD n len) ((C6 r none sz (fF n sz)).bind fun q=>.ok (match s with | none=>q | some k=>BC k q))) .bad
 | _=>.bad
theorem Ps (d:Nat) (k:IntKind) (z:Nat→Int) (n:Nat):BC d (.M [.arr k z n])=.M [.arr k z n]:=by cases d<;>rfl
theorem Pr (d:Nat) (f:Nat→AV) (n:Nat):BC d (.F f n)=.F f n:=by cases d<;>rfl
theorem pK {H:aa} {sz n:Nat} {x:AV} {q:Row} (h:(r6 H sz n x).run=some q):eD H sz n x=some q:=by
 unfold r6 at h;split at h
 · rename_i d i v off sz' len cap;obtain ⟨r,h1,h⟩:=Tr.bind_some h;obtain ⟨hz,h⟩:=Tr.aW h;have hz:sz'=sz:=by simpa using hz
   obtain ⟨hc,h⟩:=Tr.aT h;rw[kU,decide_eq_true_eq] at hc;unfold eD;dsimp only;rw[ln h1];dsimp only;split at h
   · rename_i k z N;obtain ⟨hc2,h⟩:=Tr.aT h;rw[jP,decide_eq_true_eq,cI] at hc2;rw[if_pos ⟨hz,hc,by simp only[Row.len,aA,aQ];omega⟩,← Tr.ab h];simp only[Row.sub,Ps,mD,cI]
   · rename_i k l;obtain ⟨hc2,h⟩:=Tr.aW h;rw[kM,decide_eq_true_eq] at hc2;rw[if_pos ⟨hz,hc,hc2⟩,← Tr.ab h,gT,gK];rfl
   · rename_i l;obtain ⟨hc2,h⟩:=Tr.aW h;rw[kM,decide_eq_true_eq] at hc2;rw[if_pos ⟨hz,hc,hc2⟩,← Tr.ab h,gT,gK];rfl
   · rename_i f N;obtain ⟨hc2,h⟩:=Tr.aT h;rw[jP,decide_eq_true_eq,cI] at hc2;rw[if_pos ⟨hz,hc,by simp only[Row.len];omega⟩,← Tr.ab h];simp only[Row.sub,Pr,aK,cI]
   · exact (Tr.ag h).elim
 · rename_i s r sz' len full;obtain ⟨hz,h⟩:=Tr.aW h;have hz:sz'=sz:=by simpa using hz
   obtain ⟨hc,h⟩:=Tr.aT h;rw[kU,decide_eq_true_eq] at hc;obtain ⟨q',h1,h⟩:=Tr.bind_some h;obtain ⟨k1,k2⟩:=zg h1;rw[cI] at k1 k2;simp only[Cw,Nat.zero_mul,Nat.zero_add] at k1 k2;unfold eD;dsimp only;rw[if_pos ⟨hz,hc,k1⟩,← Tr.ab h,k2];cases s<;>rfl
 · exact (Tr.ag h).elim

end
end Go.Eng
end
section
namespace Go.Eng
noncomputable section

theorem Tr.j8 {α:Type} {c:Bool} {t:Tr α} {x:α} (h:(cond c .bad t).run=some x):c=false∧t.run=some x:=by
 cases c with
 | false=>exact ⟨rfl,h⟩
 | true=>exact (Tr.ag h).elim

def vt:AV→AV
 | .slcT none (.I k l) sz m _=>.slcT none (.M [.arr k (az l) (kj l)]) sz m false
 | .slcT none (.M [.arr k z n]) sz m _=>.slcT none (.M [.arr k z n]) sz m false
 | v=>v
theorem s7 (v:AV):vt v=jA v:=by
 unfold vt jA;split
 · simp only[kW,ev]
 · rfl
 · rename_i h1 h2;split
   · exact absurd rfl (h1 _ _ _ _ _)
   · exact absurd rfl (h2 _ _ _ _ _ _)
   · rfl
def Ft (r:Row):Row :=
 match r with
 | .I k l=>.M [.arr k (az l) (kj l)]
 | .G [v]=>cond (qI v) (.F (fun _=>vt v) 1) (.G [v])
 | r=>r
theorem wi (r:Row):Ft r=qX true r:=by
 cases r with
 | I k l=>simp only[Ft,qX,if_true,kW,ev]
 | F f n=>rfl
 | M l=>rfl
 | G l =>
   match l with
   | []=>rfl
   | [v] =>
     show cond (qI v) (Row.F (fun _=>vt v) 1) (Row.G [v])=if (true && qI v)=true then Row.F (fun _=>jA v) 1 else Row.G [v]
     rw[s7];cases qI v<;>rfl
   | a::b::r=>rfl
def Xk:AV→Nat→Int
 | .slcT _ (.M [.arr _ z _]) _ _ _=>z
 | _=>fun _=>0
def Wo:AV→Nat
 | .slcT _ (.M [.arr _ _ n]) _ _ _=>n
 | _=>0
def Wm:AV→Nat
 | .slcT _ _ _ m _=>m
 | _=>0
def Hx (r s:Row):Tr Row :=
 match r with
 | .M [.arr k z n]=>match yc s with
   | some (k',z')=>cond (gL k' k) (.ok (.M [.arr k (oD z n z') (aq n (iw s))])) .bad
   | none=>.bad
 | .I k l=>match s with
   | .I k' l'=>cond (gL k' k) (.ok (.I k (qU l l'))) .bad
   | .M [.arr k' z' n']=>cond (gL k' k) (.ok (.M [.arr k (oD (az l) (kj l) z') (aq (kj l) n')])) .bad
   | _=>.bad
 | .G l=>match s with
   | .G l'=>.ok (.G (qU l l'))
   | _=>.bad
 | .F f n=>match s with
   | .G [v]=>cond (qI v) (match vt v with
     | .slcT none (.M [.arr k z N]) sz m full=>.reqP (K5 f k sz full)
       (.ok (.F (fun j=>.slcT none (.M [.arr k (Mv (cH j n) (Xk (f j)) z) (I6 (cH j n) (Wo (f j)) N)]) sz (I6 (cH j n) (Wm (f j)) m) full) (aq n 1)))
     | _=>.bad) .bad
   | _=>.bad
 | _=>.bad
theorem BO {r s q:Row} (h:(Hx r s).run=some q):r.app s=q:=by
 unfold Hx at h;split at h
 · rename_i k z n;rw[sE] at h;split at h
   · rename_i k' z' hi;obtain ⟨hk,h⟩:=Tr.aW h;rw[fe,decide_eq_true_eq] at hk;have e:Row.app (.M [.arr k z n]) s=(match (Row.M [.arr k z n]).uq s with | some q=>q | none=>.G ((Row.M [.arr k z n]).toList++s.toList)):=by
      cases s<;>rfl
     rw[e];unfold Row.uq;rw[hi];dsimp only[Row.ints];rw[if_pos hk,← Tr.ab h,mG,aK,fg];rfl
   · exact (Tr.ag h).elim
 · rename_i k l;split at h
   · rename_i k' l';obtain ⟨hk,h⟩:=Tr.aW h;rw[fe,decide_eq_true_eq] at hk;simp only[Row.app];rw[if_pos hk,← Tr.ab h,rf]
   · rename_i k' z' n';obtain ⟨hk,h⟩:=Tr.aW h;rw[fe,decide_eq_true_eq] at hk;simp only[Row.app];unfold Row.uq;dsimp only[Row.ints];rw[if_pos hk,← Tr.ab h,mG,aK,ev,kW];rfl
   · exact (Tr.ag h).elim
 · split at h
   · rw[← Tr.ab h,rf];rfl
   · exact (Tr.ag h).elim
 · rename_i f n;split at h
   · rename_i v;obtain ⟨hv,h⟩:=Tr.aW h;split at h
     · rename_i k z N sz m full hn;obtain ⟨hf,h⟩:=Tr.gp h;rw[s7] at hn;rw[← Tr.ab h,aK];show Row.F _ _=Row.F _ _;congr 1;funext j;simp only[I9,I7,ie];by_cases e:j<n
       · have hb:Nat.blt j n=true:=by rw[Nat.blt_eq];exact e
         rw[hb,if_pos rfl,decide_eq_true e];rw[Ht] at hf;obtain ⟨z',n',m',e'⟩:=hf j;rw[e'];rfl
       · have hb:Nat.blt j n=false:=by
          cases hb:Nat.blt j n with
          | false=>rfl
          | true=>rw[Nat.blt_eq] at hb;exact absurd hb e
         rw[hb,if_neg (by simp),decide_eq_false e];show (if gP v=true then jA v else .undef)=_;rw[if_pos (sF hv),hn];rfl
     · exact (Tr.ag h).elim
   · exact (Tr.ag h).elim
 · exact (Tr.ag h).elim
def Og (x:AV):Bool :=
 match x with
 | .slc _ _ _ _ _ _ (some _)=>true
 | _=>false
def N2 (s:AV):Bool :=
 match s with
 | .nils | .slc .. | .slcT ..=>true
 | _=>false
def rP (P:Program) (e:TypeId) (n:Nat):Bool :=
 match (cU P e).bind AV.row with
 | some z=>Nat.beq (iw z) n
 | none=>false
theorem uf {P:Program} {e:TypeId} {n:Nat} (h:rP P e n=true):((cU P e).bind AV.row).map Row.len=some n:=by
 unfold rP at h;split at h
 · rename_i z hz;rw[fg] at h;have h:=Nat.eq_of_beq_eq_true h;rw[hz,Option.map_some,h]
 · simp at h
def Cg (H:aa) (nx sz m n:Nat) (s:AV) (new:Row):Tr (AV×Delta) :=
 (r6 H sz m s).bind fun old=>(Hx old new).bind fun r=>.ok (.slc 0 nx 0 0 sz (aq m n) none,.push (.row (Ft r)))
def xn (r:Row) (off n:Nat):Tr Row :=
 match r with
 | .M [.arr k z N]=>.req (cj (aq off n) N) (.ok (.M [.arr k (dZ z off) n]))
 | .G l=>cond (Nat.beq (Nat.add off n) (kj l)) (.ok (.G (lF (lB l off) n))) .bad
 | .F f N=>.req (cj (aq off n) N) (.ok (.F (fun j=>f (aq off j)) n))
 | _=>.bad
theorem By {r q:Row} {off n:Nat} (h:(xn r off n).run=some q):off+n=r.len∧r.sub off n=q:=by
 unfold xn at h;split at h
 · rename_i k z N;obtain ⟨hc,h⟩:=Tr.aT h;rw[fJ,decide_eq_true_eq,aK] at hc;refine ⟨by simp only[Row.len,aA,aQ];omega,?_⟩;rw[← Tr.ab h,mD];rfl
 · rename_i l;obtain ⟨hc,h⟩:=Tr.aW h;rw[ev] at hc;have hc:=Nat.eq_of_beq_eq_true hc;exact ⟨hc,by rw[← Tr.ab h,gT,gK];rfl⟩
 · rename_i f N;obtain ⟨hc,h⟩:=Tr.aT h;rw[fJ,decide_eq_true_eq,aK] at hc;refine ⟨hc,?_⟩;rw[← Tr.ab h];simp only[aK];rfl
 · exact (Tr.ag h).elim
def ED (P:Program) (nx:Nat) (e:TypeId) (s x:AV):Tr (AV×Delta) :=
 match P.info? e with
 | some inf=>match s with
   | .nils=>match x with
     | .int _ k=>cond (Nat.blt 0 inf.size) (cond (rP P e inf.size) (.req (CC k k inf.bytes) (.ite (bw k (Int.ofNat 0)) (.ok (.nils,.bz)) (.ok (.slc 0 nx 0 0 inf.size (bX k) none,.push (.row (Ft (.I .i64 []))))))) .bad) .bad
     | _=>.bad
   | _=>.bad
 | none=>.bad
theorem EE {P:Program} {nx:Nat} {e:TypeId} {s x:AV} {y:AV×Delta} (h:(ED P nx e s x).run=some y):EC P true nx e s x=some y:=by
 unfold ED at h;unfold EC;split at h
 · rename_i inf hi;rw[hi];split at h
   · split at h
     · rename_i kk k;obtain ⟨hb,h⟩:=Tr.aW h;obtain ⟨hz,h⟩:=Tr.aW h;obtain ⟨hm,h⟩:=Tr.aT h;rw[A8,decide_eq_true_eq] at hm;dsimp only;rw[if_pos ⟨hm.1,hm.2.2.2,hm.2.2.1,BS hb,uf hz⟩];rcases Tr.kh h with ⟨hc,h⟩ | ⟨hc,h⟩
       · rw[bm,beq_iff_eq] at hc;rw[if_pos (show k=0 from hc),Tr.ab h]
       · rw[bm,beq_eq_false_iff_ne] at hc;rw[if_neg (show ¬ k=0 from hc),← Tr.ab h,wi,jU]
     · exact (Tr.ag h).elim
   · exact (Tr.ag h).elim
 · exact (Tr.ag h).elim
def oE (P:Program) (H:aa) (nx:Nat) (t u:TypeId) (s x:AV):Tr (AV×Delta) :=
 match P.underlying t with
 | some (.slice e)=>match P.underlying u with
   | some (.slice _)=>match P.info? e with
     | some inf=>match nQ s with
       | some m=>match nQ x with
         | some n=>cond (N2 s) (match Og x,n with
           | true,0=>.ok (s,.bz)
           | true,_=>main P H nx e inf s x m n
           | false,_=>.ite (cj n 0) (.ok (s,.bz)) (main P H nx e inf s x m n)) .bad
         | none=>.bad
       | none=>.bad
     | none=>.bad
   | some (.int _)=>ED P nx e s x
   | _=>.bad
 | _=>.bad
where
 main (P : Program) (H:aa) (nx:Nat) (e:TypeId) (inf:TypeInfo) (s x:AV) (m n:Nat):Tr (AV×Delta) :=
  .req (fU m n inf.bytes) (cond (Nat.blt 0 inf.bytes) (cond (rP P e inf.size) ((r6 H inf.size n x).bind fun new =>
   match s with
   | .nils=>.ok (.slc 0 nx 0 0 inf.size n none,.push (.row (Ft new)))
   | .slcT _ _ _ _ full=>.req full (Cg H nx inf.size m n s new)
   | .slc d i v off sz _ (some c)=>.ite (cH c (aq m n)) (Cg H nx inf.size m n s new)
     (cond (jO H d) .bad ((xc H d i v (some 0)).bind fun r=>cond (Nat.beq sz inf.size) (match r with
       | .M l=>match lz (jk d new) with
         | []=>.bad
         | y::ys=>(y8 (aq off (fF m sz)) (some 0) (y::ys) 0 l).bind fun l'=>.ok (.slc d i v off sz (aq m n) (some c),.set d i (v,.row (.M l')))
       | _=>.bad) .bad))
   | .slc d i v off sz _ none=>cond (jO H d) .bad ((xc H d i v (some 0)).bind fun r=>cond (Nat.beq sz inf.size)
     ((xn r off (fF m sz)).bind fun old=>(Hx old (jk d new)).bind fun r'=>.ok (.slc d i (Nat.succ v) 0 sz (aq m n) none,.set d i (Nat.succ v,.row r'))) .bad)
   | _=>.bad) .bad) .bad)
theorem r7 {H:aa} {sz n:Nat} {x:AV} {q:Row} (h:eD H sz n x=some q):q.len=n*sz:=by
 unfold eD at h;split at h
 · split at h
   · rename_i hn;simp only[Option.some.injEq] at h;rw[← h,hn];simp[Row.len]
   · simp at h
 · split at h
   · split at h
     · rename_i hf;simp only[Option.some.injEq] at h;rw[← h,pC,Row.di _ _ _ hf.2.2]
     · simp at h
   · simp at h
 · split at h
   · rename_i hf;simp only[Option.some.injEq] at h;rw[← h];split
     · exact Row.di _ _ _ (by omega)
     · rw[pC,Row.di _ _ _ (by omega)]
   · simp at h
 · simp at h
theorem xZ {H:aa} {nx sz m n:Nat} {s:AV} {new:Row} {y:AV×Delta} (h:(Cg H nx sz m n s new).run=some y):∃ old,eD H sz m s=some old∧y=(.slc 0 nx 0 0 sz (m+n) none,.push (.row (qX true (old.app new)))):=by
 unfold Cg at h;obtain ⟨old,h1,h⟩:=Tr.bind_some h;obtain ⟨r,h2,h⟩:=Tr.bind_some h;refine ⟨old,pK h1,?_⟩;rw[← Tr.ab h,aK,wi,BO h2]
theorem An         {P : Program} {H:aa} {nx:Nat} {t u:TypeId} {s x:AV} {y:AV×Delta} (h:(oE P H nx t u s x).run=some y):oF P true H nx t u s x=some y:=by
 unfold oE at h;unfold oF;split at h
 · rename_i e ht;split at h
   · rename_i e' hu;split at h
     · rename_i inf hi;split at h
       · rename_i m hm;split at h
         · rename_i n hn;obtain ⟨hsl,h⟩:=Tr.aW h;rw[ht,hu];dsimp only;rw[hi,hm,hn];dsimp only;have hcase:(n=0∧(s,Delta.bz)=y)∨(n≠0∧(oE.main P H nx e inf s x m n).run=some y):=by
            cases hx:Og x with
            | true =>
              rw[hx] at h;cases n with
              | zero=>exact .inl ⟨rfl,Tr.ab h⟩
              | succ n=>exact .inr ⟨by omega,h⟩
            | false =>
              rw[hx] at h;rcases Tr.kh h with ⟨hc,h⟩ | ⟨hc,h⟩
              · rw[fJ,decide_eq_true_eq] at hc;exact .inl ⟨hc,Tr.ab h⟩
              · rw[fJ,decide_eq_false_iff_not] at hc;exact .inr ⟨hc,h⟩
           clear h;rcases hcase with ⟨h0,h⟩ | ⟨h0,h⟩
           · rw[if_pos h0];cases s<;>simp[N2] at hsl<;>exact congrArg some h
           rw[if_neg h0];unfold oE.main at h;obtain ⟨hr,h⟩:=Tr.aT h;rw[yS,decide_eq_true_eq] at hr;obtain ⟨hb,h⟩:=Tr.aW h;obtain ⟨hz,h⟩:=Tr.aW h;obtain ⟨new,h1,h⟩:=Tr.bind_some h;have hcv:=pK h1;rw[if_pos ⟨hr.1,hr.2,BS hb,uf hz⟩,hcv];dsimp only;split at h
           · rw[← Tr.ab h,wi]
           · rename_i sT r szT Ip full;obtain ⟨hf,h⟩:=Tr.aT h;obtain ⟨old,h2,rfl⟩:=xZ h;subst hf;dsimp only;rw[h2]
           · rename_i d i v off sz len c _ _ _ _ _;rcases Tr.kh h with ⟨hc,h⟩ | ⟨hc,h⟩
             · rw[ie,decide_eq_true_eq,aK] at hc;obtain ⟨old,h2,rfl⟩:=xZ h;dsimp only;rw[if_pos hc,h2]
             · rw[ie,decide_eq_false_iff_not,aK] at hc;dsimp only;rw[if_neg hc];rw[gh] at h;obtain ⟨hl,h⟩:=Tr.j8 h;obtain ⟨r,h2,h⟩:=Tr.bind_some h;obtain ⟨hs,h⟩:=Tr.aW h;have hs:=Nat.eq_of_beq_eq_true hs;rw[hl,if_neg (by simp),ln h2];dsimp only;split at h
               · rename_i l _;rw[ou] at h;have hcl:=r7 hcv;split at h
                 · exact (Tr.ag h).elim
                 · rename_i y0 ys hy;obtain ⟨l',h3,h⟩:=Tr.bind_some h;obtain ⟨k1,k2⟩:=tL _ _ _ _ h3;rw[aK,cI,Nat.add_zero] at k1 k2;have hlen:=Row.bt (jk d new);rw[hy,fh,hcl] at hlen;have hfit:off+(m+n)*sz≤(Row.M l).len:=by
                    rcases k1 with k1 | k1
                    · simp at k1
                    · rw[hlen,← hs] at k1;rw[Nat.add_mul];show _≤aA l;omega
                   rw[if_pos ⟨hs,hfit⟩,hy,k2,← Tr.ab h,aK]
               · exact (Tr.ag h).elim
           · rename_i d i v off sz len _ _ _ _ _;dsimp only;rw[gh] at h;obtain ⟨hl,h⟩:=Tr.j8 h;obtain ⟨r,h2,h⟩:=Tr.bind_some h;obtain ⟨hs,h⟩:=Tr.aW h;have hs:=Nat.eq_of_beq_eq_true hs;obtain ⟨old,h3,h⟩:=Tr.bind_some h;obtain ⟨r',h4,h⟩:=Tr.bind_some h;obtain ⟨k1,k2⟩:=By h3;rw[cI] at k1 k2;rw[hl,if_neg (by simp),ln h2];dsimp only;rw[if_pos ⟨hs,k1⟩,k2,BO h4,← Tr.ab h,aK]
           · exact (Tr.ag h).elim
         · exact (Tr.ag h).elim
       · exact (Tr.ag h).elim
     · exact (Tr.ag h).elim
   · rename_i k' hu;rw[ht,hu];exact EE h
   · exact (Tr.ag h).elim
 · exact (Tr.ag h).elim

end
end Go.Eng
end
