/- The engine as a tree: slices, numbers, operations. -/
import Derived.Test.YtgphpjdchnfjlaaDoorV6EngTb
set_option linter.unusedVariables false
set_option linter.unusedSimpArgs false
section
namespace Go.Eng
noncomputable section

theorem Tr.aX {α:Type} {c:Bool} {t:Tr α} {x:α} (h:(cond c t .bad).run=some x):c=true∧t.run=some x:=by
 cases c with
 | true=>exact ⟨rfl,h⟩
 | false=>exact (Tr.ah h).elim
def L6 (op:BinOp) (k:IntKind) (x y:Int):Tr AV :=
 match op with
 | .add=>.ok (.int k (bm k x y))
 | .sub=>.ok (.int k (bX k x y))
 | .mul=>.ok (.int k (Bm k x y))
 | .quo=>.req (bF (b9 y 0)) (.ok (.int k (yU k x y)))
 | .rem=>.req (bF (b9 y 0)) (.ok (.int k (qY k x y)))
 | .and=>.ok (.int k (lQ k x y))
 | .or=>.ok (.int k (qd k x y))
 | .xor=>.ok (.int k (Nb k x y))
 | .andNot=>.ok (.int k (HM k x y))
 | .eql=>.ok (.bool (b9 x y))
 | .neq=>.ok (.bool (bF (b9 x y)))
 | .lss=>.ok (.bool (bM x y))
 | .leq=>.ok (.bool (dp x y))
 | .gtr=>.ok (.bool (bM y x))
 | .geq=>.ok (.bool (dp y x))
 | _=>.bad
theorem Iz {op:BinOp} {k:IntKind} {x y:Int} {v:AV} (h:(L6 op k x y).run=some v):ij op k x y=some v:=by
 unfold L6 at h;unfold ij;cases op<;>dsimp only at h ⊢<;>try exact (Tr.ah h).elim
 case quo =>
  obtain ⟨hc,h⟩:=Tr.aU h
  rw[ar,aE] at hc
  have:¬ y=0:=by simpa using hc
  rw[if_neg this,← Tr.ae h,w7]
 case rem =>
  obtain ⟨hc,h⟩:=Tr.aU h
  rw[ar,aE] at hc
  have:¬ y=0:=by simpa using hc
  rw[if_neg this,← Tr.ae h,rH]
 all_goals
  have h:=Tr.ae h
  subst h
  first
   | rfl
   | (simp only[gt_iff_lt,ge_iff_le,fM,ep,pc,ov,tu,xu,rU,aE,ar,bx,bh,bne];done)
   | (simp only[fM,ep,pc,ov,tu,xu,rU,aE,ar,bx,bh];done)
   | (simp only[fM,ep,pc,ov,tu,xu,rU,aE,ar,bx,bh];rfl)
def iD:List Int→List Int→Bool
 | [],[]=>true
 | [x],[y]=>b9 x y
 | x::x'::a,y::y'::b=>bV (b9 x y) (iD (x'::a) (y'::b))
 | _,_=>false
theorem sQ:∀ (l m:List Int),iD l m=eY l m
 | [],[]=>rfl
 | [],_::_=>by simp[iD,eY]
 | _::_,[]=>by simp[iD,eY]
 | [x],[y]=>by simp[iD,eY,aE]
 | [x],y::y'::b=>by simp[iD,eY]
 | x::x'::a,[y]=>by simp[iD,eY]
 | x::x'::a,y::y'::b=>by
   simp only[iD];rw[bZ,aE,sQ (x'::a) (y'::b)];rfl
def yh (r:Row):Option (IntKind×(Nat→Int)) :=
 match r with
 | .I k l=>some (k,aI l)
 | .M [.arr k z _]=>some (k,z)
 | _=>none
theorem sK (r:Row):yh r=r.ints:=by
 match r with
 | .I k l=>simp only[yh,Row.ints,kX]
 | .G l=>rfl
 | .F f n=>rfl
 | .M []=>rfl
 | .M [.arr k z n]=>rfl
 | .M (.one v::r)=>rfl
 | .M (.arr k z n::s::r)=>rfl
def Nj (P:Program) (t:TypeId) (x y:AV):Tr Bool :=
 match x,y with
 | .bool a,.bool b=>match P.underlying t with
   | some .bool=>.ok (LH a b)
   | _=>.bad
 | .nils,.slcT s r sz n f=>match P.underlying t with
   | some (.slice _)=>.req (cK 0 n) (.ok false)
   | _=>.bad
 | .slcT s r sz n f,.nils=>match P.underlying t with
   | some (.slice _)=>.req (cK 0 n) (.ok false)
   | _=>.bad
 | .agg (.I k a),.agg (.I k' b)=>cond (gQ k k') (match cr P 20 t with
   | some n=>match fc P t with
     | some true=>cond (Nat.beq n (kj a)) (cond (Nat.beq (kj a) (kj b)) (.ok (iD a b)) .bad) .bad
     | _=>.bad
   | none=>.bad) .bad
 | .agg (.M l),.agg s=>eqMT P t (.M l) s
 | .agg (.I k a),.agg (.M l)=>eqMT P t (.I k a) (.M l)
 | x,y=>vG (Aw P t x y)
where
 eqMT (P:Program) (t:TypeId) (r s:Row):Tr Bool :=
  match yh r,yh s with
  | some (k,z),some (k',z')=>cond (gQ k k') (match cr P 20 t with
    | some n=>match fc P t with
      | some true=>cond (Nat.beq n (iw r)) (cond (Nat.beq (iw r) (iw s)) (.ok (lP z z' (iw r))) .bad) .bad
      | _=>.bad
    | none=>.bad) .bad
  | _,_=>.bad
theorem Ck {P:Program} {t:TypeId} {r s:Row} {b:Bool} (h:(Nj.eqMT P t r s).run=some b):Ni P t r s=some b:=by
 unfold Nj.eqMT at h;rw[sK,sK] at h;unfold Ni;split at h
 · rename_i k z k' z' h1 h2;rw[h1,h2];obtain ⟨hk,h⟩:=Tr.aX h;rw[fg,decide_eq_true_eq] at hk;split at h
   · rename_i n hn;split at h
     · rename_i ha;obtain ⟨e1,h⟩:=Tr.aX h;obtain ⟨e2,h⟩:=Tr.aX h;rw[fi] at e1 e2 h;rw[fi] at e2;have e1:n=r.len:=by simpa using e1
       have e2:r.len=s.len:=by simpa using e2
       dsimp only;rw[if_pos ⟨hk,by rw[hn,e1],ha,e2⟩,← Tr.ae h,uZ]
     · exact (Tr.ah h).elim
   · exact (Tr.ah h).elim
 · exact (Tr.ah h).elim
theorem FK {P:Program} {t:TypeId} {x y:AV} {b:Bool} (h:(Nj P t x y).run=some b):Aw P t x y=some b:=by
 unfold Nj at h;split at h
 · split at h
   · rename_i hu;unfold Aw;dsimp only;rw[hu,← Tr.ae h,AO]
   · exact (Tr.ah h).elim
 · split at h
   · rename_i hu;obtain ⟨hc,h⟩:=Tr.aU h;rw[ik,decide_eq_true_eq] at hc;unfold Aw;dsimp only;rw[hu];dsimp only;rw[if_pos hc,Tr.ae h]
   · exact (Tr.ah h).elim
 · split at h
   · rename_i hu;obtain ⟨hc,h⟩:=Tr.aU h;rw[ik,decide_eq_true_eq] at hc;unfold Aw;dsimp only;rw[hu];dsimp only;rw[if_pos hc,Tr.ae h]
   · exact (Tr.ah h).elim
 · obtain ⟨hk,h⟩:=Tr.aX h;rw[fg,decide_eq_true_eq] at hk;split at h
   · rename_i n hn;split at h
     · rename_i ha;obtain ⟨e1,h⟩:=Tr.aX h;obtain ⟨e2,h⟩:=Tr.aX h;rw[eh] at e1 e2;rw[eh] at e2;have e1:=Nat.eq_of_beq_eq_true e1;have e2:=Nat.eq_of_beq_eq_true e2;unfold Aw;dsimp only;rw[if_pos ⟨hk,by rw[hn,e1],ha,e2⟩,← Tr.ae h,sQ]
     · exact (Tr.ah h).elim
   · exact (Tr.ah h).elim
 · unfold Aw;exact Ck h
 · unfold Aw;exact Ck h
 · rw[dg] at h;exact h
def Fh (P:Program) (op:BinOp) (t:TypeId) (x y:AV):Tr AV :=
 match x,y with
 | .int k a,.int k' b=>match op with
   | .shl=>.req (dp 0 b) (.ok (.int k (cI k a b)))
   | .shr=>.req (dp 0 b) (.ok (.int k (zo k a b)))
   | op=>cond (gQ k k') (L6 op k a b) .bad
 | x,y=>match op with
   | .eql=>(Nj P t x y).bind fun b=>.ok (.bool b)
   | .neq=>(Nj P t x y).bind fun b=>.ok (.bool (bF b))
   | _=>.bad
theorem HW {P:Program} {op:BinOp} {t:TypeId} {x y v:AV} (h:(Fh P op t x y).run=some v):j5 P op t x y=some v:=by
 unfold Fh at h;split at h
 · rename_i k a k' b;split at h
   · obtain ⟨hc,h⟩:=Tr.aU h;rw[bh,decide_eq_true_eq] at hc;unfold j5;dsimp only;rw[if_neg wO,← Tr.ae h,rK]
   · obtain ⟨hc,h⟩:=Tr.aU h;rw[bh,decide_eq_true_eq] at hc;unfold j5;dsimp only;rw[if_neg wO,← Tr.ae h,Dm]
   · rename_i h1 h2;obtain ⟨hk,h⟩:=Tr.aX h;rw[fg,decide_eq_true_eq] at hk;have:j5 P op t (.int k a) (.int k' b)=if k=k' then ij op k a b else none:=by
      unfold j5;cases op<;>first | rfl | exact (h1 rfl).elim | exact (h2 rfl).elim
     rw[this,if_pos hk];exact Iz h
 · rename_i hn;split at h
   · obtain ⟨b,h1,h⟩:=Tr.bind_some h;have h2:=FK h1;have:j5 P .eql t x y=(Aw P t x y).map .bool:=by
      unfold j5;cases x<;>cases y<;>first | rfl | exact (hn _ _ _ _ rfl rfl).elim
     rw[this,h2,← Tr.ae h];rfl
   · obtain ⟨b,h1,h⟩:=Tr.bind_some h;have h2:=FK h1;have:j5 P .neq t x y=(Aw P t x y).map fun b=>.bool (!b):=by
      unfold j5;cases x<;>cases y<;>first | rfl | exact (hn _ _ _ _ rfl rfl).elim
     rw[this,h2,← Tr.ae h,ar];rfl
   · exact (Tr.ah h).elim
def Tt (op:UnOp) (x:AV):Tr AV :=
 match op,x with
 | .not,.bool b=>.ok (.bool (bF b))
 | .neg,.int k n=>.ok (.int k (Gu k n))
 | _,_=>.bad
theorem M7 {op:UnOp} {x v:AV} (h:(Tt op x).run=some v):P1 op x=some v:=by
 unfold Tt at h;split at h
 · rw[← Tr.ae h,ar];rfl
 · rw[← Tr.ae h,CR];rfl
 · exact (Tr.ah h).elim
def pb (mx:Bool) (k:IntKind) (x:Int):List AV→Tr AV
 | []=>.ok (.int k x)
 | v::r=>match v with
   | .int k' y=>cond (gQ k k') (pb mx k (cond mx (uM x y) (yD x y)) r) .bad
   | _=>.bad
theorem nR {mx:Bool} {k:IntKind}:∀ (l:List AV) (x:Int) (v:AV),(pb mx k x l).run=some v→eJ mx k x l=some v
 | [],x,v,h=>by rw[← Tr.ae h];rfl
 | u :: r,x,v,h=>by
   simp only[pb] at h;split at h
   · rename_i k' y;obtain ⟨hk,h⟩:=Tr.aX h;rw[fg,decide_eq_true_eq] at hk;simp only[eJ];rw[if_pos hk,← nR r _ v h,ry,rz];cases mx<;>rfl
   · exact (Tr.ah h).elim

def fK (a sz:Nat):Nat :=
 match sz with
 | 1=>a
 | s=>cG a s
theorem cP (a sz:Nat):fK a sz=a*sz:=by
 unfold fK;split
 · rw[Nat.mul_one]
 · rw[rA]
abbrev Ty:=Option Nat×Nat×Option Nat
def mL (lo hi mx:Option AV) (len:Nat):Tr Ty :=
 match mx with
 | none=>(match hi with
    | none=>.ok len
    | some (.int _ i)=>.req (kH i len) (.ok (bY i))
    | some _=>.bad:Tr Nat).bind fun h=>(match lo with
    | none=>.ok (none,h,none)
    | some (.int _ i)=>.req (kH i h) (.ok (some (bY i),h,none))
    | some _=>.bad)
 | some (.int _ m)=>.req (kH m len) (match hi with
    | some (.int _ i)=>.req (kH i (bY m)) (match lo with
      | none=>.ok (none,bY i,some (bY m))
      | some (.int _ j)=>.req (kH j (bY i)) (.ok (some (bY j),bY i,some (bY m)))
      | some _=>.bad)
    | _=>.bad)
 | some _=>.bad
def CJ (l:Option Nat):Nat :=
 match l with
 | none=>0
 | some l=>l
theorem gL {i:Int} {k:IntKind} {d top:Nat} (h:kH i top=true):bound (some (.int k i)) d top=some (bY i):=by
 rw[Cc,decide_eq_true_eq] at h;simp only[bound];rw[if_pos h,jV]
theorem kJ {lo hi mx:Option AV} {len:Nat} {b:Ty} (h:(mL lo hi mx len).run=some b):dZ lo hi mx len=some (CJ b.1,b.2.1,b.2.2):=by
 unfold mL at h;unfold dZ;split at h
 · obtain ⟨h',h1,h⟩:=Tr.bind_some h;have e1:bound hi len len=some h':=by
    split at h1
    · rw[← Tr.ae h1];rfl
    · obtain ⟨hc,h1⟩:=Tr.aU h1;rw[gL hc,Tr.ae h1]
    · exact (Tr.ah h1).elim
   dsimp only;rw[e1];dsimp only;split at h
   · rw[← Tr.ae h];rfl
   · obtain ⟨hc,h⟩:=Tr.aU h;rw[gL hc,← Tr.ae h];rfl
   · exact (Tr.ah h).elim
 · rename_i k m;obtain ⟨hm,h⟩:=Tr.aU h;dsimp only;rw[gL hm];dsimp only;split at h
   · rename_i k' i;obtain ⟨hi,h⟩:=Tr.aU h;simp only[Option.isSome_some,if_true];rw[gL hi];dsimp only;split at h
     · rw[← Tr.ae h];rfl
     · obtain ⟨hc,h⟩:=Tr.aU h;rw[gL hc,← Tr.ae h];rfl
     · exact (Tr.ah h).elim
   · exact (Tr.ah h).elim
 · exact (Tr.ah h).elim
def xm (a:Nat) (l:Option Nat):Nat :=
 match l with
 | none=>a
 | some l=>cq a l
theorem mZ (a:Nat) (l:Option Nat):xm a l=a-CJ l:=by
 cases l with
 | none=>rfl
 | some l=>exact dD a l
def EU (off:Nat) (l:Option Nat) (sz:Nat):Nat :=
 match l with
 | none=>off
 | some l=>au off (fK l sz)
theorem B0 (off:Nat) (l:Option Nat) (sz:Nat):EU off l sz=off+CJ l*sz:=by
 cases l with
 | none=>simp[EU,CJ]
 | some l=>simp only[EU,CJ,aM,cP]
def Dp (r:Row) (l:Option Nat) (sz n:Nat):Tr Row :=
 match r with
 | .M [.arr k z N]=>.req (fp (au (fK (CJ l) sz) n) N) (.ok (.M [.arr k (match l with | none=>z | some l=>rJ z (fK l sz)) n]))
 | .F f N=>.req (fp (au (fK (CJ l) sz) n) N) (.ok (.F (match l with | none=>f | some l=>fun j=>f (au (fK l sz) j)) n))
 | _=>.bad
theorem zw {r q:Row} {l:Option Nat} {sz n:Nat} (h:(Dp r l sz n).run=some q):CJ l*sz+n≤r.len∧r.sub (CJ l*sz) n=q:=by
 unfold Dp at h;split at h
 · rename_i k z N;obtain ⟨hc,h⟩:=Tr.aU h;rw[kV,decide_eq_true_eq,aM,cP] at hc;refine ⟨by simp only[Row.len,aA,aT];omega,?_⟩;rw[← Tr.ae h];cases l with
   | none=>simp only[Row.sub,CJ,Nat.zero_mul,Nat.zero_add]
   | some l=>simp only[Row.sub,CJ,mG,cP]
 · rename_i f N;obtain ⟨hc,h⟩:=Tr.aU h;rw[kV,decide_eq_true_eq,aM,cP] at hc;refine ⟨by simp only[Row.len];omega,?_⟩;rw[← Tr.ae h];cases l with
   | none=>simp only[Row.sub,CJ,Nat.zero_mul,Nat.zero_add]
   | some l=>simp only[Row.sub,CJ,aM,cP]
 · exact (Tr.ah h).elim
def QE (o:Option AV):Bool :=
 match o with
 | none=>true
 | some _=>false
def FW (mm:Option Nat) (full hiN:Bool) (h len:Nat):Bool :=
 match mm with
 | none=>cond hiN full (bV full (cg h len))
 | some m=>cg h m
def BG (P:Program) (t:TypeId) (x:AV) (lo hi mx:Option AV):Tr AV :=
 match P.underlying t with
 | some (.slice e)=>match bD P e with
   | some z=>match x with
     | .slc d j v off sz len cap=>cond (Nat.beq z sz) ((mL lo hi mx len).bind fun b=>.ok (.slc d j v (EU off b.1 sz) sz (xm b.2.1 b.1) (match b.2.2 with
       | none=>match cap with | none=>none | some c=>some (xm c b.1)
       | some m=>some (xm m b.1)))) .bad
     | .slcT s r sz len full=>cond (Nat.beq z sz) ((mL lo hi mx len).bind fun b=>(Dp r b.1 sz (fK (xm b.2.1 b.1) sz)).bind fun q=>.ok (.slcT s q sz (xm b.2.1 b.1) (FW b.2.2 full (QE hi) b.2.1 len))) .bad
     | .nils=>(mL lo hi mx 0).bind fun _=>.ok .nils
     | _=>.bad
   | none=>.bad
 | some (.array n e)=>match bD P e with
   | some sz=>match x with
     | .ptr d j v off=>(mL lo hi mx n).bind fun b=>.ok (.slc d j v (EU off b.1 sz) sz (xm b.2.1 b.1) (match b.2.2 with
       | none=>some (xm n b.1)
       | some m=>some (xm m b.1)))
     | _=>.bad
   | none=>.bad
 | _=>.bad
theorem Ew {P:Program} {t:TypeId} {x v:AV} {lo hi mx:Option AV} (h:(BG P t x lo hi mx).run=some v):qi P t x lo hi mx=some v:=by
 unfold BG at h;unfold qi;split at h
 · rename_i e hu;split at h
   · rename_i z hs;split at h
     · rename_i d j ver off sz len cap;obtain ⟨hz,h⟩:=Tr.aX h;have hz:z=sz:=by simpa using hz
       subst hz;obtain ⟨b,h1,h⟩:=Tr.bind_some h;rw[hu];dsimp only;rw[kJ h1];dsimp only;rw[if_pos hs,← Tr.ae h,B0,mZ];obtain ⟨b1,b2,b3⟩:=b;cases b3<;>cases cap<;>simp only[mZ,Option.map_some,Option.map_none]
     · rename_i s r sz len full;obtain ⟨hz,h⟩:=Tr.aX h;have hz:z=sz:=by simpa using hz
       subst hz;obtain ⟨b,h1,h⟩:=Tr.bind_some h;obtain ⟨q,h2,h⟩:=Tr.bind_some h;rw[hu];dsimp only;have hb:=kJ h1;rw[hb];dsimp only;obtain ⟨k1,k2⟩:=zw h2;rw[cP,mZ] at k1 k2;rw[if_pos ⟨hs,k1⟩,k2,← Tr.ae h,mZ];congr 2;obtain ⟨b1,b2,b3⟩:=b;dsimp only at hb ⊢;cases b3 with
       | some m=>simp only[FW,ft];rw[Bool.eq_iff_iff];simp
       | none =>
         simp only[FW];cases hi with
         | some a =>
           simp only[QE,cond_false,bZ,ft];congr 1;rw[Bool.eq_iff_iff];simp
         | none =>
           simp only[QE,cond_true];have:b2=len:=by
            unfold dZ at hb;cases mx with
            | none =>
              dsimp only[bound] at hb;split at hb
              · simp only[nP] at hb;exact hb.2.1.symm
              · simp at hb
            | some a =>
              dsimp only at hb;split at hb
              · simp at hb
              · simp at hb
           rw[this];simp
     · obtain ⟨b,h1,h⟩:=Tr.bind_some h;rw[hu];dsimp only;rw[kJ h1,hs,← Tr.ae h]
     · exact (Tr.ah h).elim
   · exact (Tr.ah h).elim
 · rename_i n e hu;split at h
   · rename_i sz hs;split at h
     · rename_i d j ver off;obtain ⟨b,h1,h⟩:=Tr.bind_some h;rw[hu];dsimp only;rw[kJ h1];dsimp only;rw[hs,← Tr.ae h,B0,mZ];obtain ⟨b1,b2,b3⟩:=b;cases b3<;>simp only[mZ]
     · exact (Tr.ah h).elim
   · exact (Tr.ah h).elim
 · exact (Tr.ah h).elim

def r8 (H:ab) (sz n:Nat) (x:AV):Tr Row :=
 match x with
 | .slc d i v off sz' len cap=>(xe H d i v (some 0)).bind fun r=>cond (Nat.beq sz' sz) (.req (fp n len) (match r with
    | .M [.arr k z N]=>.req (eD off (fK n sz) 0 N) (.ok (.M [.arr k (rJ z off) (fK n sz)]))
    | .I k l=>cond (uC (.I k l) off (Nat.mul n sz)) (.ok (BR d (Row.I k (lH (lB l off) (Nat.mul n sz))))) .bad
    | .G l=>cond (uC (.G l) off (Nat.mul n sz)) (.ok (BR d (Row.G (lH (lB l off) (Nat.mul n sz))))) .bad
    | .F f N=>.req (eD off (fK n sz) 0 N) (.ok (.F (fun j=>f (au off j)) (fK n sz)))
    | _=>.bad)) .bad
 | .slcT s r sz' len _=>cond (Nat.beq sz' sz) (.req (fp n len) ((Dp r none sz (fK n sz)).bind fun q=>.ok (match s with | none=>q | some k=>BR k q))) .bad
 | _=>.bad
theorem PL (d:Nat) (k:IntKind) (z:Nat→Int) (n:Nat):BR d (.M [.arr k z n])=.M [.arr k z n]:=by cases d<;>rfl
theorem PK (d:Nat) (f:Nat→AV) (n:Nat):BR d (.F f n)=.F f n:=by cases d<;>rfl
theorem pG {H:ab} {sz n:Nat} {x:AV} {q:Row} (h:(r8 H sz n x).run=some q):eF H sz n x=some q:=by
 unfold r8 at h;split at h
 · rename_i d i v off sz' len cap;obtain ⟨r,h1,h⟩:=Tr.bind_some h;obtain ⟨hz,h⟩:=Tr.aX h;have hz:sz'=sz:=by simpa using hz
   obtain ⟨hc,h⟩:=Tr.aU h;rw[kV,decide_eq_true_eq] at hc;unfold eF;dsimp only;rw[lq h1];dsimp only;split at h
   · rename_i k z N;obtain ⟨hc2,h⟩:=Tr.aU h;rw[jQ,decide_eq_true_eq,cP] at hc2;rw[if_pos ⟨hz,hc,by simp only[Row.len,aA,aT];omega⟩,← Tr.ae h];simp only[Row.sub,PL,mG,cP]
   · rename_i k l;obtain ⟨hc2,h⟩:=Tr.aX h;rw[kN,decide_eq_true_eq] at hc2;rw[if_pos ⟨hz,hc,hc2⟩,← Tr.ae h,hJ,gP];rfl
   · rename_i l;obtain ⟨hc2,h⟩:=Tr.aX h;rw[kN,decide_eq_true_eq] at hc2;rw[if_pos ⟨hz,hc,hc2⟩,← Tr.ae h,hJ,gP];rfl
   · rename_i f N;obtain ⟨hc2,h⟩:=Tr.aU h;rw[jQ,decide_eq_true_eq,cP] at hc2;rw[if_pos ⟨hz,hc,by simp only[Row.len];omega⟩,← Tr.ae h];simp only[Row.sub,PK,aM,cP]
   · exact (Tr.ah h).elim
 · rename_i s r sz' len full;obtain ⟨hz,h⟩:=Tr.aX h;have hz:sz'=sz:=by simpa using hz
   obtain ⟨hc,h⟩:=Tr.aU h;rw[kV,decide_eq_true_eq] at hc;obtain ⟨q',h1,h⟩:=Tr.bind_some h;obtain ⟨k1,k2⟩:=zw h1;rw[cP] at k1 k2;simp only[CJ,Nat.zero_mul,Nat.zero_add] at k1 k2;unfold eF;dsimp only;rw[if_pos ⟨hz,hc,k1⟩,← Tr.ae h,k2];cases s<;>rfl
 · exact (Tr.ah h).elim

end
end Go.Eng
end
section
namespace Go.Eng
noncomputable section

theorem Tr.j7 {α:Type} {c:Bool} {t:Tr α} {x:α} (h:(cond c .bad t).run=some x):c=false∧t.run=some x:=by
 cases c with
 | false=>exact ⟨rfl,h⟩
 | true=>exact (Tr.ah h).elim

def vC:AV→AV
 | .slcT none (.I k l) sz m _=>.slcT none (.M [.arr k (aI l) (kj l)]) sz m false
 | .slcT none (.M [.arr k z n]) sz m _=>.slcT none (.M [.arr k z n]) sz m false
 | v=>v
theorem tg (v:AV):vC v=jC v:=by
 unfold vC jC;split
 · simp only[kX,eh]
 · rfl
 · rename_i h1 h2;split
   · exact absurd rfl (h1 _ _ _ _ _)
   · exact absurd rfl (h2 _ _ _ _ _ _)
   · rfl
def FP (r:Row):Row :=
 match r with
 | .I k l=>.M [.arr k (aI l) (kj l)]
 | .G [v]=>cond (qC v) (.F (fun _=>vC v) 1) (.G [v])
 | r=>r
theorem wh (r:Row):FP r=qU true r:=by
 cases r with
 | I k l=>simp only[FP,qU,if_true,kX,eh]
 | F f n=>rfl
 | M l=>rfl
 | G l =>
   match l with
   | []=>rfl
   | [v] =>
     show cond (qC v) (Row.F (fun _=>vC v) 1) (Row.G [v])=if (true && qC v)=true then Row.F (fun _=>jC v) 1 else Row.G [v]
     rw[tg];cases qC v<;>rfl
   | a::b::r=>rfl
def XM:AV→Nat→Int
 | .slcT _ (.M [.arr _ z _]) _ _ _=>z
 | _=>fun _=>0
def WU:AV→Nat
 | .slcT _ (.M [.arr _ _ n]) _ _ _=>n
 | _=>0
def WS:AV→Nat
 | .slcT _ _ _ m _=>m
 | _=>0
def HP (r s:Row):Tr Row :=
 match r with
 | .M [.arr k z n]=>match yh s with
   | some (k',z')=>cond (gQ k' k) (.ok (.M [.arr k (rV z n z') (au n (iw s))])) .bad
   | none=>.bad
 | .I k l=>match s with
   | .I k' l'=>cond (gQ k' k) (.ok (.I k (qR l l'))) .bad
   | .M [.arr k' z' n']=>cond (gQ k' k) (.ok (.M [.arr k (rV (aI l) (kj l) z') (au (kj l) n')])) .bad
   | _=>.bad
 | .G l=>match s with
   | .G l'=>.ok (.G (qR l l'))
   | _=>.bad
 | .F f n=>match s with
   | .G [v]=>cond (qC v) (match vC v with
     | .slcT none (.M [.arr k z N]) sz m full=>.reqP (Lm f k sz full)
       (.ok (.F (fun j=>.slcT none (.M [.arr k (MK (cK j n) (XM (f j)) z) (Jp (cK j n) (WU (f j)) N)]) sz (Jp (cK j n) (WS (f j)) m) full) (au n 1)))
     | _=>.bad) .bad
   | _=>.bad
 | _=>.bad
theorem B5 {r s q:Row} (h:(HP r s).run=some q):r.app s=q:=by
 unfold HP at h;split at h
 · rename_i k z n;rw[sK] at h;split at h
   · rename_i k' z' hi;obtain ⟨hk,h⟩:=Tr.aX h;rw[fg,decide_eq_true_eq] at hk;have e:Row.app (.M [.arr k z n]) s=(match (Row.M [.arr k z n]).uw s with | some q=>q | none=>.G ((Row.M [.arr k z n]).toList++s.toList)):=by
      cases s<;>rfl
     rw[e];unfold Row.uw;rw[hi];dsimp only[Row.ints];rw[if_pos hk,← Tr.ae h,q9,aM,fi];rfl
   · exact (Tr.ah h).elim
 · rename_i k l;split at h
   · rename_i k' l';obtain ⟨hk,h⟩:=Tr.aX h;rw[fg,decide_eq_true_eq] at hk;simp only[Row.app];rw[if_pos hk,← Tr.ae h,ra]
   · rename_i k' z' n';obtain ⟨hk,h⟩:=Tr.aX h;rw[fg,decide_eq_true_eq] at hk;simp only[Row.app];unfold Row.uw;dsimp only[Row.ints];rw[if_pos hk,← Tr.ae h,q9,aM,eh,kX];rfl
   · exact (Tr.ah h).elim
 · split at h
   · rw[← Tr.ae h,ra];rfl
   · exact (Tr.ah h).elim
 · rename_i f n;split at h
   · rename_i v;obtain ⟨hv,h⟩:=Tr.aX h;split at h
     · rename_i k z N sz m full hn;obtain ⟨hf,h⟩:=Tr.gv h;rw[tg] at hn;rw[← Tr.ae h,aM];show Row.F _ _=Row.F _ _;congr 1;funext j;simp only[Js,Jq,ik];by_cases e:j<n
       · have hb:Nat.blt j n=true:=by rw[Nat.blt_eq];exact e
         rw[hb,if_pos rfl,decide_eq_true e];rw[HK] at hf;obtain ⟨z',n',m',e'⟩:=hf j;rw[e'];rfl
       · have hb:Nat.blt j n=false:=by
          cases hb:Nat.blt j n with
          | false=>rfl
          | true=>rw[Nat.blt_eq] at hb;exact absurd hb e
         rw[hb,if_neg (by simp),decide_eq_false e];show (if gV v=true then jC v else .undef)=_;rw[if_pos (sL hv),hn];rfl
     · exact (Tr.ah h).elim
   · exact (Tr.ah h).elim
 · exact (Tr.ah h).elim
def Oz (x:AV):Bool :=
 match x with
 | .slc _ _ _ _ _ _ (some _)=>true
 | _=>false
def Oi (s:AV):Bool :=
 match s with
 | .nils | .slc .. | .slcT ..=>true
 | _=>false
def rP (P:Program) (e:TypeId) (n:Nat):Bool :=
 match (c7 P e).bind AV.row with
 | some z=>Nat.beq (iw z) n
 | none=>false
theorem uj {P:Program} {e:TypeId} {n:Nat} (h:rP P e n=true):((c7 P e).bind AV.row).map Row.len=some n:=by
 unfold rP at h;split at h
 · rename_i z hz;rw[fi] at h;have h:=Nat.eq_of_beq_eq_true h;rw[hz,Option.map_some,h]
 · simp at h
def Cu (H:ab) (nx sz m n:Nat) (s:AV) (new:Row):Tr (AV×Delta) :=
 (r8 H sz m s).bind fun old=>(HP old new).bind fun r=>.ok (.slc 0 nx 0 0 sz (au m n) none,.push (.row (FP r)))
def xn (r:Row) (off n:Nat):Tr Row :=
 match r with
 | .M [.arr k z N]=>.req (cg (au off n) N) (.ok (.M [.arr k (rJ z off) n]))
 | .G l=>cond (Nat.beq (Nat.add off n) (kj l)) (.ok (.G (lH (lB l off) n))) .bad
 | .F f N=>.req (cg (au off n) N) (.ok (.F (fun j=>f (au off j)) n))
 | _=>.bad
theorem BO {r q:Row} {off n:Nat} (h:(xn r off n).run=some q):off+n=r.len∧r.sub off n=q:=by
 unfold xn at h;split at h
 · rename_i k z N;obtain ⟨hc,h⟩:=Tr.aU h;rw[ft,decide_eq_true_eq,aM] at hc;refine ⟨by simp only[Row.len,aA,aT];omega,?_⟩;rw[← Tr.ae h,mG];rfl
 · rename_i l;obtain ⟨hc,h⟩:=Tr.aX h;rw[eh] at hc;have hc:=Nat.eq_of_beq_eq_true hc;exact ⟨hc,by rw[← Tr.ae h,hJ,gP];rfl⟩
 · rename_i f N;obtain ⟨hc,h⟩:=Tr.aU h;rw[ft,decide_eq_true_eq,aM] at hc;refine ⟨hc,?_⟩;rw[← Tr.ae h];simp only[aM];rfl
 · exact (Tr.ah h).elim
def EY (P:Program) (nx:Nat) (e:TypeId) (s x:AV):Tr (AV×Delta) :=
 match P.info? e with
 | some inf=>match s with
   | .nils=>match x with
     | .int _ k=>cond (Nat.blt 0 inf.size) (cond (rP P e inf.size) (.req (Ec k k inf.bytes) (.ite (b9 k (Int.ofNat 0)) (.ok (.nils,.bC)) (.ok (.slc 0 nx 0 0 inf.size (bY k) none,.push (.row (FP (.I .i64 []))))))) .bad) .bad
     | _=>.bad
   | _=>.bad
 | none=>.bad
theorem EZ {P:Program} {nx:Nat} {e:TypeId} {s x:AV} {y:AV×Delta} (h:(EY P nx e s x).run=some y):EX P true nx e s x=some y:=by
 unfold EY at h;unfold EX;split at h
 · rename_i inf hi;rw[hi];split at h
   · split at h
     · rename_i kk k;obtain ⟨hb,h⟩:=Tr.aX h;obtain ⟨hz,h⟩:=Tr.aX h;obtain ⟨hm,h⟩:=Tr.aU h;rw[wH,decide_eq_true_eq] at hm;dsimp only;rw[if_pos ⟨hm.1,hm.2.2.2,hm.2.2.1,Cb hb,uj hz⟩];rcases Tr.kh h with ⟨hc,h⟩ | ⟨hc,h⟩
       · rw[aE,beq_iff_eq] at hc;rw[if_pos (show k=0 from hc),Tr.ae h]
       · rw[aE,beq_eq_false_iff_ne] at hc;rw[if_neg (show ¬ k=0 from hc),← Tr.ae h,wh,jV]
     · exact (Tr.ah h).elim
   · exact (Tr.ah h).elim
 · exact (Tr.ah h).elim
def oz (P:Program) (H:ab) (nx:Nat) (t u:TypeId) (s x:AV):Tr (AV×Delta) :=
 match P.underlying t with
 | some (.slice e)=>match P.underlying u with
   | some (.slice _)=>match P.info? e with
     | some inf=>match nJ s with
       | some m=>match nJ x with
         | some n=>cond (Oi s) (match Oz x,n with
           | true,0=>.ok (s,.bC)
           | true,_=>main P H nx e inf s x m n
           | false,_=>.ite (cg n 0) (.ok (s,.bC)) (main P H nx e inf s x m n)) .bad
         | none=>.bad
       | none=>.bad
     | none=>.bad
   | some (.int _)=>EY P nx e s x
   | _=>.bad
 | _=>.bad
where
 main (P : Program) (H:ab) (nx:Nat) (e:TypeId) (inf:TypeInfo) (s x:AV) (m n:Nat):Tr (AV×Delta) :=
  .req (ji m n inf.bytes) (cond (Nat.blt 0 inf.bytes) (cond (rP P e inf.size) ((r8 H inf.size n x).bind fun new =>
   match s with
   | .nils=>.ok (.slc 0 nx 0 0 inf.size n none,.push (.row (FP new)))
   | .slcT _ _ _ _ full=>.req full (Cu H nx inf.size m n s new)
   | .slc d i v off sz _ (some c)=>.ite (cK c (au m n)) (Cu H nx inf.size m n s new)
     (cond (jP H d) .bad ((xe H d i v (some 0)).bind fun r=>cond (Nat.beq sz inf.size) (match r with
       | .M l=>match ly (jq d new) with
         | []=>.bad
         | y::ys=>(zk (au off (fK m sz)) (some 0) (y::ys) 0 l).bind fun l'=>.ok (.slc d i v off sz (au m n) (some c),.set d i (v,.row (.M l')))
       | _=>.bad) .bad))
   | .slc d i v off sz _ none=>cond (jP H d) .bad ((xe H d i v (some 0)).bind fun r=>cond (Nat.beq sz inf.size)
     ((xn r off (fK m sz)).bind fun old=>(HP old (jq d new)).bind fun r'=>.ok (.slc d i (Nat.succ v) 0 sz (au m n) none,.set d i (Nat.succ v,.row r'))) .bad)
   | _=>.bad) .bad) .bad)
theorem r9 {H:ab} {sz n:Nat} {x:AV} {q:Row} (h:eF H sz n x=some q):q.len=n*sz:=by
 unfold eF at h;split at h
 · split at h
   · rename_i hn;simp only[Option.some.injEq] at h;rw[← h,hn];simp[Row.len]
   · simp at h
 · split at h
   · split at h
     · rename_i hf;simp only[Option.some.injEq] at h;rw[← h,pw,Row.dx _ _ _ hf.2.2]
     · simp at h
   · simp at h
 · split at h
   · rename_i hf;simp only[Option.some.injEq] at h;rw[← h];split
     · exact Row.dx _ _ _ wO
     · rw[pw,Row.dx _ _ _ wO]
   · simp at h
 · simp at h
theorem x6 {H:ab} {nx sz m n:Nat} {s:AV} {new:Row} {y:AV×Delta} (h:(Cu H nx sz m n s new).run=some y):∃ old,eF H sz m s=some old∧y=(.slc 0 nx 0 0 sz (m+n) none,.push (.row (qU true (old.app new)))):=by
 unfold Cu at h;obtain ⟨old,h1,h⟩:=Tr.bind_some h;obtain ⟨r,h2,h⟩:=Tr.bind_some h;refine ⟨old,pG h1,?_⟩;rw[← Tr.ae h,aM,wh,B5 h2]
theorem AB         {P : Program} {H:ab} {nx:Nat} {t u:TypeId} {s x:AV} {y:AV×Delta} (h:(oz P H nx t u s x).run=some y):oA P true H nx t u s x=some y:=by
 unfold oz at h;unfold oA;split at h
 · rename_i e ht;split at h
   · rename_i e' hu;split at h
     · rename_i inf hi;split at h
       · rename_i m hm;split at h
         · rename_i n hn;obtain ⟨hsl,h⟩:=Tr.aX h;rw[ht,hu];dsimp only;rw[hi,hm,hn];dsimp only;have hcase:(n=0∧(s,Delta.bC)=y)∨(n≠0∧(oz.main P H nx e inf s x m n).run=some y):=by
            cases hx:Oz x with
            | true =>
              rw[hx] at h;cases n with
              | zero=>exact .inl ⟨rfl,Tr.ae h⟩
              | succ n=>exact .inr ⟨by omega,h⟩
            | false =>
              rw[hx] at h;rcases Tr.kh h with ⟨hc,h⟩ | ⟨hc,h⟩
              · rw[ft,decide_eq_true_eq] at hc;exact .inl ⟨hc,Tr.ae h⟩
              · rw[ft,decide_eq_false_iff_not] at hc;exact .inr ⟨hc,h⟩
           clear h;rcases hcase with ⟨h0,h⟩ | ⟨h0,h⟩
           · rw[if_pos h0];cases s<;>simp[Oi] at hsl<;>exact congrArg some h
           rw[if_neg h0];unfold oz.main at h;obtain ⟨hr,h⟩:=Tr.aU h;rw[zd,decide_eq_true_eq] at hr;obtain ⟨hb,h⟩:=Tr.aX h;obtain ⟨hz,h⟩:=Tr.aX h;obtain ⟨new,h1,h⟩:=Tr.bind_some h;have hcv:=pG h1;rw[if_pos ⟨hr.1,hr.2,Cb hb,uj hz⟩,hcv];dsimp only;split at h
           · rw[← Tr.ae h,wh]
           · rename_i sT r szT IE full;obtain ⟨hf,h⟩:=Tr.aU h;obtain ⟨old,h2,rfl⟩:=x6 h;subst hf;dsimp only;rw[h2]
           · rename_i d i v off sz len c _ _ _ _ _;rcases Tr.kh h with ⟨hc,h⟩ | ⟨hc,h⟩
             · rw[ik,decide_eq_true_eq,aM] at hc;obtain ⟨old,h2,rfl⟩:=x6 h;dsimp only;rw[if_pos hc,h2]
             · rw[ik,decide_eq_false_iff_not,aM] at hc;dsimp only;rw[if_neg hc];rw[gq] at h;obtain ⟨hl,h⟩:=Tr.j7 h;obtain ⟨r,h2,h⟩:=Tr.bind_some h;obtain ⟨hs,h⟩:=Tr.aX h;have hs:=Nat.eq_of_beq_eq_true hs;rw[hl,if_neg (by simp),lq h2];dsimp only;split at h
               · rename_i l _;rw[oh] at h;have hcl:=r9 hcv;split at h
                 · exact (Tr.ah h).elim
                 · rename_i y0 ys hy;obtain ⟨l',h3,h⟩:=Tr.bind_some h;obtain ⟨k1,k2⟩:=tT _ _ _ _ h3;rw[aM,cP,Nat.add_zero] at k1 k2;have hlen:=Row.br (jq d new);rw[hy,fj,hcl] at hlen;have hfit:off+(m+n)*sz≤(Row.M l).len:=by
                    rcases k1 with k1 | k1
                    · simp at k1
                    · rw[hlen,← hs] at k1;rw[Nat.add_mul];show _≤aA l;omega
                   rw[if_pos ⟨hs,hfit⟩,hy,k2,← Tr.ae h,aM]
               · exact (Tr.ah h).elim
           · rename_i d i v off sz len _ _ _ _ _;dsimp only;rw[gq] at h;obtain ⟨hl,h⟩:=Tr.j7 h;obtain ⟨r,h2,h⟩:=Tr.bind_some h;obtain ⟨hs,h⟩:=Tr.aX h;have hs:=Nat.eq_of_beq_eq_true hs;obtain ⟨old,h3,h⟩:=Tr.bind_some h;obtain ⟨r',h4,h⟩:=Tr.bind_some h;obtain ⟨k1,k2⟩:=BO h3;rw[cP] at k1 k2;rw[hl,if_neg (by simp),lq h2];dsimp only;rw[if_pos ⟨hs,k1⟩,k2,B5 h4,← Tr.ae h,aM]
           · exact (Tr.ah h).elim
         · exact (Tr.ah h).elim
       · exact (Tr.ah h).elim
     · exact (Tr.ah h).elim
   · rename_i k' hu;rw[ht,hu];exact EZ h
   · exact (Tr.ah h).elim
 · exact (Tr.ah h).elim

end
end Go.Eng
end
