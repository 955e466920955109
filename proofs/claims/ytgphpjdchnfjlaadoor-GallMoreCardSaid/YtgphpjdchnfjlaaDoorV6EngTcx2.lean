/- The engine as a tree: slices, numbers, operations. -/
import Derived.Test.YtgphpjdchnfjlaaDoorV6EngTb
set_option linter.unusedVariables false
set_option linter.unusedSimpArgs false
section
namespace Go.Eng
noncomputable section

theorem Tr.aY {α:Type} {c:Bool} {t:Tr α} {x:α} (h:(cond c t .bad).run=some x):c=true∧t.run=some x:=by
 cases c with
 | true=>exact ⟨rfl,h⟩
 | false=>exact (Tr.ag h).elim
def Mb (op:BinOp) (k:IntKind) (x y:Int):Tr AV :=
 match op with
 | .add=>.ok (.int k (bh k x y))
 | .sub=>.ok (.int k (cq k x y))
 | .mul=>.ok (.int k (Ei k x y))
 | .quo=>.req (bD (c7 y 0)) (.ok (.int k (Ev k x y)))
 | .rem=>.req (bD (c7 y 0)) (.ok (.int k (ay k x y)))
 | .and=>.ok (.int k (ny k x y))
 | .or=>.ok (.int k (r8 k x y))
 | .xor=>.ok (.int k (Ni k x y))
 | .andNot=>.ok (.int k (AB k x y))
 | .eql=>.ok (.bool (c7 x y))
 | .neq=>.ok (.bool (bD (c7 x y)))
 | .lss=>.ok (.bool (bQ x y))
 | .leq=>.ok (.bool (dS x y))
 | .gtr=>.ok (.bool (bQ y x))
 | .geq=>.ok (.bool (dS y x))
 | _=>.bad
theorem IE {op:BinOp} {k:IntKind} {x y:Int} {v:AV} (h:(Mb op k x y).run=some v):iq op k x y=some v:=by
 unfold Mb at h;unfold iq;cases op<;>dsimp only at h ⊢<;>try exact (Tr.ag h).elim
 case quo =>
  obtain ⟨hc,h⟩:=Tr.aS h
  rw[aW,bA] at hc
  have:¬ y=0:=by simpa using hc
  rw[if_neg this,← Tr.ab h,Dj]
 case rem =>
  obtain ⟨hc,h⟩:=Tr.aS h
  rw[aW,bA] at hc
  have:¬ y=0:=by simpa using hc
  rw[if_neg this,← Tr.ab h,pN]
 all_goals
  have h:=Tr.ab h
  subst h
  first
   | rfl
   | (simp only[gt_iff_lt,ge_iff_le,fM,eB,rX,rC,tM,xF,sj,bA,aW,bY,br,bne];done)
   | (simp only[fM,eB,rX,rC,tM,xF,sj,bA,aW,bY,br];done)
   | (simp only[fM,eB,rX,rC,tM,xF,sj,bA,aW,bY,br];rfl)
def iG:List Int→List Int→Bool
 | [],[]=>true
 | [x],[y]=>c7 x y
 | x::x'::a,y::y'::b=>bC (c7 x y) (iG (x'::a) (y'::b))
 | _,_=>false
theorem tg:∀ (l m:List Int),iG l m=eY l m
 | [],[]=>rfl
 | [],_::_=>by simp[iG,eY]
 | _::_,[]=>by simp[iG,eY]
 | [x],[y]=>by simp[iG,eY,bA]
 | [x],y::y'::b=>by simp[iG,eY]
 | x::x'::a,[y]=>by simp[iG,eY]
 | x::x'::a,y::y'::b=>by
   simp only[iG];rw[cD,bA,tg (x'::a) (y'::b)];rfl
def yr (r:Row):Option (IntKind×(Nat→Int)) :=
 match r with
 | .I k l=>some (k,ar l)
 | .M [.arr k z _]=>some (k,z)
 | _=>none
theorem s7 (r:Row):yr r=r.ints:=by
 match r with
 | .I k l=>simp only[yr,Row.ints,lu]
 | .G l=>rfl
 | .F f n=>rfl
 | .M []=>rfl
 | .M [.arr k z n]=>rfl
 | .M (.one v::r)=>rfl
 | .M (.arr k z n::s::r)=>rfl
def Nl (P:Program) (t:TypeId) (x y:AV):Tr Bool :=
 match x,y with
 | .bool a,.bool b=>match P.underlying t with
   | some .bool=>.ok (Qr a b)
   | _=>.bad
 | .nils,.slcT s r sz n f=>match P.underlying t with
   | some (.slice _)=>.req (bt 0 n) (.ok false)
   | _=>.bad
 | .slcT s r sz n f,.nils=>match P.underlying t with
   | some (.slice _)=>.req (bt 0 n) (.ok false)
   | _=>.bad
 | .agg (.I k a),.agg (.I k' b)=>cond (gY k k') (match cC P 20 t with
   | some n=>match fc P t with
     | some true=>cond (Nat.beq n (kC a)) (cond (Nat.beq (kC a) (kC b)) (.ok (iG a b)) .bad) .bad
     | _=>.bad
   | none=>.bad) .bad
 | .agg (.M l),.agg s=>eqMT P t (.M l) s
 | .agg (.I k a),.agg (.M l)=>eqMT P t (.I k a) (.M l)
 | x,y=>vW (AD P t x y)
where
 eqMT (P:Program) (t:TypeId) (r s:Row):Tr Bool :=
  match yr r,yr s with
  | some (k,z),some (k',z')=>cond (gY k k') (match cC P 20 t with
    | some n=>match fc P t with
      | some true=>cond (Nat.beq n (iC r)) (cond (Nat.beq (iC r) (iC s)) (.ok (mc z z' (iC r))) .bad) .bad
      | _=>.bad
    | none=>.bad) .bad
  | _,_=>.bad
theorem Cm {P:Program} {t:TypeId} {r s:Row} {b:Bool} (h:(Nl.eqMT P t r s).run=some b):Nk P t r s=some b:=by
 unfold Nl.eqMT at h;rw[s7,s7] at h;unfold Nk;split at h
 · rename_i k z k' z' h1 h2;rw[h1,h2];obtain ⟨hk,h⟩:=Tr.aY h;rw[fg,decide_eq_true_eq] at hk;split at h
   · rename_i n hn;split at h
     · rename_i ha;obtain ⟨e1,h⟩:=Tr.aY h;obtain ⟨e2,h⟩:=Tr.aY h;rw[fi] at e1 e2 h;rw[fi] at e2;have e1:n=r.len:=by simpa using e1
       have e2:r.len=s.len:=by simpa using e2
       dsimp only;rw[if_pos ⟨hk,by rw[hn,e1],ha,e2⟩,← Tr.ab h,vq]
     · exact (Tr.ag h).elim
   · exact (Tr.ag h).elim
 · exact (Tr.ag h).elim
theorem FK {P:Program} {t:TypeId} {x y:AV} {b:Bool} (h:(Nl P t x y).run=some b):AD P t x y=some b:=by
 unfold Nl at h;split at h
 · split at h
   · rename_i hu;unfold AD;dsimp only;rw[hu,← Tr.ab h,LN]
   · exact (Tr.ag h).elim
 · split at h
   · rename_i hu;obtain ⟨hc,h⟩:=Tr.aS h;rw[ir,decide_eq_true_eq] at hc;unfold AD;dsimp only;rw[hu];dsimp only;rw[if_pos hc,Tr.ab h]
   · exact (Tr.ag h).elim
 · split at h
   · rename_i hu;obtain ⟨hc,h⟩:=Tr.aS h;rw[ir,decide_eq_true_eq] at hc;unfold AD;dsimp only;rw[hu];dsimp only;rw[if_pos hc,Tr.ab h]
   · exact (Tr.ag h).elim
 · obtain ⟨hk,h⟩:=Tr.aY h;rw[fg,decide_eq_true_eq] at hk;split at h
   · rename_i n hn;split at h
     · rename_i ha;obtain ⟨e1,h⟩:=Tr.aY h;obtain ⟨e2,h⟩:=Tr.aY h;rw[eA] at e1 e2;rw[eA] at e2;have e1:=Nat.eq_of_beq_eq_true e1;have e2:=Nat.eq_of_beq_eq_true e2;unfold AD;dsimp only;rw[if_pos ⟨hk,by rw[hn,e1],ha,e2⟩,← Tr.ab h,tg]
     · exact (Tr.ag h).elim
   · exact (Tr.ag h).elim
 · unfold AD;exact Cm h
 · unfold AD;exact Cm h
 · rw[dc] at h;exact h
def Fh (P:Program) (op:BinOp) (t:TypeId) (x y:AV):Tr AV :=
 match x,y with
 | .int k a,.int k' b=>match op with
   | .shl=>.req (dS 0 b) (.ok (.int k (ep k a b)))
   | .shr=>.req (dS 0 b) (.ok (.int k (MS k a b)))
   | op=>cond (gY k k') (Mb op k a b) .bad
 | x,y=>match op with
   | .eql=>(Nl P t x y).bind fun b=>.ok (.bool b)
   | .neq=>(Nl P t x y).bind fun b=>.ok (.bool (bD b))
   | _=>.bad
theorem H9 {P:Program} {op:BinOp} {t:TypeId} {x y v:AV} (h:(Fh P op t x y).run=some v):ki P op t x y=some v:=by
 unfold Fh at h;split at h
 · rename_i k a k' b;split at h
   · obtain ⟨hc,h⟩:=Tr.aS h;rw[br,decide_eq_true_eq] at hc;unfold ki;dsimp only;rw[if_neg wO,← Tr.ab h,xz]
   · obtain ⟨hc,h⟩:=Tr.aS h;rw[br,decide_eq_true_eq] at hc;unfold ki;dsimp only;rw[if_neg wO,← Tr.ab h,JB]
   · rename_i h1 h2;obtain ⟨hk,h⟩:=Tr.aY h;rw[fg,decide_eq_true_eq] at hk;have:ki P op t (.int k a) (.int k' b)=if k=k' then iq op k a b else none:=by
      unfold ki;cases op<;>first | rfl | exact (h1 rfl).elim | exact (h2 rfl).elim
     rw[this,if_pos hk];exact IE h
 · rename_i hn;split at h
   · obtain ⟨b,h1,h⟩:=Tr.bind_some h;have h2:=FK h1;have:ki P .eql t x y=(AD P t x y).map .bool:=by
      unfold ki;cases x<;>cases y<;>first | rfl | exact (hn _ _ _ _ rfl rfl).elim
     rw[this,h2,← Tr.ab h];rfl
   · obtain ⟨b,h1,h⟩:=Tr.bind_some h;have h2:=FK h1;have:ki P .neq t x y=(AD P t x y).map fun b=>.bool (!b):=by
      unfold ki;cases x<;>cases y<;>first | rfl | exact (hn _ _ _ _ rfl rfl).elim
     rw[this,h2,← Tr.ab h,aW];rfl
   · exact (Tr.ag h).elim
def S6 (op:UnOp) (x:AV):Tr AV :=
 match op,x with
 | .not,.bool b=>.ok (.bool (bD b))
 | .neg,.int k n=>.ok (.int k (Gy k n))
 | _,_=>.bad
theorem Nd {op:UnOp} {x v:AV} (h:(S6 op x).run=some v):P3 op x=some v:=by
 unfold S6 at h;split at h
 · rw[← Tr.ab h,aW];rfl
 · rw[← Tr.ab h,CX];rfl
 · exact (Tr.ag h).elim
def pG (mx:Bool) (k:IntKind) (x:Int):List AV→Tr AV
 | []=>.ok (.int k x)
 | v::r=>match v with
   | .int k' y=>cond (gY k k') (pG mx k (cond mx (mL x y) (fY x y)) r) .bad
   | _=>.bad
theorem oB {mx:Bool} {k:IntKind}:∀ (l:List AV) (x:Int) (v:AV),(pG mx k x l).run=some v→eK mx k x l=some v
 | [],x,v,h=>by rw[← Tr.ab h];rfl
 | u :: r,x,v,h=>by
   simp only[pG] at h;split at h
   · rename_i k' y;obtain ⟨hk,h⟩:=Tr.aY h;rw[fg,decide_eq_true_eq] at hk;simp only[eK];rw[if_pos hk,← oB r _ v h,pE,pF];cases mx<;>rfl
   · exact (Tr.ag h).elim

def fK (a sz:Nat):Nat :=
 match sz with
 | 1=>a
 | s=>aC a s
theorem cQ (a sz:Nat):fK a sz=a*sz:=by
 unfold fK;split
 · rw[Nat.mul_one]
 · rw[pH]
abbrev Ta:=Option Nat×Nat×Option Nat
def m6 (lo hi mx:Option AV) (len:Nat):Tr Ta :=
 match mx with
 | none=>(match hi with
    | none=>.ok len
    | some (.int _ i)=>.req (kS i len) (.ok (cg i))
    | some _=>.bad:Tr Nat).bind fun h=>(match lo with
    | none=>.ok (none,h,none)
    | some (.int _ i)=>.req (kS i h) (.ok (some (cg i),h,none))
    | some _=>.bad)
 | some (.int _ m)=>.req (kS m len) (match hi with
    | some (.int _ i)=>.req (kS i (cg m)) (match lo with
      | none=>.ok (none,cg i,some (cg m))
      | some (.int _ j)=>.req (kS j (cg i)) (.ok (some (cg j),cg i,some (cg m)))
      | some _=>.bad)
    | _=>.bad)
 | some _=>.bad
def CP (l:Option Nat):Nat :=
 match l with
 | none=>0
 | some l=>l
theorem gN {i:Int} {k:IntKind} {d top:Nat} (h:kS i top=true):bound (some (.int k i)) d top=some (cg i):=by
 rw[Ce,decide_eq_true_eq] at h;simp only[bound];rw[if_pos h,j9]
theorem kU {lo hi mx:Option AV} {len:Nat} {b:Ta} (h:(m6 lo hi mx len).run=some b):ew lo hi mx len=some (CP b.1,b.2.1,b.2.2):=by
 unfold m6 at h;unfold ew;split at h
 · obtain ⟨h',h1,h⟩:=Tr.bind_some h;have e1:bound hi len len=some h':=by
    split at h1
    · rw[← Tr.ab h1];rfl
    · obtain ⟨hc,h1⟩:=Tr.aS h1;rw[gN hc,Tr.ab h1]
    · exact (Tr.ag h1).elim
   dsimp only;rw[e1];dsimp only;split at h
   · rw[← Tr.ab h];rfl
   · obtain ⟨hc,h⟩:=Tr.aS h;rw[gN hc,← Tr.ab h];rfl
   · exact (Tr.ag h).elim
 · rename_i k m;obtain ⟨hm,h⟩:=Tr.aS h;dsimp only;rw[gN hm];dsimp only;split at h
   · rename_i k' i;obtain ⟨hi,h⟩:=Tr.aS h;simp only[Option.isSome_some,if_true];rw[gN hi];dsimp only;split at h
     · rw[← Tr.ab h];rfl
     · obtain ⟨hc,h⟩:=Tr.aS h;rw[gN hc,← Tr.ab h];rfl
     · exact (Tr.ag h).elim
   · exact (Tr.ag h).elim
 · exact (Tr.ag h).elim
def xB (a:Nat) (l:Option Nat):Nat :=
 match l with
 | none=>a
 | some l=>dx a l
theorem nu (a:Nat) (l:Option Nat):xB a l=a-CP l:=by
 cases l with
 | none=>rfl
 | some l=>exact dq a l
def EY (off:Nat) (l:Option Nat) (sz:Nat):Nat :=
 match l with
 | none=>off
 | some l=>ah off (fK l sz)
theorem B6 (off:Nat) (l:Option Nat) (sz:Nat):EY off l sz=off+CP l*sz:=by
 cases l with
 | none=>simp[EY,CP]
 | some l=>simp only[EY,CP,aF,cQ]
def Dt (r:Row) (l:Option Nat) (sz n:Nat):Tr Row :=
 match r with
 | .M [.arr k z N]=>.req (bH (ah (fK (CP l) sz) n) N) (.ok (.M [.arr k (match l with | none=>z | some l=>iO z (fK l sz)) n]))
 | .F f N=>.req (bH (ah (fK (CP l) sz) n) N) (.ok (.F (match l with | none=>f | some l=>fun j=>f (ah (fK l sz) j)) n))
 | _=>.bad
theorem zG {r q:Row} {l:Option Nat} {sz n:Nat} (h:(Dt r l sz n).run=some q):CP l*sz+n≤r.len∧r.sub (CP l*sz) n=q:=by
 unfold Dt at h;split at h
 · rename_i k z N;obtain ⟨hc,h⟩:=Tr.aS h;rw[lq,decide_eq_true_eq,aF,cQ] at hc;refine ⟨by simp only[Row.len,aB,aQ];omega,?_⟩;rw[← Tr.ab h];cases l with
   | none=>simp only[Row.sub,CP,Nat.zero_mul,Nat.zero_add]
   | some l=>simp only[Row.sub,CP,mW,cQ]
 · rename_i f N;obtain ⟨hc,h⟩:=Tr.aS h;rw[lq,decide_eq_true_eq,aF,cQ] at hc;refine ⟨by simp only[Row.len];omega,?_⟩;rw[← Tr.ab h];cases l with
   | none=>simp only[Row.sub,CP,Nat.zero_mul,Nat.zero_add]
   | some l=>simp only[Row.sub,CP,aF,cQ]
 · exact (Tr.ag h).elim
def Qw (o:Option AV):Bool :=
 match o with
 | none=>true
 | some _=>false
def FY (mm:Option Nat) (full hiN:Bool) (h len:Nat):Bool :=
 match mm with
 | none=>cond hiN full (bC full (aU h len))
 | some m=>aU h m
def BI (P:Program) (t:TypeId) (x:AV) (lo hi mx:Option AV):Tr AV :=
 match P.underlying t with
 | some (.slice e)=>match bF P e with
   | some z=>match x with
     | .slc d j v off sz len cap=>cond (Nat.beq z sz) ((m6 lo hi mx len).bind fun b=>.ok (.slc d j v (EY off b.1 sz) sz (xB b.2.1 b.1) (match b.2.2 with
       | none=>match cap with | none=>none | some c=>some (xB c b.1)
       | some m=>some (xB m b.1)))) .bad
     | .slcT s r sz len full=>cond (Nat.beq z sz) ((m6 lo hi mx len).bind fun b=>(Dt r b.1 sz (fK (xB b.2.1 b.1) sz)).bind fun q=>.ok (.slcT s q sz (xB b.2.1 b.1) (FY b.2.2 full (Qw hi) b.2.1 len))) .bad
     | .nils=>(m6 lo hi mx 0).bind fun _=>.ok .nils
     | _=>.bad
   | none=>.bad
 | some (.array n e)=>match bF P e with
   | some sz=>match x with
     | .ptr d j v off=>(m6 lo hi mx n).bind fun b=>.ok (.slc d j v (EY off b.1 sz) sz (xB b.2.1 b.1) (match b.2.2 with
       | none=>some (xB n b.1)
       | some m=>some (xB m b.1)))
     | _=>.bad
   | none=>.bad
 | _=>.bad
theorem EF {P:Program} {t:TypeId} {x v:AV} {lo hi mx:Option AV} (h:(BI P t x lo hi mx).run=some v):qI P t x lo hi mx=some v:=by
 unfold BI at h;unfold qI;split at h
 · rename_i e hu;split at h
   · rename_i z hs;split at h
     · rename_i d j ver off sz len cap;obtain ⟨hz,h⟩:=Tr.aY h;have hz:z=sz:=by simpa using hz
       subst hz;obtain ⟨b,h1,h⟩:=Tr.bind_some h;rw[hu];dsimp only;rw[kU h1];dsimp only;rw[if_pos hs,← Tr.ab h,B6,nu];obtain ⟨b1,b2,b3⟩:=b;cases b3<;>cases cap<;>simp only[nu,Option.map_some,Option.map_none]
     · rename_i s r sz len full;obtain ⟨hz,h⟩:=Tr.aY h;have hz:z=sz:=by simpa using hz
       subst hz;obtain ⟨b,h1,h⟩:=Tr.bind_some h;obtain ⟨q,h2,h⟩:=Tr.bind_some h;rw[hu];dsimp only;have hb:=kU h1;rw[hb];dsimp only;obtain ⟨k1,k2⟩:=zG h2;rw[cQ,nu] at k1 k2;rw[if_pos ⟨hs,k1⟩,k2,← Tr.ab h,nu];congr 2;obtain ⟨b1,b2,b3⟩:=b;dsimp only at hb ⊢;cases b3 with
       | some m=>simp only[FY,fP];rw[Bool.eq_iff_iff];simp
       | none =>
         simp only[FY];cases hi with
         | some a =>
           simp only[Qw,cond_false,cD,fP];congr 1;rw[Bool.eq_iff_iff];simp
         | none =>
           simp only[Qw,cond_true];have:b2=len:=by
            unfold ew at hb;cases mx with
            | none =>
              dsimp only[bound] at hb;split at hb
              · simp only[nP] at hb;exact hb.2.1.symm
              · simp at hb
            | some a =>
              dsimp only at hb;split at hb
              · simp at hb
              · simp at hb
           rw[this];simp
     · obtain ⟨b,h1,h⟩:=Tr.bind_some h;rw[hu];dsimp only;rw[kU h1,hs,← Tr.ab h]
     · exact (Tr.ag h).elim
   · exact (Tr.ag h).elim
 · rename_i n e hu;split at h
   · rename_i sz hs;split at h
     · rename_i d j ver off;obtain ⟨b,h1,h⟩:=Tr.bind_some h;rw[hu];dsimp only;rw[kU h1];dsimp only;rw[hs,← Tr.ab h,B6,nu];obtain ⟨b1,b2,b3⟩:=b;cases b3<;>simp only[nu]
     · exact (Tr.ag h).elim
   · exact (Tr.ag h).elim
 · exact (Tr.ag h).elim

def sr (H:aa) (sz n:Nat) (x:AV):Tr Row :=
 match x with
 | .slc d i v off sz' len cap=>(xr H d i v (some 0)).bind fun r=>cond (Nat.beq sz' sz) (.req (bH n len) (match r with
    | .M [.arr k z N]=>.req (dX off (fK n sz) 0 N) (.ok (.M [.arr k (iO z off) (fK n sz)]))
    | .I k l=>cond (uU (.I k l) off (Nat.mul n sz)) (.ok (BU d (Row.I k (lW (lT l off) (Nat.mul n sz))))) .bad
    | .G l=>cond (uU (.G l) off (Nat.mul n sz)) (.ok (BU d (Row.G (lW (lT l off) (Nat.mul n sz))))) .bad
    | .F f N=>.req (dX off (fK n sz) 0 N) (.ok (.F (fun j=>f (ah off j)) (fK n sz)))
    | _=>.bad)) .bad
 | .slcT s r sz' len _=>cond (Nat.beq sz' sz) (.req (bH n len) ((Dt r none sz (fK n sz)).bind fun q=>.ok (match s with | none=>q | some k=>BU k q))) .bad
 | _=>.bad
theorem PO (d:Nat) (k:IntKind) (z:Nat→Int) (n:Nat):BU d (.M [.arr k z n])=.M [.arr k z n]:=by cases d<;>rfl
theorem PN (d:Nat) (f:Nat→AV) (n:Nat):BU d (.F f n)=.F f n:=by cases d<;>rfl
theorem p8 {H:aa} {sz n:Nat} {x:AV} {q:Row} (h:(sr H sz n x).run=some q):eH H sz n x=some q:=by
 unfold sr at h;split at h
 · rename_i d i v off sz' len cap;obtain ⟨r,h1,h⟩:=Tr.bind_some h;obtain ⟨hz,h⟩:=Tr.aY h;have hz:sz'=sz:=by simpa using hz
   obtain ⟨hc,h⟩:=Tr.aS h;rw[lq,decide_eq_true_eq] at hc;unfold eH;dsimp only;rw[lK h1];dsimp only;split at h
   · rename_i k z N;obtain ⟨hc2,h⟩:=Tr.aS h;rw[j4,decide_eq_true_eq,cQ] at hc2;rw[if_pos ⟨hz,hc,by simp only[Row.len,aB,aQ];omega⟩,← Tr.ab h];simp only[Row.sub,PO,mW,cQ]
   · rename_i k l;obtain ⟨hc2,h⟩:=Tr.aY h;rw[kZ,decide_eq_true_eq] at hc2;rw[if_pos ⟨hz,hc,hc2⟩,← Tr.ab h,ij,gS];rfl
   · rename_i l;obtain ⟨hc2,h⟩:=Tr.aY h;rw[kZ,decide_eq_true_eq] at hc2;rw[if_pos ⟨hz,hc,hc2⟩,← Tr.ab h,ij,gS];rfl
   · rename_i f N;obtain ⟨hc2,h⟩:=Tr.aS h;rw[j4,decide_eq_true_eq,cQ] at hc2;rw[if_pos ⟨hz,hc,by simp only[Row.len];omega⟩,← Tr.ab h];simp only[Row.sub,PN,aF,cQ]
   · exact (Tr.ag h).elim
 · rename_i s r sz' len full;obtain ⟨hz,h⟩:=Tr.aY h;have hz:sz'=sz:=by simpa using hz
   obtain ⟨hc,h⟩:=Tr.aS h;rw[lq,decide_eq_true_eq] at hc;obtain ⟨q',h1,h⟩:=Tr.bind_some h;obtain ⟨k1,k2⟩:=zG h1;rw[cQ] at k1 k2;simp only[CP,Nat.zero_mul,Nat.zero_add] at k1 k2;unfold eH;dsimp only;rw[if_pos ⟨hz,hc,k1⟩,← Tr.ab h,k2];cases s<;>rfl
 · exact (Tr.ag h).elim

end
end Go.Eng
end
section
namespace Go.Eng
noncomputable section

theorem Tr.kn {α:Type} {c:Bool} {t:Tr α} {x:α} (h:(cond c .bad t).run=some x):c=false∧t.run=some x:=by
 cases c with
 | false=>exact ⟨rfl,h⟩
 | true=>exact (Tr.ag h).elim

def vS:AV→AV
 | .slcT none (.I k l) sz m _=>.slcT none (.M [.arr k (ar l) (kC l)]) sz m false
 | .slcT none (.M [.arr k z n]) sz m _=>.slcT none (.M [.arr k z n]) sz m false
 | v=>v
theorem tD (v:AV):vS v=jK v:=by
 unfold vS jK;split
 · simp only[lu,eA]
 · rfl
 · rename_i h1 h2;split
   · exact absurd rfl (h1 _ _ _ _ _)
   · exact absurd rfl (h2 _ _ _ _ _ _)
   · rfl
def FO (r:Row):Row :=
 match r with
 | .I k l=>.M [.arr k (ar l) (kC l)]
 | .G [v]=>cond (qY v) (.F (fun _=>vS v) 1) (.G [v])
 | r=>r
theorem wE (r:Row):FO r=ru true r:=by
 cases r with
 | I k l=>simp only[FO,ru,if_true,lu,eA]
 | F f n=>rfl
 | M l=>rfl
 | G l =>
   match l with
   | []=>rfl
   | [v] =>
     show cond (qY v) (Row.F (fun _=>vS v) 1) (Row.G [v])=if (true && qY v)=true then Row.F (fun _=>jK v) 1 else Row.G [v]
     rw[tD];cases qY v<;>rfl
   | a::b::r=>rfl
def Xr:AV→Nat→Int
 | .slcT _ (.M [.arr _ z _]) _ _ _=>z
 | _=>fun _=>0
def Wv:AV→Nat
 | .slcT _ (.M [.arr _ _ n]) _ _ _=>n
 | _=>0
def Wt:AV→Nat
 | .slcT _ _ _ m _=>m
 | _=>0
def H3 (r s:Row):Tr Row :=
 match r with
 | .M [.arr k z n]=>match yr s with
   | some (k',z')=>cond (gY k' k) (.ok (.M [.arr k (bJ z n z') (ah n (iC s))])) .bad
   | none=>.bad
 | .I k l=>match s with
   | .I k' l'=>cond (gY k' k) (.ok (.I k (rp l l'))) .bad
   | .M [.arr k' z' n']=>cond (gY k' k) (.ok (.M [.arr k (bJ (ar l) (kC l) z') (ah (kC l) n')])) .bad
   | _=>.bad
 | .G l=>match s with
   | .G l'=>.ok (.G (rp l l'))
   | _=>.bad
 | .F f n=>match s with
   | .G [v]=>cond (qY v) (match vS v with
     | .slcT none (.M [.arr k z N]) sz m full=>.reqP (Lo f k sz full)
       (.ok (.F (fun j=>.slcT none (.M [.arr k (MP (bt j n) (Xr (f j)) z) (Jt (bt j n) (Wv (f j)) N)]) sz (Jt (bt j n) (Wt (f j)) m) full) (ah n 1)))
     | _=>.bad) .bad
   | _=>.bad
 | _=>.bad
theorem B8 {r s q:Row} (h:(H3 r s).run=some q):r.app s=q:=by
 unfold H3 at h;split at h
 · rename_i k z n;rw[s7] at h;split at h
   · rename_i k' z' hi;obtain ⟨hk,h⟩:=Tr.aY h;rw[fg,decide_eq_true_eq] at hk;have e:Row.app (.M [.arr k z n]) s=(match (Row.M [.arr k z n]).uO s with | some q=>q | none=>.G ((Row.M [.arr k z n]).toList++s.toList)):=by
      cases s<;>rfl
     rw[e];unfold Row.uO;rw[hi];dsimp only[Row.ints];rw[if_pos hk,← Tr.ab h,oU,aF,fi];rfl
   · exact (Tr.ag h).elim
 · rename_i k l;split at h
   · rename_i k' l';obtain ⟨hk,h⟩:=Tr.aY h;rw[fg,decide_eq_true_eq] at hk;simp only[Row.app];rw[if_pos hk,← Tr.ab h,rE]
   · rename_i k' z' n';obtain ⟨hk,h⟩:=Tr.aY h;rw[fg,decide_eq_true_eq] at hk;simp only[Row.app];unfold Row.uO;dsimp only[Row.ints];rw[if_pos hk,← Tr.ab h,oU,aF,eA,lu];rfl
   · exact (Tr.ag h).elim
 · split at h
   · rw[← Tr.ab h,rE];rfl
   · exact (Tr.ag h).elim
 · rename_i f n;split at h
   · rename_i v;obtain ⟨hv,h⟩:=Tr.aY h;split at h
     · rename_i k z N sz m full hn;obtain ⟨hf,h⟩:=Tr.gx h;rw[tD] at hn;rw[← Tr.ab h,aF];show Row.F _ _=Row.F _ _;congr 1;funext j;simp only[Jw,Ju,ir];by_cases e:j<n
       · have hb:Nat.blt j n=true:=by rw[Nat.blt_eq];exact e
         rw[hb,if_pos rfl,decide_eq_true e];rw[HS] at hf;obtain ⟨z',n',m',e'⟩:=hf j;rw[e'];rfl
       · have hb:Nat.blt j n=false:=by
          cases hb:Nat.blt j n with
          | false=>rfl
          | true=>rw[Nat.blt_eq] at hb;exact absurd hb e
         rw[hb,if_neg (by simp),decide_eq_false e];show (if ib v=true then jK v else .undef)=_;rw[if_pos (s8 hv),hn];rfl
     · exact (Tr.ag h).elim
   · exact (Tr.ag h).elim
 · exact (Tr.ag h).elim
def OH (x:AV):Bool :=
 match x with
 | .slc _ _ _ _ _ _ (some _)=>true
 | _=>false
def Ot (s:AV):Bool :=
 match s with
 | .nils | .slc .. | .slcT ..=>true
 | _=>false
def se (P:Program) (e:TypeId) (n:Nat):Bool :=
 match (cZ P e).bind AV.row with
 | some z=>Nat.beq (iC z) n
 | none=>false
theorem uF {P:Program} {e:TypeId} {n:Nat} (h:se P e n=true):((cZ P e).bind AV.row).map Row.len=some n:=by
 unfold se at h;split at h
 · rename_i z hz;rw[fi] at h;have h:=Nat.eq_of_beq_eq_true h;rw[hz,Option.map_some,h]
 · simp at h
def Cz (H:aa) (nx sz m n:Nat) (s:AV) (new:Row):Tr (AV×Delta) :=
 (sr H sz m s).bind fun old=>(H3 old new).bind fun r=>.ok (.slc 0 nx 0 0 sz (ah m n) none,.push (.row (FO r)))
def xC (r:Row) (off n:Nat):Tr Row :=
 match r with
 | .M [.arr k z N]=>.req (aU (ah off n) N) (.ok (.M [.arr k (iO z off) n]))
 | .G l=>cond (Nat.beq (Nat.add off n) (kC l)) (.ok (.G (lW (lT l off) n))) .bad
 | .F f N=>.req (aU (ah off n) N) (.ok (.F (fun j=>f (ah off j)) n))
 | _=>.bad
theorem BQ {r q:Row} {off n:Nat} (h:(xC r off n).run=some q):off+n=r.len∧r.sub off n=q:=by
 unfold xC at h;split at h
 · rename_i k z N;obtain ⟨hc,h⟩:=Tr.aS h;rw[fP,decide_eq_true_eq,aF] at hc;refine ⟨by simp only[Row.len,aB,aQ];omega,?_⟩;rw[← Tr.ab h,mW];rfl
 · rename_i l;obtain ⟨hc,h⟩:=Tr.aY h;rw[eA] at hc;have hc:=Nat.eq_of_beq_eq_true hc;exact ⟨hc,by rw[← Tr.ab h,ij,gS];rfl⟩
 · rename_i f N;obtain ⟨hc,h⟩:=Tr.aS h;rw[fP,decide_eq_true_eq,aF] at hc;refine ⟨hc,?_⟩;rw[← Tr.ab h];simp only[aF];rfl
 · exact (Tr.ag h).elim
def Fa (P:Program) (nx:Nat) (e:TypeId) (s x:AV):Tr (AV×Delta) :=
 match P.info? e with
 | some inf=>match s with
   | .nils=>match x with
     | .int _ k=>cond (Nat.blt 0 inf.size) (cond (se P e inf.size) (.req (CV k k inf.bytes) (.ite (c7 k (Int.ofNat 0)) (.ok (.nils,.bE)) (.ok (.slc 0 nx 0 0 inf.size (cg k) none,.push (.row (FO (.I .i64 []))))))) .bad) .bad
     | _=>.bad
   | _=>.bad
 | none=>.bad
theorem Fb {P:Program} {nx:Nat} {e:TypeId} {s x:AV} {y:AV×Delta} (h:(Fa P nx e s x).run=some y):E0 P true nx e s x=some y:=by
 unfold Fa at h;unfold E0;split at h
 · rename_i inf hi;rw[hi];split at h
   · split at h
     · rename_i kk k;obtain ⟨hb,h⟩:=Tr.aY h;obtain ⟨hz,h⟩:=Tr.aY h;obtain ⟨hm,h⟩:=Tr.aS h;rw[Bq,decide_eq_true_eq] at hm;dsimp only;rw[if_pos ⟨hm.1,hm.2.2.2,hm.2.2.1,Cd hb,uF hz⟩];rcases Tr.kA h with ⟨hc,h⟩ | ⟨hc,h⟩
       · rw[bA,beq_iff_eq] at hc;rw[if_pos (show k=0 from hc),Tr.ab h]
       · rw[bA,beq_eq_false_iff_ne] at hc;rw[if_neg (show ¬ k=0 from hc),← Tr.ab h,wE,j9]
     · exact (Tr.ag h).elim
   · exact (Tr.ag h).elim
 · exact (Tr.ag h).elim
def oV (P:Program) (H:aa) (nx:Nat) (t u:TypeId) (s x:AV):Tr (AV×Delta) :=
 match P.underlying t with
 | some (.slice e)=>match P.underlying u with
   | some (.slice _)=>match P.info? e with
     | some inf=>match ot s with
       | some m=>match ot x with
         | some n=>cond (Ot s) (match OH x,n with
           | true,0=>.ok (s,.bE)
           | true,_=>main P H nx e inf s x m n
           | false,_=>.ite (aU n 0) (.ok (s,.bE)) (main P H nx e inf s x m n)) .bad
         | none=>.bad
       | none=>.bad
     | none=>.bad
   | some (.int _)=>Fa P nx e s x
   | _=>.bad
 | _=>.bad
where
 main (P : Program) (H:aa) (nx:Nat) (e:TypeId) (inf:TypeInfo) (s x:AV) (m n:Nat):Tr (AV×Delta) :=
  .req (da m n inf.bytes) (cond (Nat.blt 0 inf.bytes) (cond (se P e inf.size) ((sr H inf.size n x).bind fun new =>
   match s with
   | .nils=>.ok (.slc 0 nx 0 0 inf.size n none,.push (.row (FO new)))
   | .slcT _ _ _ _ full=>.req full (Cz H nx inf.size m n s new)
   | .slc d i v off sz _ (some c)=>.ite (bt c (ah m n)) (Cz H nx inf.size m n s new)
     (cond (j0 H d) .bad ((xr H d i v (some 0)).bind fun r=>cond (Nat.beq sz inf.size) (match r with
       | .M l=>match lR (jx d new) with
         | []=>.bad
         | y::ys=>(zA (ah off (fK m sz)) (some 0) (y::ys) 0 l).bind fun l'=>.ok (.slc d i v off sz (ah m n) (some c),.set d i (v,.row (.M l')))
       | _=>.bad) .bad))
   | .slc d i v off sz _ none=>cond (j0 H d) .bad ((xr H d i v (some 0)).bind fun r=>cond (Nat.beq sz inf.size)
     ((xC r off (fK m sz)).bind fun old=>(H3 old (jx d new)).bind fun r'=>.ok (.slc d i (Nat.succ v) 0 sz (ah m n) none,.set d i (Nat.succ v,.row r'))) .bad)
   | _=>.bad) .bad) .bad)
theorem ss {H:aa} {sz n:Nat} {x:AV} {q:Row} (h:eH H sz n x=some q):q.len=n*sz:=by
 unfold eH at h;split at h
 · split at h
   · rename_i hn;simp only[Option.some.injEq] at h;rw[← h,hn];simp[Row.len]
   · simp at h
 · split at h
   · split at h
     · rename_i hf;simp only[Option.some.injEq] at h;rw[← h,pU,Row.dv _ _ _ hf.2.2]
     · simp at h
   · simp at h
 · split at h
   · rename_i hf;simp only[Option.some.injEq] at h;rw[← h];split
     · exact Row.dv _ _ _ wO
     · rw[pU,Row.dv _ _ _ wO]
   · simp at h
 · simp at h
theorem yh {H:aa} {nx sz m n:Nat} {s:AV} {new:Row} {y:AV×Delta} (h:(Cz H nx sz m n s new).run=some y):∃ old,eH H sz m s=some old∧y=(.slc 0 nx 0 0 sz (m+n) none,.push (.row (ru true (old.app new)))):=by
 unfold Cz at h;obtain ⟨old,h1,h⟩:=Tr.bind_some h;obtain ⟨r,h2,h⟩:=Tr.bind_some h;refine ⟨old,p8 h1,?_⟩;rw[← Tr.ab h,aF,wE,B8 h2]
theorem AH         {P : Program} {H:aa} {nx:Nat} {t u:TypeId} {s x:AV} {y:AV×Delta} (h:(oV P H nx t u s x).run=some y):oW P true H nx t u s x=some y:=by
 unfold oV at h;unfold oW;split at h
 · rename_i e ht;split at h
   · rename_i e' hu;split at h
     · rename_i inf hi;split at h
       · rename_i m hm;split at h
         · rename_i n hn;obtain ⟨hsl,h⟩:=Tr.aY h;rw[ht,hu];dsimp only;rw[hi,hm,hn];dsimp only;have hcase:(n=0∧(s,Delta.bE)=y)∨(n≠0∧(oV.main P H nx e inf s x m n).run=some y):=by
            cases hx:OH x with
            | true =>
              rw[hx] at h;cases n with
              | zero=>exact .inl ⟨rfl,Tr.ab h⟩
              | succ n=>exact .inr ⟨by omega,h⟩
            | false =>
              rw[hx] at h;rcases Tr.kA h with ⟨hc,h⟩ | ⟨hc,h⟩
              · rw[fP,decide_eq_true_eq] at hc;exact .inl ⟨hc,Tr.ab h⟩
              · rw[fP,decide_eq_false_iff_not] at hc;exact .inr ⟨hc,h⟩
           clear h;rcases hcase with ⟨h0,h⟩ | ⟨h0,h⟩
           · rw[if_pos h0];cases s<;>simp[Ot] at hsl<;>exact congrArg some h
           rw[if_neg h0];unfold oV.main at h;obtain ⟨hr,h⟩:=Tr.aS h;rw[zk,decide_eq_true_eq] at hr;obtain ⟨hb,h⟩:=Tr.aY h;obtain ⟨hz,h⟩:=Tr.aY h;obtain ⟨new,h1,h⟩:=Tr.bind_some h;have hcv:=p8 h1;rw[if_pos ⟨hr.1,hr.2,Cd hb,uF hz⟩,hcv];dsimp only;split at h
           · rw[← Tr.ab h,wE]
           · rename_i sT r szT IK full;obtain ⟨hf,h⟩:=Tr.aS h;obtain ⟨old,h2,rfl⟩:=yh h;subst hf;dsimp only;rw[h2]
           · rename_i d i v off sz len c _ _ _ _ _;rcases Tr.kA h with ⟨hc,h⟩ | ⟨hc,h⟩
             · rw[ir,decide_eq_true_eq,aF] at hc;obtain ⟨old,h2,rfl⟩:=yh h;dsimp only;rw[if_pos hc,h2]
             · rw[ir,decide_eq_false_iff_not,aF] at hc;dsimp only;rw[if_neg hc];rw[gq] at h;obtain ⟨hl,h⟩:=Tr.kn h;obtain ⟨r,h2,h⟩:=Tr.bind_some h;obtain ⟨hs,h⟩:=Tr.aY h;have hs:=Nat.eq_of_beq_eq_true hs;rw[hl,if_neg (by simp),lK h2];dsimp only;split at h
               · rename_i l _;rw[oO] at h;have hcl:=ss hcv;split at h
                 · exact (Tr.ag h).elim
                 · rename_i y0 ys hy;obtain ⟨l',h3,h⟩:=Tr.bind_some h;obtain ⟨k1,k2⟩:=uq _ _ _ _ h3;rw[aF,cQ,Nat.add_zero] at k1 k2;have hlen:=Row.bu (jx d new);rw[hy,fk,hcl] at hlen;have hfit:off+(m+n)*sz≤(Row.M l).len:=by
                    rcases k1 with k1 | k1
                    · simp at k1
                    · rw[hlen,← hs] at k1;rw[Nat.add_mul];show _≤aB l;omega
                   rw[if_pos ⟨hs,hfit⟩,hy,k2,← Tr.ab h,aF]
               · exact (Tr.ag h).elim
           · rename_i d i v off sz len _ _ _ _ _;dsimp only;rw[gq] at h;obtain ⟨hl,h⟩:=Tr.kn h;obtain ⟨r,h2,h⟩:=Tr.bind_some h;obtain ⟨hs,h⟩:=Tr.aY h;have hs:=Nat.eq_of_beq_eq_true hs;obtain ⟨old,h3,h⟩:=Tr.bind_some h;obtain ⟨r',h4,h⟩:=Tr.bind_some h;obtain ⟨k1,k2⟩:=BQ h3;rw[cQ] at k1 k2;rw[hl,if_neg (by simp),lK h2];dsimp only;rw[if_pos ⟨hs,k1⟩,k2,B8 h4,← Tr.ab h,aF]
           · exact (Tr.ag h).elim
         · exact (Tr.ag h).elim
       · exact (Tr.ag h).elim
     · exact (Tr.ag h).elim
   · rename_i k' hu;rw[ht,hu];exact Fb h
   · exact (Tr.ag h).elim
 · exact (Tr.ag h).elim

end
end Go.Eng
end
