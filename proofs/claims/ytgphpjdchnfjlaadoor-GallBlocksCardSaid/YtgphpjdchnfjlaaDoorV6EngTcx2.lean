/- The engine as a tree: slices, numbers, operations. -/
import Derived.Test.YtgphpjdchnfjlaaDoorV6EngTb
set_option linter.unusedVariables false
set_option linter.unusedSimpArgs false
section
namespace Go.Eng
noncomputable section

theorem Tr.aW {α:Type} {c:Bool} {t:Tr α} {x:α} (h:(cond c t .bad).run=some x):c=true∧t.run=some x:=by
 cases c with
 | true=>exact ⟨rfl,h⟩
 | false=>exact (Tr.ah h).elim
def LS (op:BinOp) (k:IntKind) (x y:Int):Tr AV :=
 match op with
 | .add=>.ok (.int k (aQ k x y))
 | .sub=>.ok (.int k (bH k x y))
 | .mul=>.ok (.int k (wM k x y))
 | .quo=>.req (bU (cK y 0)) (.ok (.int k (ra k x y)))
 | .rem=>.req (bU (cK y 0)) (.ok (.int k (rb k x y)))
 | .and=>.ok (.int k (lB k x y))
 | .or=>.ok (.int k (xD k x y))
 | .xor=>.ok (.int k (MW k x y))
 | .andNot=>.ok (.int k (Hw k x y))
 | .eql=>.ok (.bool (cK x y))
 | .neq=>.ok (.bool (bU (cK x y)))
 | .lss=>.ok (.bool (bw x y))
 | .leq=>.ok (.bool (cU x y))
 | .gtr=>.ok (.bool (bw y x))
 | .geq=>.ok (.bool (cU y x))
 | _=>.bad
theorem Ik {op:BinOp} {k:IntKind} {x y:Int} {v:AV} (h:(LS op k x y).run=some v):gU op k x y=some v:=by
 unfold LS at h;unfold gU;cases op<;>dsimp only at h ⊢<;>try exact (Tr.ah h).elim
 case quo =>
  obtain ⟨hc,h⟩:=Tr.aT h
  rw[aO,bf] at hc
  have:¬ y=0:=by simpa using hc
  rw[if_neg this,← Tr.af h,rG]
 case rem =>
  obtain ⟨hc,h⟩:=Tr.aT h
  rw[aO,bf] at hc
  have:¬ y=0:=by simpa using hc
  rw[if_neg this,← Tr.af h,rH]
 all_goals
  have h:=Tr.af h
  subst h
  first
   | rfl
   | (simp only[gt_iff_lt,ge_iff_le,fG,eA,mO,ov,tm,xx,rS,bf,aO,bn,a7,bne];done)
   | (simp only[fG,eA,mO,ov,tm,xx,rS,bf,aO,bn,a7];done)
   | (simp only[fG,eA,mO,ov,tm,xx,rS,bf,aO,bn,a7];rfl)
def iq:List Int→List Int→Bool
 | [],[]=>true
 | [x],[y]=>cK x y
 | x::x'::a,y::y'::b=>bL (cK x y) (iq (x'::a) (y'::b))
 | _,_=>false
theorem sP:∀ (l m:List Int),iq l m=eS l m
 | [],[]=>rfl
 | [],_::_=>by simp[iq,eS]
 | _::_,[]=>by simp[iq,eS]
 | [x],[y]=>by simp[iq,eS,bf]
 | [x],y::y'::b=>by simp[iq,eS]
 | x::x'::a,[y]=>by simp[iq,eS]
 | x::x'::a,y::y'::b=>by
   simp only[iq];rw[bW,bf,sP (x'::a) (y'::b)];rfl
def yn (r:Row):Option (IntKind×(Nat→Int)) :=
 match r with
 | .I k l=>some (k,aI l)
 | .M [.arr k z _]=>some (k,z)
 | _=>none
theorem sJ (r:Row):yn r=r.ints:=by
 match r with
 | .I k l=>simp only[yn,Row.ints,jq]
 | .G l=>rfl
 | .F f n=>rfl
 | .M []=>rfl
 | .M [.arr k z n]=>rfl
 | .M (.one v::r)=>rfl
 | .M (.arr k z n::s::r)=>rfl
def M9 (P:Program) (t:TypeId) (x y:AV):Tr Bool :=
 match x,y with
 | .bool a,.bool b=>match P.underlying t with
   | some .bool=>.ok (Qq a b)
   | _=>.bad
 | .nils,.slcT s r sz n f=>match P.underlying t with
   | some (.slice _)=>.req (bR 0 n) (.ok false)
   | _=>.bad
 | .slcT s r sz n f,.nils=>match P.underlying t with
   | some (.slice _)=>.req (bR 0 n) (.ok false)
   | _=>.bad
 | .agg (.I k a),.agg (.I k' b)=>cond (gJ k k') (match cA P 20 t with
   | some n=>match eX P t with
     | some true=>cond (Nat.beq n (j4 a)) (cond (Nat.beq (j4 a) (j4 b)) (.ok (iq a b)) .bad) .bad
     | _=>.bad
   | none=>.bad) .bad
 | .agg (.M l),.agg s=>eqMT P t (.M l) s
 | .agg (.I k a),.agg (.M l)=>eqMT P t (.I k a) (.M l)
 | x,y=>vI (Ax P t x y)
where
 eqMT (P:Program) (t:TypeId) (r s:Row):Tr Bool :=
  match yn r,yn s with
  | some (k,z),some (k',z')=>cond (gJ k k') (match cA P 20 t with
    | some n=>match eX P t with
      | some true=>cond (Nat.beq n (ie r)) (cond (Nat.beq (ie r) (ie s)) (.ok (lA z z' (ie r))) .bad) .bad
      | _=>.bad
    | none=>.bad) .bad
  | _,_=>.bad
theorem Ch {P:Program} {t:TypeId} {r s:Row} {b:Bool} (h:(M9.eqMT P t r s).run=some b):M8 P t r s=some b:=by
 unfold M9.eqMT at h;rw[sJ,sJ] at h;unfold M8;split at h
 · rename_i k z k' z' h1 h2;rw[h1,h2];obtain ⟨hk,h⟩:=Tr.aW h;rw[eZ,decide_eq_true_eq] at hk;split at h
   · rename_i n hn;split at h
     · rename_i ha;obtain ⟨e1,h⟩:=Tr.aW h;obtain ⟨e2,h⟩:=Tr.aW h;rw[fb] at e1 e2 h;rw[fb] at e2;have e1:n=r.len:=by simpa using e1
       have e2:r.len=s.len:=by simpa using e2
       dsimp only;rw[if_pos ⟨hk,by rw[hn,e1],ha,e2⟩,← Tr.af h,uZ]
     · exact (Tr.ah h).elim
   · exact (Tr.ah h).elim
 · exact (Tr.ah h).elim
theorem FE {P:Program} {t:TypeId} {x y:AV} {b:Bool} (h:(M9 P t x y).run=some b):Ax P t x y=some b:=by
 unfold M9 at h;split at h
 · split at h
   · rename_i hu;unfold Ax;dsimp only;rw[hu,← Tr.af h,Lt]
   · exact (Tr.ah h).elim
 · split at h
   · rename_i hu;obtain ⟨hc,h⟩:=Tr.aT h;rw[gV,decide_eq_true_eq] at hc;unfold Ax;dsimp only;rw[hu];dsimp only;rw[if_pos hc,Tr.af h]
   · exact (Tr.ah h).elim
 · split at h
   · rename_i hu;obtain ⟨hc,h⟩:=Tr.aT h;rw[gV,decide_eq_true_eq] at hc;unfold Ax;dsimp only;rw[hu];dsimp only;rw[if_pos hc,Tr.af h]
   · exact (Tr.ah h).elim
 · obtain ⟨hk,h⟩:=Tr.aW h;rw[eZ,decide_eq_true_eq] at hk;split at h
   · rename_i n hn;split at h
     · rename_i ha;obtain ⟨e1,h⟩:=Tr.aW h;obtain ⟨e2,h⟩:=Tr.aW h;rw[ey] at e1 e2;rw[ey] at e2;have e1:=Nat.eq_of_beq_eq_true e1;have e2:=Nat.eq_of_beq_eq_true e2;unfold Ax;dsimp only;rw[if_pos ⟨hk,by rw[hn,e1],ha,e2⟩,← Tr.af h,sP]
     · exact (Tr.ah h).elim
   · exact (Tr.ah h).elim
 · unfold Ax;exact Ch h
 · unfold Ax;exact Ch h
 · rw[c9] at h;exact h
def E0 (P:Program) (op:BinOp) (t:TypeId) (x y:AV):Tr AV :=
 match x,y with
 | .int k a,.int k' b=>match op with
   | .shl=>.req (cU 0 b) (.ok (.int k (dc k a b)))
   | .shr=>.req (cU 0 b) (.ok (.int k (zq k a b)))
   | op=>cond (gJ k k') (LS op k a b) .bad
 | x,y=>match op with
   | .eql=>(M9 P t x y).bind fun b=>.ok (.bool b)
   | .neq=>(M9 P t x y).bind fun b=>.ok (.bool (bU b))
   | _=>.bad
theorem HJ {P:Program} {op:BinOp} {t:TypeId} {x y v:AV} (h:(E0 P op t x y).run=some v):jQ P op t x y=some v:=by
 unfold E0 at h;split at h
 · rename_i k a k' b;split at h
   · obtain ⟨hc,h⟩:=Tr.aT h;rw[a7,decide_eq_true_eq] at hc;unfold jQ;dsimp only;rw[if_neg wO,← Tr.af h,rJ]
   · obtain ⟨hc,h⟩:=Tr.aT h;rw[a7,decide_eq_true_eq] at hc;unfold jQ;dsimp only;rw[if_neg wO,← Tr.af h,Dh]
   · rename_i h1 h2;obtain ⟨hk,h⟩:=Tr.aW h;rw[eZ,decide_eq_true_eq] at hk;have:jQ P op t (.int k a) (.int k' b)=if k=k' then gU op k a b else none:=by
      unfold jQ;cases op<;>first | rfl | exact (h1 rfl).elim | exact (h2 rfl).elim
     rw[this,if_pos hk];exact Ik h
 · rename_i hn;split at h
   · obtain ⟨b,h1,h⟩:=Tr.bind_some h;have h2:=FE h1;have:jQ P .eql t x y=(Ax P t x y).map .bool:=by
      unfold jQ;cases x<;>cases y<;>first | rfl | exact (hn _ _ _ _ rfl rfl).elim
     rw[this,h2,← Tr.af h];rfl
   · obtain ⟨b,h1,h⟩:=Tr.bind_some h;have h2:=FE h1;have:jQ P .neq t x y=(Ax P t x y).map fun b=>.bool (!b):=by
      unfold jQ;cases x<;>cases y<;>first | rfl | exact (hn _ _ _ _ rfl rfl).elim
     rw[this,h2,← Tr.af h,aO];rfl
   · exact (Tr.ah h).elim
def S9 (op:UnOp) (x:AV):Tr AV :=
 match op,x with
 | .not,.bool b=>.ok (.bool (bU b))
 | .neg,.int k n=>.ok (.int k (Bq k n))
 | _,_=>.bad
theorem MS {op:UnOp} {x v:AV} (h:(S9 op x).run=some v):PX op x=some v:=by
 unfold S9 at h;split at h
 · rw[← Tr.af h,aO];rfl
 · rw[← Tr.af h,wQ];rfl
 · exact (Tr.ah h).elim
def pb (mx:Bool) (k:IntKind) (x:Int):List AV→Tr AV
 | []=>.ok (.int k x)
 | v::r=>match v with
   | .int k' y=>cond (gJ k k') (pb mx k (cond mx (nb x y) (qY x y)) r) .bad
   | _=>.bad
theorem nT {mx:Bool} {k:IntKind}:∀ (l:List AV) (x:Int) (v:AV),(pb mx k x l).run=some v→eG mx k x l=some v
 | [],x,v,h=>by rw[← Tr.af h];rfl
 | u :: r,x,v,h=>by
   simp only[pb] at h;split at h
   · rename_i k' y;obtain ⟨hk,h⟩:=Tr.aW h;rw[eZ,decide_eq_true_eq] at hk;simp only[eG];rw[if_pos hk,← nT r _ v h,mM,mN];cases mx<;>rfl
   · exact (Tr.ah h).elim

def fD (a sz:Nat):Nat :=
 match sz with
 | 1=>a
 | s=>bD a s
theorem cJ (a sz:Nat):fD a sz=a*sz:=by
 unfold fD;split
 · rw[Nat.mul_one]
 · rw[jt]
abbrev Te:=Option Nat×Nat×Option Nat
def mz (lo hi mx:Option AV) (len:Nat):Tr Te :=
 match mx with
 | none=>(match hi with
    | none=>.ok len
    | some (.int _ i)=>.req (ki i len) (.ok (cg i))
    | some _=>.bad:Tr Nat).bind fun h=>(match lo with
    | none=>.ok (none,h,none)
    | some (.int _ i)=>.req (ki i h) (.ok (some (cg i),h,none))
    | some _=>.bad)
 | some (.int _ m)=>.req (ki m len) (match hi with
    | some (.int _ i)=>.req (ki i (cg m)) (match lo with
      | none=>.ok (none,cg i,some (cg m))
      | some (.int _ j)=>.req (ki j (cg i)) (.ok (some (cg j),cg i,some (cg m)))
      | some _=>.bad)
    | _=>.bad)
 | some _=>.bad
def CH (l:Option Nat):Nat :=
 match l with
 | none=>0
 | some l=>l
theorem gz {i:Int} {k:IntKind} {d top:Nat} (h:ki i top=true):bound (some (.int k i)) d top=some (cg i):=by
 rw[B9,decide_eq_true_eq] at h;simp only[bound];rw[if_pos h,jK]
theorem kn {lo hi mx:Option AV} {len:Nat} {b:Te} (h:(mz lo hi mx len).run=some b):ep lo hi mx len=some (CH b.1,b.2.1,b.2.2):=by
 unfold mz at h;unfold ep;split at h
 · obtain ⟨h',h1,h⟩:=Tr.bind_some h;have e1:bound hi len len=some h':=by
    split at h1
    · rw[← Tr.af h1];rfl
    · obtain ⟨hc,h1⟩:=Tr.aT h1;rw[gz hc,Tr.af h1]
    · exact (Tr.ah h1).elim
   dsimp only;rw[e1];dsimp only;split at h
   · rw[← Tr.af h];rfl
   · obtain ⟨hc,h⟩:=Tr.aT h;rw[gz hc,← Tr.af h];rfl
   · exact (Tr.ah h).elim
 · rename_i k m;obtain ⟨hm,h⟩:=Tr.aT h;dsimp only;rw[gz hm];dsimp only;split at h
   · rename_i k' i;obtain ⟨hi,h⟩:=Tr.aT h;simp only[Option.isSome_some,if_true];rw[gz hi];dsimp only;split at h
     · rw[← Tr.af h];rfl
     · obtain ⟨hc,h⟩:=Tr.aT h;rw[gz hc,← Tr.af h];rfl
     · exact (Tr.ah h).elim
   · exact (Tr.ah h).elim
 · exact (Tr.ah h).elim
def xp (a:Nat) (l:Option Nat):Nat :=
 match l with
 | none=>a
 | some l=>jh a l
theorem mU (a:Nat) (l:Option Nat):xp a l=a-CH l:=by
 cases l with
 | none=>rfl
 | some l=>exact gx a l
def EP (off:Nat) (l:Option Nat) (sz:Nat):Nat :=
 match l with
 | none=>off
 | some l=>ar off (fD l sz)
theorem BX (off:Nat) (l:Option Nat) (sz:Nat):EP off l sz=off+CH l*sz:=by
 cases l with
 | none=>simp[EP,CH]
 | some l=>simp only[EP,CH,aC,cJ]
def Dk (r:Row) (l:Option Nat) (sz n:Nat):Tr Row :=
 match r with
 | .M [.arr k z N]=>.req (dO (ar (fD (CH l) sz) n) N) (.ok (.M [.arr k (match l with | none=>z | some l=>qj z (fD l sz)) n]))
 | .F f N=>.req (dO (ar (fD (CH l) sz) n) N) (.ok (.F (match l with | none=>f | some l=>fun j=>f (ar (fD l sz) j)) n))
 | _=>.bad
theorem zy {r q:Row} {l:Option Nat} {sz n:Nat} (h:(Dk r l sz n).run=some q):CH l*sz+n≤r.len∧r.sub (CH l*sz) n=q:=by
 unfold Dk at h;split at h
 · rename_i k z N;obtain ⟨hc,h⟩:=Tr.aT h;rw[iS,decide_eq_true_eq,aC,cJ] at hc;refine ⟨by simp only[Row.len,ay,aP];omega,?_⟩;rw[← Tr.af h];cases l with
   | none=>simp only[Row.sub,CH,Nat.zero_mul,Nat.zero_add]
   | some l=>simp only[Row.sub,CH,mn,cJ]
 · rename_i f N;obtain ⟨hc,h⟩:=Tr.aT h;rw[iS,decide_eq_true_eq,aC,cJ] at hc;refine ⟨by simp only[Row.len];omega,?_⟩;rw[← Tr.af h];cases l with
   | none=>simp only[Row.sub,CH,Nat.zero_mul,Nat.zero_add]
   | some l=>simp only[Row.sub,CH,aC,cJ]
 · exact (Tr.ah h).elim
def Qw (o:Option AV):Bool :=
 match o with
 | none=>true
 | some _=>false
def FO (mm:Option Nat) (full hiN:Bool) (h len:Nat):Bool :=
 match mm with
 | none=>cond hiN full (bL full (cu h len))
 | some m=>cu h m
def BE (P:Program) (t:TypeId) (x:AV) (lo hi mx:Option AV):Tr AV :=
 match P.underlying t with
 | some (.slice e)=>match bE P e with
   | some z=>match x with
     | .slc d j v off sz len cap=>cond (Nat.beq z sz) ((mz lo hi mx len).bind fun b=>.ok (.slc d j v (EP off b.1 sz) sz (xp b.2.1 b.1) (match b.2.2 with
       | none=>match cap with | none=>none | some c=>some (xp c b.1)
       | some m=>some (xp m b.1)))) .bad
     | .slcT s r sz len full=>cond (Nat.beq z sz) ((mz lo hi mx len).bind fun b=>(Dk r b.1 sz (fD (xp b.2.1 b.1) sz)).bind fun q=>.ok (.slcT s q sz (xp b.2.1 b.1) (FO b.2.2 full (Qw hi) b.2.1 len))) .bad
     | .nils=>(mz lo hi mx 0).bind fun _=>.ok .nils
     | _=>.bad
   | none=>.bad
 | some (.array n e)=>match bE P e with
   | some sz=>match x with
     | .ptr d j v off=>(mz lo hi mx n).bind fun b=>.ok (.slc d j v (EP off b.1 sz) sz (xp b.2.1 b.1) (match b.2.2 with
       | none=>some (xp n b.1)
       | some m=>some (xp m b.1)))
     | _=>.bad
   | none=>.bad
 | _=>.bad
theorem Ew {P:Program} {t:TypeId} {x v:AV} {lo hi mx:Option AV} (h:(BE P t x lo hi mx).run=some v):qk P t x lo hi mx=some v:=by
 unfold BE at h;unfold qk;split at h
 · rename_i e hu;split at h
   · rename_i z hs;split at h
     · rename_i d j ver off sz len cap;obtain ⟨hz,h⟩:=Tr.aW h;have hz:z=sz:=by simpa using hz
       subst hz;obtain ⟨b,h1,h⟩:=Tr.bind_some h;rw[hu];dsimp only;rw[kn h1];dsimp only;rw[if_pos hs,← Tr.af h,BX,mU];obtain ⟨b1,b2,b3⟩:=b;cases b3<;>cases cap<;>simp only[mU,Option.map_some,Option.map_none]
     · rename_i s r sz len full;obtain ⟨hz,h⟩:=Tr.aW h;have hz:z=sz:=by simpa using hz
       subst hz;obtain ⟨b,h1,h⟩:=Tr.bind_some h;obtain ⟨q,h2,h⟩:=Tr.bind_some h;rw[hu];dsimp only;have hb:=kn h1;rw[hb];dsimp only;obtain ⟨k1,k2⟩:=zy h2;rw[cJ,mU] at k1 k2;rw[if_pos ⟨hs,k1⟩,k2,← Tr.af h,mU];congr 2;obtain ⟨b1,b2,b3⟩:=b;dsimp only at hb ⊢;cases b3 with
       | some m=>simp only[FO,eQ];rw[Bool.eq_iff_iff];simp
       | none =>
         simp only[FO];cases hi with
         | some a =>
           simp only[Qw,cond_false,bW,eQ];congr 1;rw[Bool.eq_iff_iff];simp
         | none =>
           simp only[Qw,cond_true];have:b2=len:=by
            unfold ep at hb;cases mx with
            | none =>
              dsimp only[bound] at hb;split at hb
              · simp only[nP] at hb;exact hb.2.1.symm
              · simp at hb
            | some a =>
              dsimp only at hb;split at hb
              · simp at hb
              · simp at hb
           rw[this];simp
     · obtain ⟨b,h1,h⟩:=Tr.bind_some h;rw[hu];dsimp only;rw[kn h1,hs,← Tr.af h]
     · exact (Tr.ah h).elim
   · exact (Tr.ah h).elim
 · rename_i n e hu;split at h
   · rename_i sz hs;split at h
     · rename_i d j ver off;obtain ⟨b,h1,h⟩:=Tr.bind_some h;rw[hu];dsimp only;rw[kn h1];dsimp only;rw[hs,← Tr.af h,BX,mU];obtain ⟨b1,b2,b3⟩:=b;cases b3<;>simp only[mU]
     · exact (Tr.ah h).elim
   · exact (Tr.ah h).elim
 · exact (Tr.ah h).elim

def r5 (H:ab) (sz n:Nat) (x:AV):Tr Row :=
 match x with
 | .slc d i v off sz' len cap=>(xg H d i v (some 0)).bind fun r=>cond (Nat.beq sz' sz) (.req (dO n len) (match r with
    | .M [.arr k z N]=>.req (fF off (fD n sz) 0 N) (.ok (.M [.arr k (qj z off) (fD n sz)]))
    | .I k l=>cond (uy (.I k l) off (Nat.mul n sz)) (.ok (BO d (Row.I k (lj (ld l off) (Nat.mul n sz))))) .bad
    | .G l=>cond (uy (.G l) off (Nat.mul n sz)) (.ok (BO d (Row.G (lj (ld l off) (Nat.mul n sz))))) .bad
    | .F f N=>.req (fF off (fD n sz) 0 N) (.ok (.F (fun j=>f (ar off j)) (fD n sz)))
    | _=>.bad)) .bad
 | .slcT s r sz' len _=>cond (Nat.beq sz' sz) (.req (dO n len) ((Dk r none sz (fD n sz)).bind fun q=>.ok (match s with | none=>q | some k=>BO k q))) .bad
 | _=>.bad
theorem PI (d:Nat) (k:IntKind) (z:Nat→Int) (n:Nat):BO d (.M [.arr k z n])=.M [.arr k z n]:=by cases d<;>rfl
theorem PH (d:Nat) (f:Nat→AV) (n:Nat):BO d (.F f n)=.F f n:=by cases d<;>rfl
theorem pG {H:ab} {sz n:Nat} {x:AV} {q:Row} (h:(r5 H sz n x).run=some q):eD H sz n x=some q:=by
 unfold r5 at h;split at h
 · rename_i d i v off sz' len cap;obtain ⟨r,h1,h⟩:=Tr.bind_some h;obtain ⟨hz,h⟩:=Tr.aW h;have hz:sz'=sz:=by simpa using hz
   obtain ⟨hc,h⟩:=Tr.aT h;rw[iS,decide_eq_true_eq] at hc;unfold eD;dsimp only;rw[kS h1];dsimp only;split at h
   · rename_i k z N;obtain ⟨hc2,h⟩:=Tr.aT h;rw[iP,decide_eq_true_eq,cJ] at hc2;rw[if_pos ⟨hz,hc,by simp only[Row.len,ay,aP];omega⟩,← Tr.af h];simp only[Row.sub,PI,mn,cJ]
   · rename_i k l;obtain ⟨hc2,h⟩:=Tr.aW h;rw[ky,decide_eq_true_eq] at hc2;rw[if_pos ⟨hz,hc,hc2⟩,← Tr.af h,gQ,gH];rfl
   · rename_i l;obtain ⟨hc2,h⟩:=Tr.aW h;rw[ky,decide_eq_true_eq] at hc2;rw[if_pos ⟨hz,hc,hc2⟩,← Tr.af h,gQ,gH];rfl
   · rename_i f N;obtain ⟨hc2,h⟩:=Tr.aT h;rw[iP,decide_eq_true_eq,cJ] at hc2;rw[if_pos ⟨hz,hc,by simp only[Row.len];omega⟩,← Tr.af h];simp only[Row.sub,PH,aC,cJ]
   · exact (Tr.ah h).elim
 · rename_i s r sz' len full;obtain ⟨hz,h⟩:=Tr.aW h;have hz:sz'=sz:=by simpa using hz
   obtain ⟨hc,h⟩:=Tr.aT h;rw[iS,decide_eq_true_eq] at hc;obtain ⟨q',h1,h⟩:=Tr.bind_some h;obtain ⟨k1,k2⟩:=zy h1;rw[cJ] at k1 k2;simp only[CH,Nat.zero_mul,Nat.zero_add] at k1 k2;unfold eD;dsimp only;rw[if_pos ⟨hz,hc,k1⟩,← Tr.af h,k2];cases s<;>rfl
 · exact (Tr.ah h).elim

end
end Go.Eng
end
section
namespace Go.Eng
noncomputable section

theorem Tr.jS {α:Type} {c:Bool} {t:Tr α} {x:α} (h:(cond c .bad t).run=some x):c=false∧t.run=some x:=by
 cases c with
 | false=>exact ⟨rfl,h⟩
 | true=>exact (Tr.ah h).elim

def vE:AV→AV
 | .slcT none (.I k l) sz m _=>.slcT none (.M [.arr k (aI l) (j4 l)]) sz m false
 | .slcT none (.M [.arr k z n]) sz m _=>.slcT none (.M [.arr k z n]) sz m false
 | v=>v
theorem ta (v:AV):vE v=ju v:=by
 unfold vE ju;split
 · simp only[jq,ey]
 · rfl
 · rename_i h1 h2;split
   · exact absurd rfl (h1 _ _ _ _ _)
   · exact absurd rfl (h2 _ _ _ _ _ _)
   · rfl
def FJ (r:Row):Row :=
 match r with
 | .I k l=>.M [.arr k (aI l) (j4 l)]
 | .G [v]=>cond (qF v) (.F (fun _=>vE v) 1) (.G [v])
 | r=>r
theorem wk (r:Row):FJ r=qV true r:=by
 cases r with
 | I k l=>simp only[FJ,qV,if_true,jq,ey]
 | F f n=>rfl
 | M l=>rfl
 | G l =>
   match l with
   | []=>rfl
   | [v] =>
     show cond (qF v) (Row.F (fun _=>vE v) 1) (Row.G [v])=if (true && qF v)=true then Row.F (fun _=>ju v) 1 else Row.G [v]
     rw[ta];cases qF v<;>rfl
   | a::b::r=>rfl
def XE:AV→Nat→Int
 | .slcT _ (.M [.arr _ z _]) _ _ _=>z
 | _=>fun _=>0
def WJ:AV→Nat
 | .slcT _ (.M [.arr _ _ n]) _ _ _=>n
 | _=>0
def WH:AV→Nat
 | .slcT _ _ _ m _=>m
 | _=>0
def Hz (r s:Row):Tr Row :=
 match r with
 | .M [.arr k z n]=>match yn s with
   | some (k',z')=>cond (gJ k' k) (.ok (.M [.arr k (oz z n z') (ar n (ie s))])) .bad
   | none=>.bad
 | .I k l=>match s with
   | .I k' l'=>cond (gJ k' k) (.ok (.I k (qS l l'))) .bad
   | .M [.arr k' z' n']=>cond (gJ k' k) (.ok (.M [.arr k (oz (aI l) (j4 l) z') (ar (j4 l) n')])) .bad
   | _=>.bad
 | .G l=>match s with
   | .G l'=>.ok (.G (qS l l'))
   | _=>.bad
 | .F f n=>match s with
   | .G [v]=>cond (qF v) (match vE v with
     | .slcT none (.M [.arr k z N]) sz m full=>.reqP (K3 f k sz full)
       (.ok (.F (fun j=>.slcT none (.M [.arr k (My (bR j n) (XE (f j)) z) (I7 (bR j n) (WJ (f j)) N)]) sz (I7 (bR j n) (WH (f j)) m) full) (ar n 1)))
     | _=>.bad) .bad
   | _=>.bad
 | _=>.bad
theorem BZ {r s q:Row} (h:(Hz r s).run=some q):r.app s=q:=by
 unfold Hz at h;split at h
 · rename_i k z n;rw[sJ] at h;split at h
   · rename_i k' z' hi;obtain ⟨hk,h⟩:=Tr.aW h;rw[eZ,decide_eq_true_eq] at hk;have e:Row.app (.M [.arr k z n]) s=(match (Row.M [.arr k z n]).uq s with | some q=>q | none=>.G ((Row.M [.arr k z n]).toList++s.toList)):=by
      cases s<;>rfl
     rw[e];unfold Row.uq;rw[hi];dsimp only[Row.ints];rw[if_pos hk,← Tr.af h,mr,aC,fb];rfl
   · exact (Tr.ah h).elim
 · rename_i k l;split at h
   · rename_i k' l';obtain ⟨hk,h⟩:=Tr.aW h;rw[eZ,decide_eq_true_eq] at hk;simp only[Row.app];rw[if_pos hk,← Tr.af h,rh]
   · rename_i k' z' n';obtain ⟨hk,h⟩:=Tr.aW h;rw[eZ,decide_eq_true_eq] at hk;simp only[Row.app];unfold Row.uq;dsimp only[Row.ints];rw[if_pos hk,← Tr.af h,mr,aC,ey,jq];rfl
   · exact (Tr.ah h).elim
 · split at h
   · rw[← Tr.af h,rh];rfl
   · exact (Tr.ah h).elim
 · rename_i f n;split at h
   · rename_i v;obtain ⟨hv,h⟩:=Tr.aW h;split at h
     · rename_i k z N sz m full hn;obtain ⟨hf,h⟩:=Tr.gl h;rw[ta] at hn;rw[← Tr.af h,aC];show Row.F _ _=Row.F _ _;congr 1;funext j;simp only[Ja,I8,gV];by_cases e:j<n
       · have hb:Nat.blt j n=true:=by rw[Nat.blt_eq];exact e
         rw[hb,if_pos rfl,decide_eq_true e];rw[Hu] at hf;obtain ⟨z',n',m',e'⟩:=hf j;rw[e'];rfl
       · have hb:Nat.blt j n=false:=by
          cases hb:Nat.blt j n with
          | false=>rfl
          | true=>rw[Nat.blt_eq] at hb;exact absurd hb e
         rw[hb,if_neg (by simp),decide_eq_false e];show (if gN v=true then ju v else .undef)=_;rw[if_pos (sK hv),hn];rfl
     · exact (Tr.ah h).elim
   · exact (Tr.ah h).elim
 · exact (Tr.ah h).elim
def Ow (x:AV):Bool :=
 match x with
 | .slc _ _ _ _ _ _ (some _)=>true
 | _=>false
def Oe (s:AV):Bool :=
 match s with
 | .nils | .slc .. | .slcT ..=>true
 | _=>false
def rO (P:Program) (e:TypeId) (n:Nat):Bool :=
 match (cX P e).bind AV.row with
 | some z=>Nat.beq (ie z) n
 | none=>false
theorem ud {P:Program} {e:TypeId} {n:Nat} (h:rO P e n=true):((cX P e).bind AV.row).map Row.len=some n:=by
 unfold rO at h;split at h
 · rename_i z hz;rw[fb] at h;have h:=Nat.eq_of_beq_eq_true h;rw[hz,Option.map_some,h]
 · simp at h
def Cs (H:ab) (nx sz m n:Nat) (s:AV) (new:Row):Tr (AV×Delta) :=
 (r5 H sz m s).bind fun old=>(Hz old new).bind fun r=>.ok (.slc 0 nx 0 0 sz (ar m n) none,.push (.row (FJ r)))
def xr (r:Row) (off n:Nat):Tr Row :=
 match r with
 | .M [.arr k z N]=>.req (cu (ar off n) N) (.ok (.M [.arr k (qj z off) n]))
 | .G l=>cond (Nat.beq (Nat.add off n) (j4 l)) (.ok (.G (lj (ld l off) n))) .bad
 | .F f N=>.req (cu (ar off n) N) (.ok (.F (fun j=>f (ar off j)) n))
 | _=>.bad
theorem BL {r q:Row} {off n:Nat} (h:(xr r off n).run=some q):off+n=r.len∧r.sub off n=q:=by
 unfold xr at h;split at h
 · rename_i k z N;obtain ⟨hc,h⟩:=Tr.aT h;rw[eQ,decide_eq_true_eq,aC] at hc;refine ⟨by simp only[Row.len,ay,aP];omega,?_⟩;rw[← Tr.af h,mn];rfl
 · rename_i l;obtain ⟨hc,h⟩:=Tr.aW h;rw[ey] at hc;have hc:=Nat.eq_of_beq_eq_true hc;exact ⟨hc,by rw[← Tr.af h,gQ,gH];rfl⟩
 · rename_i f N;obtain ⟨hc,h⟩:=Tr.aT h;rw[eQ,decide_eq_true_eq,aC] at hc;refine ⟨hc,?_⟩;rw[← Tr.af h];simp only[aC];rfl
 · exact (Tr.ah h).elim
def ET (P:Program) (nx:Nat) (e:TypeId) (s x:AV):Tr (AV×Delta) :=
 match P.info? e with
 | some inf=>match s with
   | .nils=>match x with
     | .int _ k=>cond (Nat.blt 0 inf.size) (cond (rO P e inf.size) (.req (Ec k k inf.bytes) (.ite (cK k (Int.ofNat 0)) (.ok (.nils,.bA)) (.ok (.slc 0 nx 0 0 inf.size (cg k) none,.push (.row (FJ (.I .i64 []))))))) .bad) .bad
     | _=>.bad
   | _=>.bad
 | none=>.bad
theorem EU {P:Program} {nx:Nat} {e:TypeId} {s x:AV} {y:AV×Delta} (h:(ET P nx e s x).run=some y):ES P true nx e s x=some y:=by
 unfold ET at h;unfold ES;split at h
 · rename_i inf hi;rw[hi];split at h
   · split at h
     · rename_i kk k;obtain ⟨hb,h⟩:=Tr.aW h;obtain ⟨hz,h⟩:=Tr.aW h;obtain ⟨hm,h⟩:=Tr.aT h;rw[wL,decide_eq_true_eq] at hm;dsimp only;rw[if_pos ⟨hm.1,hm.2.2.2,hm.2.2.1,B8 hb,ud hz⟩];rcases Tr.jZ h with ⟨hc,h⟩ | ⟨hc,h⟩
       · rw[bf,beq_iff_eq] at hc;rw[if_pos (show k=0 from hc),Tr.af h]
       · rw[bf,beq_eq_false_iff_ne] at hc;rw[if_neg (show ¬ k=0 from hc),← Tr.af h,wk,jK]
     · exact (Tr.ah h).elim
   · exact (Tr.ah h).elim
 · exact (Tr.ah h).elim
def oA (P:Program) (H:ab) (nx:Nat) (t u:TypeId) (s x:AV):Tr (AV×Delta) :=
 match P.underlying t with
 | some (.slice e)=>match P.underlying u with
   | some (.slice _)=>match P.info? e with
     | some inf=>match nL s with
       | some m=>match nL x with
         | some n=>cond (Oe s) (match Ow x,n with
           | true,0=>.ok (s,.bA)
           | true,_=>main P H nx e inf s x m n
           | false,_=>.ite (cu n 0) (.ok (s,.bA)) (main P H nx e inf s x m n)) .bad
         | none=>.bad
       | none=>.bad
     | none=>.bad
   | some (.int _)=>ET P nx e s x
   | _=>.bad
 | _=>.bad
where
 main (P : Program) (H:ab) (nx:Nat) (e:TypeId) (inf:TypeInfo) (s x:AV) (m n:Nat):Tr (AV×Delta) :=
  .req (ig m n inf.bytes) (cond (Nat.blt 0 inf.bytes) (cond (rO P e inf.size) ((r5 H inf.size n x).bind fun new =>
   match s with
   | .nils=>.ok (.slc 0 nx 0 0 inf.size n none,.push (.row (FJ new)))
   | .slcT _ _ _ _ full=>.req full (Cs H nx inf.size m n s new)
   | .slc d i v off sz _ (some c)=>.ite (bR c (ar m n)) (Cs H nx inf.size m n s new)
     (cond (jF H d) .bad ((xg H d i v (some 0)).bind fun r=>cond (Nat.beq sz inf.size) (match r with
       | .M l=>match kW (jd d new) with
         | []=>.bad
         | y::ys=>(zo (ar off (fD m sz)) (some 0) (y::ys) 0 l).bind fun l'=>.ok (.slc d i v off sz (ar m n) (some c),.set d i (v,.row (.M l')))
       | _=>.bad) .bad))
   | .slc d i v off sz _ none=>cond (jF H d) .bad ((xg H d i v (some 0)).bind fun r=>cond (Nat.beq sz inf.size)
     ((xr r off (fD m sz)).bind fun old=>(Hz old (jd d new)).bind fun r'=>.ok (.slc d i (Nat.succ v) 0 sz (ar m n) none,.set d i (Nat.succ v,.row r'))) .bad)
   | _=>.bad) .bad) .bad)
theorem r6 {H:ab} {sz n:Nat} {x:AV} {q:Row} (h:eD H sz n x=some q):q.len=n*sz:=by
 unfold eD at h;split at h
 · split at h
   · rename_i hn;simp only[Option.some.injEq] at h;rw[← h,hn];simp[Row.len]
   · simp at h
 · split at h
   · split at h
     · rename_i hf;simp only[Option.some.injEq] at h;rw[← h,pw,Row.dp _ _ _ hf.2.2]
     · simp at h
   · simp at h
 · split at h
   · rename_i hf;simp only[Option.some.injEq] at h;rw[← h];split
     · exact Row.dp _ _ _ wO
     · rw[pw,Row.dp _ _ _ wO]
   · simp at h
 · simp at h
theorem yd {H:ab} {nx sz m n:Nat} {s:AV} {new:Row} {y:AV×Delta} (h:(Cs H nx sz m n s new).run=some y):∃ old,eD H sz m s=some old∧y=(.slc 0 nx 0 0 sz (m+n) none,.push (.row (qV true (old.app new)))):=by
 unfold Cs at h;obtain ⟨old,h1,h⟩:=Tr.bind_some h;obtain ⟨r,h2,h⟩:=Tr.bind_some h;refine ⟨old,pG h1,?_⟩;rw[← Tr.af h,aC,wk,BZ h2]
theorem AF         {P : Program} {H:ab} {nx:Nat} {t u:TypeId} {s x:AV} {y:AV×Delta} (h:(oA P H nx t u s x).run=some y):oB P true H nx t u s x=some y:=by
 unfold oA at h;unfold oB;split at h
 · rename_i e ht;split at h
   · rename_i e' hu;split at h
     · rename_i inf hi;split at h
       · rename_i m hm;split at h
         · rename_i n hn;obtain ⟨hsl,h⟩:=Tr.aW h;rw[ht,hu];dsimp only;rw[hi,hm,hn];dsimp only;have hcase:(n=0∧(s,Delta.bA)=y)∨(n≠0∧(oA.main P H nx e inf s x m n).run=some y):=by
            cases hx:Ow x with
            | true =>
              rw[hx] at h;cases n with
              | zero=>exact .inl ⟨rfl,Tr.af h⟩
              | succ n=>exact .inr ⟨by omega,h⟩
            | false =>
              rw[hx] at h;rcases Tr.jZ h with ⟨hc,h⟩ | ⟨hc,h⟩
              · rw[eQ,decide_eq_true_eq] at hc;exact .inl ⟨hc,Tr.af h⟩
              · rw[eQ,decide_eq_false_iff_not] at hc;exact .inr ⟨hc,h⟩
           clear h;rcases hcase with ⟨h0,h⟩ | ⟨h0,h⟩
           · rw[if_pos h0];cases s<;>simp[Oe] at hsl<;>exact congrArg some h
           rw[if_neg h0];unfold oA.main at h;obtain ⟨hr,h⟩:=Tr.aT h;rw[zi,decide_eq_true_eq] at hr;obtain ⟨hb,h⟩:=Tr.aW h;obtain ⟨hz,h⟩:=Tr.aW h;obtain ⟨new,h1,h⟩:=Tr.bind_some h;have hcv:=pG h1;rw[if_pos ⟨hr.1,hr.2,B8 hb,ud hz⟩,hcv];dsimp only;split at h
           · rw[← Tr.af h,wk]
           · rename_i sT r szT Ir full;obtain ⟨hf,h⟩:=Tr.aT h;obtain ⟨old,h2,rfl⟩:=yd h;subst hf;dsimp only;rw[h2]
           · rename_i d i v off sz len c _ _ _ _ _;rcases Tr.jZ h with ⟨hc,h⟩ | ⟨hc,h⟩
             · rw[gV,decide_eq_true_eq,aC] at hc;obtain ⟨old,h2,rfl⟩:=yd h;dsimp only;rw[if_pos hc,h2]
             · rw[gV,decide_eq_false_iff_not,aC] at hc;dsimp only;rw[if_neg hc];rw[gh] at h;obtain ⟨hl,h⟩:=Tr.jS h;obtain ⟨r,h2,h⟩:=Tr.bind_some h;obtain ⟨hs,h⟩:=Tr.aW h;have hs:=Nat.eq_of_beq_eq_true hs;rw[hl,if_neg (by simp),kS h2];dsimp only;split at h
               · rename_i l _;rw[oi] at h;have hcl:=r6 hcv;split at h
                 · exact (Tr.ah h).elim
                 · rename_i y0 ys hy;obtain ⟨l',h3,h⟩:=Tr.bind_some h;obtain ⟨k1,k2⟩:=tL _ _ _ _ h3;rw[aC,cJ,Nat.add_zero] at k1 k2;have hlen:=Row.bo (jd d new);rw[hy,fe,hcl] at hlen;have hfit:off+(m+n)*sz≤(Row.M l).len:=by
                    rcases k1 with k1 | k1
                    · simp at k1
                    · rw[hlen,← hs] at k1;rw[Nat.add_mul];show _≤ay l;omega
                   rw[if_pos ⟨hs,hfit⟩,hy,k2,← Tr.af h,aC]
               · exact (Tr.ah h).elim
           · rename_i d i v off sz len _ _ _ _ _;dsimp only;rw[gh] at h;obtain ⟨hl,h⟩:=Tr.jS h;obtain ⟨r,h2,h⟩:=Tr.bind_some h;obtain ⟨hs,h⟩:=Tr.aW h;have hs:=Nat.eq_of_beq_eq_true hs;obtain ⟨old,h3,h⟩:=Tr.bind_some h;obtain ⟨r',h4,h⟩:=Tr.bind_some h;obtain ⟨k1,k2⟩:=BL h3;rw[cJ] at k1 k2;rw[hl,if_neg (by simp),kS h2];dsimp only;rw[if_pos ⟨hs,k1⟩,k2,BZ h4,← Tr.af h,aC]
           · exact (Tr.ah h).elim
         · exact (Tr.ah h).elim
       · exact (Tr.ah h).elim
     · exact (Tr.ah h).elim
   · rename_i k' hu;rw[ht,hu];exact EU h
   · exact (Tr.ah h).elim
 · exact (Tr.ah h).elim

end
end Go.Eng
end
