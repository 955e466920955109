/- The engine as a tree: slices, numbers, operations. -/
import Derived.Test.YtigmfpmabgekoaaGreatV6EngTb
set_option linter.unusedVariables false
set_option linter.unusedSimpArgs false
section
namespace Go.Eng
noncomputable section

theorem Tr.aM {α:Type} {c:Bool} {t:Tr α} {x:α} (h:(cond c t .bad).run=some x):c=true∧t.run=some x:=by
 cases c with
 | true=>exact ⟨rfl,h⟩
 | false=>exact (Tr.ae h).elim
def Ie (op:BinOp) (k:IntKind) (x y:Int):Tr AV :=
 match op with
 | .add=>.ok (.int k (bk k x y))
 | .sub=>.ok (.int k (cD k x y))
 | .mul=>.ok (.int k (F5 k x y))
 | .quo=>.req (dQ (eU y 0)) (.ok (.int k (II k x y)))
 | .rem=>.req (dQ (eU y 0)) (.ok (.int k (IL k x y)))
 | .and=>.ok (.int k (yV k x y))
 | .or=>.ok (.int k (M7 k x y))
 | .xor=>.ok (.int k (I5 k x y))
 | .andNot=>.ok (.int k (Lc k x y))
 | .eql=>.ok (.bool (eU x y))
 | .neq=>.ok (.bool (dQ (eU x y)))
 | .lss=>.ok (.bool (cP x y))
 | .leq=>.ok (.bool (mK x y))
 | .gtr=>.ok (.bool (cP y x))
 | .geq=>.ok (.bool (mK y x))
 | _=>.bad
theorem FE {op:BinOp} {k:IntKind} {x y:Int} {v:AV} (h:(Ie op k x y).run=some v):gP op k x y=some v:=by
 unfold Ie at h
 unfold gP
 cases op<;>dsimp only at h ⊢<;>try exact (Tr.ae h).elim
 case quo =>
  obtain ⟨hc,h⟩:=Tr.aI h
  rw[hY,bR] at hc
  have:¬ y=0:=by simpa using hc
  rw[if_neg this,← Tr.ab h,Gn]
 case rem =>
  obtain ⟨hc,h⟩:=Tr.aI h
  rw[hY,bR] at hc
  have:¬ y=0:=by simpa using hc
  rw[if_neg this,← Tr.ab h,Gs]
 all_goals
  have h:=Tr.ab h
  subst h
  first
   | rfl
   | (simp only[gt_iff_lt,ge_iff_le,dB,db,re,qU,zH,wz,yU,bR,hY,ew,lR,bne];done)
   | (simp only[dB,db,re,qU,zH,wz,yU,bR,hY,ew,lR];done)
   | (simp only[dB,db,re,qU,zH,wz,yU,bR,hY,ew,lR];rfl)
def g7:List Int→List Int→Bool
 | [],[]=>true
 | [x],[y]=>eU x y
 | x::x'::a,y::y'::b=>fB (eU x y) (g7 (x'::a) (y'::b))
 | _,_=>false
theorem ss:∀ (l m:List Int),g7 l m=eQ l m
 | [],[]=>rfl
 | [],_::_=>by simp[g7,eQ]
 | _::_,[]=>by simp[g7,eQ]
 | [x],[y]=>by simp[g7,eQ,bR]
 | [x],y::y'::b=>by simp[g7,eQ]
 | x::x'::a,[y]=>by simp[g7,eQ]
 | x::x'::a,y::y'::b=>by
   simp only[g7]
   rw[nK,bR,ss (x'::a) (y'::b)];rfl
def xw (r:Row):Option (IntKind×(Nat→Int)) :=
 match r with
 | .I k l=>some (k,aL l)
 | .M [.arr k z _]=>some (k,z)
 | _=>none
theorem sn (r:Row):xw r=r.ints:=by
 match r with
 | .I k l=>simp only[xw,Row.ints,kD]
 | .G l=>rfl
 | .F f n=>rfl
 | .M []=>rfl
 | .M [.arr k z n]=>rfl
 | .M (.one v::r)=>rfl
 | .M (.arr k z n::s::r)=>rfl
def I9 (P:Program) (t:TypeId) (x y:AV):Tr Bool :=
 match x,y with
 | .bool a,.bool b=>match P.underlying t with
   | some .bool=>.ok (LC a b)
   | _=>.bad
 | .nils,.slcT s r sz n f=>match P.underlying t with
   | some (.slice _)=>.req (bX 0 n) (.ok false)
   | _=>.bad
 | .slcT s r sz n f,.nils=>match P.underlying t with
   | some (.slice _)=>.req (bX 0 n) (.ok false)
   | _=>.bad
 | .agg (.I k a),.agg (.I k' b)=>cond (fY k k') (match bW P 20 t with
   | some n=>match eS P t with
     | some true=>cond (Nat.beq n (g6 a)) (cond (Nat.beq (g6 a) (g6 b)) (.ok (g7 a b)) .bad) .bad
     | _=>.bad
   | none=>.bad) .bad
 | .agg (.M l),.agg s=>eqMT P t (.M l) s
 | .agg (.I k a),.agg (.M l)=>eqMT P t (.I k a) (.M l)
 | x,y=>uN (yQ P t x y)
where
 eqMT (P:Program) (t:TypeId) (r s:Row):Tr Bool :=
  match xw r,xw s with
  | some (k,z),some (k',z')=>cond (fY k k') (match bW P 20 t with
    | some n=>match eS P t with
      | some true=>cond (Nat.beq n (gV r)) (cond (Nat.beq (gV r) (gV s)) (.ok (kd z z' (gV r))) .bad) .bad
      | _=>.bad
    | none=>.bad) .bad
  | _,_=>.bad
theorem Aw {P:Program} {t:TypeId} {r s:Row} {b:Bool} (h:(I9.eqMT P t r s).run=some b):I8 P t r s=some b:=by
 unfold I9.eqMT at h
 rw[sn,sn] at h
 unfold I8
 split at h
 · rename_i k z k' z' h1 h2
   rw[h1,h2]
   obtain ⟨hk,h⟩:=Tr.aM h
   rw[ev,decide_eq_true_eq] at hk
   split at h
   · rename_i n hn
     split at h
     · rename_i ha
       obtain ⟨e1,h⟩:=Tr.aM h
       obtain ⟨e2,h⟩:=Tr.aM h
       rw[eY] at e1 e2 h
       rw[eY] at e2
       have e1:n=r.len:=by simpa using e1
       have e2:r.len=s.len:=by simpa using e2
       dsimp only
       rw[if_pos ⟨hk,by rw[hn,e1],ha,e2⟩,← Tr.ab h,Bx]
     · exact (Tr.ae h).elim
   · exact (Tr.ae h).elim
 · exact (Tr.ae h).elim
theorem C8 {P:Program} {t:TypeId} {x y:AV} {b:Bool} (h:(I9 P t x y).run=some b):yQ P t x y=some b:=by
 unfold I9 at h
 split at h
 · split at h
   · rename_i hu
     unfold yQ
     dsimp only
     rw[hu,← Tr.ab h,HQ]
   · exact (Tr.ae h).elim
 · split at h
   · rename_i hu
     obtain ⟨hc,h⟩:=Tr.aI h
     rw[gQ,decide_eq_true_eq] at hc
     unfold yQ
     dsimp only
     rw[hu]
     dsimp only
     rw[if_pos hc,Tr.ab h]
   · exact (Tr.ae h).elim
 · split at h
   · rename_i hu
     obtain ⟨hc,h⟩:=Tr.aI h
     rw[gQ,decide_eq_true_eq] at hc
     unfold yQ
     dsimp only
     rw[hu]
     dsimp only
     rw[if_pos hc,Tr.ab h]
   · exact (Tr.ae h).elim
 · obtain ⟨hk,h⟩:=Tr.aM h
   rw[ev,decide_eq_true_eq] at hk
   split at h
   · rename_i n hn
     split at h
     · rename_i ha
       obtain ⟨e1,h⟩:=Tr.aM h
       obtain ⟨e2,h⟩:=Tr.aM h
       rw[c8] at e1 e2
       rw[c8] at e2
       have e1:=Nat.eq_of_beq_eq_true e1
       have e2:=Nat.eq_of_beq_eq_true e2
       unfold yQ
       dsimp only
       rw[if_pos ⟨hk,by rw[hn,e1],ha,e2⟩,← Tr.ab h,ss]
     · exact (Tr.ae h).elim
   · exact (Tr.ae h).elim
 · unfold yQ;exact Aw h
 · unfold yQ;exact Aw h
 · rw[cN] at h;exact h
def CP (P:Program) (op:BinOp) (t:TypeId) (x y:AV):Tr AV :=
 match x,y with
 | .int k a,.int k' b=>match op with
   | .shl=>.req (mK 0 b) (.ok (.int k (yE k a b)))
   | .shr=>.req (mK 0 b) (.ok (.int k (zQ k a b)))
   | op=>cond (fY k k') (Ie op k a b) .bad
 | x,y=>match op with
   | .eql=>(I9 P t x y).bind fun b=>.ok (.bool b)
   | .neq=>(I9 P t x y).bind fun b=>.ok (.bool (dQ b))
   | _=>.bad
theorem Ff {P:Program} {op:BinOp} {t:TypeId} {x y v:AV} (h:(CP P op t x y).run=some v):jD P op t x y=some v:=by
 unfold CP at h
 split at h
 · rename_i k a k' b
   split at h
   · obtain ⟨hc,h⟩:=Tr.aI h
     rw[lR,decide_eq_true_eq] at hc
     unfold jD
     dsimp only
     rw[if_neg (by omega),← Tr.ab h,A9]
   · obtain ⟨hc,h⟩:=Tr.aI h
     rw[lR,decide_eq_true_eq] at hc
     unfold jD
     dsimp only
     rw[if_neg (by omega),← Tr.ab h,Ba]
   · rename_i h1 h2
     obtain ⟨hk,h⟩:=Tr.aM h
     rw[ev,decide_eq_true_eq] at hk
     have:jD P op t (.int k a) (.int k' b)=if k=k' then gP op k a b else none:=by
      unfold jD
      cases op<;>first | rfl | exact (h1 rfl).elim | exact (h2 rfl).elim
     rw[this,if_pos hk]
     exact FE h
 · rename_i hn
   split at h
   · obtain ⟨b,h1,h⟩:=Tr.bind_some h
     have h2:=C8 h1
     have:jD P .eql t x y=(yQ P t x y).map .bool:=by
      unfold jD
      cases x<;>cases y<;>first | rfl | exact (hn _ _ _ _ rfl rfl).elim
     rw[this,h2,← Tr.ab h];rfl
   · obtain ⟨b,h1,h⟩:=Tr.bind_some h
     have h2:=C8 h1
     have:jD P .neq t x y=(yQ P t x y).map fun b=>.bool (!b):=by
      unfold jD
      cases x<;>cases y<;>first | rfl | exact (hn _ _ _ _ rfl rfl).elim
     rw[this,h2,← Tr.ab h,hY];rfl
   · exact (Tr.ae h).elim
def NS (op:UnOp) (x:AV):Tr AV :=
 match op,x with
 | .not,.bool b=>.ok (.bool (dQ b))
 | .neg,.int k n=>.ok (.int k (Ix k n))
 | _,_=>.bad
theorem I2 {op:UnOp} {x v:AV} (h:(NS op x).run=some v):K0 op x=some v:=by
 unfold NS at h
 split at h
 · rw[← Tr.ab h,hY];rfl
 · rw[← Tr.ab h,Gb];rfl
 · exact (Tr.ae h).elim
def oK (mx:Bool) (k:IntKind) (x:Int):List AV→Tr AV
 | []=>.ok (.int k x)
 | v::r=>match v with
   | .int k' y=>cond (fY k k') (oK mx k (cond mx (vP x y) (DJ x y)) r) .bad
   | _=>.bad
theorem nm {mx:Bool} {k:IntKind}:∀ (l:List AV) (x:Int) (v:AV),(oK mx k x l).run=some v→ey mx k x l=some v
 | [],x,v,h=>by rw[← Tr.ab h];rfl
 | u :: r,x,v,h=>by
   simp only[oK] at h
   split at h
   · rename_i k' y
     obtain ⟨hk,h⟩:=Tr.aM h
     rw[ev,decide_eq_true_eq] at hk
     simp only[ey]
     rw[if_pos hk,← nm r _ v h,vQ,AQ]
     cases mx<;>rfl
   · exact (Tr.ae h).elim

def iE (a sz:Nat):Nat :=
 match sz with
 | 1=>a
 | s=>bg a s
theorem b7 (a sz:Nat):iE a sz=a*sz:=by
 unfold iE
 split
 · rw[Nat.mul_one]
 · rw[g8]
abbrev NX:=Option Nat×Nat×Option Nat
def mb (lo hi mx:Option AV) (len:Nat):Tr NX :=
 match mx with
 | none=>(match hi with
    | none=>.ok len
    | some (.int _ i)=>.req (nT i len) (.ok (gI i))
    | some _=>.bad:Tr Nat).bind fun h=>(match lo with
    | none=>.ok (none,h,none)
    | some (.int _ i)=>.req (nT i h) (.ok (some (gI i),h,none))
    | some _=>.bad)
 | some (.int _ m)=>.req (nT m len) (match hi with
    | some (.int _ i)=>.req (nT i (gI m)) (match lo with
      | none=>.ok (none,gI i,some (gI m))
      | some (.int _ j)=>.req (nT j (gI i)) (.ok (some (gI j),gI i,some (gI m)))
      | some _=>.bad)
    | _=>.bad)
 | some _=>.bad
def AN (l:Option Nat):Nat :=
 match l with
 | none=>0
 | some l=>l
theorem gA {i:Int} {k:IntKind} {d top:Nat} (h:nT i top=true):bound (some (.int k i)) d top=some (gI i):=by
 rw[An,decide_eq_true_eq] at h
 simp only[bound]
 rw[if_pos h,iN]
theorem kg {lo hi mx:Option AV} {len:Nat} {b:NX} (h:(mb lo hi mx len).run=some b):dR lo hi mx len=some (AN b.1,b.2.1,b.2.2):=by
 unfold mb at h
 unfold dR
 split at h
 · obtain ⟨h',h1,h⟩:=Tr.bind_some h
   have e1:bound hi len len=some h':=by
    split at h1
    · rw[← Tr.ab h1];rfl
    · obtain ⟨hc,h1⟩:=Tr.aI h1
      rw[gA hc,Tr.ab h1]
    · exact (Tr.ae h1).elim
   dsimp only
   rw[e1]
   dsimp only
   split at h
   · rw[← Tr.ab h];rfl
   · obtain ⟨hc,h⟩:=Tr.aI h
     rw[gA hc,← Tr.ab h];rfl
   · exact (Tr.ae h).elim
 · rename_i k m
   obtain ⟨hm,h⟩:=Tr.aI h
   dsimp only
   rw[gA hm]
   dsimp only
   split at h
   · rename_i k' i
     obtain ⟨hi,h⟩:=Tr.aI h
     simp only[Option.isSome_some,if_true]
     rw[gA hi]
     dsimp only
     split at h
     · rw[← Tr.ab h];rfl
     · obtain ⟨hc,h⟩:=Tr.aI h
       rw[gA hc,← Tr.ab h];rfl
     · exact (Tr.ae h).elim
   · exact (Tr.ae h).elim
 · exact (Tr.ae h).elim
def wm (a:Nat) (l:Option Nat):Nat :=
 match l with
 | none=>a
 | some l=>p8 a l
theorem mz (a:Nat) (l:Option Nat):wm a l=a-AN l:=by
 cases l with
 | none=>rfl
 | some l=>exact kN a l
def CI (off:Nat) (l:Option Nat) (sz:Nat):Nat :=
 match l with
 | none=>off
 | some l=>aq off (iE l sz)
theorem Af (off:Nat) (l:Option Nat) (sz:Nat):CI off l sz=off+AN l*sz:=by
 cases l with
 | none=>simp[CI,AN]
 | some l=>simp only[CI,AN,ba,b7]
def Bd (r:Row) (l:Option Nat) (sz n:Nat):Tr Row :=
 match r with
 | .M [.arr k z N]=>.req (gi (aq (iE (AN l) sz) n) N) (.ok (.M [.arr k (match l with | none=>z | some l=>qL z (iE l sz)) n]))
 | .F f N=>.req (gi (aq (iE (AN l) sz) n) N) (.ok (.F (match l with | none=>f | some l=>fun j=>f (aq (iE l sz) j)) n))
 | _=>.bad
theorem yI {r q:Row} {l:Option Nat} {sz n:Nat} (h:(Bd r l sz n).run=some q):AN l*sz+n≤r.len∧r.sub (AN l*sz) n=q:=by
 unfold Bd at h
 split at h
 · rename_i k z N
   obtain ⟨hc,h⟩:=Tr.aI h
   rw[kB,decide_eq_true_eq,ba,b7] at hc
   refine ⟨by simp only[Row.len,ay,aG];omega,?_⟩
   rw[← Tr.ab h]
   cases l with
   | none=>simp only[Row.sub,AN,Nat.zero_mul,Nat.zero_add]
   | some l=>simp only[Row.sub,AN,jx,b7]
 · rename_i f N
   obtain ⟨hc,h⟩:=Tr.aI h
   rw[kB,decide_eq_true_eq,ba,b7] at hc
   refine ⟨by simp only[Row.len];omega,?_⟩
   rw[← Tr.ab h]
   cases l with
   | none=>simp only[Row.sub,AN,Nat.zero_mul,Nat.zero_add]
   | some l=>simp only[Row.sub,AN,ba,b7]
 · exact (Tr.ae h).elim
def LM (o:Option AV):Bool :=
 match o with
 | none=>true
 | some _=>false
def Dm (mm:Option Nat) (full hiN:Bool) (h len:Nat):Bool :=
 match mm with
 | none=>cond hiN full (fB full (dJ h len))
 | some m=>dJ h m
def zR (P:Program) (t:TypeId) (x:AV) (lo hi mx:Option AV):Tr AV :=
 match P.underlying t with
 | some (.slice e)=>match bf P e with
   | some z=>match x with
     | .slc d j v off sz len cap=>cond (Nat.beq z sz) ((mb lo hi mx len).bind fun b=>.ok (.slc d j v (CI off b.1 sz) sz (wm b.2.1 b.1) (match b.2.2 with
       | none=>match cap with | none=>none | some c=>some (wm c b.1)
       | some m=>some (wm m b.1)))) .bad
     | .slcT s r sz len full=>cond (Nat.beq z sz) ((mb lo hi mx len).bind fun b=>(Bd r b.1 sz (iE (wm b.2.1 b.1) sz)).bind fun q=>.ok (.slcT s q sz (wm b.2.1 b.1) (Dm b.2.2 full (LM hi) b.2.1 len))) .bad
     | .nils=>(mb lo hi mx 0).bind fun _=>.ok .nils
     | _=>.bad
   | none=>.bad
 | some (.array n e)=>match bf P e with
   | some sz=>match x with
     | .ptr d j v off=>(mb lo hi mx n).bind fun b=>.ok (.slc d j v (CI off b.1 sz) sz (wm b.2.1 b.1) (match b.2.2 with
       | none=>some (wm n b.1)
       | some m=>some (wm m b.1)))
     | _=>.bad
   | none=>.bad
 | _=>.bad
theorem Cp {P:Program} {t:TypeId} {x v:AV} {lo hi mx:Option AV} (h:(zR P t x lo hi mx).run=some v):p7 P t x lo hi mx=some v:=by
 unfold zR at h
 unfold p7
 split at h
 · rename_i e hu
   split at h
   · rename_i z hs
     split at h
     · rename_i d j ver off sz len cap
       obtain ⟨hz,h⟩:=Tr.aM h
       have hz:z=sz:=by simpa using hz
       subst hz
       obtain ⟨b,h1,h⟩:=Tr.bind_some h
       rw[hu]
       dsimp only
       rw[kg h1]
       dsimp only
       rw[if_pos hs,← Tr.ab h,Af,mz]
       obtain ⟨b1,b2,b3⟩:=b
       cases b3<;>cases cap<;>simp only[mz,Option.map_some,Option.map_none]
     · rename_i s r sz len full
       obtain ⟨hz,h⟩:=Tr.aM h
       have hz:z=sz:=by simpa using hz
       subst hz
       obtain ⟨b,h1,h⟩:=Tr.bind_some h
       obtain ⟨q,h2,h⟩:=Tr.bind_some h
       rw[hu]
       dsimp only
       have hb:=kg h1
       rw[hb]
       dsimp only
       obtain ⟨k1,k2⟩:=yI h2
       rw[b7,mz] at k1 k2
       rw[if_pos ⟨hs,k1⟩,k2,← Tr.ab h,mz]
       congr 2
       obtain ⟨b1,b2,b3⟩:=b
       dsimp only at hb ⊢
       cases b3 with
       | some m=>simp only[Dm,gb];rw[Bool.eq_iff_iff];simp
       | none =>
         simp only[Dm]
         cases hi with
         | some a =>
           simp only[LM,cond_false,nK,gb]
           congr 1
           rw[Bool.eq_iff_iff];simp
         | none =>
           simp only[LM,cond_true]
           have:b2=len:=by
            unfold dR at hb
            cases mx with
            | none =>
              dsimp only[bound] at hb
              split at hb
              · simp only[nP] at hb;exact hb.2.1.symm
              · simp at hb
            | some a =>
              dsimp only at hb
              split at hb
              · simp at hb
              · simp at hb
           rw[this];simp
     · obtain ⟨b,h1,h⟩:=Tr.bind_some h
       rw[hu]
       dsimp only
       rw[kg h1,hs,← Tr.ab h]
     · exact (Tr.ae h).elim
   · exact (Tr.ae h).elim
 · rename_i n e hu
   split at h
   · rename_i sz hs
     split at h
     · rename_i d j ver off
       obtain ⟨b,h1,h⟩:=Tr.bind_some h
       rw[hu]
       dsimp only
       rw[kg h1]
       dsimp only
       rw[hs,← Tr.ab h,Af,mz]
       obtain ⟨b1,b2,b3⟩:=b
       cases b3<;>simp only[mz]
     · exact (Tr.ae h).elim
   · exact (Tr.ae h).elim
 · exact (Tr.ae h).elim

def rN (H:aa) (sz n:Nat) (x:AV):Tr Row :=
 match x with
 | .slc d i v off sz' len cap=>(wb H d i v (some 0)).bind fun r=>cond (Nat.beq sz' sz) (.req (gi n len) (match r with
    | .M [.arr k z N]=>.req (qu off (iE n sz) 0 N) (.ok (.M [.arr k (qL z off) (iE n sz)]))
    | .I k l=>cond (tE (.I k l) off (Nat.mul n sz)) (.ok (z6 d (Row.I k (gW (kV l off) (Nat.mul n sz))))) .bad
    | .G l=>cond (tE (.G l) off (Nat.mul n sz)) (.ok (z6 d (Row.G (gW (kV l off) (Nat.mul n sz))))) .bad
    | .F f N=>.req (qu off (iE n sz) 0 N) (.ok (.F (fun j=>f (aq off j)) (iE n sz)))
    | _=>.bad)) .bad
 | .slcT s r sz' len _=>cond (Nat.beq sz' sz) (.req (gi n len) ((Bd r none sz (iE n sz)).bind fun q=>.ok (match s with | none=>q | some k=>z6 k q))) .bad
 | _=>.bad
theorem K2 (d:Nat) (k:IntKind) (z:Nat→Int) (n:Nat):z6 d (.M [.arr k z n])=.M [.arr k z n]:=by cases d<;>rfl
theorem K1 (d:Nat) (f:Nat→AV) (n:Nat):z6 d (.F f n)=.F f n:=by cases d<;>rfl
theorem pj {H:aa} {sz n:Nat} {x:AV} {q:Row} (h:(rN H sz n x).run=some q):ec H sz n x=some q:=by
 unfold rN at h
 split at h
 · rename_i d i v off sz' len cap
   obtain ⟨r,h1,h⟩:=Tr.bind_some h
   obtain ⟨hz,h⟩:=Tr.aM h
   have hz:sz'=sz:=by simpa using hz
   obtain ⟨hc,h⟩:=Tr.aI h
   rw[kB,decide_eq_true_eq] at hc
   unfold ec
   dsimp only
   rw[kJ h1]
   dsimp only
   split at h
   · rename_i k z N
     obtain ⟨hc2,h⟩:=Tr.aI h
     rw[jk,decide_eq_true_eq,b7] at hc2
     rw[if_pos ⟨hz,hc,by simp only[Row.len,ay,aG];omega⟩,← Tr.ab h]
     simp only[Row.sub,K2,jx,b7]
   · rename_i k l
     obtain ⟨hc2,h⟩:=Tr.aM h
     rw[kr,decide_eq_true_eq] at hc2
     rw[if_pos ⟨hz,hc,hc2⟩,← Tr.ab h,fR,gC]
     rfl
   · rename_i l
     obtain ⟨hc2,h⟩:=Tr.aM h
     rw[kr,decide_eq_true_eq] at hc2
     rw[if_pos ⟨hz,hc,hc2⟩,← Tr.ab h,fR,gC]
     rfl
   · rename_i f N
     obtain ⟨hc2,h⟩:=Tr.aI h
     rw[jk,decide_eq_true_eq,b7] at hc2
     rw[if_pos ⟨hz,hc,by simp only[Row.len];omega⟩,← Tr.ab h]
     simp only[Row.sub,K1,ba,b7]
   · exact (Tr.ae h).elim
 · rename_i s r sz' len full
   obtain ⟨hz,h⟩:=Tr.aM h
   have hz:sz'=sz:=by simpa using hz
   obtain ⟨hc,h⟩:=Tr.aI h
   rw[kB,decide_eq_true_eq] at hc
   obtain ⟨q',h1,h⟩:=Tr.bind_some h
   obtain ⟨k1,k2⟩:=yI h1
   rw[b7] at k1 k2
   simp only[AN,Nat.zero_mul,Nat.zero_add] at k1 k2
   unfold ec
   dsimp only
   rw[if_pos ⟨hz,hc,k1⟩,← Tr.ab h,k2]
   cases s<;>rfl
 · exact (Tr.ae h).elim

end
end Go.Eng
end
section
namespace Go.Eng
noncomputable section

theorem Tr.jF {α:Type} {c:Bool} {t:Tr α} {x:α} (h:(cond c .bad t).run=some x):c=false∧t.run=some x:=by
 cases c with
 | false=>exact ⟨rfl,h⟩
 | true=>exact (Tr.ae h).elim

def x0:AV→AV
 | .slcT none (.I k l) sz m _=>.slcT none (.M [.arr k (aL l) (g6 l)]) sz m false
 | .slcT none (.M [.arr k z n]) sz m _=>.slcT none (.M [.arr k z n]) sz m false
 | v=>v
theorem x7 (v:AV):x0 v=mN v:=by
 unfold x0 mN
 split
 · simp only[kD,c8]
 · rfl
 · rename_i h1 h2
   split
   · exact absurd rfl (h1 _ _ _ _ _)
   · exact absurd rfl (h2 _ _ _ _ _ _)
   · rfl
def Dc (r:Row):Row :=
 match r with
 | .I k l=>.M [.arr k (aL l) (g6 l)]
 | .G [v]=>cond (qw v) (.F (fun _=>x0 v) 1) (.G [v])
 | r=>r
theorem vA (r:Row):Dc r=qP true r:=by
 cases r with
 | I k l=>simp only[Dc,qP,if_true,kD,c8]
 | F f n=>rfl
 | M l=>rfl
 | G l =>
   match l with
   | []=>rfl
   | [v] =>
     show cond (qw v) (Row.F (fun _=>x0 v) 1) (Row.G [v])=if (true && qw v)=true then Row.F (fun _=>mN v) 1 else Row.G [v]
     rw[x7]
     cases qw v<;>rfl
   | a::b::r=>rfl
def QY:AV→Nat→Int
 | .slcT _ (.M [.arr _ z _]) _ _ _=>z
 | _=>fun _=>0
def Qs:AV→Nat
 | .slcT _ (.M [.arr _ _ n]) _ _ _=>n
 | _=>0
def Qr:AV→Nat
 | .slcT _ _ _ m _=>m
 | _=>0
def E0 (r s:Row):Tr Row :=
 match r with
 | .M [.arr k z n]=>match xw s with
   | some (k',z')=>cond (fY k' k) (.ok (.M [.arr k (qN z n z') (aq n (gV s))])) .bad
   | none=>.bad
 | .I k l=>match s with
   | .I k' l'=>cond (fY k' k) (.ok (.I k (mC l l'))) .bad
   | .M [.arr k' z' n']=>cond (fY k' k) (.ok (.M [.arr k (qN (aL l) (g6 l) z') (aq (g6 l) n')])) .bad
   | _=>.bad
 | .G l=>match s with
   | .G l'=>.ok (.G (mC l l'))
   | _=>.bad
 | .F f n=>match s with
   | .G [v]=>cond (qw v) (match x0 v with
     | .slcT none (.M [.arr k z N]) sz m full=>.reqP (Ht f k sz full)
       (.ok (.F (fun j=>.slcT none (.M [.arr k (IQ (bX j n) (QY (f j)) z) (Gy (bX j n) (Qs (f j)) N)]) sz (Gy (bX j n) (Qr (f j)) m) full) (aq n 1)))
     | _=>.bad) .bad
   | _=>.bad
 | _=>.bad
theorem Ai {r s q:Row} (h:(E0 r s).run=some q):r.app s=q:=by
 unfold E0 at h
 split at h
 · rename_i k z n
   rw[sn] at h
   split at h
   · rename_i k' z' hi
     obtain ⟨hk,h⟩:=Tr.aM h
     rw[ev,decide_eq_true_eq] at hk
     have e:Row.app (.M [.arr k z n]) s=(match (Row.M [.arr k z n]).tu s with | some q=>q | none=>.G ((Row.M [.arr k z n]).toList++s.toList)):=by
      cases s<;>rfl
     rw[e]
     unfold Row.tu
     rw[hi]
     dsimp only[Row.ints]
     rw[if_pos hk,← Tr.ab h,nN,ba,eY]
     rfl
   · exact (Tr.ae h).elim
 · rename_i k l
   split at h
   · rename_i k' l'
     obtain ⟨hk,h⟩:=Tr.aM h
     rw[ev,decide_eq_true_eq] at hk
     simp only[Row.app]
     rw[if_pos hk,← Tr.ab h,ke]
   · rename_i k' z' n'
     obtain ⟨hk,h⟩:=Tr.aM h
     rw[ev,decide_eq_true_eq] at hk
     simp only[Row.app]
     unfold Row.tu
     dsimp only[Row.ints]
     rw[if_pos hk,← Tr.ab h,nN,ba,c8,kD]
     rfl
   · exact (Tr.ae h).elim
 · split at h
   · rw[← Tr.ab h,ke];rfl
   · exact (Tr.ae h).elim
 · rename_i f n
   split at h
   · rename_i v
     obtain ⟨hv,h⟩:=Tr.aM h
     split at h
     · rename_i k z N sz m full hn
       obtain ⟨hf,h⟩:=Tr.dO h
       rw[x7] at hn
       rw[← Tr.ab h,ba]
       show Row.F _ _=Row.F _ _
       congr 1
       funext j
       simp only[GB,Gz,gQ]
       by_cases e:j<n
       · have hb:Nat.blt j n=true:=by rw[Nat.blt_eq];exact e
         rw[hb,if_pos rfl,decide_eq_true e]
         rw[ET] at hf
         obtain ⟨z',n',m',e'⟩:=hf j
         rw[e'];rfl
       · have hb:Nat.blt j n=false:=by
          cases hb:Nat.blt j n with
          | false=>rfl
          | true=>rw[Nat.blt_eq] at hb;exact absurd hb e
         rw[hb,if_neg (by simp),decide_eq_false e]
         show (if gG v=true then mN v else .undef)=_
         rw[if_pos (so hv),hn]
         rfl
     · exact (Tr.ae h).elim
   · exact (Tr.ae h).elim
 · exact (Tr.ae h).elim
def JN (x:AV):Bool :=
 match x with
 | .slc _ _ _ _ _ _ (some _)=>true
 | _=>false
def JF (s:AV):Bool :=
 match s with
 | .nils | .slc .. | .slcT ..=>true
 | _=>false
def ru (P:Program) (e:TypeId) (n:Nat):Bool :=
 match (ct P e).bind AV.row with
 | some z=>Nat.beq (gV z) n
 | none=>false
theorem ti {P:Program} {e:TypeId} {n:Nat} (h:ru P e n=true):((ct P e).bind AV.row).map Row.len=some n:=by
 unfold ru at h
 split at h
 · rename_i z hz
   rw[eY] at h
   have h:=Nat.eq_of_beq_eq_true h
   rw[hz,Option.map_some,h]
 · simp at h
def AB (H:aa) (nx sz m n:Nat) (s:AV) (new:Row):Tr (AV×Delta) :=
 (rN H sz m s).bind fun old=>(E0 old new).bind fun r=>.ok (.slc 0 nx 0 0 sz (aq m n) none,.push (.row (Dc r)))
def wq (r:Row) (off n:Nat):Tr Row :=
 match r with
 | .M [.arr k z N]=>.req (dJ (aq off n) N) (.ok (.M [.arr k (qL z off) n]))
 | .G l=>cond (Nat.beq (Nat.add off n) (g6 l)) (.ok (.G (gW (kV l off) n))) .bad
 | .F f N=>.req (dJ (aq off n) N) (.ok (.F (fun j=>f (aq off j)) n))
 | _=>.bad
theorem zY {r q:Row} {off n:Nat} (h:(wq r off n).run=some q):off+n=r.len∧r.sub off n=q:=by
 unfold wq at h
 split at h
 · rename_i k z N
   obtain ⟨hc,h⟩:=Tr.aI h
   rw[gb,decide_eq_true_eq,ba] at hc
   refine ⟨by simp only[Row.len,ay,aG];omega,?_⟩
   rw[← Tr.ab h,jx];rfl
 · rename_i l
   obtain ⟨hc,h⟩:=Tr.aM h
   rw[c8] at hc
   have hc:=Nat.eq_of_beq_eq_true hc
   exact ⟨hc,by rw[← Tr.ab h,fR,gC];rfl⟩
 · rename_i f N
   obtain ⟨hc,h⟩:=Tr.aI h
   rw[gb,decide_eq_true_eq,ba] at hc
   refine ⟨hc,?_⟩
   rw[← Tr.ab h]
   simp only[ba]
   rfl
 · exact (Tr.ae h).elim
def CL (P:Program) (nx:Nat) (e:TypeId) (s x:AV):Tr (AV×Delta) :=
 match P.info? e with
 | some inf=>match s with
   | .nils=>match x with
     | .int _ k=>cond (Nat.blt 0 inf.size) (cond (ru P e inf.size) (.req (Is k k inf.bytes) (.ite (eU k (Int.ofNat 0)) (.ok (.nils,.aX)) (.ok (.slc 0 nx 0 0 inf.size (gI k) none,.push (.row (Dc (.I .i64 []))))))) .bad) .bad
     | _=>.bad
   | _=>.bad
 | none=>.bad
theorem CM {P:Program} {nx:Nat} {e:TypeId} {s x:AV} {y:AV×Delta} (h:(CL P nx e s x).run=some y):CK P true nx e s x=some y:=by
 unfold CL at h
 unfold CK
 split at h
 · rename_i inf hi
   rw[hi]
   split at h
   · split at h
     · rename_i kk k
       obtain ⟨hb,h⟩:=Tr.aM h
       obtain ⟨hz,h⟩:=Tr.aM h
       obtain ⟨hm,h⟩:=Tr.aI h
       rw[zx,decide_eq_true_eq] at hm
       dsimp only
       rw[if_pos ⟨hm.1,hm.2.2.2,hm.2.2.1,Am hb,ti hz⟩]
       rcases Tr.fK h with ⟨hc,h⟩ | ⟨hc,h⟩
       · rw[bR,beq_iff_eq] at hc
         rw[if_pos (show k=0 from hc),Tr.ab h]
       · rw[bR,beq_eq_false_iff_ne] at hc
         rw[if_neg (show ¬ k=0 from hc),← Tr.ab h,vA,iN]
     · exact (Tr.ae h).elim
   · exact (Tr.ae h).elim
 · exact (Tr.ae h).elim
def nO (P:Program) (H:aa) (nx:Nat) (t u:TypeId) (s x:AV):Tr (AV×Delta) :=
 match P.underlying t with
 | some (.slice e)=>match P.underlying u with
   | some (.slice _)=>match P.info? e with
     | some inf=>match na s with
       | some m=>match na x with
         | some n=>cond (JF s) (match JN x,n with
           | true,0=>.ok (s,.aX)
           | true,_=>main P H nx e inf s x m n
           | false,_=>.ite (dJ n 0) (.ok (s,.aX)) (main P H nx e inf s x m n)) .bad
         | none=>.bad
       | none=>.bad
     | none=>.bad
   | some (.int _)=>CL P nx e s x
   | _=>.bad
 | _=>.bad
where
 main (P : Program) (H:aa) (nx:Nat) (e:TypeId) (inf:TypeInfo) (s x:AV) (m n:Nat):Tr (AV×Delta) :=
  .req (fO m n inf.bytes) (cond (Nat.blt 0 inf.bytes) (cond (ru P e inf.size) ((rN H inf.size n x).bind fun new =>
   match s with
   | .nils=>.ok (.slc 0 nx 0 0 inf.size n none,.push (.row (Dc new)))
   | .slcT _ _ _ _ full=>.req full (AB H nx inf.size m n s new)
   | .slc d i v off sz _ (some c)=>.ite (bX c (aq m n)) (AB H nx inf.size m n s new)
     (cond (ff H d) .bad ((wb H d i v (some 0)).bind fun r=>cond (Nat.beq sz inf.size) (match r with
       | .M l=>match kQ (iY d new) with
         | []=>.bad
         | y::ys=>(yC (aq off (iE m sz)) (some 0) (y::ys) 0 l).bind fun l'=>.ok (.slc d i v off sz (aq m n) (some c),.set d i (v,.row (.M l')))
       | _=>.bad) .bad))
   | .slc d i v off sz _ none=>cond (ff H d) .bad ((wb H d i v (some 0)).bind fun r=>cond (Nat.beq sz inf.size)
     ((wq r off (iE m sz)).bind fun old=>(E0 old (iY d new)).bind fun r'=>.ok (.slc d i (Nat.succ v) 0 sz (aq m n) none,.set d i (Nat.succ v,.row r'))) .bad)
   | _=>.bad) .bad) .bad)
theorem rO {H:aa} {sz n:Nat} {x:AV} {q:Row} (h:ec H sz n x=some q):q.len=n*sz:=by
 unfold ec at h
 split at h
 · split at h
   · rename_i hn
     simp only[Option.some.injEq] at h
     rw[← h,hn];simp[Row.len]
   · simp at h
 · split at h
   · split at h
     · rename_i hf
       simp only[Option.some.injEq] at h
       rw[← h,o6,Row.di _ _ _ hf.2.2]
     · simp at h
   · simp at h
 · split at h
   · rename_i hf
     simp only[Option.some.injEq] at h
     rw[← h]
     split
     · exact Row.di _ _ _ (by omega)
     · rw[o6,Row.di _ _ _ (by omega)]
   · simp at h
 · simp at h
theorem xh {H:aa} {nx sz m n:Nat} {s:AV} {new:Row} {y:AV×Delta} (h:(AB H nx sz m n s new).run=some y):∃ old,ec H sz m s=some old∧y=(.slc 0 nx 0 0 sz (m+n) none,.push (.row (qP true (old.app new)))):=by
 unfold AB at h
 obtain ⟨old,h1,h⟩:=Tr.bind_some h
 obtain ⟨r,h2,h⟩:=Tr.bind_some h
 refine ⟨old,pj h1,?_⟩
 rw[← Tr.ab h,ba,vA,Ai h2]
theorem yX         {P : Program} {H:aa} {nx:Nat} {t u:TypeId} {s x:AV} {y:AV×Delta} (h:(nO P H nx t u s x).run=some y):nQ P true H nx t u s x=some y:=by
 unfold nO at h
 unfold nQ
 split at h
 · rename_i e ht
   split at h
   · rename_i e' hu
     split at h
     · rename_i inf hi
       split at h
       · rename_i m hm
         split at h
         · rename_i n hn
           obtain ⟨hsl,h⟩:=Tr.aM h
           rw[ht,hu]
           dsimp only
           rw[hi,hm,hn]
           dsimp only
           have hcase:(n=0∧(s,Delta.aX)=y)∨(n≠0∧(nO.main P H nx e inf s x m n).run=some y):=by
            cases hx:JN x with
            | true =>
              rw[hx] at h
              cases n with
              | zero=>exact .inl ⟨rfl,Tr.ab h⟩
              | succ n=>exact .inr ⟨by omega,h⟩
            | false =>
              rw[hx] at h
              rcases Tr.fK h with ⟨hc,h⟩ | ⟨hc,h⟩
              · rw[gb,decide_eq_true_eq] at hc
                exact .inl ⟨hc,Tr.ab h⟩
              · rw[gb,decide_eq_false_iff_not] at hc
                exact .inr ⟨hc,h⟩
           clear h
           rcases hcase with ⟨h0,h⟩ | ⟨h0,h⟩
           · rw[if_pos h0]
             cases s<;>simp[JF] at hsl<;>exact congrArg some h
           rw[if_neg h0]
           unfold nO.main at h
           obtain ⟨hr,h⟩:=Tr.aI h
           rw[yw,decide_eq_true_eq] at hr
           obtain ⟨hb,h⟩:=Tr.aM h
           obtain ⟨hz,h⟩:=Tr.aM h
           obtain ⟨new,h1,h⟩:=Tr.bind_some h
           have hcv:=pj h1
           rw[if_pos ⟨hr.1,hr.2,Am hb,ti hz⟩,hcv]
           dsimp only
           split at h
           · rw[← Tr.ab h,vA]
           · rename_i sT r szT FJ full
             obtain ⟨hf,h⟩:=Tr.aI h
             obtain ⟨old,h2,rfl⟩:=xh h
             subst hf
             dsimp only
             rw[h2]
           · rename_i d i v off sz len c _ _ _ _ _
             rcases Tr.fK h with ⟨hc,h⟩ | ⟨hc,h⟩
             · rw[gQ,decide_eq_true_eq,ba] at hc
               obtain ⟨old,h2,rfl⟩:=xh h
               dsimp only
               rw[if_pos hc,h2]
             · rw[gQ,decide_eq_false_iff_not,ba] at hc
               dsimp only
               rw[if_neg hc]
               rw[dL] at h
               obtain ⟨hl,h⟩:=Tr.jF h
               obtain ⟨r,h2,h⟩:=Tr.bind_some h
               obtain ⟨hs,h⟩:=Tr.aM h
               have hs:=Nat.eq_of_beq_eq_true hs
               rw[hl,if_neg (by simp),kJ h2]
               dsimp only
               split at h
               · rename_i l _
                 rw[nD] at h
                 have hcl:=rO hcv
                 split at h
                 · exact (Tr.ae h).elim
                 · rename_i y0 ys hy
                   obtain ⟨l',h3,h⟩:=Tr.bind_some h
                   obtain ⟨k1,k2⟩:=s4 _ _ _ _ h3
                   rw[ba,b7,Nat.add_zero] at k1 k2
                   have hlen:=Row.bc (iY d new)
                   rw[hy,fa,hcl] at hlen
                   have hfit:off+(m+n)*sz≤(Row.M l).len:=by
                    rcases k1 with k1 | k1
                    · simp at k1
                    · rw[hlen,← hs] at k1
                      rw[Nat.add_mul]
                      show _≤ay l
                      omega
                   rw[if_pos ⟨hs,hfit⟩,hy,k2,← Tr.ab h,ba]
               · exact (Tr.ae h).elim
           · rename_i d i v off sz len _ _ _ _ _
             dsimp only
             rw[dL] at h
             obtain ⟨hl,h⟩:=Tr.jF h
             obtain ⟨r,h2,h⟩:=Tr.bind_some h
             obtain ⟨hs,h⟩:=Tr.aM h
             have hs:=Nat.eq_of_beq_eq_true hs
             obtain ⟨old,h3,h⟩:=Tr.bind_some h
             obtain ⟨r',h4,h⟩:=Tr.bind_some h
             obtain ⟨k1,k2⟩:=zY h3
             rw[b7] at k1 k2
             rw[hl,if_neg (by simp),kJ h2]
             dsimp only
             rw[if_pos ⟨hs,k1⟩,k2,Ai h4,← Tr.ab h,ba]
           · exact (Tr.ae h).elim
         · exact (Tr.ae h).elim
       · exact (Tr.ae h).elim
     · exact (Tr.ae h).elim
   · rename_i k' hu
     rw[ht,hu]
     exact CM h
   · exact (Tr.ae h).elim
 · exact (Tr.ae h).elim

end
end Go.Eng
end
