/- The engine as a tree: slices, numbers, operations. -/
import Derived.Test.YtoomemfhcbajoaaV4EngTb
set_option linter.unusedVariables false
set_option linter.unusedSimpArgs false
section
namespace Go.Eng
noncomputable section

theorem Tr.aU {α:Type} {c:Bool} {t:Tr α} {x:α} (h:(cond c t .bad).run=some x):c=true∧t.run=some x:=by
 cases c with
 | true=>exact ⟨rfl,h⟩
 | false=>exact (Tr.ae h).elim
def Kh (op:BinOp) (k:IntKind) (x y:Int):Tr AV :=
 match op with
 | .add=>.ok (.int k (bu k x y))
 | .sub=>.ok (.int k (bC k x y))
 | .mul=>.ok (.int k (zy k x y))
 | .quo=>.req (aQ (cw y 0)) (.ok (.int k (KN k x y)))
 | .rem=>.req (aQ (cw y 0)) (.ok (.int k (KU k x y)))
 | .and=>.ok (.int k (JM k x y))
 | .or=>.ok (.int k (PI k x y))
 | .xor=>.ok (.int k (Lh k x y))
 | .andNot=>.ok (.int k (N5 k x y))
 | .eql=>.ok (.bool (cw x y))
 | .neq=>.ok (.bool (aQ (cw x y)))
 | .lss=>.ok (.bool (bT x y))
 | .leq=>.ok (.bool (lU x y))
 | .gtr=>.ok (.bool (bT y x))
 | .geq=>.ok (.bool (lU y x))
 | _=>.bad
theorem Hw {op:BinOp} {k:IntKind} {x y:Int} {v:AV} (h:(Kh op k x y).run=some v):iD op k x y=some v:=by
 unfold Kh at h
 unfold iD
 cases op<;>dsimp only at h ⊢<;>try exact (Tr.ae h).elim
 case quo =>
  obtain ⟨hc,h⟩:=Tr.aS h
  rw[ia,jb] at hc
  have:¬ y=0:=by simpa using hc
  rw[if_neg this,← Tr.ab h,Ii]
 case rem =>
  obtain ⟨hc,h⟩:=Tr.aS h
  rw[ia,jb] at hc
  have:¬ y=0:=by simpa using hc
  rw[if_neg this,← Tr.ab h,Im]
 all_goals
  have h:=Tr.ab h
  subst h
  first
   | rfl
   | (simp only[gt_iff_lt,ge_iff_le,jA,m8,mZ,wu,Bp,xX,AK,jb,ia,dj,ml,bne];done)
   | (simp only[jA,m8,mZ,wu,Bp,xX,AK,jb,ia,dj,ml];done)
   | (simp only[jA,m8,mZ,wu,Bp,xX,AK,jb,ia,dj,ml];rfl)
def iR:List Int→List Int→Bool
 | [],[]=>true
 | [x],[y]=>cw x y
 | x::x'::a,y::y'::b=>jZ (cw x y) (iR (x'::a) (y'::b))
 | _,_=>false
theorem s4:∀ (l m:List Int),iR l m=fv l m
 | [],[]=>rfl
 | [],_::_=>by simp[iR,fv]
 | _::_,[]=>by simp[iR,fv]
 | [x],[y]=>by simp[iR,fv,jb]
 | [x],y::y'::b=>by simp[iR,fv]
 | x::x'::a,[y]=>by simp[iR,fv]
 | x::x'::a,y::y'::b=>by
   simp only[iR]
   rw[ou,jb,s4 (x'::a) (y'::b)];rfl
def yV (r:Row):Option (IntKind×(Nat→Int)) :=
 match r with
 | .I k l=>some (k,au l)
 | .M [.arr k z _]=>some (k,z)
 | _=>none
theorem sW (r:Row):yV r=r.ints:=by
 match r with
 | .I k l=>simp only[yV,Row.ints,iS]
 | .G l=>rfl
 | .F f n=>rfl
 | .M []=>rfl
 | .M [.arr k z n]=>rfl
 | .M (.one v::r)=>rfl
 | .M (.arr k z n::s::r)=>rfl
def Ll (P:Program) (t:TypeId) (x y:AV):Tr Bool :=
 match x,y with
 | .bool a,.bool b=>match P.underlying t with
   | some .bool=>.ok (Ow a b)
   | _=>.bad
 | .nils,.slcT s r sz n f=>match P.underlying t with
   | some (.slice _)=>.req (bV 0 n) (.ok false)
   | _=>.bad
 | .slcT s r sz n f,.nils=>match P.underlying t with
   | some (.slice _)=>.req (bV 0 n) (.ok false)
   | _=>.bad
 | .agg (.I k a),.agg (.I k' b)=>cond (gM k k') (match b9 P 20 t with
   | some n=>match fz P t with
     | some true=>cond (Nat.beq n (iQ a)) (cond (Nat.beq (iQ a) (iQ b)) (.ok (iR a b)) .bad) .bad
     | _=>.bad
   | none=>.bad) .bad
 | .agg (.M l),.agg s=>eqMT P t (.M l) s
 | .agg (.I k a),.agg (.M l)=>eqMT P t (.I k a) (.M l)
 | x,y=>vV (AF P t x y)
where
 eqMT (P:Program) (t:TypeId) (r s:Row):Tr Bool :=
  match yV r,yV s with
  | some (k,z),some (k',z')=>cond (gM k k') (match b9 P 20 t with
    | some n=>match fz P t with
      | some true=>cond (Nat.beq n (iJ r)) (cond (Nat.beq (iJ r) (iJ s)) (.ok (nF z z' (iJ r))) .bad) .bad
      | _=>.bad
    | none=>.bad) .bad
  | _,_=>.bad
theorem BY {P:Program} {t:TypeId} {r s:Row} {b:Bool} (h:(Ll.eqMT P t r s).run=some b):Lk P t r s=some b:=by
 unfold Ll.eqMT at h
 rw[sW,sW] at h
 unfold Lk
 split at h
 · rename_i k z k' z' h1 h2
   rw[h1,h2]
   obtain ⟨hk,h⟩:=Tr.aU h
   rw[eV,decide_eq_true_eq] at hk
   split at h
   · rename_i n hn
     split at h
     · rename_i ha
       obtain ⟨e1,h⟩:=Tr.aU h
       obtain ⟨e2,h⟩:=Tr.aU h
       rw[fE] at e1 e2 h
       rw[fE] at e2
       have e1:n=r.len:=by simpa using e1
       have e2:r.len=s.len:=by simpa using e2
       dsimp only
       rw[if_pos ⟨hk,by rw[hn,e1],ha,e2⟩,← Tr.ab h,u9]
     · exact (Tr.ae h).elim
   · exact (Tr.ae h).elim
 · exact (Tr.ae h).elim
theorem Fk {P:Program} {t:TypeId} {x y:AV} {b:Bool} (h:(Ll P t x y).run=some b):AF P t x y=some b:=by
 unfold Ll at h
 split at h
 · split at h
   · rename_i hu
     unfold AF
     dsimp only
     rw[hu,← Tr.ab h,J2]
   · exact (Tr.ae h).elim
 · split at h
   · rename_i hu
     obtain ⟨hc,h⟩:=Tr.aS h
     rw[gz,decide_eq_true_eq] at hc
     unfold AF
     dsimp only
     rw[hu]
     dsimp only
     rw[if_pos hc,Tr.ab h]
   · exact (Tr.ae h).elim
 · split at h
   · rename_i hu
     obtain ⟨hc,h⟩:=Tr.aS h
     rw[gz,decide_eq_true_eq] at hc
     unfold AF
     dsimp only
     rw[hu]
     dsimp only
     rw[if_pos hc,Tr.ab h]
   · exact (Tr.ae h).elim
 · obtain ⟨hk,h⟩:=Tr.aU h
   rw[eV,decide_eq_true_eq] at hk
   split at h
   · rename_i n hn
     split at h
     · rename_i ha
       obtain ⟨e1,h⟩:=Tr.aU h
       obtain ⟨e2,h⟩:=Tr.aU h
       rw[dq] at e1 e2
       rw[dq] at e2
       have e1:=Nat.eq_of_beq_eq_true e1
       have e2:=Nat.eq_of_beq_eq_true e2
       unfold AF
       dsimp only
       rw[if_pos ⟨hk,by rw[hn,e1],ha,e2⟩,← Tr.ab h,s4]
     · exact (Tr.ae h).elim
   · exact (Tr.ae h).elim
 · unfold AF;exact BY h
 · unfold AF;exact BY h
 · rw[c6] at h;exact h
def EK (P:Program) (op:BinOp) (t:TypeId) (x y:AV):Tr AV :=
 match x,y with
 | .int k a,.int k' b=>match op with
   | .shl=>.req (lU 0 b) (.ok (.int k (KY k a b)))
   | .shr=>.req (lU 0 b) (.ok (.int k (KZ k a b)))
   | op=>cond (gM k k') (Kh op k a b) .bad
 | x,y=>match op with
   | .eql=>(Ll P t x y).bind fun b=>.ok (.bool b)
   | .neq=>(Ll P t x y).bind fun b=>.ok (.bool (aQ b))
   | _=>.bad
theorem G4 {P:Program} {op:BinOp} {t:TypeId} {x y v:AV} (h:(EK P op t x y).run=some v):j4 P op t x y=some v:=by
 unfold EK at h
 split at h
 · rename_i k a k' b
   split at h
   · obtain ⟨hc,h⟩:=Tr.aS h
     rw[ml,decide_eq_true_eq] at hc
     unfold j4
     dsimp only
     rw[if_neg (by omega),← Tr.ab h,Iv]
   · obtain ⟨hc,h⟩:=Tr.aS h
     rw[ml,decide_eq_true_eq] at hc
     unfold j4
     dsimp only
     rw[if_neg (by omega),← Tr.ab h,Ix]
   · rename_i h1 h2
     obtain ⟨hk,h⟩:=Tr.aU h
     rw[eV,decide_eq_true_eq] at hk
     have:j4 P op t (.int k a) (.int k' b)=if k=k' then iD op k a b else none:=by
      unfold j4
      cases op<;>first | rfl | exact (h1 rfl).elim | exact (h2 rfl).elim
     rw[this,if_pos hk]
     exact Hw h
 · rename_i hn
   split at h
   · obtain ⟨b,h1,h⟩:=Tr.bind_some h
     have h2:=Fk h1
     have:j4 P .eql t x y=(AF P t x y).map .bool:=by
      unfold j4
      cases x<;>cases y<;>first | rfl | exact (hn _ _ _ _ rfl rfl).elim
     rw[this,h2,← Tr.ab h];rfl
   · obtain ⟨b,h1,h⟩:=Tr.bind_some h
     have h2:=Fk h1
     have:j4 P .neq t x y=(AF P t x y).map fun b=>.bool (!b):=by
      unfold j4
      cases x<;>cases y<;>first | rfl | exact (hn _ _ _ _ rfl rfl).elim
     rw[this,h2,← Tr.ab h,ia];rfl
   · exact (Tr.ae h).elim
def QP (op:UnOp) (x:AV):Tr AV :=
 match op,x with
 | .not,.bool b=>.ok (.bool (aQ b))
 | .neg,.int k n=>.ok (.int k (Kz k n))
 | _,_=>.bad
theorem Ld {op:UnOp} {x v:AV} (h:(QP op x).run=some v):NM op x=some v:=by
 unfold QP at h
 split at h
 · rw[← Tr.ab h,ia];rfl
 · rw[← Tr.ab h,H3];rfl
 · exact (Tr.ae h).elim
def pk (mx:Bool) (k:IntKind) (x:Int):List AV→Tr AV
 | []=>.ok (.int k x)
 | v::r=>match v with
   | .int k' y=>cond (gM k k') (pk mx k (cond mx (FY x y) (jv x y)) r) .bad
   | _=>.bad
theorem n6 {mx:Bool} {k:IntKind}:∀ (l:List AV) (x:Int) (v:AV),(pk mx k x l).run=some v→eW mx k x l=some v
 | [],x,v,h=>by rw[← Tr.ab h];rfl
 | u :: r,x,v,h=>by
   simp only[pk] at h
   split at h
   · rename_i k' y
     obtain ⟨hk,h⟩:=Tr.aU h
     rw[eV,decide_eq_true_eq] at hk
     simp only[eW]
     rw[if_pos hk,← n6 r _ v h,Cz,CA]
     cases mx<;>rfl
   · exact (Tr.ae h).elim

def jn (a sz:Nat):Nat :=
 match sz with
 | 1=>a
 | s=>HU a s
theorem cE (a sz:Nat):jn a sz=a*sz:=by
 unfold jn
 split
 · rw[Nat.mul_one]
 · rw[CD]
abbrev QS:=Option Nat×Nat×Option Nat
def mN (lo hi mx:Option AV) (len:Nat):Tr QS :=
 match mx with
 | none=>(match hi with
    | none=>.ok len
    | some (.int _ i)=>.req (nh i len) (.ok (dD i))
    | some _=>.bad:Tr Nat).bind fun h=>(match lo with
    | none=>.ok (none,h,none)
    | some (.int _ i)=>.req (nh i h) (.ok (some (dD i),h,none))
    | some _=>.bad)
 | some (.int _ m)=>.req (nh m len) (match hi with
    | some (.int _ i)=>.req (nh i (dD m)) (match lo with
      | none=>.ok (none,dD i,some (dD m))
      | some (.int _ j)=>.req (nh j (dD i)) (.ok (some (dD j),dD i,some (dD m)))
      | some _=>.bad)
    | _=>.bad)
 | some _=>.bad
def Cr (l:Option Nat):Nat :=
 match l with
 | none=>0
 | some l=>l
theorem ij {i:Int} {k:IntKind} {d top:Nat} (h:nh i top=true):bound (some (.int k i)) d top=some (dD i):=by
 rw[BT,decide_eq_true_eq] at h
 simp only[bound]
 rw[if_pos h,mK]
theorem kM {lo hi mx:Option AV} {len:Nat} {b:QS} (h:(mN lo hi mx len).run=some b):eJ lo hi mx len=some (Cr b.1,b.2.1,b.2.2):=by
 unfold mN at h
 unfold eJ
 split at h
 · obtain ⟨h',h1,h⟩:=Tr.bind_some h
   have e1:bound hi len len=some h':=by
    split at h1
    · rw[← Tr.ab h1];rfl
    · obtain ⟨hc,h1⟩:=Tr.aS h1
      rw[ij hc,Tr.ab h1]
    · exact (Tr.ae h1).elim
   dsimp only
   rw[e1]
   dsimp only
   split at h
   · rw[← Tr.ab h];rfl
   · obtain ⟨hc,h⟩:=Tr.aS h
     rw[ij hc,← Tr.ab h];rfl
   · exact (Tr.ae h).elim
 · rename_i k m
   obtain ⟨hm,h⟩:=Tr.aS h
   dsimp only
   rw[ij hm]
   dsimp only
   split at h
   · rename_i k' i
     obtain ⟨hi,h⟩:=Tr.aS h
     simp only[Option.isSome_some,if_true]
     rw[ij hi]
     dsimp only
     split at h
     · rw[← Tr.ab h];rfl
     · obtain ⟨hc,h⟩:=Tr.aS h
       rw[ij hc,← Tr.ab h];rfl
     · exact (Tr.ae h).elim
   · exact (Tr.ae h).elim
 · exact (Tr.ae h).elim
def xR (a:Nat) (l:Option Nat):Nat :=
 match l with
 | none=>a
 | some l=>ub a l
theorem m9 (a:Nat) (l:Option Nat):xR a l=a-Cr l:=by
 cases l with
 | none=>rfl
 | some l=>exact ly a l
def Ew (off:Nat) (l:Option Nat) (sz:Nat):Nat :=
 match l with
 | none=>off
 | some l=>bN off (jn l sz)
theorem BL (off:Nat) (l:Option Nat) (sz:Nat):Ew off l sz=off+Cr l*sz:=by
 cases l with
 | none=>simp[Ew,Cr]
 | some l=>simp only[Ew,Cr,bF,cE]
def CV (r:Row) (l:Option Nat) (sz n:Nat):Tr Row :=
 match r with
 | .M [.arr k z N]=>.req (gH (bN (jn (Cr l) sz) n) N) (.ok (.M [.arr k (match l with | none=>z | some l=>dC z (jn l sz)) n]))
 | .F f N=>.req (gH (bN (jn (Cr l) sz) n) N) (.ok (.F (match l with | none=>f | some l=>fun j=>f (bN (jn l sz) j)) n))
 | _=>.bad
theorem Ak {r q:Row} {l:Option Nat} {sz n:Nat} (h:(CV r l sz n).run=some q):Cr l*sz+n≤r.len∧r.sub (Cr l*sz) n=q:=by
 unfold CV at h
 split at h
 · rename_i k z N
   obtain ⟨hc,h⟩:=Tr.aS h
   rw[kZ,decide_eq_true_eq,bF,cE] at hc
   refine ⟨by simp only[Row.len,aA,aR];omega,?_⟩
   rw[← Tr.ab h]
   cases l with
   | none=>simp only[Row.sub,Cr,Nat.zero_mul,Nat.zero_add]
   | some l=>simp only[Row.sub,Cr,mJ,cE]
 · rename_i f N
   obtain ⟨hc,h⟩:=Tr.aS h
   rw[kZ,decide_eq_true_eq,bF,cE] at hc
   refine ⟨by simp only[Row.len];omega,?_⟩
   rw[← Tr.ab h]
   cases l with
   | none=>simp only[Row.sub,Cr,Nat.zero_mul,Nat.zero_add]
   | some l=>simp only[Row.sub,Cr,bF,cE]
 · exact (Tr.ae h).elim
def OB (o:Option AV):Bool :=
 match o with
 | none=>true
 | some _=>false
def Fy (mm:Option Nat) (full hiN:Bool) (h len:Nat):Bool :=
 match mm with
 | none=>cond hiN full (jZ full (b6 h len))
 | some m=>b6 h m
def Bz (P:Program) (t:TypeId) (x:AV) (lo hi mx:Option AV):Tr AV :=
 match P.underlying t with
 | some (.slice e)=>match bn P e with
   | some z=>match x with
     | .slc d j v off sz len cap=>cond (Nat.beq z sz) ((mN lo hi mx len).bind fun b=>.ok (.slc d j v (Ew off b.1 sz) sz (xR b.2.1 b.1) (match b.2.2 with
       | none=>match cap with | none=>none | some c=>some (xR c b.1)
       | some m=>some (xR m b.1)))) .bad
     | .slcT s r sz len full=>cond (Nat.beq z sz) ((mN lo hi mx len).bind fun b=>(CV r b.1 sz (jn (xR b.2.1 b.1) sz)).bind fun q=>.ok (.slcT s q sz (xR b.2.1 b.1) (Fy b.2.2 full (OB hi) b.2.1 len))) .bad
     | .nils=>(mN lo hi mx 0).bind fun _=>.ok .nils
     | _=>.bad
   | none=>.bad
 | some (.array n e)=>match bn P e with
   | some sz=>match x with
     | .ptr d j v off=>(mN lo hi mx n).bind fun b=>.ok (.slc d j v (Ew off b.1 sz) sz (xR b.2.1 b.1) (match b.2.2 with
       | none=>some (xR n b.1)
       | some m=>some (xR m b.1)))
     | _=>.bad
   | none=>.bad
 | _=>.bad
theorem Eg {P:Program} {t:TypeId} {x v:AV} {lo hi mx:Option AV} (h:(Bz P t x lo hi mx).run=some v):qD P t x lo hi mx=some v:=by
 unfold Bz at h
 unfold qD
 split at h
 · rename_i e hu
   split at h
   · rename_i z hs
     split at h
     · rename_i d j ver off sz len cap
       obtain ⟨hz,h⟩:=Tr.aU h
       have hz:z=sz:=by simpa using hz
       subst hz
       obtain ⟨b,h1,h⟩:=Tr.bind_some h
       rw[hu]
       dsimp only
       rw[kM h1]
       dsimp only
       rw[if_pos hs,← Tr.ab h,BL,m9]
       obtain ⟨b1,b2,b3⟩:=b
       cases b3<;>cases cap<;>simp only[m9,Option.map_some,Option.map_none]
     · rename_i s r sz len full
       obtain ⟨hz,h⟩:=Tr.aU h
       have hz:z=sz:=by simpa using hz
       subst hz
       obtain ⟨b,h1,h⟩:=Tr.bind_some h
       obtain ⟨q,h2,h⟩:=Tr.bind_some h
       rw[hu]
       dsimp only
       have hb:=kM h1
       rw[hb]
       dsimp only
       obtain ⟨k1,k2⟩:=Ak h2
       rw[cE,m9] at k1 k2
       rw[if_pos ⟨hs,k1⟩,k2,← Tr.ab h,m9]
       congr 2
       obtain ⟨b1,b2,b3⟩:=b
       dsimp only at hb ⊢
       cases b3 with
       | some m=>simp only[Fy,gr];rw[Bool.eq_iff_iff];simp
       | none =>
         simp only[Fy]
         cases hi with
         | some a =>
           simp only[OB,cond_false,ou,gr]
           congr 1
           rw[Bool.eq_iff_iff];simp
         | none =>
           simp only[OB,cond_true]
           have:b2=len:=by
            unfold eJ at hb
            cases mx with
            | none =>
              dsimp only[bound] at hb
              split at hb
              · simp only[nP] at hb;exact hb.2.1.symm
              · simp at hb
            | some a =>
              dsimp only at hb
              split at hb
              · simp at hb
              · simp at hb
           rw[this];simp
     · obtain ⟨b,h1,h⟩:=Tr.bind_some h
       rw[hu]
       dsimp only
       rw[kM h1,hs,← Tr.ab h]
     · exact (Tr.ae h).elim
   · exact (Tr.ae h).elim
 · rename_i n e hu
   split at h
   · rename_i sz hs
     split at h
     · rename_i d j ver off
       obtain ⟨b,h1,h⟩:=Tr.bind_some h
       rw[hu]
       dsimp only
       rw[kM h1]
       dsimp only
       rw[hs,← Tr.ab h,BL,m9]
       obtain ⟨b1,b2,b3⟩:=b
       cases b3<;>simp only[m9]
     · exact (Tr.ae h).elim
   · exact (Tr.ae h).elim
 · exact (Tr.ae h).elim

def sn (H:aa) (sz n:Nat) (x:AV):Tr Row :=
 match x with
 | .slc d i v off sz' len cap=>(xH H d i v (some 0)).bind fun r=>cond (Nat.beq sz' sz) (.req (gH n len) (match r with
    | .M [.arr k z N]=>.req (ga off (jn n sz) 0 N) (.ok (.M [.arr k (dC z off) (jn n sz)]))
    | .I k l=>cond (uF (.I k l) off (Nat.mul n sz)) (.ok (BE d (Row.I k (iK (lH l off) (Nat.mul n sz))))) .bad
    | .G l=>cond (uF (.G l) off (Nat.mul n sz)) (.ok (BE d (Row.G (iK (lH l off) (Nat.mul n sz))))) .bad
    | .F f N=>.req (ga off (jn n sz) 0 N) (.ok (.F (fun j=>f (bN off j)) (jn n sz)))
    | _=>.bad)) .bad
 | .slcT s r sz' len _=>cond (Nat.beq sz' sz) (.req (gH n len) ((CV r none sz (jn n sz)).bind fun q=>.ok (match s with | none=>q | some k=>BE k q))) .bad
 | _=>.bad
theorem NO (d:Nat) (k:IntKind) (z:Nat→Int) (n:Nat):BE d (.M [.arr k z n])=.M [.arr k z n]:=by cases d<;>rfl
theorem NN (d:Nat) (f:Nat→AV) (n:Nat):BE d (.F f n)=.F f n:=by cases d<;>rfl
theorem pR {H:aa} {sz n:Nat} {x:AV} {q:Row} (h:(sn H sz n x).run=some q):eQ H sz n x=some q:=by
 unfold sn at h
 split at h
 · rename_i d i v off sz' len cap
   obtain ⟨r,h1,h⟩:=Tr.bind_some h
   obtain ⟨hz,h⟩:=Tr.aU h
   have hz:sz'=sz:=by simpa using hz
   obtain ⟨hc,h⟩:=Tr.aS h
   rw[kZ,decide_eq_true_eq] at hc
   unfold eQ
   dsimp only
   rw[lr h1]
   dsimp only
   split at h
   · rename_i k z N
     obtain ⟨hc2,h⟩:=Tr.aS h
     rw[gV,decide_eq_true_eq,cE] at hc2
     rw[if_pos ⟨hz,hc,by simp only[Row.len,aA,aR];omega⟩,← Tr.ab h]
     simp only[Row.sub,NO,mJ,cE]
   · rename_i k l
     obtain ⟨hc2,h⟩:=Tr.aU h
     rw[kR,decide_eq_true_eq] at hc2
     rw[if_pos ⟨hz,hc,hc2⟩,← Tr.ab h,gF,im]
     rfl
   · rename_i l
     obtain ⟨hc2,h⟩:=Tr.aU h
     rw[kR,decide_eq_true_eq] at hc2
     rw[if_pos ⟨hz,hc,hc2⟩,← Tr.ab h,gF,im]
     rfl
   · rename_i f N
     obtain ⟨hc2,h⟩:=Tr.aS h
     rw[gV,decide_eq_true_eq,cE] at hc2
     rw[if_pos ⟨hz,hc,by simp only[Row.len];omega⟩,← Tr.ab h]
     simp only[Row.sub,NN,bF,cE]
   · exact (Tr.ae h).elim
 · rename_i s r sz' len full
   obtain ⟨hz,h⟩:=Tr.aU h
   have hz:sz'=sz:=by simpa using hz
   obtain ⟨hc,h⟩:=Tr.aS h
   rw[kZ,decide_eq_true_eq] at hc
   obtain ⟨q',h1,h⟩:=Tr.bind_some h
   obtain ⟨k1,k2⟩:=Ak h1
   rw[cE] at k1 k2
   simp only[Cr,Nat.zero_mul,Nat.zero_add] at k1 k2
   unfold eQ
   dsimp only
   rw[if_pos ⟨hz,hc,k1⟩,← Tr.ab h,k2]
   cases s<;>rfl
 · exact (Tr.ae h).elim

end
end Go.Eng
end
section
namespace Go.Eng
noncomputable section

theorem Tr.j6 {α:Type} {c:Bool} {t:Tr α} {x:α} (h:(cond c .bad t).run=some x):c=false∧t.run=some x:=by
 cases c with
 | false=>exact ⟨rfl,h⟩
 | true=>exact (Tr.ae h).elim

def zF:AV→AV
 | .slcT none (.I k l) sz m _=>.slcT none (.M [.arr k (au l) (iQ l)]) sz m false
 | .slcT none (.M [.arr k z n]) sz m _=>.slcT none (.M [.arr k z n]) sz m false
 | v=>v
theorem zG (v:AV):zF v=nA v:=by
 unfold zF nA
 split
 · simp only[iS,dq]
 · rfl
 · rename_i h1 h2
   split
   · exact absurd rfl (h1 _ _ _ _ _)
   · exact absurd rfl (h2 _ _ _ _ _ _)
   · rfl
def Fm (r:Row):Row :=
 match r with
 | .I k l=>.M [.arr k (au l) (iQ l)]
 | .G [v]=>cond (q8 v) (.F (fun _=>zF v) 1) (.G [v])
 | r=>r
theorem wL (r:Row):Fm r=rB true r:=by
 cases r with
 | I k l=>simp only[Fm,rB,if_true,iS,dq]
 | F f n=>rfl
 | M l=>rfl
 | G l =>
   match l with
   | []=>rfl
   | [v] =>
     show cond (q8 v) (Row.F (fun _=>zF v) 1) (Row.G [v])=if (true && q8 v)=true then Row.F (fun _=>nA v) 1 else Row.G [v]
     rw[zG]
     cases q8 v<;>rfl
   | a::b::r=>rfl
def Vc:AV→Nat→Int
 | .slcT _ (.M [.arr _ z _]) _ _ _=>z
 | _=>fun _=>0
def Ua:AV→Nat
 | .slcT _ (.M [.arr _ _ n]) _ _ _=>n
 | _=>0
def T9:AV→Nat
 | .slcT _ _ _ m _=>m
 | _=>0
def GY (r s:Row):Tr Row :=
 match r with
 | .M [.arr k z n]=>match yV s with
   | some (k',z')=>cond (gM k' k) (.ok (.M [.arr k (kI z n z') (bN n (iJ s))])) .bad
   | none=>.bad
 | .I k l=>match s with
   | .I k' l'=>cond (gM k' k) (.ok (.I k (ng l l'))) .bad
   | .M [.arr k' z' n']=>cond (gM k' k) (.ok (.M [.arr k (kI (au l) (iQ l) z') (bN (iQ l) n')])) .bad
   | _=>.bad
 | .G l=>match s with
   | .G l'=>.ok (.G (ng l l'))
   | _=>.bad
 | .F f n=>match s with
   | .G [v]=>cond (q8 v) (match zF v with
     | .slcT none (.M [.arr k z N]) sz m full=>.reqP (EA f k sz full)
       (.ok (.F (fun j=>.slcT none (.M [.arr k (Is (bV j n) (Vc (f j)) z) (Ef (bV j n) (Ua (f j)) N)]) sz (Ef (bV j n) (T9 (f j)) m) full) (bN n 1)))
     | _=>.bad) .bad
   | _=>.bad
 | _=>.bad
theorem BO {r s q:Row} (h:(GY r s).run=some q):r.app s=q:=by
 unfold GY at h
 split at h
 · rename_i k z n
   rw[sW] at h
   split at h
   · rename_i k' z' hi
     obtain ⟨hk,h⟩:=Tr.aU h
     rw[eV,decide_eq_true_eq] at hk
     have e:Row.app (.M [.arr k z n]) s=(match (Row.M [.arr k z n]).uz s with | some q=>q | none=>.G ((Row.M [.arr k z n]).toList++s.toList)):=by
      cases s<;>rfl
     rw[e]
     unfold Row.uz
     rw[hi]
     dsimp only[Row.ints]
     rw[if_pos hk,← Tr.ab h,rM,bF,fE]
     rfl
   · exact (Tr.ae h).elim
 · rename_i k l
   split at h
   · rename_i k' l'
     obtain ⟨hk,h⟩:=Tr.aU h
     rw[eV,decide_eq_true_eq] at hk
     simp only[Row.app]
     rw[if_pos hk,← Tr.ab h,kJ]
   · rename_i k' z' n'
     obtain ⟨hk,h⟩:=Tr.aU h
     rw[eV,decide_eq_true_eq] at hk
     simp only[Row.app]
     unfold Row.uz
     dsimp only[Row.ints]
     rw[if_pos hk,← Tr.ab h,rM,bF,dq,iS]
     rfl
   · exact (Tr.ae h).elim
 · split at h
   · rw[← Tr.ab h,kJ];rfl
   · exact (Tr.ae h).elim
 · rename_i f n
   split at h
   · rename_i v
     obtain ⟨hv,h⟩:=Tr.aU h
     split at h
     · rename_i k z N sz m full hn
       obtain ⟨hf,h⟩:=Tr.dm h
       rw[zG] at hn
       rw[← Tr.ab h,bF]
       show Row.F _ _=Row.F _ _
       congr 1
       funext j
       simp only[xO,xN,gz]
       by_cases e:j<n
       · have hb:Nat.blt j n=true:=by rw[Nat.blt_eq];exact e
         rw[hb,if_pos rfl,decide_eq_true e]
         rw[BN] at hf
         obtain ⟨z',n',m',e'⟩:=hf j
         rw[e'];rfl
       · have hb:Nat.blt j n=false:=by
          cases hb:Nat.blt j n with
          | false=>rfl
          | true=>rw[Nat.blt_eq] at hb;exact absurd hb e
         rw[hb,if_neg (by simp),decide_eq_false e]
         show (if iz v=true then nA v else .undef)=_
         rw[if_pos (sX hv),hn]
         rfl
     · exact (Tr.ae h).elim
   · exact (Tr.ae h).elim
 · exact (Tr.ae h).elim
def Ms (x:AV):Bool :=
 match x with
 | .slc _ _ _ _ _ _ (some _)=>true
 | _=>false
def Mf (s:AV):Bool :=
 match s with
 | .nils | .slc .. | .slcT ..=>true
 | _=>false
def r9 (P:Program) (e:TypeId) (n:Nat):Bool :=
 match (cJ P e).bind AV.row with
 | some z=>Nat.beq (iJ z) n
 | none=>false
theorem um {P:Program} {e:TypeId} {n:Nat} (h:r9 P e n=true):((cJ P e).bind AV.row).map Row.len=some n:=by
 unfold r9 at h
 split at h
 · rename_i z hz
   rw[fE] at h
   have h:=Nat.eq_of_beq_eq_true h
   rw[hz,Option.map_some,h]
 · simp at h
def B9 (H:aa) (nx sz m n:Nat) (s:AV) (new:Row):Tr (AV×Delta) :=
 (sn H sz m s).bind fun old=>(GY old new).bind fun r=>.ok (.slc 0 nx 0 0 sz (bN m n) none,.push (.row (Fm r)))
def xS (r:Row) (off n:Nat):Tr Row :=
 match r with
 | .M [.arr k z N]=>.req (b6 (bN off n) N) (.ok (.M [.arr k (dC z off) n]))
 | .G l=>cond (Nat.beq (Nat.add off n) (iQ l)) (.ok (.G (iK (lH l off) n))) .bad
 | .F f N=>.req (b6 (bN off n) N) (.ok (.F (fun j=>f (bN off j)) n))
 | _=>.bad
theorem BC {r q:Row} {off n:Nat} (h:(xS r off n).run=some q):off+n=r.len∧r.sub off n=q:=by
 unfold xS at h
 split at h
 · rename_i k z N
   obtain ⟨hc,h⟩:=Tr.aS h
   rw[gr,decide_eq_true_eq,bF] at hc
   refine ⟨by simp only[Row.len,aA,aR];omega,?_⟩
   rw[← Tr.ab h,mJ];rfl
 · rename_i l
   obtain ⟨hc,h⟩:=Tr.aU h
   rw[dq] at hc
   have hc:=Nat.eq_of_beq_eq_true hc
   exact ⟨hc,by rw[← Tr.ab h,gF,im];rfl⟩
 · rename_i f N
   obtain ⟨hc,h⟩:=Tr.aS h
   rw[gr,decide_eq_true_eq,bF] at hc
   refine ⟨hc,?_⟩
   rw[← Tr.ab h]
   simp only[bF]
   rfl
 · exact (Tr.ae h).elim
def ED (P:Program) (nx:Nat) (e:TypeId) (s x:AV):Tr (AV×Delta) :=
 match P.info? e with
 | some inf=>match s with
   | .nils=>match x with
     | .int _ k=>cond (Nat.blt 0 inf.size) (cond (r9 P e inf.size) (.req (DW k k inf.bytes) (.ite (cw k (Int.ofNat 0)) (.ok (.nils,.bf)) (.ok (.slc 0 nx 0 0 inf.size (dD k) none,.push (.row (Fm (.I .i64 []))))))) .bad) .bad
     | _=>.bad
   | _=>.bad
 | none=>.bad
theorem EE {P:Program} {nx:Nat} {e:TypeId} {s x:AV} {y:AV×Delta} (h:(ED P nx e s x).run=some y):EC P true nx e s x=some y:=by
 unfold ED at h
 unfold EC
 split at h
 · rename_i inf hi
   rw[hi]
   split at h
   · split at h
     · rename_i kk k
       obtain ⟨hb,h⟩:=Tr.aU h
       obtain ⟨hz,h⟩:=Tr.aU h
       obtain ⟨hm,h⟩:=Tr.aS h
       rw[xh,decide_eq_true_eq] at hm
       dsimp only
       rw[if_pos ⟨hm.1,hm.2.2.2,hm.2.2.1,BS hb,um hz⟩]
       rcases Tr.iu h with ⟨hc,h⟩ | ⟨hc,h⟩
       · rw[jb,beq_iff_eq] at hc
         rw[if_pos (show k=0 from hc),Tr.ab h]
       · rw[jb,beq_eq_false_iff_ne] at hc
         rw[if_neg (show ¬ k=0 from hc),← Tr.ab h,wL,mK]
     · exact (Tr.ae h).elim
   · exact (Tr.ae h).elim
 · exact (Tr.ae h).elim
def oz (P:Program) (H:aa) (nx:Nat) (t u:TypeId) (s x:AV):Tr (AV×Delta) :=
 match P.underlying t with
 | some (.slice e)=>match P.underlying u with
   | some (.slice _)=>match P.info? e with
     | some inf=>match nQ s with
       | some m=>match nQ x with
         | some n=>cond (Mf s) (match Ms x,n with
           | true,0=>.ok (s,.bf)
           | true,_=>main P H nx e inf s x m n
           | false,_=>.ite (b6 n 0) (.ok (s,.bf)) (main P H nx e inf s x m n)) .bad
         | none=>.bad
       | none=>.bad
     | none=>.bad
   | some (.int _)=>ED P nx e s x
   | _=>.bad
 | _=>.bad
where
 main (P : Program) (H:aa) (nx:Nat) (e:TypeId) (inf:TypeInfo) (s x:AV) (m n:Nat):Tr (AV×Delta) :=
  .req (eD m n inf.bytes) (cond (Nat.blt 0 inf.bytes) (cond (r9 P e inf.size) ((sn H inf.size n x).bind fun new =>
   match s with
   | .nils=>.ok (.slc 0 nx 0 0 inf.size n none,.push (.row (Fm new)))
   | .slcT _ _ _ _ full=>.req full (B9 H nx inf.size m n s new)
   | .slc d i v off sz _ (some c)=>.ite (bV c (bN m n)) (B9 H nx inf.size m n s new)
     (cond (fL H d) .bad ((xH H d i v (some 0)).bind fun r=>cond (Nat.beq sz inf.size) (match r with
       | .M l=>match lB (lG d new) with
         | []=>.bad
         | y::ys=>(Ae (bN off (jn m sz)) (some 0) (y::ys) 0 l).bind fun l'=>.ok (.slc d i v off sz (bN m n) (some c),.set d i (v,.row (.M l')))
       | _=>.bad) .bad))
   | .slc d i v off sz _ none=>cond (fL H d) .bad ((xH H d i v (some 0)).bind fun r=>cond (Nat.beq sz inf.size)
     ((xS r off (jn m sz)).bind fun old=>(GY old (lG d new)).bind fun r'=>.ok (.slc d i (Nat.succ v) 0 sz (bN m n) none,.set d i (Nat.succ v,.row r'))) .bad)
   | _=>.bad) .bad) .bad)
theorem so {H:aa} {sz n:Nat} {x:AV} {q:Row} (h:eQ H sz n x=some q):q.len=n*sz:=by
 unfold eQ at h
 split at h
 · split at h
   · rename_i hn
     simp only[Option.some.injEq] at h
     rw[← h,hn];simp[Row.len]
   · simp at h
 · split at h
   · split at h
     · rename_i hf
       simp only[Option.some.injEq] at h
       rw[← h,pF,Row.dH _ _ _ hf.2.2]
     · simp at h
   · simp at h
 · split at h
   · rename_i hf
     simp only[Option.some.injEq] at h
     rw[← h]
     split
     · exact Row.dH _ _ _ (by omega)
     · rw[pF,Row.dH _ _ _ (by omega)]
   · simp at h
 · simp at h
theorem yJ {H:aa} {nx sz m n:Nat} {s:AV} {new:Row} {y:AV×Delta} (h:(B9 H nx sz m n s new).run=some y):∃ old,eQ H sz m s=some old∧y=(.slc 0 nx 0 0 sz (m+n) none,.push (.row (rB true (old.app new)))):=by
 unfold B9 at h
 obtain ⟨old,h1,h⟩:=Tr.bind_some h
 obtain ⟨r,h2,h⟩:=Tr.bind_some h
 refine ⟨old,pR h1,?_⟩
 rw[← Tr.ab h,bF,wL,BO h2]
theorem AM         {P : Program} {H:aa} {nx:Nat} {t u:TypeId} {s x:AV} {y:AV×Delta} (h:(oz P H nx t u s x).run=some y):oA P true H nx t u s x=some y:=by
 unfold oz at h
 unfold oA
 split at h
 · rename_i e ht
   split at h
   · rename_i e' hu
     split at h
     · rename_i inf hi
       split at h
       · rename_i m hm
         split at h
         · rename_i n hn
           obtain ⟨hsl,h⟩:=Tr.aU h
           rw[ht,hu]
           dsimp only
           rw[hi,hm,hn]
           dsimp only
           have hcase:(n=0∧(s,Delta.bf)=y)∨(n≠0∧(oz.main P H nx e inf s x m n).run=some y):=by
            cases hx:Ms x with
            | true =>
              rw[hx] at h
              cases n with
              | zero=>exact .inl ⟨rfl,Tr.ab h⟩
              | succ n=>exact .inr ⟨by omega,h⟩
            | false =>
              rw[hx] at h
              rcases Tr.iu h with ⟨hc,h⟩ | ⟨hc,h⟩
              · rw[gr,decide_eq_true_eq] at hc
                exact .inl ⟨hc,Tr.ab h⟩
              · rw[gr,decide_eq_false_iff_not] at hc
                exact .inr ⟨hc,h⟩
           clear h
           rcases hcase with ⟨h0,h⟩ | ⟨h0,h⟩
           · rw[if_pos h0]
             cases s<;>simp[Mf] at hsl<;>exact congrArg some h
           rw[if_neg h0]
           unfold oz.main at h
           obtain ⟨hr,h⟩:=Tr.aS h
           rw[z8,decide_eq_true_eq] at hr
           obtain ⟨hb,h⟩:=Tr.aU h
           obtain ⟨hz,h⟩:=Tr.aU h
           obtain ⟨new,h1,h⟩:=Tr.bind_some h
           have hcv:=pR h1
           rw[if_pos ⟨hr.1,hr.2,BS hb,um hz⟩,hcv]
           dsimp only
           split at h
           · rw[← Tr.ab h,wL]
           · rename_i sT r szT HK full
             obtain ⟨hf,h⟩:=Tr.aS h
             obtain ⟨old,h2,rfl⟩:=yJ h
             subst hf
             dsimp only
             rw[h2]
           · rename_i d i v off sz len c _ _ _ _ _
             rcases Tr.iu h with ⟨hc,h⟩ | ⟨hc,h⟩
             · rw[gz,decide_eq_true_eq,bF] at hc
               obtain ⟨old,h2,rfl⟩:=yJ h
               dsimp only
               rw[if_pos hc,h2]
             · rw[gz,decide_eq_false_iff_not,bF] at hc
               dsimp only
               rw[if_neg hc]
               rw[eE] at h
               obtain ⟨hl,h⟩:=Tr.j6 h
               obtain ⟨r,h2,h⟩:=Tr.bind_some h
               obtain ⟨hs,h⟩:=Tr.aU h
               have hs:=Nat.eq_of_beq_eq_true hs
               rw[hl,if_neg (by simp),lr h2]
               dsimp only
               split at h
               · rename_i l _
                 rw[oh] at h
                 have hcl:=so hcv
                 split at h
                 · exact (Tr.ae h).elim
                 · rename_i y0 ys hy
                   obtain ⟨l',h3,h⟩:=Tr.bind_some h
                   obtain ⟨k1,k2⟩:=tT _ _ _ _ h3
                   rw[bF,cE,Nat.add_zero] at k1 k2
                   have hlen:=Row.bm (lG d new)
                   rw[hy,fF,hcl] at hlen
                   have hfit:off+(m+n)*sz≤(Row.M l).len:=by
                    rcases k1 with k1 | k1
                    · simp at k1
                    · rw[hlen,← hs] at k1
                      rw[Nat.add_mul]
                      show _≤aA l
                      omega
                   rw[if_pos ⟨hs,hfit⟩,hy,k2,← Tr.ab h,bF]
               · exact (Tr.ae h).elim
           · rename_i d i v off sz len _ _ _ _ _
             dsimp only
             rw[eE] at h
             obtain ⟨hl,h⟩:=Tr.j6 h
             obtain ⟨r,h2,h⟩:=Tr.bind_some h
             obtain ⟨hs,h⟩:=Tr.aU h
             have hs:=Nat.eq_of_beq_eq_true hs
             obtain ⟨old,h3,h⟩:=Tr.bind_some h
             obtain ⟨r',h4,h⟩:=Tr.bind_some h
             obtain ⟨k1,k2⟩:=BC h3
             rw[cE] at k1 k2
             rw[hl,if_neg (by simp),lr h2]
             dsimp only
             rw[if_pos ⟨hs,k1⟩,k2,BO h4,← Tr.ab h,bF]
           · exact (Tr.ae h).elim
         · exact (Tr.ae h).elim
       · exact (Tr.ae h).elim
     · exact (Tr.ae h).elim
   · rename_i k' hu
     rw[ht,hu]
     exact EE h
   · exact (Tr.ae h).elim
 · exact (Tr.ae h).elim

end
end Go.Eng
end
