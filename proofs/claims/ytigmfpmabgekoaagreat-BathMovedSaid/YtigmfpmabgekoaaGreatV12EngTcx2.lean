/- The engine as a tree: slices, numbers, operations. -/
import Derived.Test.YtigmfpmabgekoaaGreatV12EngTb
set_option linter.unusedVariables false
set_option linter.unusedSimpArgs false
section
namespace Go.Eng
noncomputable section

theorem Tr.aV {α:Type} {c:Bool} {t:Tr α} {x:α} (h:(cond c t .bad).run=some x):c=true∧t.run=some x:=by
 cases c with
 | true=>exact ⟨rfl,h⟩
 | false=>exact (Tr.ae h).elim
def Ko (op:BinOp) (k:IntKind) (x y:Int):Tr AV :=
 match op with
 | .add=>.ok (.int k (aK k x y))
 | .sub=>.ok (.int k (eO k x y))
 | .mul=>.ok (.int k (oG k x y))
 | .quo=>.req (bG (dD y 0)) (.ok (.int k (KR k x y)))
 | .rem=>.req (bG (dD y 0)) (.ok (.int k (dq k x y)))
 | .and=>.ok (.int k (JL k x y))
 | .or=>.ok (.int k (Qk k x y))
 | .xor=>.ok (.int k (Ld k x y))
 | .andNot=>.ok (.int k (Oh k x y))
 | .eql=>.ok (.bool (dD x y))
 | .neq=>.ok (.bool (bG (dD x y)))
 | .lss=>.ok (.bool (df x y))
 | .leq=>.ok (.bool (nM x y))
 | .gtr=>.ok (.bool (df y x))
 | .geq=>.ok (.bool (nM y x))
 | _=>.bad
theorem Ht {op:BinOp} {k:IntKind} {x y:Int} {v:AV} (h:(Ko op k x y).run=some v):iF op k x y=some v:=by
 unfold Ko at h
 unfold iF
 cases op<;>dsimp only at h ⊢<;>try exact (Tr.ae h).elim
 case quo =>
  obtain ⟨hc,h⟩:=Tr.aQ h
  rw[iV,cn] at hc
  have:¬ y=0:=by simpa using hc
  rw[if_neg this,← Tr.ab h,Im]
 case rem =>
  obtain ⟨hc,h⟩:=Tr.aQ h
  rw[iV,cn] at hc
  have:¬ y=0:=by simpa using hc
  rw[if_neg this,← Tr.ab h,CJ]
 all_goals
  have h:=Tr.ab h
  subst h
  first
   | rfl
   | (simp only[gt_iff_lt,ge_iff_le,bH,gE,iT,wN,Bf,yd,AF,cn,iV,fa,iG,bne];done)
   | (simp only[bH,gE,iT,wN,Bf,yd,AF,cn,iV,fa,iG];done)
   | (simp only[bH,gE,iT,wN,Bf,yd,AF,cn,iV,fa,iG];rfl)
def iS:List Int→List Int→Bool
 | [],[]=>true
 | [x],[y]=>dD x y
 | x::x'::a,y::y'::b=>gJ (dD x y) (iS (x'::a) (y'::b))
 | _,_=>false
theorem tH:∀ (l m:List Int),iS l m=fv l m
 | [],[]=>rfl
 | [],_::_=>by simp[iS,fv]
 | _::_,[]=>by simp[iS,fv]
 | [x],[y]=>by simp[iS,fv,cn]
 | [x],y::y'::b=>by simp[iS,fv]
 | x::x'::a,[y]=>by simp[iS,fv]
 | x::x'::a,y::y'::b=>by
   simp only[iS]
   rw[oX,cn,tH (x'::a) (y'::b)];rfl
def yV (r:Row):Option (IntKind×(Nat→Int)) :=
 match r with
 | .I k l=>some (k,aB l)
 | .M [.arr k z _]=>some (k,z)
 | _=>none
theorem tE (r:Row):yV r=r.ints:=by
 match r with
 | .I k l=>simp only[yV,Row.ints,lL]
 | .G l=>rfl
 | .F f n=>rfl
 | .M []=>rfl
 | .M [.arr k z n]=>rfl
 | .M (.one v::r)=>rfl
 | .M (.arr k z n::s::r)=>rfl
def Lj (P:Program) (t:TypeId) (x y:AV):Tr Bool :=
 match x,y with
 | .bool a,.bool b=>match P.underlying t with
   | some .bool=>.ok (OM a b)
   | _=>.bad
 | .nils,.slcT s r sz n f=>match P.underlying t with
   | some (.slice _)=>.req (bx 0 n) (.ok false)
   | _=>.bad
 | .slcT s r sz n f,.nils=>match P.underlying t with
   | some (.slice _)=>.req (bx 0 n) (.ok false)
   | _=>.bad
 | .agg (.I k a),.agg (.I k' b)=>cond (gN k k') (match b9 P 20 t with
   | some n=>match fx P t with
     | some true=>cond (Nat.beq n (iH a)) (cond (Nat.beq (iH a) (iH b)) (.ok (iS a b)) .bad) .bad
     | _=>.bad
   | none=>.bad) .bad
 | .agg (.M l),.agg s=>eqMT P t (.M l) s
 | .agg (.I k a),.agg (.M l)=>eqMT P t (.I k a) (.M l)
 | x,y=>wc (Ay P t x y)
where
 eqMT (P:Program) (t:TypeId) (r s:Row):Tr Bool :=
  match yV r,yV s with
  | some (k,z),some (k',z')=>cond (gN k k') (match b9 P 20 t with
    | some n=>match fx P t with
      | some true=>cond (Nat.beq n (iM r)) (cond (Nat.beq (iM r) (iM s)) (.ok (lg z z' (iM r))) .bad) .bad
      | _=>.bad
    | none=>.bad) .bad
  | _,_=>.bad
theorem B5 {P:Program} {t:TypeId} {r s:Row} {b:Bool} (h:(Lj.eqMT P t r s).run=some b):Li P t r s=some b:=by
 unfold Lj.eqMT at h
 rw[tE,tE] at h
 unfold Li
 split at h
 · rename_i k z k' z' h1 h2
   rw[h1,h2]
   obtain ⟨hk,h⟩:=Tr.aV h
   rw[eZ,decide_eq_true_eq] at hk
   split at h
   · rename_i n hn
     split at h
     · rename_i ha
       obtain ⟨e1,h⟩:=Tr.aV h
       obtain ⟨e2,h⟩:=Tr.aV h
       rw[fC] at e1 e2 h
       rw[fC] at e2
       have e1:n=r.len:=by simpa using e1
       have e2:r.len=s.len:=by simpa using e2
       dsimp only
       rw[if_pos ⟨hk,by rw[hn,e1],ha,e2⟩,← Tr.ab h,Dh]
     · exact (Tr.ae h).elim
   · exact (Tr.ae h).elim
 · exact (Tr.ae h).elim
theorem EV {P:Program} {t:TypeId} {x y:AV} {b:Bool} (h:(Lj P t x y).run=some b):Ay P t x y=some b:=by
 unfold Lj at h
 split at h
 · split at h
   · rename_i hu
     unfold Ay
     dsimp only
     rw[hu,← Tr.ab h,J7]
   · exact (Tr.ae h).elim
 · split at h
   · rename_i hu
     obtain ⟨hc,h⟩:=Tr.aQ h
     rw[iI,decide_eq_true_eq] at hc
     unfold Ay
     dsimp only
     rw[hu]
     dsimp only
     rw[if_pos hc,Tr.ab h]
   · exact (Tr.ae h).elim
 · split at h
   · rename_i hu
     obtain ⟨hc,h⟩:=Tr.aQ h
     rw[iI,decide_eq_true_eq] at hc
     unfold Ay
     dsimp only
     rw[hu]
     dsimp only
     rw[if_pos hc,Tr.ab h]
   · exact (Tr.ae h).elim
 · obtain ⟨hk,h⟩:=Tr.aV h
   rw[eZ,decide_eq_true_eq] at hk
   split at h
   · rename_i n hn
     split at h
     · rename_i ha
       obtain ⟨e1,h⟩:=Tr.aV h
       obtain ⟨e2,h⟩:=Tr.aV h
       rw[db] at e1 e2
       rw[db] at e2
       have e1:=Nat.eq_of_beq_eq_true e1
       have e2:=Nat.eq_of_beq_eq_true e2
       unfold Ay
       dsimp only
       rw[if_pos ⟨hk,by rw[hn,e1],ha,e2⟩,← Tr.ab h,tH]
     · exact (Tr.ae h).elim
   · exact (Tr.ae h).elim
 · unfold Ay;exact B5 h
 · unfold Ay;exact B5 h
 · rw[cW] at h;exact h
def EB (P:Program) (op:BinOp) (t:TypeId) (x y:AV):Tr AV :=
 match x,y with
 | .int k a,.int k' b=>match op with
   | .shl=>.req (nM 0 b) (.ok (.int k (K1 k a b)))
   | .shr=>.req (nM 0 b) (.ok (.int k (K2 k a b)))
   | op=>cond (gN k k') (Ko op k a b) .bad
 | x,y=>match op with
   | .eql=>(Lj P t x y).bind fun b=>.ok (.bool b)
   | .neq=>(Lj P t x y).bind fun b=>.ok (.bool (bG b))
   | _=>.bad
theorem G7 {P:Program} {op:BinOp} {t:TypeId} {x y v:AV} (h:(EB P op t x y).run=some v):kC P op t x y=some v:=by
 unfold EB at h
 split at h
 · rename_i k a k' b
   split at h
   · obtain ⟨hc,h⟩:=Tr.aQ h
     rw[iG,decide_eq_true_eq] at hc
     unfold kC
     dsimp only
     rw[if_neg (by omega),← Tr.ab h,IC]
   · obtain ⟨hc,h⟩:=Tr.aQ h
     rw[iG,decide_eq_true_eq] at hc
     unfold kC
     dsimp only
     rw[if_neg (by omega),← Tr.ab h,IE]
   · rename_i h1 h2
     obtain ⟨hk,h⟩:=Tr.aV h
     rw[eZ,decide_eq_true_eq] at hk
     have:kC P op t (.int k a) (.int k' b)=if k=k' then iF op k a b else none:=by
      unfold kC
      cases op<;>first | rfl | exact (h1 rfl).elim | exact (h2 rfl).elim
     rw[this,if_pos hk]
     exact Ht h
 · rename_i hn
   split at h
   · obtain ⟨b,h1,h⟩:=Tr.bind_some h
     have h2:=EV h1
     have:kC P .eql t x y=(Ay P t x y).map .bool:=by
      unfold kC
      cases x<;>cases y<;>first | rfl | exact (hn _ _ _ _ rfl rfl).elim
     rw[this,h2,← Tr.ab h];rfl
   · obtain ⟨b,h1,h⟩:=Tr.bind_some h
     have h2:=EV h1
     have:kC P .neq t x y=(Ay P t x y).map fun b=>.bool (!b):=by
      unfold kC
      cases x<;>cases y<;>first | rfl | exact (hn _ _ _ _ rfl rfl).elim
     rw[this,h2,← Tr.ab h,iV];rfl
   · exact (Tr.ae h).elim
def Rq (op:UnOp) (x:AV):Tr AV :=
 match op,x with
 | .not,.bool b=>.ok (.bool (bG b))
 | .neg,.int k n=>.ok (.int k (KE k n))
 | _,_=>.bad
theorem K9 {op:UnOp} {x v:AV} (h:(Rq op x).run=some v):N3 op x=some v:=by
 unfold Rq at h
 split at h
 · rw[← Tr.ab h,iV];rfl
 · rw[← Tr.ab h,H8];rfl
 · exact (Tr.ae h).elim
def pP (mx:Bool) (k:IntKind) (x:Int):List AV→Tr AV
 | []=>.ok (.int k x)
 | v::r=>match v with
   | .int k' y=>cond (gN k k') (pP mx k (cond mx (FO x y) (FQ x y)) r) .bad
   | _=>.bad
theorem oE {mx:Bool} {k:IntKind}:∀ (l:List AV) (x:Int) (v:AV),(pP mx k x l).run=some v→fb mx k x l=some v
 | [],x,v,h=>by rw[← Tr.ab h];rfl
 | u :: r,x,v,h=>by
   simp only[pP] at h
   split at h
   · rename_i k' y
     obtain ⟨hk,h⟩:=Tr.aV h
     rw[eZ,decide_eq_true_eq] at hk
     simp only[fb]
     rw[if_pos hk,← oE r _ v h,Cr,Cs]
     cases mx<;>rfl
   · exact (Tr.ae h).elim

def jx (a sz:Nat):Nat :=
 match sz with
 | 1=>a
 | s=>aq a s
theorem cj (a sz:Nat):jx a sz=a*sz:=by
 unfold jx
 split
 · rw[Nat.mul_one]
 · rw[eL]
abbrev Ru:=Option Nat×Nat×Option Nat
def np (lo hi mx:Option AV) (len:Nat):Tr Ru :=
 match mx with
 | none=>(match hi with
    | none=>.ok len
    | some (.int _ i)=>.req (jk i len) (.ok (dB i))
    | some _=>.bad:Tr Nat).bind fun h=>(match lo with
    | none=>.ok (none,h,none)
    | some (.int _ i)=>.req (jk i h) (.ok (some (dB i),h,none))
    | some _=>.bad)
 | some (.int _ m)=>.req (jk m len) (match hi with
    | some (.int _ i)=>.req (jk i (dB m)) (match lo with
      | none=>.ok (none,dB i,some (dB m))
      | some (.int _ j)=>.req (jk j (dB i)) (.ok (some (dB j),dB i,some (dB m)))
      | some _=>.bad)
    | _=>.bad)
 | some _=>.bad
def Cp (l:Option Nat):Nat :=
 match l with
 | none=>0
 | some l=>l
theorem ig {i:Int} {k:IntKind} {d top:Nat} (h:jk i top=true):bound (some (.int k i)) d top=some (dB i):=by
 rw[BR,decide_eq_true_eq] at h
 simp only[bound]
 rw[if_pos h,fR]
theorem ll {lo hi mx:Option AV} {len:Nat} {b:Ru} (h:(np lo hi mx len).run=some b):eF lo hi mx len=some (Cp b.1,b.2.1,b.2.2):=by
 unfold np at h
 unfold eF
 split at h
 · obtain ⟨h',h1,h⟩:=Tr.bind_some h
   have e1:bound hi len len=some h':=by
    split at h1
    · rw[← Tr.ab h1];rfl
    · obtain ⟨hc,h1⟩:=Tr.aQ h1
      rw[ig hc,Tr.ab h1]
    · exact (Tr.ae h1).elim
   dsimp only
   rw[e1]
   dsimp only
   split at h
   · rw[← Tr.ab h];rfl
   · obtain ⟨hc,h⟩:=Tr.aQ h
     rw[ig hc,← Tr.ab h];rfl
   · exact (Tr.ae h).elim
 · rename_i k m
   obtain ⟨hm,h⟩:=Tr.aQ h
   dsimp only
   rw[ig hm]
   dsimp only
   split at h
   · rename_i k' i
     obtain ⟨hi,h⟩:=Tr.aQ h
     simp only[Option.isSome_some,if_true]
     rw[ig hi]
     dsimp only
     split at h
     · rw[← Tr.ab h];rfl
     · obtain ⟨hc,h⟩:=Tr.aQ h
       rw[ig hc,← Tr.ab h];rfl
     · exact (Tr.ae h).elim
   · exact (Tr.ae h).elim
 · exact (Tr.ae h).elim
def x0 (a:Nat) (l:Option Nat):Nat :=
 match l with
 | none=>a
 | some l=>dg a l
theorem nG (a:Nat) (l:Option Nat):x0 a l=a-Cp l:=by
 cases l with
 | none=>rfl
 | some l=>exact gF a l
def Es (off:Nat) (l:Option Nat) (sz:Nat):Nat :=
 match l with
 | none=>off
 | some l=>ah off (jx l sz)
theorem BI (off:Nat) (l:Option Nat) (sz:Nat):Es off l sz=off+Cp l*sz:=by
 cases l with
 | none=>simp[Es,Cp]
 | some l=>simp only[Es,Cp,aU,cj]
def CT (r:Row) (l:Option Nat) (sz n:Nat):Tr Row :=
 match r with
 | .M [.arr k z N]=>.req (fA (ah (jx (Cp l) sz) n) N) (.ok (.M [.arr k (match l with | none=>z | some l=>fE z (jx l sz)) n]))
 | .F f N=>.req (fA (ah (jx (Cp l) sz) n) N) (.ok (.F (match l with | none=>f | some l=>fun j=>f (ah (jx l sz) j)) n))
 | _=>.bad
theorem An {r q:Row} {l:Option Nat} {sz n:Nat} (h:(CT r l sz n).run=some q):Cp l*sz+n≤r.len∧r.sub (Cp l*sz) n=q:=by
 unfold CT at h
 split at h
 · rename_i k z N
   obtain ⟨hc,h⟩:=Tr.aQ h
   rw[lJ,decide_eq_true_eq,aU,cj] at hc
   refine ⟨by simp only[Row.len,aE,aM];omega,?_⟩
   rw[← Tr.ab h]
   cases l with
   | none=>simp only[Row.sub,Cp,Nat.zero_mul,Nat.zero_add]
   | some l=>simp only[Row.sub,Cp,jE,cj]
 · rename_i f N
   obtain ⟨hc,h⟩:=Tr.aQ h
   rw[lJ,decide_eq_true_eq,aU,cj] at hc
   refine ⟨by simp only[Row.len];omega,?_⟩
   rw[← Tr.ab h]
   cases l with
   | none=>simp only[Row.sub,Cp,Nat.zero_mul,Nat.zero_add]
   | some l=>simp only[Row.sub,Cp,aU,cj]
 · exact (Tr.ae h).elim
def OY (o:Option AV):Bool :=
 match o with
 | none=>true
 | some _=>false
def Fk (mm:Option Nat) (full hiN:Bool) (h len:Nat):Bool :=
 match mm with
 | none=>cond hiN full (gJ full (cM h len))
 | some m=>cM h m
def Br (P:Program) (t:TypeId) (x:AV) (lo hi mx:Option AV):Tr AV :=
 match P.underlying t with
 | some (.slice e)=>match bo P e with
   | some z=>match x with
     | .slc d j v off sz len cap=>cond (Nat.beq z sz) ((np lo hi mx len).bind fun b=>.ok (.slc d j v (Es off b.1 sz) sz (x0 b.2.1 b.1) (match b.2.2 with
       | none=>match cap with | none=>none | some c=>some (x0 c b.1)
       | some m=>some (x0 m b.1)))) .bad
     | .slcT s r sz len full=>cond (Nat.beq z sz) ((np lo hi mx len).bind fun b=>(CT r b.1 sz (jx (x0 b.2.1 b.1) sz)).bind fun q=>.ok (.slcT s q sz (x0 b.2.1 b.1) (Fk b.2.2 full (OY hi) b.2.1 len))) .bad
     | .nils=>(np lo hi mx 0).bind fun _=>.ok .nils
     | _=>.bad
   | none=>.bad
 | some (.array n e)=>match bo P e with
   | some sz=>match x with
     | .ptr d j v off=>(np lo hi mx n).bind fun b=>.ok (.slc d j v (Es off b.1 sz) sz (x0 b.2.1 b.1) (match b.2.2 with
       | none=>some (x0 n b.1)
       | some m=>some (x0 m b.1)))
     | _=>.bad
   | none=>.bad
 | _=>.bad
theorem D8 {P:Program} {t:TypeId} {x v:AV} {lo hi mx:Option AV} (h:(Br P t x lo hi mx).run=some v):qZ P t x lo hi mx=some v:=by
 unfold Br at h
 unfold qZ
 split at h
 · rename_i e hu
   split at h
   · rename_i z hs
     split at h
     · rename_i d j ver off sz len cap
       obtain ⟨hz,h⟩:=Tr.aV h
       have hz:z=sz:=by simpa using hz
       subst hz
       obtain ⟨b,h1,h⟩:=Tr.bind_some h
       rw[hu]
       dsimp only
       rw[ll h1]
       dsimp only
       rw[if_pos hs,← Tr.ab h,BI,nG]
       obtain ⟨b1,b2,b3⟩:=b
       cases b3<;>cases cap<;>simp only[nG,Option.map_some,Option.map_none]
     · rename_i s r sz len full
       obtain ⟨hz,h⟩:=Tr.aV h
       have hz:z=sz:=by simpa using hz
       subst hz
       obtain ⟨b,h1,h⟩:=Tr.bind_some h
       obtain ⟨q,h2,h⟩:=Tr.bind_some h
       rw[hu]
       dsimp only
       have hb:=ll h1
       rw[hb]
       dsimp only
       obtain ⟨k1,k2⟩:=An h2
       rw[cj,nG] at k1 k2
       rw[if_pos ⟨hs,k1⟩,k2,← Tr.ab h,nG]
       congr 2
       obtain ⟨b1,b2,b3⟩:=b
       dsimp only at hb ⊢
       cases b3 with
       | some m=>simp only[Fk,gq];rw[Bool.eq_iff_iff];simp
       | none =>
         simp only[Fk]
         cases hi with
         | some a =>
           simp only[OY,cond_false,oX,gq]
           congr 1
           rw[Bool.eq_iff_iff];simp
         | none =>
           simp only[OY,cond_true]
           have:b2=len:=by
            unfold eF at hb
            cases mx with
            | none =>
              dsimp only[bound] at hb
              split at hb
              · simp only[nP] at hb;exact hb.2.1.symm
              · simp at hb
            | some a =>
              dsimp only at hb
              split at hb
              · simp at hb
              · simp at hb
           rw[this];simp
     · obtain ⟨b,h1,h⟩:=Tr.bind_some h
       rw[hu]
       dsimp only
       rw[ll h1,hs,← Tr.ab h]
     · exact (Tr.ae h).elim
   · exact (Tr.ae h).elim
 · rename_i n e hu
   split at h
   · rename_i sz hs
     split at h
     · rename_i d j ver off
       obtain ⟨b,h1,h⟩:=Tr.bind_some h
       rw[hu]
       dsimp only
       rw[ll h1]
       dsimp only
       rw[hs,← Tr.ab h,BI,nG]
       obtain ⟨b1,b2,b3⟩:=b
       cases b3<;>simp only[nG]
     · exact (Tr.ae h).elim
   · exact (Tr.ae h).elim
 · exact (Tr.ae h).elim

def sU (H:aa) (sz n:Nat) (x:AV):Tr Row :=
 match x with
 | .slc d i v off sz' len cap=>(xS H d i v (some 0)).bind fun r=>cond (Nat.beq sz' sz) (.req (fA n len) (match r with
    | .M [.arr k z N]=>.req (la off (jx n sz) 0 N) (.ok (.M [.arr k (fE z off) (jx n sz)]))
    | .I k l=>cond (uT (.I k l) off (Nat.mul n sz)) (.ok (BA d (Row.I k (iN (l6 l off) (Nat.mul n sz))))) .bad
    | .G l=>cond (uT (.G l) off (Nat.mul n sz)) (.ok (BA d (Row.G (iN (l6 l off) (Nat.mul n sz))))) .bad
    | .F f N=>.req (la off (jx n sz) 0 N) (.ok (.F (fun j=>f (ah off j)) (jx n sz)))
    | _=>.bad)) .bad
 | .slcT s r sz' len _=>cond (Nat.beq sz' sz) (.req (fA n len) ((CT r none sz (jx n sz)).bind fun q=>.ok (match s with | none=>q | some k=>BA k q))) .bad
 | _=>.bad
theorem N5 (d:Nat) (k:IntKind) (z:Nat→Int) (n:Nat):BA d (.M [.arr k z n])=.M [.arr k z n]:=by cases d<;>rfl
theorem N4 (d:Nat) (f:Nat→AV) (n:Nat):BA d (.F f n)=.F f n:=by cases d<;>rfl
theorem qj {H:aa} {sz n:Nat} {x:AV} {q:Row} (h:(sU H sz n x).run=some q):eR H sz n x=some q:=by
 unfold sU at h
 split at h
 · rename_i d i v off sz' len cap
   obtain ⟨r,h1,h⟩:=Tr.bind_some h
   obtain ⟨hz,h⟩:=Tr.aV h
   have hz:sz'=sz:=by simpa using hz
   obtain ⟨hc,h⟩:=Tr.aQ h
   rw[lJ,decide_eq_true_eq] at hc
   unfold eR
   dsimp only
   rw[lS h1]
   dsimp only
   split at h
   · rename_i k z N
     obtain ⟨hc2,h⟩:=Tr.aQ h
     rw[kf,decide_eq_true_eq,cj] at hc2
     rw[if_pos ⟨hz,hc,by simp only[Row.len,aE,aM];omega⟩,← Tr.ab h]
     simp only[Row.sub,N5,jE,cj]
   · rename_i k l
     obtain ⟨hc2,h⟩:=Tr.aV h
     rw[ly,decide_eq_true_eq] at hc2
     rw[if_pos ⟨hz,hc,hc2⟩,← Tr.ab h,gG,ik]
     rfl
   · rename_i l
     obtain ⟨hc2,h⟩:=Tr.aV h
     rw[ly,decide_eq_true_eq] at hc2
     rw[if_pos ⟨hz,hc,hc2⟩,← Tr.ab h,gG,ik]
     rfl
   · rename_i f N
     obtain ⟨hc2,h⟩:=Tr.aQ h
     rw[kf,decide_eq_true_eq,cj] at hc2
     rw[if_pos ⟨hz,hc,by simp only[Row.len];omega⟩,← Tr.ab h]
     simp only[Row.sub,N4,aU,cj]
   · exact (Tr.ae h).elim
 · rename_i s r sz' len full
   obtain ⟨hz,h⟩:=Tr.aV h
   have hz:sz'=sz:=by simpa using hz
   obtain ⟨hc,h⟩:=Tr.aQ h
   rw[lJ,decide_eq_true_eq] at hc
   obtain ⟨q',h1,h⟩:=Tr.bind_some h
   obtain ⟨k1,k2⟩:=An h1
   rw[cj] at k1 k2
   simp only[Cp,Nat.zero_mul,Nat.zero_add] at k1 k2
   unfold eR
   dsimp only
   rw[if_pos ⟨hz,hc,k1⟩,← Tr.ab h,k2]
   cases s<;>rfl
 · exact (Tr.ae h).elim

end
end Go.Eng
end
section
namespace Go.Eng
noncomputable section

theorem Tr.kE {α:Type} {c:Bool} {t:Tr α} {x:α} (h:(cond c .bad t).run=some x):c=false∧t.run=some x:=by
 cases c with
 | false=>exact ⟨rfl,h⟩
 | true=>exact (Tr.ae h).elim

def zD:AV→AV
 | .slcT none (.I k l) sz m _=>.slcT none (.M [.arr k (aB l) (iH l)]) sz m false
 | .slcT none (.M [.arr k z n]) sz m _=>.slcT none (.M [.arr k z n]) sz m false
 | v=>v
theorem zE (v:AV):zD v=nT v:=by
 unfold zD nT
 split
 · simp only[lL,db]
 · rfl
 · rename_i h1 h2
   split
   · exact absurd rfl (h1 _ _ _ _ _)
   · exact absurd rfl (h2 _ _ _ _ _ _)
   · rfl
def E0 (r:Row):Row :=
 match r with
 | .I k l=>.M [.arr k (aB l) (iH l)]
 | .G [v]=>cond (rC v) (.F (fun _=>zD v) 1) (.G [v])
 | r=>r
theorem xg (r:Row):E0 r=rW true r:=by
 cases r with
 | I k l=>simp only[E0,rW,if_true,lL,db]
 | F f n=>rfl
 | M l=>rfl
 | G l =>
   match l with
   | []=>rfl
   | [v] =>
     show cond (rC v) (Row.F (fun _=>zD v) 1) (Row.G [v])=if (true && rC v)=true then Row.F (fun _=>nT v) 1 else Row.G [v]
     rw[zE]
     cases rC v<;>rfl
   | a::b::r=>rfl
def UB:AV→Nat→Int
 | .slcT _ (.M [.arr _ z _]) _ _ _=>z
 | _=>fun _=>0
def T7:AV→Nat
 | .slcT _ (.M [.arr _ _ n]) _ _ _=>n
 | _=>0
def T6:AV→Nat
 | .slcT _ _ _ m _=>m
 | _=>0
def G2 (r s:Row):Tr Row :=
 match r with
 | .M [.arr k z n]=>match yV s with
   | some (k',z')=>cond (gN k' k) (.ok (.M [.arr k (iE z n z') (ah n (iM s))])) .bad
   | none=>.bad
 | .I k l=>match s with
   | .I k' l'=>cond (gN k' k) (.ok (.I k (nJ l l'))) .bad
   | .M [.arr k' z' n']=>cond (gN k' k) (.ok (.M [.arr k (iE (aB l) (iH l) z') (ah (iH l) n')])) .bad
   | _=>.bad
 | .G l=>match s with
   | .G l'=>.ok (.G (nJ l l'))
   | _=>.bad
 | .F f n=>match s with
   | .G [v]=>cond (rC v) (match zD v with
     | .slcT none (.M [.arr k z N]) sz m full=>.reqP (JH f k sz full)
       (.ok (.F (fun j=>.slcT none (.M [.arr k (KY (bx j n) (UB (f j)) z) (Iw (bx j n) (T7 (f j)) N)]) sz (Iw (bx j n) (T6 (f j)) m) full) (ah n 1)))
     | _=>.bad) .bad
   | _=>.bad
 | _=>.bad
theorem BL {r s q:Row} (h:(G2 r s).run=some q):r.app s=q:=by
 unfold G2 at h
 split at h
 · rename_i k z n
   rw[tE] at h
   split at h
   · rename_i k' z' hi
     obtain ⟨hk,h⟩:=Tr.aV h
     rw[eZ,decide_eq_true_eq] at hk
     have e:Row.app (.M [.arr k z n]) s=(match (Row.M [.arr k z n]).uM s with | some q=>q | none=>.G ((Row.M [.arr k z n]).toList++s.toList)):=by
      cases s<;>rfl
     rw[e]
     unfold Row.uM
     rw[hi]
     dsimp only[Row.ints]
     rw[if_pos hk,← Tr.ab h,jN,aU,fC]
     rfl
   · exact (Tr.ae h).elim
 · rename_i k l
   split at h
   · rename_i k' l'
     obtain ⟨hk,h⟩:=Tr.aV h
     rw[eZ,decide_eq_true_eq] at hk
     simp only[Row.app]
     rw[if_pos hk,← Tr.ab h,lh]
   · rename_i k' z' n'
     obtain ⟨hk,h⟩:=Tr.aV h
     rw[eZ,decide_eq_true_eq] at hk
     simp only[Row.app]
     unfold Row.uM
     dsimp only[Row.ints]
     rw[if_pos hk,← Tr.ab h,jN,aU,db,lL]
     rfl
   · exact (Tr.ae h).elim
 · split at h
   · rw[← Tr.ab h,lh];rfl
   · exact (Tr.ae h).elim
 · rename_i f n
   split at h
   · rename_i v
     obtain ⟨hv,h⟩:=Tr.aV h
     split at h
     · rename_i k z N sz m full hn
       obtain ⟨hf,h⟩:=Tr.cY h
       rw[zE] at hn
       rw[← Tr.ab h,aU]
       show Row.F _ _=Row.F _ _
       congr 1
       funext j
       simp only[Iz,Ix,iI]
       by_cases e:j<n
       · have hb:Nat.blt j n=true:=by rw[Nat.blt_eq];exact e
         rw[hb,if_pos rfl,decide_eq_true e]
         rw[GX] at hf
         obtain ⟨z',n',m',e'⟩:=hf j
         rw[e'];rfl
       · have hb:Nat.blt j n=false:=by
          cases hb:Nat.blt j n with
          | false=>rfl
          | true=>rw[Nat.blt_eq] at hb;exact absurd hb e
         rw[hb,if_neg (by simp),decide_eq_false e]
         show (if iu v=true then nT v else .undef)=_
         rw[if_pos (tF hv),hn]
         rfl
     · exact (Tr.ae h).elim
   · exact (Tr.ae h).elim
 · exact (Tr.ae h).elim
def Mj (x:AV):Bool :=
 match x with
 | .slc _ _ _ _ _ _ (some _)=>true
 | _=>false
def L9 (s:AV):Bool :=
 match s with
 | .nils | .slc .. | .slcT ..=>true
 | _=>false
def sD (P:Program) (e:TypeId) (n:Nat):Bool :=
 match (cI P e).bind AV.row with
 | some z=>Nat.beq (iM z) n
 | none=>false
theorem uE {P:Program} {e:TypeId} {n:Nat} (h:sD P e n=true):((cI P e).bind AV.row).map Row.len=some n:=by
 unfold sD at h
 split at h
 · rename_i z hz
   rw[fC] at h
   have h:=Nat.eq_of_beq_eq_true h
   rw[hz,Option.map_some,h]
 · simp at h
def Cb (H:aa) (nx sz m n:Nat) (s:AV) (new:Row):Tr (AV×Delta) :=
 (sU H sz m s).bind fun old=>(G2 old new).bind fun r=>.ok (.slc 0 nx 0 0 sz (ah m n) none,.push (.row (E0 r)))
def x7 (r:Row) (off n:Nat):Tr Row :=
 match r with
 | .M [.arr k z N]=>.req (cM (ah off n) N) (.ok (.M [.arr k (fE z off) n]))
 | .G l=>cond (Nat.beq (Nat.add off n) (iH l)) (.ok (.G (iN (l6 l off) n))) .bad
 | .F f N=>.req (cM (ah off n) N) (.ok (.F (fun j=>f (ah off j)) n))
 | _=>.bad
theorem By {r q:Row} {off n:Nat} (h:(x7 r off n).run=some q):off+n=r.len∧r.sub off n=q:=by
 unfold x7 at h
 split at h
 · rename_i k z N
   obtain ⟨hc,h⟩:=Tr.aQ h
   rw[gq,decide_eq_true_eq,aU] at hc
   refine ⟨by simp only[Row.len,aE,aM];omega,?_⟩
   rw[← Tr.ab h,jE];rfl
 · rename_i l
   obtain ⟨hc,h⟩:=Tr.aV h
   rw[db] at hc
   have hc:=Nat.eq_of_beq_eq_true hc
   exact ⟨hc,by rw[← Tr.ab h,gG,ik];rfl⟩
 · rename_i f N
   obtain ⟨hc,h⟩:=Tr.aQ h
   rw[gq,decide_eq_true_eq,aU] at hc
   refine ⟨hc,?_⟩
   rw[← Tr.ab h]
   simp only[aU]
   rfl
 · exact (Tr.ae h).elim
def Ev (P:Program) (nx:Nat) (e:TypeId) (s x:AV):Tr (AV×Delta) :=
 match P.info? e with
 | some inf=>match s with
   | .nils=>match x with
     | .int _ k=>cond (Nat.blt 0 inf.size) (cond (sD P e inf.size) (.req (Kz k k inf.bytes) (.ite (dD k (Int.ofNat 0)) (.ok (.nils,.bf)) (.ok (.slc 0 nx 0 0 inf.size (dB k) none,.push (.row (E0 (.I .i64 []))))))) .bad) .bad
     | _=>.bad
   | _=>.bad
 | none=>.bad
theorem Ew {P:Program} {nx:Nat} {e:TypeId} {s x:AV} {y:AV×Delta} (h:(Ev P nx e s x).run=some y):Eu P true nx e s x=some y:=by
 unfold Ev at h
 unfold Eu
 split at h
 · rename_i inf hi
   rw[hi]
   split at h
   · split at h
     · rename_i kk k
       obtain ⟨hb,h⟩:=Tr.aV h
       obtain ⟨hz,h⟩:=Tr.aV h
       obtain ⟨hm,h⟩:=Tr.aQ h
       rw[A8,decide_eq_true_eq] at hm
       dsimp only
       rw[if_pos ⟨hm.1,hm.2.2.2,hm.2.2.1,BQ hb,uE hz⟩]
       rcases Tr.gz h with ⟨hc,h⟩ | ⟨hc,h⟩
       · rw[cn,beq_iff_eq] at hc
         rw[if_pos (show k=0 from hc),Tr.ab h]
       · rw[cn,beq_eq_false_iff_ne] at hc
         rw[if_neg (show ¬ k=0 from hc),← Tr.ab h,xg,fR]
     · exact (Tr.ae h).elim
   · exact (Tr.ae h).elim
 · exact (Tr.ae h).elim
def o7 (P:Program) (H:aa) (nx:Nat) (t u:TypeId) (s x:AV):Tr (AV×Delta) :=
 match P.underlying t with
 | some (.slice e)=>match P.underlying u with
   | some (.slice _)=>match P.info? e with
     | some inf=>match ov s with
       | some m=>match ov x with
         | some n=>cond (L9 s) (match Mj x,n with
           | true,0=>.ok (s,.bf)
           | true,_=>main P H nx e inf s x m n
           | false,_=>.ite (cM n 0) (.ok (s,.bf)) (main P H nx e inf s x m n)) .bad
         | none=>.bad
       | none=>.bad
     | none=>.bad
   | some (.int _)=>Ev P nx e s x
   | _=>.bad
 | _=>.bad
where
 main (P : Program) (H:aa) (nx:Nat) (e:TypeId) (inf:TypeInfo) (s x:AV) (m n:Nat):Tr (AV×Delta) :=
  .req (dJ m n inf.bytes) (cond (Nat.blt 0 inf.bytes) (cond (sD P e inf.size) ((sU H inf.size n x).bind fun new =>
   match s with
   | .nils=>.ok (.slc 0 nx 0 0 inf.size n none,.push (.row (E0 new)))
   | .slcT _ _ _ _ full=>.req full (Cb H nx inf.size m n s new)
   | .slc d i v off sz _ (some c)=>.ite (bx c (ah m n)) (Cb H nx inf.size m n s new)
     (cond (fL H d) .bad ((xS H d i v (some 0)).bind fun r=>cond (Nat.beq sz inf.size) (match r with
       | .M l=>match lX (jH d new) with
         | []=>.bad
         | y::ys=>(Ag (ah off (jx m sz)) (some 0) (y::ys) 0 l).bind fun l'=>.ok (.slc d i v off sz (ah m n) (some c),.set d i (v,.row (.M l')))
       | _=>.bad) .bad))
   | .slc d i v off sz _ none=>cond (fL H d) .bad ((xS H d i v (some 0)).bind fun r=>cond (Nat.beq sz inf.size)
     ((x7 r off (jx m sz)).bind fun old=>(G2 old (jH d new)).bind fun r'=>.ok (.slc d i (Nat.succ v) 0 sz (ah m n) none,.set d i (Nat.succ v,.row r'))) .bad)
   | _=>.bad) .bad) .bad)
theorem sV {H:aa} {sz n:Nat} {x:AV} {q:Row} (h:eR H sz n x=some q):q.len=n*sz:=by
 unfold eR at h
 split at h
 · split at h
   · rename_i hn
     simp only[Option.some.injEq] at h
     rw[← h,hn];simp[Row.len]
   · simp at h
 · split at h
   · split at h
     · rename_i hf
       simp only[Option.some.injEq] at h
       rw[← h,p9,Row.dC _ _ _ hf.2.2]
     · simp at h
   · simp at h
 · split at h
   · rename_i hf
     simp only[Option.some.injEq] at h
     rw[← h]
     split
     · exact Row.dC _ _ _ (by omega)
     · rw[p9,Row.dC _ _ _ (by omega)]
   · simp at h
 · simp at h
theorem yK {H:aa} {nx sz m n:Nat} {s:AV} {new:Row} {y:AV×Delta} (h:(Cb H nx sz m n s new).run=some y):∃ old,eR H sz m s=some old∧y=(.slc 0 nx 0 0 sz (m+n) none,.push (.row (rW true (old.app new)))):=by
 unfold Cb at h
 obtain ⟨old,h1,h⟩:=Tr.bind_some h
 obtain ⟨r,h2,h⟩:=Tr.bind_some h
 refine ⟨old,qj h1,?_⟩
 rw[← Tr.ab h,aU,xg,BL h2]
theorem AH         {P : Program} {H:aa} {nx:Nat} {t u:TypeId} {s x:AV} {y:AV×Delta} (h:(o7 P H nx t u s x).run=some y):o8 P true H nx t u s x=some y:=by
 unfold o7 at h
 unfold o8
 split at h
 · rename_i e ht
   split at h
   · rename_i e' hu
     split at h
     · rename_i inf hi
       split at h
       · rename_i m hm
         split at h
         · rename_i n hn
           obtain ⟨hsl,h⟩:=Tr.aV h
           rw[ht,hu]
           dsimp only
           rw[hi,hm,hn]
           dsimp only
           have hcase:(n=0∧(s,Delta.bf)=y)∨(n≠0∧(o7.main P H nx e inf s x m n).run=some y):=by
            cases hx:Mj x with
            | true =>
              rw[hx] at h
              cases n with
              | zero=>exact .inl ⟨rfl,Tr.ab h⟩
              | succ n=>exact .inr ⟨by omega,h⟩
            | false =>
              rw[hx] at h
              rcases Tr.gz h with ⟨hc,h⟩ | ⟨hc,h⟩
              · rw[gq,decide_eq_true_eq] at hc
                exact .inl ⟨hc,Tr.ab h⟩
              · rw[gq,decide_eq_false_iff_not] at hc
                exact .inr ⟨hc,h⟩
           clear h
           rcases hcase with ⟨h0,h⟩ | ⟨h0,h⟩
           · rw[if_pos h0]
             cases s<;>simp[L9] at hsl<;>exact congrArg some h
           rw[if_neg h0]
           unfold o7.main at h
           obtain ⟨hr,h⟩:=Tr.aQ h
           rw[Aa,decide_eq_true_eq] at hr
           obtain ⟨hb,h⟩:=Tr.aV h
           obtain ⟨hz,h⟩:=Tr.aV h
           obtain ⟨new,h1,h⟩:=Tr.bind_some h
           have hcv:=qj h1
           rw[if_pos ⟨hr.1,hr.2,BQ hb,uE hz⟩,hcv]
           dsimp only
           split at h
           · rw[← Tr.ab h,xg]
           · rename_i sT r szT Hz full
             obtain ⟨hf,h⟩:=Tr.aQ h
             obtain ⟨old,h2,rfl⟩:=yK h
             subst hf
             dsimp only
             rw[h2]
           · rename_i d i v off sz len c _ _ _ _ _
             rcases Tr.gz h with ⟨hc,h⟩ | ⟨hc,h⟩
             · rw[iI,decide_eq_true_eq,aU] at hc
               obtain ⟨old,h2,rfl⟩:=yK h
               dsimp only
               rw[if_pos hc,h2]
             · rw[iI,decide_eq_false_iff_not,aU] at hc
               dsimp only
               rw[if_neg hc]
               rw[ev] at h
               obtain ⟨hl,h⟩:=Tr.kE h
               obtain ⟨r,h2,h⟩:=Tr.bind_some h
               obtain ⟨hs,h⟩:=Tr.aV h
               have hs:=Nat.eq_of_beq_eq_true hs
               rw[hl,if_neg (by simp),lS h2]
               dsimp only
               split at h
               · rename_i l _
                 rw[oR] at h
                 have hcl:=sV hcv
                 split at h
                 · exact (Tr.ae h).elim
                 · rename_i y0 ys hy
                   obtain ⟨l',h3,h⟩:=Tr.bind_some h
                   obtain ⟨k1,k2⟩:=uq _ _ _ _ h3
                   rw[aU,cj,Nat.add_zero] at k1 k2
                   have hlen:=Row.bn (jH d new)
                   rw[hy,fF,hcl] at hlen
                   have hfit:off+(m+n)*sz≤(Row.M l).len:=by
                    rcases k1 with k1 | k1
                    · simp at k1
                    · rw[hlen,← hs] at k1
                      rw[Nat.add_mul]
                      show _≤aE l
                      omega
                   rw[if_pos ⟨hs,hfit⟩,hy,k2,← Tr.ab h,aU]
               · exact (Tr.ae h).elim
           · rename_i d i v off sz len _ _ _ _ _
             dsimp only
             rw[ev] at h
             obtain ⟨hl,h⟩:=Tr.kE h
             obtain ⟨r,h2,h⟩:=Tr.bind_some h
             obtain ⟨hs,h⟩:=Tr.aV h
             have hs:=Nat.eq_of_beq_eq_true hs
             obtain ⟨old,h3,h⟩:=Tr.bind_some h
             obtain ⟨r',h4,h⟩:=Tr.bind_some h
             obtain ⟨k1,k2⟩:=By h3
             rw[cj] at k1 k2
             rw[hl,if_neg (by simp),lS h2]
             dsimp only
             rw[if_pos ⟨hs,k1⟩,k2,BL h4,← Tr.ab h,aU]
           · exact (Tr.ae h).elim
         · exact (Tr.ae h).elim
       · exact (Tr.ae h).elim
     · exact (Tr.ae h).elim
   · rename_i k' hu
     rw[ht,hu]
     exact Ew h
   · exact (Tr.ae h).elim
 · exact (Tr.ae h).elim

end
end Go.Eng
end
