/- The engine as a tree: slices, numbers, operations. -/
import Derived.Test.YtigmfpmabgekoaaGreatV11EngTb
set_option linter.unusedVariables false
set_option linter.unusedSimpArgs false
section
namespace Go.Eng
noncomputable section

theorem Tr.aP {α:Type} {c:Bool} {t:Tr α} {x:α} (h:(cond c t .bad).run=some x):c=true∧t.run=some x:=by
 cases c with
 | true=>exact ⟨rfl,h⟩
 | false=>exact (Tr.ae h).elim
def JQ (op:BinOp) (k:IntKind) (x y:Int):Tr AV :=
 match op with
 | .add=>.ok (.int k (a8 k x y))
 | .sub=>.ok (.int k (cu k x y))
 | .mul=>.ok (.int k (Hp k x y))
 | .quo=>.req (b8 (dm y 0)) (.ok (.int k (Kg k x y)))
 | .rem=>.req (b8 (dm y 0)) (.ok (.int k (aN k x y)))
 | .and=>.ok (.int k (Jb k x y))
 | .or=>.ok (.int k (Pr k x y))
 | .xor=>.ok (.int k (KB k x y))
 | .andNot=>.ok (.int k (NB k x y))
 | .eql=>.ok (.bool (dm x y))
 | .neq=>.ok (.bool (b8 (dm x y)))
 | .lss=>.ok (.bool (dq x y))
 | .leq=>.ok (.bool (mP x y))
 | .gtr=>.ok (.bool (dq y x))
 | .geq=>.ok (.bool (mP y x))
 | _=>.bad
theorem GX {op:BinOp} {k:IntKind} {x y:Int} {v:AV} (h:(JQ op k x y).run=some v):iy op k x y=some v:=by
 unfold JQ at h
 unfold iy
 cases op<;>dsimp only at h ⊢<;>try exact (Tr.ae h).elim
 case quo =>
  obtain ⟨hc,h⟩:=Tr.aK h
  rw[iP,cg] at hc
  have:¬ y=0:=by simpa using hc
  rw[if_neg this,← Tr.ab h,HM]
 case rem =>
  obtain ⟨hc,h⟩:=Tr.aK h
  rw[iP,cg] at hc
  have:¬ y=0:=by simpa using hc
  rw[if_neg this,← Tr.ab h,Cl]
 all_goals
  have h:=Tr.ab h
  subst h
  first
   | rfl
   | (simp only[gt_iff_lt,ge_iff_le,bV,eh,rZ,we,AX,xJ,Ak,cg,iP,eV,iz,bne];done)
   | (simp only[bV,eh,rZ,we,AX,xJ,Ak,cg,iP,eV,iz];done)
   | (simp only[bV,eh,rZ,we,AX,xJ,Ak,cg,iP,eV,iz];rfl)
def iN:List Int→List Int→Bool
 | [],[]=>true
 | [x],[y]=>dm x y
 | x::x'::a,y::y'::b=>fa (dm x y) (iN (x'::a) (y'::b))
 | _,_=>false
theorem tl:∀ (l m:List Int),iN l m=fp l m
 | [],[]=>rfl
 | [],_::_=>by simp[iN,fp]
 | _::_,[]=>by simp[iN,fp]
 | [x],[y]=>by simp[iN,fp,cg]
 | [x],y::y'::b=>by simp[iN,fp]
 | x::x'::a,[y]=>by simp[iN,fp]
 | x::x'::a,y::y'::b=>by
   simp only[iN]
   rw[oN,cg,tl (x'::a) (y'::b)];rfl
def yD (r:Row):Option (IntKind×(Nat→Int)) :=
 match r with
 | .I k l=>some (k,an l)
 | .M [.arr k z _]=>some (k,z)
 | _=>none
theorem ti (r:Row):yD r=r.ints:=by
 match r with
 | .I k l=>simp only[yD,Row.ints,lC]
 | .G l=>rfl
 | .F f n=>rfl
 | .M []=>rfl
 | .M [.arr k z n]=>rfl
 | .M (.one v::r)=>rfl
 | .M (.arr k z n::s::r)=>rfl
def KG (P:Program) (t:TypeId) (x y:AV):Tr Bool :=
 match x,y with
 | .bool a,.bool b=>match P.underlying t with
   | some .bool=>.ok (N1 a b)
   | _=>.bad
 | .nils,.slcT s r sz n f=>match P.underlying t with
   | some (.slice _)=>.req (bA 0 n) (.ok false)
   | _=>.bad
 | .slcT s r sz n f,.nils=>match P.underlying t with
   | some (.slice _)=>.req (bA 0 n) (.ok false)
   | _=>.bad
 | .agg (.I k a),.agg (.I k' b)=>cond (gH k k') (match cq P 20 t with
   | some n=>match ft P t with
     | some true=>cond (Nat.beq n (iA a)) (cond (Nat.beq (iA a) (iA b)) (.ok (iN a b)) .bad) .bad
     | _=>.bad
   | none=>.bad) .bad
 | .agg (.M l),.agg s=>eqMT P t (.M l) s
 | .agg (.I k a),.agg (.M l)=>eqMT P t (.I k a) (.M l)
 | x,y=>vJ (Af P t x y)
where
 eqMT (P:Program) (t:TypeId) (r s:Row):Tr Bool :=
  match yD r,yD s with
  | some (k,z),some (k',z')=>cond (gH k k') (match cq P 20 t with
    | some n=>match ft P t with
      | some true=>cond (Nat.beq n (iH r)) (cond (Nat.beq (iH r) (iH s)) (.ok (kV z z' (iH r))) .bad) .bad
      | _=>.bad
    | none=>.bad) .bad
  | _,_=>.bad
theorem BH {P:Program} {t:TypeId} {r s:Row} {b:Bool} (h:(KG.eqMT P t r s).run=some b):KF P t r s=some b:=by
 unfold KG.eqMT at h
 rw[ti,ti] at h
 unfold KF
 split at h
 · rename_i k z k' z' h1 h2
   rw[h1,h2]
   obtain ⟨hk,h⟩:=Tr.aP h
   rw[eU,decide_eq_true_eq] at hk
   split at h
   · rename_i n hn
     split at h
     · rename_i ha
       obtain ⟨e1,h⟩:=Tr.aP h
       obtain ⟨e2,h⟩:=Tr.aP h
       rw[fA] at e1 e2 h
       rw[fA] at e2
       have e1:n=r.len:=by simpa using e1
       have e2:r.len=s.len:=by simpa using e2
       dsimp only
       rw[if_pos ⟨hk,by rw[hn,e1],ha,e2⟩,← Tr.ab h,CQ]
     · exact (Tr.ae h).elim
   · exact (Tr.ae h).elim
 · exact (Tr.ae h).elim
theorem Em {P:Program} {t:TypeId} {x y:AV} {b:Bool} (h:(KG P t x y).run=some b):Af P t x y=some b:=by
 unfold KG at h
 split at h
 · split at h
   · rename_i hu
     unfold Af
     dsimp only
     rw[hu,← Tr.ab h,Jy]
   · exact (Tr.ae h).elim
 · split at h
   · rename_i hu
     obtain ⟨hc,h⟩:=Tr.aK h
     rw[iC,decide_eq_true_eq] at hc
     unfold Af
     dsimp only
     rw[hu]
     dsimp only
     rw[if_pos hc,Tr.ab h]
   · exact (Tr.ae h).elim
 · split at h
   · rename_i hu
     obtain ⟨hc,h⟩:=Tr.aK h
     rw[iC,decide_eq_true_eq] at hc
     unfold Af
     dsimp only
     rw[hu]
     dsimp only
     rw[if_pos hc,Tr.ab h]
   · exact (Tr.ae h).elim
 · obtain ⟨hk,h⟩:=Tr.aP h
   rw[eU,decide_eq_true_eq] at hk
   split at h
   · rename_i n hn
     split at h
     · rename_i ha
       obtain ⟨e1,h⟩:=Tr.aP h
       obtain ⟨e2,h⟩:=Tr.aP h
       rw[dh] at e1 e2
       rw[dh] at e2
       have e1:=Nat.eq_of_beq_eq_true e1
       have e2:=Nat.eq_of_beq_eq_true e2
       unfold Af
       dsimp only
       rw[if_pos ⟨hk,by rw[hn,e1],ha,e2⟩,← Tr.ab h,tl]
     · exact (Tr.ae h).elim
   · exact (Tr.ae h).elim
 · unfold Af;exact BH h
 · unfold Af;exact BH h
 · rw[c5] at h;exact h
def D3 (P:Program) (op:BinOp) (t:TypeId) (x y:AV):Tr AV :=
 match x,y with
 | .int k a,.int k' b=>match op with
   | .shl=>.req (mP 0 b) (.ok (.int k (Kp k a b)))
   | .shr=>.req (mP 0 b) (.ok (.int k (Kq k a b)))
   | op=>cond (gH k k') (JQ op k a b) .bad
 | x,y=>match op with
   | .eql=>(KG P t x y).bind fun b=>.ok (.bool b)
   | .neq=>(KG P t x y).bind fun b=>.ok (.bool (b8 b))
   | _=>.bad
theorem Gz {P:Program} {op:BinOp} {t:TypeId} {x y v:AV} (h:(D3 P op t x y).run=some v):kn P op t x y=some v:=by
 unfold D3 at h
 split at h
 · rename_i k a k' b
   split at h
   · obtain ⟨hc,h⟩:=Tr.aK h
     rw[iz,decide_eq_true_eq] at hc
     unfold kn
     dsimp only
     rw[if_neg (by omega),← Tr.ab h,H7]
   · obtain ⟨hc,h⟩:=Tr.aK h
     rw[iz,decide_eq_true_eq] at hc
     unfold kn
     dsimp only
     rw[if_neg (by omega),← Tr.ab h,H9]
   · rename_i h1 h2
     obtain ⟨hk,h⟩:=Tr.aP h
     rw[eU,decide_eq_true_eq] at hk
     have:kn P op t (.int k a) (.int k' b)=if k=k' then iy op k a b else none:=by
      unfold kn
      cases op<;>first | rfl | exact (h1 rfl).elim | exact (h2 rfl).elim
     rw[this,if_pos hk]
     exact GX h
 · rename_i hn
   split at h
   · obtain ⟨b,h1,h⟩:=Tr.bind_some h
     have h2:=Em h1
     have:kn P .eql t x y=(Af P t x y).map .bool:=by
      unfold kn
      cases x<;>cases y<;>first | rfl | exact (hn _ _ _ _ rfl rfl).elim
     rw[this,h2,← Tr.ab h];rfl
   · obtain ⟨b,h1,h⟩:=Tr.bind_some h
     have h2:=Em h1
     have:kn P .neq t x y=(Af P t x y).map fun b=>.bool (!b):=by
      unfold kn
      cases x<;>cases y<;>first | rfl | exact (hn _ _ _ _ rfl rfl).elim
     rw[this,h2,← Tr.ab h,iP];rfl
   · exact (Tr.ae h).elim
def QD (op:UnOp) (x:AV):Tr AV :=
 match op,x with
 | .not,.bool b=>.ok (.bool (b8 b))
 | .neg,.int k n=>.ok (.int k (J4 k n))
 | _,_=>.bad
theorem Kx {op:UnOp} {x v:AV} (h:(QD op x).run=some v):Nd op x=some v:=by
 unfold QD at h
 split at h
 · rw[← Tr.ab h,iP];rfl
 · rw[← Tr.ab h,Hv];rfl
 · exact (Tr.ae h).elim
def pD (mx:Bool) (k:IntKind) (x:Int):List AV→Tr AV
 | []=>.ok (.int k x)
 | v::r=>match v with
   | .int k' y=>cond (gH k k') (pD mx k (cond mx (ij x y) (fY x y)) r) .bad
   | _=>.bad
theorem ou {mx:Bool} {k:IntKind}:∀ (l:List AV) (x:Int) (v:AV),(pD mx k x l).run=some v→eW mx k x l=some v
 | [],x,v,h=>by rw[← Tr.ab h];rfl
 | u :: r,x,v,h=>by
   simp only[pD] at h
   split at h
   · rename_i k' y
     obtain ⟨hk,h⟩:=Tr.aP h
     rw[eU,decide_eq_true_eq] at hk
     simp only[eW]
     rw[if_pos hk,← ou r _ v h,wY,w7]
     cases mx<;>rfl
   · exact (Tr.ae h).elim

def jn (a sz:Nat):Nat :=
 match sz with
 | 1=>a
 | s=>aD a s
theorem cr (a sz:Nat):jn a sz=a*sz:=by
 unfold jn
 split
 · rw[Nat.mul_one]
 · rw[fF]
abbrev QH:=Option Nat×Nat×Option Nat
def nf (lo hi mx:Option AV) (len:Nat):Tr QH :=
 match mx with
 | none=>(match hi with
    | none=>.ok len
    | some (.int _ i)=>.req (je i len) (.ok (dH i))
    | some _=>.bad:Tr Nat).bind fun h=>(match lo with
    | none=>.ok (none,h,none)
    | some (.int _ i)=>.req (je i h) (.ok (some (dH i),h,none))
    | some _=>.bad)
 | some (.int _ m)=>.req (je m len) (match hi with
    | some (.int _ i)=>.req (je i (dH m)) (match lo with
      | none=>.ok (none,dH i,some (dH m))
      | some (.int _ j)=>.req (je j (dH i)) (.ok (some (dH j),dH i,some (dH m)))
      | some _=>.bad)
    | _=>.bad)
 | some _=>.bad
def B4 (l:Option Nat):Nat :=
 match l with
 | none=>0
 | some l=>l
theorem hY {i:Int} {k:IntKind} {d top:Nat} (h:je i top=true):bound (some (.int k i)) d top=some (dH i):=by
 rw[By,decide_eq_true_eq] at h
 simp only[bound]
 rw[if_pos h,fP]
theorem kZ {lo hi mx:Option AV} {len:Nat} {b:QH} (h:(nf lo hi mx len).run=some b):eF lo hi mx len=some (B4 b.1,b.2.1,b.2.2):=by
 unfold nf at h
 unfold eF
 split at h
 · obtain ⟨h',h1,h⟩:=Tr.bind_some h
   have e1:bound hi len len=some h':=by
    split at h1
    · rw[← Tr.ab h1];rfl
    · obtain ⟨hc,h1⟩:=Tr.aK h1
      rw[hY hc,Tr.ab h1]
    · exact (Tr.ae h1).elim
   dsimp only
   rw[e1]
   dsimp only
   split at h
   · rw[← Tr.ab h];rfl
   · obtain ⟨hc,h⟩:=Tr.aK h
     rw[hY hc,← Tr.ab h];rfl
   · exact (Tr.ae h).elim
 · rename_i k m
   obtain ⟨hm,h⟩:=Tr.aK h
   dsimp only
   rw[hY hm]
   dsimp only
   split at h
   · rename_i k' i
     obtain ⟨hi,h⟩:=Tr.aK h
     simp only[Option.isSome_some,if_true]
     rw[hY hi]
     dsimp only
     split at h
     · rw[← Tr.ab h];rfl
     · obtain ⟨hc,h⟩:=Tr.aK h
       rw[hY hc,← Tr.ab h];rfl
     · exact (Tr.ae h).elim
   · exact (Tr.ae h).elim
 · exact (Tr.ae h).elim
def xE (a:Nat) (l:Option Nat):Nat :=
 match l with
 | none=>a
 | some l=>dk a l
theorem nz (a:Nat) (l:Option Nat):xE a l=a-B4 l:=by
 cases l with
 | none=>rfl
 | some l=>exact gz a l
def DW (off:Nat) (l:Option Nat) (sz:Nat):Nat :=
 match l with
 | none=>off
 | some l=>af off (jn l sz)
theorem Bp (off:Nat) (l:Option Nat) (sz:Nat):DW off l sz=off+B4 l*sz:=by
 cases l with
 | none=>simp[DW,B4]
 | some l=>simp only[DW,B4,aQ,cr]
def Cv (r:Row) (l:Option Nat) (sz n:Nat):Tr Row :=
 match r with
 | .M [.arr k z N]=>.req (dG (af (jn (B4 l) sz) n) N) (.ok (.M [.arr k (match l with | none=>z | some l=>g7 z (jn l sz)) n]))
 | .F f N=>.req (dG (af (jn (B4 l) sz) n) N) (.ok (.F (match l with | none=>f | some l=>fun j=>f (af (jn l sz) j)) n))
 | _=>.bad
theorem zZ {r q:Row} {l:Option Nat} {sz n:Nat} (h:(Cv r l sz n).run=some q):B4 l*sz+n≤r.len∧r.sub (B4 l*sz) n=q:=by
 unfold Cv at h
 split at h
 · rename_i k z N
   obtain ⟨hc,h⟩:=Tr.aK h
   rw[ly,decide_eq_true_eq,aQ,cr] at hc
   refine ⟨by simp only[Row.len,aC,aI];omega,?_⟩
   rw[← Tr.ab h]
   cases l with
   | none=>simp only[Row.sub,B4,Nat.zero_mul,Nat.zero_add]
   | some l=>simp only[Row.sub,B4,jx,cr]
 · rename_i f N
   obtain ⟨hc,h⟩:=Tr.aK h
   rw[ly,decide_eq_true_eq,aQ,cr] at hc
   refine ⟨by simp only[Row.len];omega,?_⟩
   rw[← Tr.ab h]
   cases l with
   | none=>simp only[Row.sub,B4,Nat.zero_mul,Nat.zero_add]
   | some l=>simp only[Row.sub,B4,aQ,cr]
 · exact (Tr.ae h).elim
def Ob (o:Option AV):Bool :=
 match o with
 | none=>true
 | some _=>false
def ED (mm:Option Nat) (full hiN:Bool) (h len:Nat):Bool :=
 match mm with
 | none=>cond hiN full (fa full (bX h len))
 | some m=>bX h m
def A7 (P:Program) (t:TypeId) (x:AV) (lo hi mx:Option AV):Tr AV :=
 match P.underlying t with
 | some (.slice e)=>match bm P e with
   | some z=>match x with
     | .slc d j v off sz len cap=>cond (Nat.beq z sz) ((nf lo hi mx len).bind fun b=>.ok (.slc d j v (DW off b.1 sz) sz (xE b.2.1 b.1) (match b.2.2 with
       | none=>match cap with | none=>none | some c=>some (xE c b.1)
       | some m=>some (xE m b.1)))) .bad
     | .slcT s r sz len full=>cond (Nat.beq z sz) ((nf lo hi mx len).bind fun b=>(Cv r b.1 sz (jn (xE b.2.1 b.1) sz)).bind fun q=>.ok (.slcT s q sz (xE b.2.1 b.1) (ED b.2.2 full (Ob hi) b.2.1 len))) .bad
     | .nils=>(nf lo hi mx 0).bind fun _=>.ok .nils
     | _=>.bad
   | none=>.bad
 | some (.array n e)=>match bm P e with
   | some sz=>match x with
     | .ptr d j v off=>(nf lo hi mx n).bind fun b=>.ok (.slc d j v (DW off b.1 sz) sz (xE b.2.1 b.1) (match b.2.2 with
       | none=>some (xE n b.1)
       | some m=>some (xE m b.1)))
     | _=>.bad
   | none=>.bad
 | _=>.bad
theorem DF {P:Program} {t:TypeId} {x v:AV} {lo hi mx:Option AV} (h:(A7 P t x lo hi mx).run=some v):qK P t x lo hi mx=some v:=by
 unfold A7 at h
 unfold qK
 split at h
 · rename_i e hu
   split at h
   · rename_i z hs
     split at h
     · rename_i d j ver off sz len cap
       obtain ⟨hz,h⟩:=Tr.aP h
       have hz:z=sz:=by simpa using hz
       subst hz
       obtain ⟨b,h1,h⟩:=Tr.bind_some h
       rw[hu]
       dsimp only
       rw[kZ h1]
       dsimp only
       rw[if_pos hs,← Tr.ab h,Bp,nz]
       obtain ⟨b1,b2,b3⟩:=b
       cases b3<;>cases cap<;>simp only[nz,Option.map_some,Option.map_none]
     · rename_i s r sz len full
       obtain ⟨hz,h⟩:=Tr.aP h
       have hz:z=sz:=by simpa using hz
       subst hz
       obtain ⟨b,h1,h⟩:=Tr.bind_some h
       obtain ⟨q,h2,h⟩:=Tr.bind_some h
       rw[hu]
       dsimp only
       have hb:=kZ h1
       rw[hb]
       dsimp only
       obtain ⟨k1,k2⟩:=zZ h2
       rw[cr,nz] at k1 k2
       rw[if_pos ⟨hs,k1⟩,k2,← Tr.ab h,nz]
       congr 2
       obtain ⟨b1,b2,b3⟩:=b
       dsimp only at hb ⊢
       cases b3 with
       | some m=>simp only[ED,gi];rw[Bool.eq_iff_iff];simp
       | none =>
         simp only[ED]
         cases hi with
         | some a =>
           simp only[Ob,cond_false,oN,gi]
           congr 1
           rw[Bool.eq_iff_iff];simp
         | none =>
           simp only[Ob,cond_true]
           have:b2=len:=by
            unfold eF at hb
            cases mx with
            | none =>
              dsimp only[bound] at hb
              split at hb
              · simp only[nP] at hb;exact hb.2.1.symm
              · simp at hb
            | some a =>
              dsimp only at hb
              split at hb
              · simp at hb
              · simp at hb
           rw[this];simp
     · obtain ⟨b,h1,h⟩:=Tr.bind_some h
       rw[hu]
       dsimp only
       rw[kZ h1,hs,← Tr.ab h]
     · exact (Tr.ae h).elim
   · exact (Tr.ae h).elim
 · rename_i n e hu
   split at h
   · rename_i sz hs
     split at h
     · rename_i d j ver off
       obtain ⟨b,h1,h⟩:=Tr.bind_some h
       rw[hu]
       dsimp only
       rw[kZ h1]
       dsimp only
       rw[hs,← Tr.ab h,Bp,nz]
       obtain ⟨b1,b2,b3⟩:=b
       cases b3<;>simp only[nz]
     · exact (Tr.ae h).elim
   · exact (Tr.ae h).elim
 · exact (Tr.ae h).elim

def sC (H:aa) (sz n:Nat) (x:AV):Tr Row :=
 match x with
 | .slc d i v off sz' len cap=>(xu H d i v (some 0)).bind fun r=>cond (Nat.beq sz' sz) (.req (dG n len) (match r with
    | .M [.arr k z N]=>.req (lX off (jn n sz) 0 N) (.ok (.M [.arr k (g7 z off) (jn n sz)]))
    | .I k l=>cond (uy (.I k l) off (Nat.mul n sz)) (.ok (Bf d (Row.I k (iI (lT l off) (Nat.mul n sz))))) .bad
    | .G l=>cond (uy (.G l) off (Nat.mul n sz)) (.ok (Bf d (Row.G (iI (lT l off) (Nat.mul n sz))))) .bad
    | .F f N=>.req (lX off (jn n sz) 0 N) (.ok (.F (fun j=>f (af off j)) (jn n sz)))
    | _=>.bad)) .bad
 | .slcT s r sz' len _=>cond (Nat.beq sz' sz) (.req (dG n len) ((Cv r none sz (jn n sz)).bind fun q=>.ok (match s with | none=>q | some k=>Bf k q))) .bad
 | _=>.bad
theorem Ng (d:Nat) (k:IntKind) (z:Nat→Int) (n:Nat):Bf d (.M [.arr k z n])=.M [.arr k z n]:=by cases d<;>rfl
theorem Nf (d:Nat) (f:Nat→AV) (n:Nat):Bf d (.F f n)=.F f n:=by cases d<;>rfl
theorem p6 {H:aa} {sz n:Nat} {x:AV} {q:Row} (h:(sC H sz n x).run=some q):eO H sz n x=some q:=by
 unfold sC at h
 split at h
 · rename_i d i v off sz' len cap
   obtain ⟨r,h1,h⟩:=Tr.bind_some h
   obtain ⟨hz,h⟩:=Tr.aP h
   have hz:sz'=sz:=by simpa using hz
   obtain ⟨hc,h⟩:=Tr.aK h
   rw[ly,decide_eq_true_eq] at hc
   unfold eO
   dsimp only
   rw[lJ h1]
   dsimp only
   split at h
   · rename_i k z N
     obtain ⟨hc2,h⟩:=Tr.aK h
     rw[jZ,decide_eq_true_eq,cr] at hc2
     rw[if_pos ⟨hz,hc,by simp only[Row.len,aC,aI];omega⟩,← Tr.ab h]
     simp only[Row.sub,Ng,jx,cr]
   · rename_i k l
     obtain ⟨hc2,h⟩:=Tr.aP h
     rw[ll,decide_eq_true_eq] at hc2
     rw[if_pos ⟨hz,hc,hc2⟩,← Tr.ab h,gA,ia]
     rfl
   · rename_i l
     obtain ⟨hc2,h⟩:=Tr.aP h
     rw[ll,decide_eq_true_eq] at hc2
     rw[if_pos ⟨hz,hc,hc2⟩,← Tr.ab h,gA,ia]
     rfl
   · rename_i f N
     obtain ⟨hc2,h⟩:=Tr.aK h
     rw[jZ,decide_eq_true_eq,cr] at hc2
     rw[if_pos ⟨hz,hc,by simp only[Row.len];omega⟩,← Tr.ab h]
     simp only[Row.sub,Nf,aQ,cr]
   · exact (Tr.ae h).elim
 · rename_i s r sz' len full
   obtain ⟨hz,h⟩:=Tr.aP h
   have hz:sz'=sz:=by simpa using hz
   obtain ⟨hc,h⟩:=Tr.aK h
   rw[ly,decide_eq_true_eq] at hc
   obtain ⟨q',h1,h⟩:=Tr.bind_some h
   obtain ⟨k1,k2⟩:=zZ h1
   rw[cr] at k1 k2
   simp only[B4,Nat.zero_mul,Nat.zero_add] at k1 k2
   unfold eO
   dsimp only
   rw[if_pos ⟨hz,hc,k1⟩,← Tr.ab h,k2]
   cases s<;>rfl
 · exact (Tr.ae h).elim

end
end Go.Eng
end
section
namespace Go.Eng
noncomputable section

theorem Tr.kr {α:Type} {c:Bool} {t:Tr α} {x:α} (h:(cond c .bad t).run=some x):c=false∧t.run=some x:=by
 cases c with
 | false=>exact ⟨rfl,h⟩
 | true=>exact (Tr.ae h).elim

def zi:AV→AV
 | .slcT none (.I k l) sz m _=>.slcT none (.M [.arr k (an l) (iA l)]) sz m false
 | .slcT none (.M [.arr k z n]) sz m _=>.slcT none (.M [.arr k z n]) sz m false
 | v=>v
theorem zj (v:AV):zi v=nK v:=by
 unfold zi nK
 split
 · simp only[lC,dh]
 · rfl
 · rename_i h1 h2
   split
   · exact absurd rfl (h1 _ _ _ _ _)
   · exact absurd rfl (h2 _ _ _ _ _ _)
   · rfl
def Es (r:Row):Row :=
 match r with
 | .I k l=>.M [.arr k (an l) (iA l)]
 | .G [v]=>cond (rk v) (.F (fun _=>zi v) 1) (.G [v])
 | r=>r
theorem wI (r:Row):Es r=rK true r:=by
 cases r with
 | I k l=>simp only[Es,rK,if_true,lC,dh]
 | F f n=>rfl
 | M l=>rfl
 | G l =>
   match l with
   | []=>rfl
   | [v] =>
     show cond (rk v) (Row.F (fun _=>zi v) 1) (Row.G [v])=if (true && rk v)=true then Row.F (fun _=>nK v) 1 else Row.G [v]
     rw[zj]
     cases rk v<;>rfl
   | a::b::r=>rfl
def TM:AV→Nat→Int
 | .slcT _ (.M [.arr _ z _]) _ _ _=>z
 | _=>fun _=>0
def Ti:AV→Nat
 | .slcT _ (.M [.arr _ _ n]) _ _ _=>n
 | _=>0
def Th:AV→Nat
 | .slcT _ _ _ m _=>m
 | _=>0
def Gt (r s:Row):Tr Row :=
 match r with
 | .M [.arr k z n]=>match yD s with
   | some (k',z')=>cond (gH k' k) (.ok (.M [.arr k (bF z n z') (af n (iH s))])) .bad
   | none=>.bad
 | .I k l=>match s with
   | .I k' l'=>cond (gH k' k) (.ok (.I k (nC l l'))) .bad
   | .M [.arr k' z' n']=>cond (gH k' k) (.ok (.M [.arr k (bF (an l) (iA l) z') (af (iA l) n')])) .bad
   | _=>.bad
 | .G l=>match s with
   | .G l'=>.ok (.G (nC l l'))
   | _=>.bad
 | .F f n=>match s with
   | .G [v]=>cond (rk v) (match zi v with
     | .slcT none (.M [.arr k z N]) sz m full=>.reqP (I7 f k sz full)
       (.ok (.F (fun j=>.slcT none (.M [.arr k (Km (bA j n) (TM (f j)) z) (HW (bA j n) (Ti (f j)) N)]) sz (HW (bA j n) (Th (f j)) m) full) (af n 1)))
     | _=>.bad) .bad
   | _=>.bad
 | _=>.bad
theorem Bs {r s q:Row} (h:(Gt r s).run=some q):r.app s=q:=by
 unfold Gt at h
 split at h
 · rename_i k z n
   rw[ti] at h
   split at h
   · rename_i k' z' hi
     obtain ⟨hk,h⟩:=Tr.aP h
     rw[eU,decide_eq_true_eq] at hk
     have e:Row.app (.M [.arr k z n]) s=(match (Row.M [.arr k z n]).uq s with | some q=>q | none=>.G ((Row.M [.arr k z n]).toList++s.toList)):=by
      cases s<;>rfl
     rw[e]
     unfold Row.uq
     rw[hi]
     dsimp only[Row.ints]
     rw[if_pos hk,← Tr.ab h,jF,aQ,fA]
     rfl
   · exact (Tr.ae h).elim
 · rename_i k l
   split at h
   · rename_i k' l'
     obtain ⟨hk,h⟩:=Tr.aP h
     rw[eU,decide_eq_true_eq] at hk
     simp only[Row.app]
     rw[if_pos hk,← Tr.ab h,kW]
   · rename_i k' z' n'
     obtain ⟨hk,h⟩:=Tr.aP h
     rw[eU,decide_eq_true_eq] at hk
     simp only[Row.app]
     unfold Row.uq
     dsimp only[Row.ints]
     rw[if_pos hk,← Tr.ab h,jF,aQ,dh,lC]
     rfl
   · exact (Tr.ae h).elim
 · split at h
   · rw[← Tr.ab h,kW];rfl
   · exact (Tr.ae h).elim
 · rename_i f n
   split at h
   · rename_i v
     obtain ⟨hv,h⟩:=Tr.aP h
     split at h
     · rename_i k z N sz m full hn
       obtain ⟨hf,h⟩:=Tr.c7 h
       rw[zj] at hn
       rw[← Tr.ab h,aQ]
       show Row.F _ _=Row.F _ _
       congr 1
       funext j
       simp only[H4,HY,iC]
       by_cases e:j<n
       · have hb:Nat.blt j n=true:=by rw[Nat.blt_eq];exact e
         rw[hb,if_pos rfl,decide_eq_true e]
         rw[Gn] at hf
         obtain ⟨z',n',m',e'⟩:=hf j
         rw[e'];rfl
       · have hb:Nat.blt j n=false:=by
          cases hb:Nat.blt j n with
          | false=>rfl
          | true=>rw[Nat.blt_eq] at hb;exact absurd hb e
         rw[hb,if_neg (by simp),decide_eq_false e]
         show (if im v=true then nK v else .undef)=_
         rw[if_pos (tj hv),hn]
         rfl
     · exact (Tr.ae h).elim
   · exact (Tr.ae h).elim
 · exact (Tr.ae h).elim
def LD (x:AV):Bool :=
 match x with
 | .slc _ _ _ _ _ _ (some _)=>true
 | _=>false
def Lt (s:AV):Bool :=
 match s with
 | .nils | .slc .. | .slcT ..=>true
 | _=>false
def si (P:Program) (e:TypeId) (n:Nat):Bool :=
 match (cL P e).bind AV.row with
 | some z=>Nat.beq (iH z) n
 | none=>false
theorem uf {P:Program} {e:TypeId} {n:Nat} (h:si P e n=true):((cL P e).bind AV.row).map Row.len=some n:=by
 unfold si at h
 split at h
 · rename_i z hz
   rw[fA] at h
   have h:=Nat.eq_of_beq_eq_true h
   rw[hz,Option.map_some,h]
 · simp at h
def BN (H:aa) (nx sz m n:Nat) (s:AV) (new:Row):Tr (AV×Delta) :=
 (sC H sz m s).bind fun old=>(Gt old new).bind fun r=>.ok (.slc 0 nx 0 0 sz (af m n) none,.push (.row (Es r)))
def xF (r:Row) (off n:Nat):Tr Row :=
 match r with
 | .M [.arr k z N]=>.req (bX (af off n) N) (.ok (.M [.arr k (g7 z off) n]))
 | .G l=>cond (Nat.beq (Nat.add off n) (iA l)) (.ok (.G (iI (lT l off) n))) .bad
 | .F f N=>.req (bX (af off n) N) (.ok (.F (fun j=>f (af off j)) n))
 | _=>.bad
theorem Bd {r q:Row} {off n:Nat} (h:(xF r off n).run=some q):off+n=r.len∧r.sub off n=q:=by
 unfold xF at h
 split at h
 · rename_i k z N
   obtain ⟨hc,h⟩:=Tr.aK h
   rw[gi,decide_eq_true_eq,aQ] at hc
   refine ⟨by simp only[Row.len,aC,aI];omega,?_⟩
   rw[← Tr.ab h,jx];rfl
 · rename_i l
   obtain ⟨hc,h⟩:=Tr.aP h
   rw[dh] at hc
   have hc:=Nat.eq_of_beq_eq_true hc
   exact ⟨hc,by rw[← Tr.ab h,gA,ia];rfl⟩
 · rename_i f N
   obtain ⟨hc,h⟩:=Tr.aK h
   rw[gi,decide_eq_true_eq,aQ] at hc
   refine ⟨hc,?_⟩
   rw[← Tr.ab h]
   simp only[aQ]
   rfl
 · exact (Tr.ae h).elim
def DZ (P:Program) (nx:Nat) (e:TypeId) (s x:AV):Tr (AV×Delta) :=
 match P.info? e with
 | some inf=>match s with
   | .nils=>match x with
     | .int _ k=>cond (Nat.blt 0 inf.size) (cond (si P e inf.size) (.req (J0 k k inf.bytes) (.ite (dm k (Int.ofNat 0)) (.ok (.nils,.bc)) (.ok (.slc 0 nx 0 0 inf.size (dH k) none,.push (.row (Es (.I .i64 []))))))) .bad) .bad
     | _=>.bad
   | _=>.bad
 | none=>.bad
theorem D0 {P:Program} {nx:Nat} {e:TypeId} {s x:AV} {y:AV×Delta} (h:(DZ P nx e s x).run=some y):DY P true nx e s x=some y:=by
 unfold DZ at h
 unfold DY
 split at h
 · rename_i inf hi
   rw[hi]
   split at h
   · split at h
     · rename_i kk k
       obtain ⟨hb,h⟩:=Tr.aP h
       obtain ⟨hz,h⟩:=Tr.aP h
       obtain ⟨hm,h⟩:=Tr.aK h
       rw[AP,decide_eq_true_eq] at hm
       dsimp only
       rw[if_pos ⟨hm.1,hm.2.2.2,hm.2.2.1,Bx hb,uf hz⟩]
       rcases Tr.gr h with ⟨hc,h⟩ | ⟨hc,h⟩
       · rw[cg,beq_iff_eq] at hc
         rw[if_pos (show k=0 from hc),Tr.ab h]
       · rw[cg,beq_eq_false_iff_ne] at hc
         rw[if_neg (show ¬ k=0 from hc),← Tr.ab h,wI,fP]
     · exact (Tr.ae h).elim
   · exact (Tr.ae h).elim
 · exact (Tr.ae h).elim
def oQ (P:Program) (H:aa) (nx:Nat) (t u:TypeId) (s x:AV):Tr (AV×Delta) :=
 match P.underlying t with
 | some (.slice e)=>match P.underlying u with
   | some (.slice _)=>match P.info? e with
     | some inf=>match og s with
       | some m=>match og x with
         | some n=>cond (Lt s) (match LD x,n with
           | true,0=>.ok (s,.bc)
           | true,_=>main P H nx e inf s x m n
           | false,_=>.ite (bX n 0) (.ok (s,.bc)) (main P H nx e inf s x m n)) .bad
         | none=>.bad
       | none=>.bad
     | none=>.bad
   | some (.int _)=>DZ P nx e s x
   | _=>.bad
 | _=>.bad
where
 main (P : Program) (H:aa) (nx:Nat) (e:TypeId) (inf:TypeInfo) (s x:AV) (m n:Nat):Tr (AV×Delta) :=
  .req (dU m n inf.bytes) (cond (Nat.blt 0 inf.bytes) (cond (si P e inf.size) ((sC H inf.size n x).bind fun new =>
   match s with
   | .nils=>.ok (.slc 0 nx 0 0 inf.size n none,.push (.row (Es new)))
   | .slcT _ _ _ _ full=>.req full (BN H nx inf.size m n s new)
   | .slc d i v off sz _ (some c)=>.ite (bA c (af m n)) (BN H nx inf.size m n s new)
     (cond (fJ H d) .bad ((xu H d i v (some 0)).bind fun r=>cond (Nat.beq sz inf.size) (match r with
       | .M l=>match lP (jz d new) with
         | []=>.bad
         | y::ys=>(zT (af off (jn m sz)) (some 0) (y::ys) 0 l).bind fun l'=>.ok (.slc d i v off sz (af m n) (some c),.set d i (v,.row (.M l')))
       | _=>.bad) .bad))
   | .slc d i v off sz _ none=>cond (fJ H d) .bad ((xu H d i v (some 0)).bind fun r=>cond (Nat.beq sz inf.size)
     ((xF r off (jn m sz)).bind fun old=>(Gt old (jz d new)).bind fun r'=>.ok (.slc d i (Nat.succ v) 0 sz (af m n) none,.set d i (Nat.succ v,.row r'))) .bad)
   | _=>.bad) .bad) .bad)
theorem sD {H:aa} {sz n:Nat} {x:AV} {q:Row} (h:eO H sz n x=some q):q.len=n*sz:=by
 unfold eO at h
 split at h
 · split at h
   · rename_i hn
     simp only[Option.some.injEq] at h
     rw[← h,hn];simp[Row.len]
   · simp at h
 · split at h
   · split at h
     · rename_i hf
       simp only[Option.some.injEq] at h
       rw[← h,pR,Row.dI _ _ _ hf.2.2]
     · simp at h
   · simp at h
 · split at h
   · rename_i hf
     simp only[Option.some.injEq] at h
     rw[← h]
     split
     · exact Row.dI _ _ _ (by omega)
     · rw[pR,Row.dI _ _ _ (by omega)]
   · simp at h
 · simp at h
theorem yr {H:aa} {nx sz m n:Nat} {s:AV} {new:Row} {y:AV×Delta} (h:(BN H nx sz m n s new).run=some y):∃ old,eO H sz m s=some old∧y=(.slc 0 nx 0 0 sz (m+n) none,.push (.row (rK true (old.app new)))):=by
 unfold BN at h
 obtain ⟨old,h1,h⟩:=Tr.bind_some h
 obtain ⟨r,h2,h⟩:=Tr.bind_some h
 refine ⟨old,p6 h1,?_⟩
 rw[← Tr.ab h,aQ,wI,Bs h2]
theorem Am         {P : Program} {H:aa} {nx:Nat} {t u:TypeId} {s x:AV} {y:AV×Delta} (h:(oQ P H nx t u s x).run=some y):oR P true H nx t u s x=some y:=by
 unfold oQ at h
 unfold oR
 split at h
 · rename_i e ht
   split at h
   · rename_i e' hu
     split at h
     · rename_i inf hi
       split at h
       · rename_i m hm
         split at h
         · rename_i n hn
           obtain ⟨hsl,h⟩:=Tr.aP h
           rw[ht,hu]
           dsimp only
           rw[hi,hm,hn]
           dsimp only
           have hcase:(n=0∧(s,Delta.bc)=y)∨(n≠0∧(oQ.main P H nx e inf s x m n).run=some y):=by
            cases hx:LD x with
            | true =>
              rw[hx] at h
              cases n with
              | zero=>exact .inl ⟨rfl,Tr.ab h⟩
              | succ n=>exact .inr ⟨by omega,h⟩
            | false =>
              rw[hx] at h
              rcases Tr.gr h with ⟨hc,h⟩ | ⟨hc,h⟩
              · rw[gi,decide_eq_true_eq] at hc
                exact .inl ⟨hc,Tr.ab h⟩
              · rw[gi,decide_eq_false_iff_not] at hc
                exact .inr ⟨hc,h⟩
           clear h
           rcases hcase with ⟨h0,h⟩ | ⟨h0,h⟩
           · rw[if_pos h0]
             cases s<;>simp[Lt] at hsl<;>exact congrArg some h
           rw[if_neg h0]
           unfold oQ.main at h
           obtain ⟨hr,h⟩:=Tr.aK h
           rw[zN,decide_eq_true_eq] at hr
           obtain ⟨hb,h⟩:=Tr.aP h
           obtain ⟨hz,h⟩:=Tr.aP h
           obtain ⟨new,h1,h⟩:=Tr.bind_some h
           have hcv:=p6 h1
           rw[if_pos ⟨hr.1,hr.2,Bx hb,uf hz⟩,hcv]
           dsimp only
           split at h
           · rw[← Tr.ab h,wI]
           · rename_i sT r szT G2 full
             obtain ⟨hf,h⟩:=Tr.aK h
             obtain ⟨old,h2,rfl⟩:=yr h
             subst hf
             dsimp only
             rw[h2]
           · rename_i d i v off sz len c _ _ _ _ _
             rcases Tr.gr h with ⟨hc,h⟩ | ⟨hc,h⟩
             · rw[iC,decide_eq_true_eq,aQ] at hc
               obtain ⟨old,h2,rfl⟩:=yr h
               dsimp only
               rw[if_pos hc,h2]
             · rw[iC,decide_eq_false_iff_not,aQ] at hc
               dsimp only
               rw[if_neg hc]
               rw[ew] at h
               obtain ⟨hl,h⟩:=Tr.kr h
               obtain ⟨r,h2,h⟩:=Tr.bind_some h
               obtain ⟨hs,h⟩:=Tr.aP h
               have hs:=Nat.eq_of_beq_eq_true hs
               rw[hl,if_neg (by simp),lJ h2]
               dsimp only
               split at h
               · rename_i l _
                 rw[oH] at h
                 have hcl:=sD hcv
                 split at h
                 · exact (Tr.ae h).elim
                 · rename_i y0 ys hy
                   obtain ⟨l',h3,h⟩:=Tr.bind_some h
                   obtain ⟨k1,k2⟩:=tT _ _ _ _ h3
                   rw[aQ,cr,Nat.add_zero] at k1 k2
                   have hlen:=Row.bk (jz d new)
                   rw[hy,fC,hcl] at hlen
                   have hfit:off+(m+n)*sz≤(Row.M l).len:=by
                    rcases k1 with k1 | k1
                    · simp at k1
                    · rw[hlen,← hs] at k1
                      rw[Nat.add_mul]
                      show _≤aC l
                      omega
                   rw[if_pos ⟨hs,hfit⟩,hy,k2,← Tr.ab h,aQ]
               · exact (Tr.ae h).elim
           · rename_i d i v off sz len _ _ _ _ _
             dsimp only
             rw[ew] at h
             obtain ⟨hl,h⟩:=Tr.kr h
             obtain ⟨r,h2,h⟩:=Tr.bind_some h
             obtain ⟨hs,h⟩:=Tr.aP h
             have hs:=Nat.eq_of_beq_eq_true hs
             obtain ⟨old,h3,h⟩:=Tr.bind_some h
             obtain ⟨r',h4,h⟩:=Tr.bind_some h
             obtain ⟨k1,k2⟩:=Bd h3
             rw[cr] at k1 k2
             rw[hl,if_neg (by simp),lJ h2]
             dsimp only
             rw[if_pos ⟨hs,k1⟩,k2,Bs h4,← Tr.ab h,aQ]
           · exact (Tr.ae h).elim
         · exact (Tr.ae h).elim
       · exact (Tr.ae h).elim
     · exact (Tr.ae h).elim
   · rename_i k' hu
     rw[ht,hu]
     exact D0 h
   · exact (Tr.ae h).elim
 · exact (Tr.ae h).elim

end
end Go.Eng
end
