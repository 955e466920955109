/- The engine as a tree: slices, numbers, operations. -/
import Derived.Test.YtoomemfhcbajoaaV5EngTb
set_option linter.unusedVariables false
set_option linter.unusedSimpArgs false
section
namespace Go.Eng
noncomputable section

theorem Tr.aJ {α:Type} {c:Bool} {t:Tr α} {x:α} (h:(cond c t .bad).run=some x):c=true∧t.run=some x:=by
 cases c with
 | true=>exact ⟨rfl,h⟩
 | false=>exact (Tr.ae h).elim
def Jb (op:BinOp) (k:IntKind) (x y:Int):Tr AV :=
 match op with
 | .add=>.ok (.int k (br k x y))
 | .sub=>.ok (.int k (bP k x y))
 | .mul=>.ok (.int k (yF k x y))
 | .quo=>.req (ba (cQ y 0)) (.ok (.int k (JF k x y)))
 | .rem=>.req (ba (cQ y 0)) (.ok (.int k (kZ k x y)))
 | .and=>.ok (.int k (IJ k x y))
 | .or=>.ok (.int k (N2 k x y))
 | .xor=>.ok (.int k (J4 k x y))
 | .andNot=>.ok (.int k (Mp k x y))
 | .eql=>.ok (.bool (cQ x y))
 | .neq=>.ok (.bool (ba (cQ x y)))
 | .lss=>.ok (.bool (cq x y))
 | .leq=>.ok (.bool (lH x y))
 | .gtr=>.ok (.bool (cq y x))
 | .geq=>.ok (.bool (lH y x))
 | _=>.bad
theorem Gy {op:BinOp} {k:IntKind} {x y:Int} {v:AV} (h:(Jb op k x y).run=some v):ij op k x y=some v:=by
 unfold Jb at h
 unfold ij
 cases op<;>dsimp only at h ⊢<;>try exact (Tr.ae h).elim
 case quo =>
  obtain ⟨hc,h⟩:=Tr.aH h
  rw[gU,fW] at hc
  have:¬ y=0:=by simpa using hc
  rw[if_neg this,← Tr.ab h,He]
 case rem =>
  obtain ⟨hc,h⟩:=Tr.aH h
  rw[gU,fW] at hc
  have:¬ y=0:=by simpa using hc
  rw[if_neg this,← Tr.ab h,wP]
 all_goals
  have h:=Tr.ab h
  subst h
  first
   | rfl
   | (simp only[gt_iff_lt,ge_iff_le,jj,mN,mI,vG,AA,xl,zS,fW,gU,eY,l5,bne];done)
   | (simp only[jj,mN,mI,vG,AA,xl,zS,fW,gU,eY,l5];done)
   | (simp only[jj,mN,mI,vG,AA,xl,zS,fW,gU,eY,l5];rfl)
def iD:List Int→List Int→Bool
 | [],[]=>true
 | [x],[y]=>cQ x y
 | x::x'::a,y::y'::b=>cM (cQ x y) (iD (x'::a) (y'::b))
 | _,_=>false
theorem ss:∀ (l m:List Int),iD l m=eX l m
 | [],[]=>rfl
 | [],_::_=>by simp[iD,eX]
 | _::_,[]=>by simp[iD,eX]
 | [x],[y]=>by simp[iD,eX,fW]
 | [x],y::y'::b=>by simp[iD,eX]
 | x::x'::a,[y]=>by simp[iD,eX]
 | x::x'::a,y::y'::b=>by
   simp only[iD]
   rw[n8,fW,ss (x'::a) (y'::b)];rfl
def yd (r:Row):Option (IntKind×(Nat→Int)) :=
 match r with
 | .I k l=>some (k,al l)
 | .M [.arr k z _]=>some (k,z)
 | _=>none
theorem sn (r:Row):yd r=r.ints:=by
 match r with
 | .I k l=>simp only[yd,Row.ints,gT]
 | .G l=>rfl
 | .F f n=>rfl
 | .M []=>rfl
 | .M [.arr k z n]=>rfl
 | .M (.one v::r)=>rfl
 | .M (.arr k z n::s::r)=>rfl
def J7 (P:Program) (t:TypeId) (x y:AV):Tr Bool :=
 match x,y with
 | .bool a,.bool b=>match P.underlying t with
   | some .bool=>.ok (Gj a b)
   | _=>.bad
 | .nils,.slcT s r sz n f=>match P.underlying t with
   | some (.slice _)=>.req (c9 0 n) (.ok false)
   | _=>.bad
 | .slcT s r sz n f,.nils=>match P.underlying t with
   | some (.slice _)=>.req (c9 0 n) (.ok false)
   | _=>.bad
 | .agg (.I k a),.agg (.I k' b)=>cond (gu k k') (match b6 P 20 t with
   | some n=>match fa P t with
     | some true=>cond (Nat.beq n (iC a)) (cond (Nat.beq (iC a) (iC b)) (.ok (iD a b)) .bad) .bad
     | _=>.bad
   | none=>.bad) .bad
 | .agg (.M l),.agg s=>eqMT P t (.M l) s
 | .agg (.I k a),.agg (.M l)=>eqMT P t (.I k a) (.M l)
 | x,y=>vi (zN P t x y)
where
 eqMT (P:Program) (t:TypeId) (r s:Row):Tr Bool :=
  match yd r,yd s with
  | some (k,z),some (k',z')=>cond (gu k k') (match b6 P 20 t with
    | some n=>match fa P t with
      | some true=>cond (Nat.beq n (iu r)) (cond (Nat.beq (iu r) (iu s)) (.ok (nk z z' (iu r))) .bad) .bad
      | _=>.bad
    | none=>.bad) .bad
  | _,_=>.bad
theorem Bg {P:Program} {t:TypeId} {r s:Row} {b:Bool} (h:(J7.eqMT P t r s).run=some b):J6 P t r s=some b:=by
 unfold J7.eqMT at h
 rw[sn,sn] at h
 unfold J6
 split at h
 · rename_i k z k' z' h1 h2
   rw[h1,h2]
   obtain ⟨hk,h⟩:=Tr.aJ h
   rw[eG,decide_eq_true_eq] at hk
   split at h
   · rename_i n hn
     split at h
     · rename_i ha
       obtain ⟨e1,h⟩:=Tr.aJ h
       obtain ⟨e2,h⟩:=Tr.aJ h
       rw[fg] at e1 e2 h
       rw[fg] at e2
       have e1:n=r.len:=by simpa using e1
       have e2:r.len=s.len:=by simpa using e2
       dsimp only
       rw[if_pos ⟨hk,by rw[hn,e1],ha,e2⟩,← Tr.ab h,uo]
     · exact (Tr.ae h).elim
   · exact (Tr.ae h).elim
 · exact (Tr.ae h).elim
theorem Ed {P:Program} {t:TypeId} {x y:AV} {b:Bool} (h:(J7 P t x y).run=some b):zN P t x y=some b:=by
 unfold J7 at h
 split at h
 · split at h
   · rename_i hu
     unfold zN
     dsimp only
     rw[hu,← Tr.ab h,Ac]
   · exact (Tr.ae h).elim
 · split at h
   · rename_i hu
     obtain ⟨hc,h⟩:=Tr.aH h
     rw[gf,decide_eq_true_eq] at hc
     unfold zN
     dsimp only
     rw[hu]
     dsimp only
     rw[if_pos hc,Tr.ab h]
   · exact (Tr.ae h).elim
 · split at h
   · rename_i hu
     obtain ⟨hc,h⟩:=Tr.aH h
     rw[gf,decide_eq_true_eq] at hc
     unfold zN
     dsimp only
     rw[hu]
     dsimp only
     rw[if_pos hc,Tr.ab h]
   · exact (Tr.ae h).elim
 · obtain ⟨hk,h⟩:=Tr.aJ h
   rw[eG,decide_eq_true_eq] at hk
   split at h
   · rename_i n hn
     split at h
     · rename_i ha
       obtain ⟨e1,h⟩:=Tr.aJ h
       obtain ⟨e2,h⟩:=Tr.aJ h
       rw[dg] at e1 e2
       rw[dg] at e2
       have e1:=Nat.eq_of_beq_eq_true e1
       have e2:=Nat.eq_of_beq_eq_true e2
       unfold zN
       dsimp only
       rw[if_pos ⟨hk,by rw[hn,e1],ha,e2⟩,← Tr.ab h,ss]
     · exact (Tr.ae h).elim
   · exact (Tr.ae h).elim
 · unfold zN;exact Bg h
 · unfold zN;exact Bg h
 · rw[cR] at h;exact h
def DS (P:Program) (op:BinOp) (t:TypeId) (x y:AV):Tr AV :=
 match x,y with
 | .int k a,.int k' b=>match op with
   | .shl=>.req (lH 0 b) (.ok (.int k (JN k a b)))
   | .shr=>.req (lH 0 b) (.ok (.int k (JO k a b)))
   | op=>cond (gu k k') (Jb op k a b) .bad
 | x,y=>match op with
   | .eql=>(J7 P t x y).bind fun b=>.ok (.bool b)
   | .neq=>(J7 P t x y).bind fun b=>.ok (.bool (ba b))
   | _=>.bad
theorem F6 {P:Program} {op:BinOp} {t:TypeId} {x y v:AV} (h:(DS P op t x y).run=some v):jP P op t x y=some v:=by
 unfold DS at h
 split at h
 · rename_i k a k' b
   split at h
   · obtain ⟨hc,h⟩:=Tr.aH h
     rw[l5,decide_eq_true_eq] at hc
     unfold jP
     dsimp only
     rw[if_neg (by omega),← Tr.ab h,Hp]
   · obtain ⟨hc,h⟩:=Tr.aH h
     rw[l5,decide_eq_true_eq] at hc
     unfold jP
     dsimp only
     rw[if_neg (by omega),← Tr.ab h,Hr]
   · rename_i h1 h2
     obtain ⟨hk,h⟩:=Tr.aJ h
     rw[eG,decide_eq_true_eq] at hk
     have:jP P op t (.int k a) (.int k' b)=if k=k' then ij op k a b else none:=by
      unfold jP
      cases op<;>first | rfl | exact (h1 rfl).elim | exact (h2 rfl).elim
     rw[this,if_pos hk]
     exact Gy h
 · rename_i hn
   split at h
   · obtain ⟨b,h1,h⟩:=Tr.bind_some h
     have h2:=Ed h1
     have:jP P .eql t x y=(zN P t x y).map .bool:=by
      unfold jP
      cases x<;>cases y<;>first | rfl | exact (hn _ _ _ _ rfl rfl).elim
     rw[this,h2,← Tr.ab h];rfl
   · obtain ⟨b,h1,h⟩:=Tr.bind_some h
     have h2:=Ed h1
     have:jP P .neq t x y=(zN P t x y).map fun b=>.bool (!b):=by
      unfold jP
      cases x<;>cases y<;>first | rfl | exact (hn _ _ _ _ rfl rfl).elim
     rw[this,h2,← Tr.ab h,gU];rfl
   · exact (Tr.ae h).elim
def OX (op:UnOp) (x:AV):Tr AV :=
 match op,x with
 | .not,.bool b=>.ok (.bool (ba b))
 | .neg,.int k n=>.ok (.int k (Jt k n))
 | _,_=>.bad
theorem J0 {op:UnOp} {x v:AV} (h:(OX op x).run=some v):Ma op x=some v:=by
 unfold OX at h
 split at h
 · rw[← Tr.ab h,gU];rfl
 · rw[← Tr.ab h,GZ];rfl
 · exact (Tr.ae h).elim
def o5 (mx:Bool) (k:IntKind) (x:Int):List AV→Tr AV
 | []=>.ok (.int k x)
 | v::r=>match v with
   | .int k' y=>cond (gu k k') (o5 mx k (cond mx (ua x y) (ub x y)) r) .bad
   | _=>.bad
theorem nJ {mx:Bool} {k:IntKind}:∀ (l:List AV) (x:Int) (v:AV),(o5 mx k x l).run=some v→eH mx k x l=some v
 | [],x,v,h=>by rw[← Tr.ab h];rfl
 | u :: r,x,v,h=>by
   simp only[o5] at h
   split at h
   · rename_i k' y
     obtain ⟨hk,h⟩:=Tr.aJ h
     rw[eG,decide_eq_true_eq] at hk
     simp only[eH]
     rw[if_pos hk,← nJ r _ v h,BK,BL]
     cases mx<;>rfl
   · exact (Tr.ae h).elim

def iZ (a sz:Nat):Nat :=
 match sz with
 | 1=>a
 | s=>GU a s
theorem cA (a sz:Nat):iZ a sz=a*sz:=by
 unfold iZ
 split
 · rw[Nat.mul_one]
 · rw[BO]
abbrev O0:=Option Nat×Nat×Option Nat
def mr (lo hi mx:Option AV) (len:Nat):Tr O0 :=
 match mx with
 | none=>(match hi with
    | none=>.ok len
    | some (.int _ i)=>.req (tJ i len) (.ok (fy i))
    | some _=>.bad:Tr Nat).bind fun h=>(match lo with
    | none=>.ok (none,h,none)
    | some (.int _ i)=>.req (tJ i h) (.ok (some (fy i),h,none))
    | some _=>.bad)
 | some (.int _ m)=>.req (tJ m len) (match hi with
    | some (.int _ i)=>.req (tJ i (fy m)) (match lo with
      | none=>.ok (none,fy i,some (fy m))
      | some (.int _ j)=>.req (tJ j (fy i)) (.ok (some (fy j),fy i,some (fy m)))
      | some _=>.bad)
    | _=>.bad)
 | some _=>.bad
def BE (l:Option Nat):Nat :=
 match l with
 | none=>0
 | some l=>l
theorem gZ {i:Int} {k:IntKind} {d top:Nat} (h:tJ i top=true):bound (some (.int k i)) d top=some (fy i):=by
 rw[Bb,decide_eq_true_eq] at h
 simp only[bound]
 rw[if_pos h,qi]
theorem kA {lo hi mx:Option AV} {len:Nat} {b:O0} (h:(mr lo hi mx len).run=some b):ef lo hi mx len=some (BE b.1,b.2.1,b.2.2):=by
 unfold mr at h
 unfold ef
 split at h
 · obtain ⟨h',h1,h⟩:=Tr.bind_some h
   have e1:bound hi len len=some h':=by
    split at h1
    · rw[← Tr.ab h1];rfl
    · obtain ⟨hc,h1⟩:=Tr.aH h1
      rw[gZ hc,Tr.ab h1]
    · exact (Tr.ae h1).elim
   dsimp only
   rw[e1]
   dsimp only
   split at h
   · rw[← Tr.ab h];rfl
   · obtain ⟨hc,h⟩:=Tr.aH h
     rw[gZ hc,← Tr.ab h];rfl
   · exact (Tr.ae h).elim
 · rename_i k m
   obtain ⟨hm,h⟩:=Tr.aH h
   dsimp only
   rw[gZ hm]
   dsimp only
   split at h
   · rename_i k' i
     obtain ⟨hi,h⟩:=Tr.aH h
     simp only[Option.isSome_some,if_true]
     rw[gZ hi]
     dsimp only
     split at h
     · rw[← Tr.ab h];rfl
     · obtain ⟨hc,h⟩:=Tr.aH h
       rw[gZ hc,← Tr.ab h];rfl
     · exact (Tr.ae h).elim
   · exact (Tr.ae h).elim
 · exact (Tr.ae h).elim
def xg (a:Nat) (l:Option Nat):Nat :=
 match l with
 | none=>a
 | some l=>th a l
theorem mO (a:Nat) (l:Option Nat):xg a l=a-BE l:=by
 cases l with
 | none=>rfl
 | some l=>exact lg a l
def DE (off:Nat) (l:Option Nat) (sz:Nat):Nat :=
 match l with
 | none=>off
 | some l=>bB off (iZ l sz)
theorem AZ (off:Nat) (l:Option Nat) (sz:Nat):DE off l sz=off+BE l*sz:=by
 cases l with
 | none=>simp[DE,BE]
 | some l=>simp only[DE,BE,bD,cA]
def B9 (r:Row) (l:Option Nat) (sz n:Nat):Tr Row :=
 match r with
 | .M [.arr k z N]=>.req (bY (bB (iZ (BE l) sz) n) N) (.ok (.M [.arr k (match l with | none=>z | some l=>bm z (iZ l sz)) n]))
 | .F f N=>.req (bY (bB (iZ (BE l) sz) n) N) (.ok (.F (match l with | none=>f | some l=>fun j=>f (bB (iZ l sz) j)) n))
 | _=>.bad
theorem zw {r q:Row} {l:Option Nat} {sz n:Nat} (h:(B9 r l sz n).run=some q):BE l*sz+n≤r.len∧r.sub (BE l*sz) n=q:=by
 unfold B9 at h
 split at h
 · rename_i k z N
   obtain ⟨hc,h⟩:=Tr.aH h
   rw[kQ,decide_eq_true_eq,bD,cA] at hc
   refine ⟨by simp only[Row.len,av,aI];omega,?_⟩
   rw[← Tr.ab h]
   cases l with
   | none=>simp only[Row.sub,BE,Nat.zero_mul,Nat.zero_add]
   | some l=>simp only[Row.sub,BE,ml,cA]
 · rename_i f N
   obtain ⟨hc,h⟩:=Tr.aH h
   rw[kQ,decide_eq_true_eq,bD,cA] at hc
   refine ⟨by simp only[Row.len];omega,?_⟩
   rw[← Tr.ab h]
   cases l with
   | none=>simp only[Row.sub,BE,Nat.zero_mul,Nat.zero_add]
   | some l=>simp only[Row.sub,BE,bD,cA]
 · exact (Tr.ae h).elim
def MV (o:Option AV):Bool :=
 match o with
 | none=>true
 | some _=>false
def Em (mm:Option Nat) (full hiN:Bool) (h len:Nat):Bool :=
 match mm with
 | none=>cond hiN full (cM full (bM h len))
 | some m=>bM h m
def AJ (P:Program) (t:TypeId) (x:AV) (lo hi mx:Option AV):Tr AV :=
 match P.underlying t with
 | some (.slice e)=>match bh P e with
   | some z=>match x with
     | .slc d j v off sz len cap=>cond (Nat.beq z sz) ((mr lo hi mx len).bind fun b=>.ok (.slc d j v (DE off b.1 sz) sz (xg b.2.1 b.1) (match b.2.2 with
       | none=>match cap with | none=>none | some c=>some (xg c b.1)
       | some m=>some (xg m b.1)))) .bad
     | .slcT s r sz len full=>cond (Nat.beq z sz) ((mr lo hi mx len).bind fun b=>(B9 r b.1 sz (iZ (xg b.2.1 b.1) sz)).bind fun q=>.ok (.slcT s q sz (xg b.2.1 b.1) (Em b.2.2 full (MV hi) b.2.1 len))) .bad
     | .nils=>(mr lo hi mx 0).bind fun _=>.ok .nils
     | _=>.bad
   | none=>.bad
 | some (.array n e)=>match bh P e with
   | some sz=>match x with
     | .ptr d j v off=>(mr lo hi mx n).bind fun b=>.ok (.slc d j v (DE off b.1 sz) sz (xg b.2.1 b.1) (match b.2.2 with
       | none=>some (xg n b.1)
       | some m=>some (xg m b.1)))
     | _=>.bad
   | none=>.bad
 | _=>.bad
theorem Dr {P:Program} {t:TypeId} {x v:AV} {lo hi mx:Option AV} (h:(AJ P t x lo hi mx).run=some v):qh P t x lo hi mx=some v:=by
 unfold AJ at h
 unfold qh
 split at h
 · rename_i e hu
   split at h
   · rename_i z hs
     split at h
     · rename_i d j ver off sz len cap
       obtain ⟨hz,h⟩:=Tr.aJ h
       have hz:z=sz:=by simpa using hz
       subst hz
       obtain ⟨b,h1,h⟩:=Tr.bind_some h
       rw[hu]
       dsimp only
       rw[kA h1]
       dsimp only
       rw[if_pos hs,← Tr.ab h,AZ,mO]
       obtain ⟨b1,b2,b3⟩:=b
       cases b3<;>cases cap<;>simp only[mO,Option.map_some,Option.map_none]
     · rename_i s r sz len full
       obtain ⟨hz,h⟩:=Tr.aJ h
       have hz:z=sz:=by simpa using hz
       subst hz
       obtain ⟨b,h1,h⟩:=Tr.bind_some h
       obtain ⟨q,h2,h⟩:=Tr.bind_some h
       rw[hu]
       dsimp only
       have hb:=kA h1
       rw[hb]
       dsimp only
       obtain ⟨k1,k2⟩:=zw h2
       rw[cA,mO] at k1 k2
       rw[if_pos ⟨hs,k1⟩,k2,← Tr.ab h,mO]
       congr 2
       obtain ⟨b1,b2,b3⟩:=b
       dsimp only at hb ⊢
       cases b3 with
       | some m=>simp only[Em,gz];rw[Bool.eq_iff_iff];simp
       | none =>
         simp only[Em]
         cases hi with
         | some a =>
           simp only[MV,cond_false,n8,gz]
           congr 1
           rw[Bool.eq_iff_iff];simp
         | none =>
           simp only[MV,cond_true]
           have:b2=len:=by
            unfold ef at hb
            cases mx with
            | none =>
              dsimp only[bound] at hb
              split at hb
              · simp only[nP] at hb;exact hb.2.1.symm
              · simp at hb
            | some a =>
              dsimp only at hb
              split at hb
              · simp at hb
              · simp at hb
           rw[this];simp
     · obtain ⟨b,h1,h⟩:=Tr.bind_some h
       rw[hu]
       dsimp only
       rw[kA h1,hs,← Tr.ab h]
     · exact (Tr.ae h).elim
   · exact (Tr.ae h).elim
 · rename_i n e hu
   split at h
   · rename_i sz hs
     split at h
     · rename_i d j ver off
       obtain ⟨b,h1,h⟩:=Tr.bind_some h
       rw[hu]
       dsimp only
       rw[kA h1]
       dsimp only
       rw[hs,← Tr.ab h,AZ,mO]
       obtain ⟨b1,b2,b3⟩:=b
       cases b3<;>simp only[mO]
     · exact (Tr.ae h).elim
   · exact (Tr.ae h).elim
 · exact (Tr.ae h).elim

def rS (H:aa) (sz n:Nat) (x:AV):Tr Row :=
 match x with
 | .slc d i v off sz' len cap=>(wU H d i v (some 0)).bind fun r=>cond (Nat.beq sz' sz) (.req (bY n len) (match r with
    | .M [.arr k z N]=>.req (iB off (iZ n sz) 0 N) (.ok (.M [.arr k (bm z off) (iZ n sz)]))
    | .I k l=>cond (tP (.I k l) off (Nat.mul n sz)) (.ok (AP d (Row.I k (iv (lu l off) (Nat.mul n sz))))) .bad
    | .G l=>cond (tP (.G l) off (Nat.mul n sz)) (.ok (AP d (Row.G (iv (lu l off) (Nat.mul n sz))))) .bad
    | .F f N=>.req (iB off (iZ n sz) 0 N) (.ok (.F (fun j=>f (bB off j)) (iZ n sz)))
    | _=>.bad)) .bad
 | .slcT s r sz' len _=>cond (Nat.beq sz' sz) (.req (bY n len) ((B9 r none sz (iZ n sz)).bind fun q=>.ok (match s with | none=>q | some k=>AP k q))) .bad
 | _=>.bad
theorem Mc (d:Nat) (k:IntKind) (z:Nat→Int) (n:Nat):AP d (.M [.arr k z n])=.M [.arr k z n]:=by cases d<;>rfl
theorem Mb (d:Nat) (f:Nat→AV) (n:Nat):AP d (.F f n)=.F f n:=by cases d<;>rfl
theorem pB {H:aa} {sz n:Nat} {x:AV} {q:Row} (h:(rS H sz n x).run=some q):eA H sz n x=some q:=by
 unfold rS at h
 split at h
 · rename_i d i v off sz' len cap
   obtain ⟨r,h1,h⟩:=Tr.bind_some h
   obtain ⟨hz,h⟩:=Tr.aJ h
   have hz:sz'=sz:=by simpa using hz
   obtain ⟨hc,h⟩:=Tr.aH h
   rw[kQ,decide_eq_true_eq] at hc
   unfold eA
   dsimp only
   rw[la h1]
   dsimp only
   split at h
   · rename_i k z N
     obtain ⟨hc2,h⟩:=Tr.aH h
     rw[gG,decide_eq_true_eq,cA] at hc2
     rw[if_pos ⟨hz,hc,by simp only[Row.len,av,aI];omega⟩,← Tr.ab h]
     simp only[Row.sub,Mc,ml,cA]
   · rename_i k l
     obtain ⟨hc2,h⟩:=Tr.aJ h
     rw[kH,decide_eq_true_eq] at hc2
     rw[if_pos ⟨hz,hc,hc2⟩,← Tr.ab h,gl,g6]
     rfl
   · rename_i l
     obtain ⟨hc2,h⟩:=Tr.aJ h
     rw[kH,decide_eq_true_eq] at hc2
     rw[if_pos ⟨hz,hc,hc2⟩,← Tr.ab h,gl,g6]
     rfl
   · rename_i f N
     obtain ⟨hc2,h⟩:=Tr.aH h
     rw[gG,decide_eq_true_eq,cA] at hc2
     rw[if_pos ⟨hz,hc,by simp only[Row.len];omega⟩,← Tr.ab h]
     simp only[Row.sub,Mb,bD,cA]
   · exact (Tr.ae h).elim
 · rename_i s r sz' len full
   obtain ⟨hz,h⟩:=Tr.aJ h
   have hz:sz'=sz:=by simpa using hz
   obtain ⟨hc,h⟩:=Tr.aH h
   rw[kQ,decide_eq_true_eq] at hc
   obtain ⟨q',h1,h⟩:=Tr.bind_some h
   obtain ⟨k1,k2⟩:=zw h1
   rw[cA] at k1 k2
   simp only[BE,Nat.zero_mul,Nat.zero_add] at k1 k2
   unfold eA
   dsimp only
   rw[if_pos ⟨hz,hc,k1⟩,← Tr.ab h,k2]
   cases s<;>rfl
 · exact (Tr.ae h).elim

end
end Go.Eng
end
section
namespace Go.Eng
noncomputable section

theorem Tr.jR {α:Type} {c:Bool} {t:Tr α} {x:α} (h:(cond c .bad t).run=some x):c=false∧t.run=some x:=by
 cases c with
 | false=>exact ⟨rfl,h⟩
 | true=>exact (Tr.ae h).elim

def yL:AV→AV
 | .slcT none (.I k l) sz m _=>.slcT none (.M [.arr k (al l) (iC l)]) sz m false
 | .slcT none (.M [.arr k z n]) sz m _=>.slcT none (.M [.arr k z n]) sz m false
 | v=>v
theorem yM (v:AV):yL v=m9 v:=by
 unfold yL m9
 split
 · simp only[gT,dg]
 · rfl
 · rename_i h1 h2
   split
   · exact absurd rfl (h1 _ _ _ _ _)
   · exact absurd rfl (h2 _ _ _ _ _ _)
   · rfl
def Ee (r:Row):Row :=
 match r with
 | .I k l=>.M [.arr k (al l) (iC l)]
 | .G [v]=>cond (qG v) (.F (fun _=>yL v) 1) (.G [v])
 | r=>r
theorem vW (r:Row):Ee r=qY true r:=by
 cases r with
 | I k l=>simp only[Ee,qY,if_true,gT,dg]
 | F f n=>rfl
 | M l=>rfl
 | G l =>
   match l with
   | []=>rfl
   | [v] =>
     show cond (qG v) (Row.F (fun _=>yL v) 1) (Row.G [v])=if (true && qG v)=true then Row.F (fun _=>m9 v) 1 else Row.G [v]
     rw[yM]
     cases qG v<;>rfl
   | a::b::r=>rfl
def SK:AV→Nat→Int
 | .slcT _ (.M [.arr _ z _]) _ _ _=>z
 | _=>fun _=>0
def RR:AV→Nat
 | .slcT _ (.M [.arr _ _ n]) _ _ _=>n
 | _=>0
def RQ:AV→Nat
 | .slcT _ _ _ m _=>m
 | _=>0
def F1 (r s:Row):Tr Row :=
 match r with
 | .M [.arr k z n]=>match yd s with
   | some (k',z')=>cond (gu k' k) (.ok (.M [.arr k (jO z n z') (bB n (iu s))])) .bad
   | none=>.bad
 | .I k l=>match s with
   | .I k' l'=>cond (gu k' k) (.ok (.I k (mS l l'))) .bad
   | .M [.arr k' z' n']=>cond (gu k' k) (.ok (.M [.arr k (jO (al l) (iC l) z') (bB (iC l) n')])) .bad
   | _=>.bad
 | .G l=>match s with
   | .G l'=>.ok (.G (mS l l'))
   | _=>.bad
 | .F f n=>match s with
   | .G [v]=>cond (qG v) (match yL v with
     | .slcT none (.M [.arr k z N]) sz m full=>.reqP (DG f k sz full)
       (.ok (.F (fun j=>.slcT none (.M [.arr k (Hl (c9 j n) (SK (f j)) z) (Dq (c9 j n) (RR (f j)) N)]) sz (Dq (c9 j n) (RQ (f j)) m) full) (bB n 1)))
     | _=>.bad) .bad
   | _=>.bad
 | _=>.bad
theorem A6 {r s q:Row} (h:(F1 r s).run=some q):r.app s=q:=by
 unfold F1 at h
 split at h
 · rename_i k z n
   rw[sn] at h
   split at h
   · rename_i k' z' hi
     obtain ⟨hk,h⟩:=Tr.aJ h
     rw[eG,decide_eq_true_eq] at hk
     have e:Row.app (.M [.arr k z n]) s=(match (Row.M [.arr k z n]).tI s with | some q=>q | none=>.G ((Row.M [.arr k z n]).toList++s.toList)):=by
      cases s<;>rfl
     rw[e]
     unfold Row.tI
     rw[hi]
     dsimp only[Row.ints]
     rw[if_pos hk,← Tr.ab h,vH,bD,fg]
     rfl
   · exact (Tr.ae h).elim
 · rename_i k l
   split at h
   · rename_i k' l'
     obtain ⟨hk,h⟩:=Tr.aJ h
     rw[eG,decide_eq_true_eq] at hk
     simp only[Row.app]
     rw[if_pos hk,← Tr.ab h,kx]
   · rename_i k' z' n'
     obtain ⟨hk,h⟩:=Tr.aJ h
     rw[eG,decide_eq_true_eq] at hk
     simp only[Row.app]
     unfold Row.tI
     dsimp only[Row.ints]
     rw[if_pos hk,← Tr.ab h,vH,bD,dg,gT]
     rfl
   · exact (Tr.ae h).elim
 · split at h
   · rw[← Tr.ab h,kx];rfl
   · exact (Tr.ae h).elim
 · rename_i f n
   split at h
   · rename_i v
     obtain ⟨hv,h⟩:=Tr.aJ h
     split at h
     · rename_i k z N sz m full hn
       obtain ⟨hf,h⟩:=Tr.cW h
       rw[yM] at hn
       rw[← Tr.ab h,bD]
       show Row.F _ _=Row.F _ _
       congr 1
       funext j
       simp only[w9,w8,gf]
       by_cases e:j<n
       · have hb:Nat.blt j n=true:=by rw[Nat.blt_eq];exact e
         rw[hb,if_pos rfl,decide_eq_true e]
         rw[A5] at hf
         obtain ⟨z',n',m',e'⟩:=hf j
         rw[e'];rfl
       · have hb:Nat.blt j n=false:=by
          cases hb:Nat.blt j n with
          | false=>rfl
          | true=>rw[Nat.blt_eq] at hb;exact absurd hb e
         rw[hb,if_neg (by simp),decide_eq_false e]
         show (if hY v=true then m9 v else .undef)=_
         rw[if_pos (so hv),hn]
         rfl
     · exact (Tr.ae h).elim
   · exact (Tr.ae h).elim
 · exact (Tr.ae h).elim
def Lb (x:AV):Bool :=
 match x with
 | .slc _ _ _ _ _ _ (some _)=>true
 | _=>false
def KZ (s:AV):Bool :=
 match s with
 | .nils | .slc .. | .slcT ..=>true
 | _=>false
def rF (P:Program) (e:TypeId) (n:Nat):Bool :=
 match (cG P e).bind AV.row with
 | some z=>Nat.beq (iu z) n
 | none=>false
theorem tA {P:Program} {e:TypeId} {n:Nat} (h:rF P e n=true):((cG P e).bind AV.row).map Row.len=some n:=by
 unfold rF at h
 split at h
 · rename_i z hz
   rw[fg] at h
   have h:=Nat.eq_of_beq_eq_true h
   rw[hz,Option.map_some,h]
 · simp at h
def Bp (H:aa) (nx sz m n:Nat) (s:AV) (new:Row):Tr (AV×Delta) :=
 (rS H sz m s).bind fun old=>(F1 old new).bind fun r=>.ok (.slc 0 nx 0 0 sz (bB m n) none,.push (.row (Ee r)))
def xh (r:Row) (off n:Nat):Tr Row :=
 match r with
 | .M [.arr k z N]=>.req (bM (bB off n) N) (.ok (.M [.arr k (bm z off) n]))
 | .G l=>cond (Nat.beq (Nat.add off n) (iC l)) (.ok (.G (iv (lu l off) n))) .bad
 | .F f N=>.req (bM (bB off n) N) (.ok (.F (fun j=>f (bB off j)) n))
 | _=>.bad
theorem AO {r q:Row} {off n:Nat} (h:(xh r off n).run=some q):off+n=r.len∧r.sub off n=q:=by
 unfold xh at h
 split at h
 · rename_i k z N
   obtain ⟨hc,h⟩:=Tr.aH h
   rw[gz,decide_eq_true_eq,bD] at hc
   refine ⟨by simp only[Row.len,av,aI];omega,?_⟩
   rw[← Tr.ab h,ml];rfl
 · rename_i l
   obtain ⟨hc,h⟩:=Tr.aJ h
   rw[dg] at hc
   have hc:=Nat.eq_of_beq_eq_true hc
   exact ⟨hc,by rw[← Tr.ab h,gl,g6];rfl⟩
 · rename_i f N
   obtain ⟨hc,h⟩:=Tr.aH h
   rw[gz,decide_eq_true_eq,bD] at hc
   refine ⟨hc,?_⟩
   rw[← Tr.ab h]
   simp only[bD]
   rfl
 · exact (Tr.ae h).elim
def DJ (P:Program) (nx:Nat) (e:TypeId) (s x:AV):Tr (AV×Delta) :=
 match P.info? e with
 | some inf=>match s with
   | .nils=>match x with
     | .int _ k=>cond (Nat.blt 0 inf.size) (cond (rF P e inf.size) (.req (H6 k k inf.bytes) (.ite (cQ k (Int.ofNat 0)) (.ok (.nils,.aZ)) (.ok (.slc 0 nx 0 0 inf.size (fy k) none,.push (.row (Ee (.I .i64 []))))))) .bad) .bad
     | _=>.bad
   | _=>.bad
 | none=>.bad
theorem DK {P:Program} {nx:Nat} {e:TypeId} {s x:AV} {y:AV×Delta} (h:(DJ P nx e s x).run=some y):DI P true nx e s x=some y:=by
 unfold DJ at h
 unfold DI
 split at h
 · rename_i inf hi
   rw[hi]
   split at h
   · split at h
     · rename_i kk k
       obtain ⟨hb,h⟩:=Tr.aJ h
       obtain ⟨hz,h⟩:=Tr.aJ h
       obtain ⟨hm,h⟩:=Tr.aH h
       rw[Au,decide_eq_true_eq] at hm
       dsimp only
       rw[if_pos ⟨hm.1,hm.2.2.2,hm.2.2.1,Ba hb,tA hz⟩]
       rcases Tr.gd h with ⟨hc,h⟩ | ⟨hc,h⟩
       · rw[fW,beq_iff_eq] at hc
         rw[if_pos (show k=0 from hc),Tr.ab h]
       · rw[fW,beq_eq_false_iff_ne] at hc
         rw[if_neg (show ¬ k=0 from hc),← Tr.ab h,vW,qi]
     · exact (Tr.ae h).elim
   · exact (Tr.ae h).elim
 · exact (Tr.ae h).elim
def ob (P:Program) (H:aa) (nx:Nat) (t u:TypeId) (s x:AV):Tr (AV×Delta) :=
 match P.underlying t with
 | some (.slice e)=>match P.underlying u with
   | some (.slice _)=>match P.info? e with
     | some inf=>match nB s with
       | some m=>match nB x with
         | some n=>cond (KZ s) (match Lb x,n with
           | true,0=>.ok (s,.aZ)
           | true,_=>main P H nx e inf s x m n
           | false,_=>.ite (bM n 0) (.ok (s,.aZ)) (main P H nx e inf s x m n)) .bad
         | none=>.bad
       | none=>.bad
     | none=>.bad
   | some (.int _)=>DJ P nx e s x
   | _=>.bad
 | _=>.bad
where
 main (P : Program) (H:aa) (nx:Nat) (e:TypeId) (inf:TypeInfo) (s x:AV) (m n:Nat):Tr (AV×Delta) :=
  .req (cF m n inf.bytes) (cond (Nat.blt 0 inf.bytes) (cond (rF P e inf.size) ((rS H inf.size n x).bind fun new =>
   match s with
   | .nils=>.ok (.slc 0 nx 0 0 inf.size n none,.push (.row (Ee new)))
   | .slcT _ _ _ _ full=>.req full (Bp H nx inf.size m n s new)
   | .slc d i v off sz _ (some c)=>.ite (c9 c (bB m n)) (Bp H nx inf.size m n s new)
     (cond (fo H d) .bad ((wU H d i v (some 0)).bind fun r=>cond (Nat.beq sz inf.size) (match r with
       | .M l=>match ll (lr d new) with
         | []=>.bad
         | y::ys=>(zo (bB off (iZ m sz)) (some 0) (y::ys) 0 l).bind fun l'=>.ok (.slc d i v off sz (bB m n) (some c),.set d i (v,.row (.M l')))
       | _=>.bad) .bad))
   | .slc d i v off sz _ none=>cond (fo H d) .bad ((wU H d i v (some 0)).bind fun r=>cond (Nat.beq sz inf.size)
     ((xh r off (iZ m sz)).bind fun old=>(F1 old (lr d new)).bind fun r'=>.ok (.slc d i (Nat.succ v) 0 sz (bB m n) none,.set d i (Nat.succ v,.row r'))) .bad)
   | _=>.bad) .bad) .bad)
theorem rT {H:aa} {sz n:Nat} {x:AV} {q:Row} (h:eA H sz n x=some q):q.len=n*sz:=by
 unfold eA at h
 split at h
 · split at h
   · rename_i hn
     simp only[Option.some.injEq] at h
     rw[← h,hn];simp[Row.len]
   · simp at h
 · split at h
   · split at h
     · rename_i hf
       simp only[Option.some.injEq] at h
       rw[← h,pn,Row.dy _ _ _ hf.2.2]
     · simp at h
   · simp at h
 · split at h
   · rename_i hf
     simp only[Option.some.injEq] at h
     rw[← h]
     split
     · exact Row.dy _ _ _ (by omega)
     · rw[pn,Row.dy _ _ _ (by omega)]
   · simp at h
 · simp at h
theorem xV {H:aa} {nx sz m n:Nat} {s:AV} {new:Row} {y:AV×Delta} (h:(Bp H nx sz m n s new).run=some y):∃ old,eA H sz m s=some old∧y=(.slc 0 nx 0 0 sz (m+n) none,.push (.row (qY true (old.app new)))):=by
 unfold Bp at h
 obtain ⟨old,h1,h⟩:=Tr.bind_some h
 obtain ⟨r,h2,h⟩:=Tr.bind_some h
 refine ⟨old,pB h1,?_⟩
 rw[← Tr.ab h,bD,vW,A6 h2]
theorem zU         {P : Program} {H:aa} {nx:Nat} {t u:TypeId} {s x:AV} {y:AV×Delta} (h:(ob P H nx t u s x).run=some y):oc P true H nx t u s x=some y:=by
 unfold ob at h
 unfold oc
 split at h
 · rename_i e ht
   split at h
   · rename_i e' hu
     split at h
     · rename_i inf hi
       split at h
       · rename_i m hm
         split at h
         · rename_i n hn
           obtain ⟨hsl,h⟩:=Tr.aJ h
           rw[ht,hu]
           dsimp only
           rw[hi,hm,hn]
           dsimp only
           have hcase:(n=0∧(s,Delta.aZ)=y)∨(n≠0∧(ob.main P H nx e inf s x m n).run=some y):=by
            cases hx:Lb x with
            | true =>
              rw[hx] at h
              cases n with
              | zero=>exact .inl ⟨rfl,Tr.ab h⟩
              | succ n=>exact .inr ⟨by omega,h⟩
            | false =>
              rw[hx] at h
              rcases Tr.gd h with ⟨hc,h⟩ | ⟨hc,h⟩
              · rw[gz,decide_eq_true_eq] at hc
                exact .inl ⟨hc,Tr.ab h⟩
              · rw[gz,decide_eq_false_iff_not] at hc
                exact .inr ⟨hc,h⟩
           clear h
           rcases hcase with ⟨h0,h⟩ | ⟨h0,h⟩
           · rw[if_pos h0]
             cases s<;>simp[KZ] at hsl<;>exact congrArg some h
           rw[if_neg h0]
           unfold ob.main at h
           obtain ⟨hr,h⟩:=Tr.aH h
           rw[zi,decide_eq_true_eq] at hr
           obtain ⟨hb,h⟩:=Tr.aJ h
           obtain ⟨hz,h⟩:=Tr.aJ h
           obtain ⟨new,h1,h⟩:=Tr.bind_some h
           have hcv:=pB h1
           rw[if_pos ⟨hr.1,hr.2,Ba hb,tA hz⟩,hcv]
           dsimp only
           split at h
           · rw[← Tr.ab h,vW]
           · rename_i sT r szT GJ full
             obtain ⟨hf,h⟩:=Tr.aH h
             obtain ⟨old,h2,rfl⟩:=xV h
             subst hf
             dsimp only
             rw[h2]
           · rename_i d i v off sz len c _ _ _ _ _
             rcases Tr.gd h with ⟨hc,h⟩ | ⟨hc,h⟩
             · rw[gf,decide_eq_true_eq,bD] at hc
               obtain ⟨old,h2,rfl⟩:=xV h
               dsimp only
               rw[if_pos hc,h2]
             · rw[gf,decide_eq_false_iff_not,bD] at hc
               dsimp only
               rw[if_neg hc]
               rw[dW] at h
               obtain ⟨hl,h⟩:=Tr.jR h
               obtain ⟨r,h2,h⟩:=Tr.bind_some h
               obtain ⟨hs,h⟩:=Tr.aJ h
               have hs:=Nat.eq_of_beq_eq_true hs
               rw[hl,if_neg (by simp),la h2]
               dsimp only
               split at h
               · rename_i l _
                 rw[nX] at h
                 have hcl:=rT hcv
                 split at h
                 · exact (Tr.ae h).elim
                 · rename_i y0 ys hy
                   obtain ⟨l',h3,h⟩:=Tr.bind_some h
                   obtain ⟨k1,k2⟩:=ta _ _ _ _ h3
                   rw[bD,cA,Nat.add_zero] at k1 k2
                   have hlen:=Row.bf (lr d new)
                   rw[hy,fh,hcl] at hlen
                   have hfit:off+(m+n)*sz≤(Row.M l).len:=by
                    rcases k1 with k1 | k1
                    · simp at k1
                    · rw[hlen,← hs] at k1
                      rw[Nat.add_mul]
                      show _≤av l
                      omega
                   rw[if_pos ⟨hs,hfit⟩,hy,k2,← Tr.ab h,bD]
               · exact (Tr.ae h).elim
           · rename_i d i v off sz len _ _ _ _ _
             dsimp only
             rw[dW] at h
             obtain ⟨hl,h⟩:=Tr.jR h
             obtain ⟨r,h2,h⟩:=Tr.bind_some h
             obtain ⟨hs,h⟩:=Tr.aJ h
             have hs:=Nat.eq_of_beq_eq_true hs
             obtain ⟨old,h3,h⟩:=Tr.bind_some h
             obtain ⟨r',h4,h⟩:=Tr.bind_some h
             obtain ⟨k1,k2⟩:=AO h3
             rw[cA] at k1 k2
             rw[hl,if_neg (by simp),la h2]
             dsimp only
             rw[if_pos ⟨hs,k1⟩,k2,A6 h4,← Tr.ab h,bD]
           · exact (Tr.ae h).elim
         · exact (Tr.ae h).elim
       · exact (Tr.ae h).elim
     · exact (Tr.ae h).elim
   · rename_i k' hu
     rw[ht,hu]
     exact DK h
   · exact (Tr.ae h).elim
 · exact (Tr.ae h).elim

end
end Go.Eng
end
