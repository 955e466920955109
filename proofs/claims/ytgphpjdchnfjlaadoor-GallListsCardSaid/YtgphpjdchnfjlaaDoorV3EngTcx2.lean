/- The engine as a tree: slices, numbers, operations. -/
import Derived.Test.YtgphpjdchnfjlaaDoorV3EngTb
set_option linter.unusedVariables false
set_option linter.unusedSimpArgs false
section
namespace Go.Eng
noncomputable section

theorem Tr.aL {α:Type} {c:Bool} {t:Tr α} {x:α} (h:(cond c t .bad).run=some x):c=true∧t.run=some x:=by
 cases c with
 | true=>exact ⟨rfl,h⟩
 | false=>exact (Tr.ae h).elim
def I4 (op:BinOp) (k:IntKind) (x y:Int):Tr AV :=
 match op with
 | .add=>.ok (.int k (bz k x y))
 | .sub=>.ok (.int k (bW k x y))
 | .mul=>.ok (.int k (qi k x y))
 | .quo=>.req (cH (dC y 0)) (.ok (.int k (tr k x y)))
 | .rem=>.req (cH (dC y 0)) (.ok (.int k (tu k x y)))
 | .and=>.ok (.int k (oL k x y))
 | .or=>.ok (.int k (wb k x y))
 | .xor=>.ok (.int k (JW k x y))
 | .andNot=>.ok (.int k (Fm k x y))
 | .eql=>.ok (.bool (dC x y))
 | .neq=>.ok (.bool (cH (dC x y)))
 | .lss=>.ok (.bool (da x y))
 | .leq=>.ok (.bool (er x y))
 | .gtr=>.ok (.bool (da y x))
 | .geq=>.ok (.bool (er y x))
 | _=>.bad
theorem FW {op:BinOp} {k:IntKind} {x y:Int} {v:AV} (h:(I4 op k x y).run=some v):gy op k x y=some v:=by
 unfold I4 at h
 unfold gy
 cases op<;>dsimp only at h ⊢<;>try exact (Tr.ae h).elim
 case quo =>
  obtain ⟨hc,h⟩:=Tr.aH h
  rw[aS,bh] at hc
  have:¬ y=0:=by simpa using hc
  rw[if_neg this,← Tr.ab h,vG]
 case rem =>
  obtain ⟨hc,h⟩:=Tr.aH h
  rw[aS,bh] at hc
  have:¬ y=0:=by simpa using hc
  rw[if_neg this,← Tr.ab h,vH]
 all_goals
  have h:=Tr.ab h
  subst h
  first
   | rfl
   | (simp only[gt_iff_lt,ge_iff_le,fj,dK,kg,qm,sc,vZ,qJ,bh,aS,br,bt,bne];done)
   | (simp only[fj,dK,kg,qm,sc,vZ,qJ,bh,aS,br,bt];done)
   | (simp only[fj,dK,kg,qm,sc,vZ,qJ,bh,aS,br,bt];rfl)
def gR:List Int→List Int→Bool
 | [],[]=>true
 | [x],[y]=>dC x y
 | x::x'::a,y::y'::b=>bY (dC x y) (gR (x'::a) (y'::b))
 | _,_=>false
theorem rM:∀ (l m:List Int),gR l m=ev l m
 | [],[]=>rfl
 | [],_::_=>by simp[gR,ev]
 | _::_,[]=>by simp[gR,ev]
 | [x],[y]=>by simp[gR,ev,bh]
 | [x],y::y'::b=>by simp[gR,ev]
 | x::x'::a,[y]=>by simp[gR,ev]
 | x::x'::a,y::y'::b=>by
   simp only[gR]
   rw[bP,bh,rM (x'::a) (y'::b)];rfl
def wX (r:Row):Option (IntKind×(Nat→Int)) :=
 match r with
 | .I k l=>some (k,bC l)
 | .M [.arr k z _]=>some (k,z)
 | _=>none
theorem rG (r:Row):wX r=r.ints:=by
 match r with
 | .I k l=>simp only[wX,Row.ints,iY]
 | .G l=>rfl
 | .F f n=>rfl
 | .M []=>rfl
 | .M [.arr k z n]=>rfl
 | .M (.one v::r)=>rfl
 | .M (.arr k z n::s::r)=>rfl
def JZ (P:Program) (t:TypeId) (x y:AV):Tr Bool :=
 match x,y with
 | .bool a,.bool b=>match P.underlying t with
   | some .bool=>.ok (Mm a b)
   | _=>.bad
 | .nils,.slcT s r sz n f=>match P.underlying t with
   | some (.slice _)=>.req (cW 0 n) (.ok false)
   | _=>.bad
 | .slcT s r sz n f,.nils=>match P.underlying t with
   | some (.slice _)=>.req (cW 0 n) (.ok false)
   | _=>.bad
 | .agg (.I k a),.agg (.I k' b)=>cond (gm k k') (match bU P 20 t with
   | some n=>match ey P t with
     | some true=>cond (Nat.beq n (gQ a)) (cond (Nat.beq (gQ a) (gQ b)) (.ok (gR a b)) .bad) .bad
     | _=>.bad
   | none=>.bad) .bad
 | .agg (.M l),.agg s=>eqMT P t (.M l) s
 | .agg (.I k a),.agg (.M l)=>eqMT P t (.I k a) (.M l)
 | x,y=>uv (yL P t x y)
where
 eqMT (P:Program) (t:TypeId) (r s:Row):Tr Bool :=
  match wX r,wX s with
  | some (k,z),some (k',z')=>cond (gm k k') (match bU P 20 t with
    | some n=>match ey P t with
      | some true=>cond (Nat.beq n (gL r)) (cond (Nat.beq (gL r) (gL s)) (.ok (kR z z' (gL r))) .bad) .bad
      | _=>.bad
    | none=>.bad) .bad
  | _,_=>.bad
theorem AF {P:Program} {t:TypeId} {r s:Row} {b:Bool} (h:(JZ.eqMT P t r s).run=some b):JY P t r s=some b:=by
 unfold JZ.eqMT at h
 rw[rG,rG] at h
 unfold JY
 split at h
 · rename_i k z k' z' h1 h2
   rw[h1,h2]
   obtain ⟨hk,h⟩:=Tr.aL h
   rw[eB,decide_eq_true_eq] at hk
   split at h
   · rename_i n hn
     split at h
     · rename_i ha
       obtain ⟨e1,h⟩:=Tr.aL h
       obtain ⟨e2,h⟩:=Tr.aL h
       rw[eE] at e1 e2 h
       rw[eE] at e2
       have e1:n=r.len:=by simpa using e1
       have e2:r.len=s.len:=by simpa using e2
       dsimp only
       rw[if_pos ⟨hk,by rw[hn,e1],ha,e2⟩,← Tr.ab h,tE]
     · exact (Tr.ae h).elim
   · exact (Tr.ae h).elim
 · exact (Tr.ae h).elim
theorem DC {P:Program} {t:TypeId} {x y:AV} {b:Bool} (h:(JZ P t x y).run=some b):yL P t x y=some b:=by
 unfold JZ at h
 split at h
 · split at h
   · rename_i hu
     unfold yL
     dsimp only
     rw[hu,← Tr.ab h,ID]
   · exact (Tr.ae h).elim
 · split at h
   · rename_i hu
     obtain ⟨hc,h⟩:=Tr.aH h
     rw[gz,decide_eq_true_eq] at hc
     unfold yL
     dsimp only
     rw[hu]
     dsimp only
     rw[if_pos hc,Tr.ab h]
   · exact (Tr.ae h).elim
 · split at h
   · rename_i hu
     obtain ⟨hc,h⟩:=Tr.aH h
     rw[gz,decide_eq_true_eq] at hc
     unfold yL
     dsimp only
     rw[hu]
     dsimp only
     rw[if_pos hc,Tr.ab h]
   · exact (Tr.ae h).elim
 · obtain ⟨hk,h⟩:=Tr.aL h
   rw[eB,decide_eq_true_eq] at hk
   split at h
   · rename_i n hn
     split at h
     · rename_i ha
       obtain ⟨e1,h⟩:=Tr.aL h
       obtain ⟨e2,h⟩:=Tr.aL h
       rw[c5] at e1 e2
       rw[c5] at e2
       have e1:=Nat.eq_of_beq_eq_true e1
       have e2:=Nat.eq_of_beq_eq_true e2
       unfold yL
       dsimp only
       rw[if_pos ⟨hk,by rw[hn,e1],ha,e2⟩,← Tr.ab h,rM]
     · exact (Tr.ae h).elim
   · exact (Tr.ae h).elim
 · unfold yL;exact AF h
 · unfold yL;exact AF h
 · rw[cA] at h;exact h
def Dc (P:Program) (op:BinOp) (t:TypeId) (x y:AV):Tr AV :=
 match x,y with
 | .int k a,.int k' b=>match op with
   | .shl=>.req (er 0 b) (.ok (.int k (fF k a b)))
   | .shr=>.req (er 0 b) (.ok (.int k (JH k a b)))
   | op=>cond (gm k k') (I4 op k a b) .bad
 | x,y=>match op with
   | .eql=>(JZ P t x y).bind fun b=>.ok (.bool b)
   | .neq=>(JZ P t x y).bind fun b=>.ok (.bool (cH b))
   | _=>.bad
theorem Fv {P:Program} {op:BinOp} {t:TypeId} {x y v:AV} (h:(Dc P op t x y).run=some v):jt P op t x y=some v:=by
 unfold Dc at h
 split at h
 · rename_i k a k' b
   split at h
   · obtain ⟨hc,h⟩:=Tr.aH h
     rw[bt,decide_eq_true_eq] at hc
     unfold jt
     dsimp only
     rw[if_neg (by omega),← Tr.ab h,vT]
   · obtain ⟨hc,h⟩:=Tr.aH h
     rw[bt,decide_eq_true_eq] at hc
     unfold jt
     dsimp only
     rw[if_neg (by omega),← Tr.ab h,GG]
   · rename_i h1 h2
     obtain ⟨hk,h⟩:=Tr.aL h
     rw[eB,decide_eq_true_eq] at hk
     have:jt P op t (.int k a) (.int k' b)=if k=k' then gy op k a b else none:=by
      unfold jt
      cases op<;>first | rfl | exact (h1 rfl).elim | exact (h2 rfl).elim
     rw[this,if_pos hk]
     exact FW h
 · rename_i hn
   split at h
   · obtain ⟨b,h1,h⟩:=Tr.bind_some h
     have h2:=DC h1
     have:jt P .eql t x y=(yL P t x y).map .bool:=by
      unfold jt
      cases x<;>cases y<;>first | rfl | exact (hn _ _ _ _ rfl rfl).elim
     rw[this,h2,← Tr.ab h];rfl
   · obtain ⟨b,h1,h⟩:=Tr.bind_some h
     have h2:=DC h1
     have:jt P .neq t x y=(yL P t x y).map fun b=>.bool (!b):=by
      unfold jt
      cases x<;>cases y<;>first | rfl | exact (hn _ _ _ _ rfl rfl).elim
     rw[this,h2,← Tr.ab h,aS];rfl
   · exact (Tr.ae h).elim
def OJ (op:UnOp) (x:AV):Tr AV :=
 match op,x with
 | .not,.bool b=>.ok (.bool (cH b))
 | .neg,.int k n=>.ok (.int k (zL k n))
 | _,_=>.bad
theorem JS {op:UnOp} {x v:AV} (h:(OJ op x).run=some v):LW op x=some v:=by
 unfold OJ at h
 split at h
 · rw[← Tr.ab h,aS];rfl
 · rw[← Tr.ab h,vt];rfl
 · exact (Tr.ae h).elim
def og (mx:Bool) (k:IntKind) (x:Int):List AV→Tr AV
 | []=>.ok (.int k x)
 | v::r=>match v with
   | .int k' y=>cond (gm k k') (og mx k (cond mx (mC x y) (qh x y)) r) .bad
   | _=>.bad
theorem m6 {mx:Bool} {k:IntKind}:∀ (l:List AV) (x:Int) (v:AV),(og mx k x l).run=some v→dT mx k x l=some v
 | [],x,v,h=>by rw[← Tr.ab h];rfl
 | u :: r,x,v,h=>by
   simp only[og] at h
   split at h
   · rename_i k' y
     obtain ⟨hk,h⟩:=Tr.aL h
     rw[eB,decide_eq_true_eq] at hk
     simp only[dT]
     rw[if_pos hk,← m6 r _ v h,mb,mc]
     cases mx<;>rfl
   · exact (Tr.ae h).elim

def ff (a sz:Nat):Nat :=
 match sz with
 | 1=>a
 | s=>aq a s
theorem cq (a sz:Nat):ff a sz=a*sz:=by
 unfold ff
 split
 · rw[Nat.mul_one]
 · rw[ja]
abbrev ON:=Option Nat×Nat×Option Nat
def lY (lo hi mx:Option AV) (len:Nat):Tr ON :=
 match mx with
 | none=>(match hi with
    | none=>.ok len
    | some (.int _ i)=>.req (qR i len) (.ok (cD i))
    | some _=>.bad:Tr Nat).bind fun h=>(match lo with
    | none=>.ok (none,h,none)
    | some (.int _ i)=>.req (qR i h) (.ok (some (cD i),h,none))
    | some _=>.bad)
 | some (.int _ m)=>.req (qR m len) (match hi with
    | some (.int _ i)=>.req (qR i (cD m)) (match lo with
      | none=>.ok (none,cD i,some (cD m))
      | some (.int _ j)=>.req (qR j (cD i)) (.ok (some (cD j),cD i,some (cD m)))
      | some _=>.bad)
    | _=>.bad)
 | some _=>.bad
def A6 (l:Option Nat):Nat :=
 match l with
 | none=>0
 | some l=>l
theorem gd {i:Int} {k:IntKind} {d top:Nat} (h:qR i top=true):bound (some (.int k i)) d top=some (cD i):=by
 rw[Aw,decide_eq_true_eq] at h
 simp only[bound]
 rw[if_pos h,np]
theorem jY {lo hi mx:Option AV} {len:Nat} {b:ON} (h:(lY lo hi mx len).run=some b):dF lo hi mx len=some (A6 b.1,b.2.1,b.2.2):=by
 unfold lY at h
 unfold dF
 split at h
 · obtain ⟨h',h1,h⟩:=Tr.bind_some h
   have e1:bound hi len len=some h':=by
    split at h1
    · rw[← Tr.ab h1];rfl
    · obtain ⟨hc,h1⟩:=Tr.aH h1
      rw[gd hc,Tr.ab h1]
    · exact (Tr.ae h1).elim
   dsimp only
   rw[e1]
   dsimp only
   split at h
   · rw[← Tr.ab h];rfl
   · obtain ⟨hc,h⟩:=Tr.aH h
     rw[gd hc,← Tr.ab h];rfl
   · exact (Tr.ae h).elim
 · rename_i k m
   obtain ⟨hm,h⟩:=Tr.aH h
   dsimp only
   rw[gd hm]
   dsimp only
   split at h
   · rename_i k' i
     obtain ⟨hi,h⟩:=Tr.aH h
     simp only[Option.isSome_some,if_true]
     rw[gd hi]
     dsimp only
     split at h
     · rw[← Tr.ab h];rfl
     · obtain ⟨hc,h⟩:=Tr.aH h
       rw[gd hc,← Tr.ab h];rfl
     · exact (Tr.ae h).elim
   · exact (Tr.ae h).elim
 · exact (Tr.ae h).elim
def vU (a:Nat) (l:Option Nat):Nat :=
 match l with
 | none=>a
 | some l=>fG a l
theorem mi (a:Nat) (l:Option Nat):vU a l=a-A6 l:=by
 cases l with
 | none=>rfl
 | some l=>exact eI a l
def C0 (off:Nat) (l:Option Nat) (sz:Nat):Nat :=
 match l with
 | none=>off
 | some l=>aG off (ff l sz)
theorem Ao (off:Nat) (l:Option Nat) (sz:Nat):C0 off l sz=off+A6 l*sz:=by
 cases l with
 | none=>simp[C0,A6]
 | some l=>simp only[C0,A6,aJ,cq]
def BB (r:Row) (l:Option Nat) (sz n:Nat):Tr Row :=
 match r with
 | .M [.arr k z N]=>.req (jS (aG (ff (A6 l) sz) n) N) (.ok (.M [.arr k (match l with | none=>z | some l=>yN z (ff l sz)) n]))
 | .F f N=>.req (jS (aG (ff (A6 l) sz) n) N) (.ok (.F (match l with | none=>f | some l=>fun j=>f (aG (ff l sz) j)) n))
 | _=>.bad
theorem xY {r q:Row} {l:Option Nat} {sz n:Nat} (h:(BB r l sz n).run=some q):A6 l*sz+n≤r.len∧r.sub (A6 l*sz) n=q:=by
 unfold BB at h
 split at h
 · rename_i k z N
   obtain ⟨hc,h⟩:=Tr.aH h
   rw[iD,decide_eq_true_eq,aJ,cq] at hc
   refine ⟨by simp only[Row.len,au,aF];omega,?_⟩
   rw[← Tr.ab h]
   cases l with
   | none=>simp only[Row.sub,A6,Nat.zero_mul,Nat.zero_add]
   | some l=>simp only[Row.sub,A6,lR,cq]
 · rename_i f N
   obtain ⟨hc,h⟩:=Tr.aH h
   rw[iD,decide_eq_true_eq,aJ,cq] at hc
   refine ⟨by simp only[Row.len];omega,?_⟩
   rw[← Tr.ab h]
   cases l with
   | none=>simp only[Row.sub,A6,Nat.zero_mul,Nat.zero_add]
   | some l=>simp only[Row.sub,A6,aJ,cq]
 · exact (Tr.ae h).elim
def Mt (o:Option AV):Bool :=
 match o with
 | none=>true
 | some _=>false
def DJ (mm:Option Nat) (full hiN:Bool) (h len:Nat):Bool :=
 match mm with
 | none=>cond hiN full (bY full (fX h len))
 | some m=>fX h m
def zY (P:Program) (t:TypeId) (x:AV) (lo hi mx:Option AV):Tr AV :=
 match P.underlying t with
 | some (.slice e)=>match bg P e with
   | some z=>match x with
     | .slc d j v off sz len cap=>cond (Nat.beq z sz) ((lY lo hi mx len).bind fun b=>.ok (.slc d j v (C0 off b.1 sz) sz (vU b.2.1 b.1) (match b.2.2 with
       | none=>match cap with | none=>none | some c=>some (vU c b.1)
       | some m=>some (vU m b.1)))) .bad
     | .slcT s r sz len full=>cond (Nat.beq z sz) ((lY lo hi mx len).bind fun b=>(BB r b.1 sz (ff (vU b.2.1 b.1) sz)).bind fun q=>.ok (.slcT s q sz (vU b.2.1 b.1) (DJ b.2.2 full (Mt hi) b.2.1 len))) .bad
     | .nils=>(lY lo hi mx 0).bind fun _=>.ok .nils
     | _=>.bad
   | none=>.bad
 | some (.array n e)=>match bg P e with
   | some sz=>match x with
     | .ptr d j v off=>(lY lo hi mx n).bind fun b=>.ok (.slc d j v (C0 off b.1 sz) sz (vU b.2.1 b.1) (match b.2.2 with
       | none=>some (vU n b.1)
       | some m=>some (vU m b.1)))
     | _=>.bad
   | none=>.bad
 | _=>.bad
theorem CI {P:Program} {t:TypeId} {x v:AV} {lo hi mx:Option AV} (h:(zY P t x lo hi mx).run=some v):py P t x lo hi mx=some v:=by
 unfold zY at h
 unfold py
 split at h
 · rename_i e hu
   split at h
   · rename_i z hs
     split at h
     · rename_i d j ver off sz len cap
       obtain ⟨hz,h⟩:=Tr.aL h
       have hz:z=sz:=by simpa using hz
       subst hz
       obtain ⟨b,h1,h⟩:=Tr.bind_some h
       rw[hu]
       dsimp only
       rw[jY h1]
       dsimp only
       rw[if_pos hs,← Tr.ab h,Ao,mi]
       obtain ⟨b1,b2,b3⟩:=b
       cases b3<;>cases cap<;>simp only[mi,Option.map_some,Option.map_none]
     · rename_i s r sz len full
       obtain ⟨hz,h⟩:=Tr.aL h
       have hz:z=sz:=by simpa using hz
       subst hz
       obtain ⟨b,h1,h⟩:=Tr.bind_some h
       obtain ⟨q,h2,h⟩:=Tr.bind_some h
       rw[hu]
       dsimp only
       have hb:=jY h1
       rw[hb]
       dsimp only
       obtain ⟨k1,k2⟩:=xY h2
       rw[cq,mi] at k1 k2
       rw[if_pos ⟨hs,k1⟩,k2,← Tr.ab h,mi]
       congr 2
       obtain ⟨b1,b2,b3⟩:=b
       dsimp only at hb ⊢
       cases b3 with
       | some m=>simp only[DJ,eK];rw[Bool.eq_iff_iff];simp
       | none =>
         simp only[DJ]
         cases hi with
         | some a =>
           simp only[Mt,cond_false,bP,eK]
           congr 1
           rw[Bool.eq_iff_iff];simp
         | none =>
           simp only[Mt,cond_true]
           have:b2=len:=by
            unfold dF at hb
            cases mx with
            | none =>
              dsimp only[bound] at hb
              split at hb
              · simp only[nP] at hb;exact hb.2.1.symm
              · simp at hb
            | some a =>
              dsimp only at hb
              split at hb
              · simp at hb
              · simp at hb
           rw[this];simp
     · obtain ⟨b,h1,h⟩:=Tr.bind_some h
       rw[hu]
       dsimp only
       rw[jY h1,hs,← Tr.ab h]
     · exact (Tr.ae h).elim
   · exact (Tr.ae h).elim
 · rename_i n e hu
   split at h
   · rename_i sz hs
     split at h
     · rename_i d j ver off
       obtain ⟨b,h1,h⟩:=Tr.bind_some h
       rw[hu]
       dsimp only
       rw[jY h1]
       dsimp only
       rw[hs,← Tr.ab h,Ao,mi]
       obtain ⟨b1,b2,b3⟩:=b
       cases b3<;>simp only[mi]
     · exact (Tr.ae h).elim
   · exact (Tr.ae h).elim
 · exact (Tr.ae h).elim

def qV (H:aa) (sz n:Nat) (x:AV):Tr Row :=
 match x with
 | .slc d i v off sz' len cap=>(vN H d i v (some 0)).bind fun r=>cond (Nat.beq sz' sz) (.req (jS n len) (match r with
    | .M [.arr k z N]=>.req (nv off (ff n sz) 0 N) (.ok (.M [.arr k (yN z off) (ff n sz)]))
    | .I k l=>cond (s6 (.I k l) off (Nat.mul n sz)) (.ok (Af d (Row.I k (gM (kG l off) (Nat.mul n sz))))) .bad
    | .G l=>cond (s6 (.G l) off (Nat.mul n sz)) (.ok (Af d (Row.G (gM (kG l off) (Nat.mul n sz))))) .bad
    | .F f N=>.req (nv off (ff n sz) 0 N) (.ok (.F (fun j=>f (aG off j)) (ff n sz)))
    | _=>.bad)) .bad
 | .slcT s r sz' len _=>cond (Nat.beq sz' sz) (.req (jS n len) ((BB r none sz (ff n sz)).bind fun q=>.ok (match s with | none=>q | some k=>Af k q))) .bad
 | _=>.bad
theorem LZ (d:Nat) (k:IntKind) (z:Nat→Int) (n:Nat):Af d (.M [.arr k z n])=.M [.arr k z n]:=by cases d<;>rfl
theorem LY (d:Nat) (f:Nat→AV) (n:Nat):Af d (.F f n)=.F f n:=by cases d<;>rfl
theorem oN {H:aa} {sz n:Nat} {x:AV} {q:Row} (h:(qV H sz n x).run=some q):dO H sz n x=some q:=by
 unfold qV at h
 split at h
 · rename_i d i v off sz' len cap
   obtain ⟨r,h1,h⟩:=Tr.bind_some h
   obtain ⟨hz,h⟩:=Tr.aL h
   have hz:sz'=sz:=by simpa using hz
   obtain ⟨hc,h⟩:=Tr.aH h
   rw[iD,decide_eq_true_eq] at hc
   unfold dO
   dsimp only
   rw[kz h1]
   dsimp only
   split at h
   · rename_i k z N
     obtain ⟨hc2,h⟩:=Tr.aH h
     rw[iA,decide_eq_true_eq,cq] at hc2
     rw[if_pos ⟨hz,hc,by simp only[Row.len,au,aF];omega⟩,← Tr.ab h]
     simp only[Row.sub,LZ,lR,cq]
   · rename_i k l
     obtain ⟨hc2,h⟩:=Tr.aL h
     rw[j7,decide_eq_true_eq] at hc2
     rw[if_pos ⟨hz,hc,hc2⟩,← Tr.ab h,fD,gi]
     rfl
   · rename_i l
     obtain ⟨hc2,h⟩:=Tr.aL h
     rw[j7,decide_eq_true_eq] at hc2
     rw[if_pos ⟨hz,hc,hc2⟩,← Tr.ab h,fD,gi]
     rfl
   · rename_i f N
     obtain ⟨hc2,h⟩:=Tr.aH h
     rw[iA,decide_eq_true_eq,cq] at hc2
     rw[if_pos ⟨hz,hc,by simp only[Row.len];omega⟩,← Tr.ab h]
     simp only[Row.sub,LY,aJ,cq]
   · exact (Tr.ae h).elim
 · rename_i s r sz' len full
   obtain ⟨hz,h⟩:=Tr.aL h
   have hz:sz'=sz:=by simpa using hz
   obtain ⟨hc,h⟩:=Tr.aH h
   rw[iD,decide_eq_true_eq] at hc
   obtain ⟨q',h1,h⟩:=Tr.bind_some h
   obtain ⟨k1,k2⟩:=xY h1
   rw[cq] at k1 k2
   simp only[A6,Nat.zero_mul,Nat.zero_add] at k1 k2
   unfold dO
   dsimp only
   rw[if_pos ⟨hz,hc,k1⟩,← Tr.ab h,k2]
   cases s<;>rfl
 · exact (Tr.ae h).elim

end
end Go.Eng
end
section
namespace Go.Eng
noncomputable section

theorem Tr.jv {α:Type} {c:Bool} {t:Tr α} {x:α} (h:(cond c .bad t).run=some x):c=false∧t.run=some x:=by
 cases c with
 | false=>exact ⟨rfl,h⟩
 | true=>exact (Tr.ae h).elim

def xr:AV→AV
 | .slcT none (.I k l) sz m _=>.slcT none (.M [.arr k (bC l) (gQ l)]) sz m false
 | .slcT none (.M [.arr k z n]) sz m _=>.slcT none (.M [.arr k z n]) sz m false
 | v=>v
theorem xt (v:AV):xr v=mG v:=by
 unfold xr mG
 split
 · simp only[iY,c5]
 · rfl
 · rename_i h1 h2
   split
   · exact absurd rfl (h1 _ _ _ _ _)
   · exact absurd rfl (h2 _ _ _ _ _ _)
   · rfl
def DE (r:Row):Row :=
 match r with
 | .I k l=>.M [.arr k (bC l) (gQ l)]
 | .G [v]=>cond (pP v) (.F (fun _=>xr v) 1) (.G [v])
 | r=>r
theorem u9 (r:Row):DE r=qf true r:=by
 cases r with
 | I k l=>simp only[DE,qf,if_true,iY,c5]
 | F f n=>rfl
 | M l=>rfl
 | G l =>
   match l with
   | []=>rfl
   | [v] =>
     show cond (pP v) (Row.F (fun _=>xr v) 1) (Row.G [v])=if (true && pP v)=true then Row.F (fun _=>mG v) 1 else Row.G [v]
     rw[xt]
     cases pP v<;>rfl
   | a::b::r=>rfl
def S0:AV→Nat→Int
 | .slcT _ (.M [.arr _ z _]) _ _ _=>z
 | _=>fun _=>0
def R8:AV→Nat
 | .slcT _ (.M [.arr _ _ n]) _ _ _=>n
 | _=>0
def R6:AV→Nat
 | .slcT _ _ _ m _=>m
 | _=>0
def Fq (r s:Row):Tr Row :=
 match r with
 | .M [.arr k z n]=>match wX s with
   | some (k',z')=>cond (gm k' k) (.ok (.M [.arr k (sV z n z') (aG n (gL s))])) .bad
   | none=>.bad
 | .I k l=>match s with
   | .I k' l'=>cond (gm k' k) (.ok (.I k (mq l l'))) .bad
   | .M [.arr k' z' n']=>cond (gm k' k) (.ok (.M [.arr k (sV (bC l) (gQ l) z') (aG (gQ l) n')])) .bad
   | _=>.bad
 | .G l=>match s with
   | .G l'=>.ok (.G (mq l l'))
   | _=>.bad
 | .F f n=>match s with
   | .G [v]=>cond (pP v) (match xr v with
     | .slcT none (.M [.arr k z N]) sz m full=>.reqP (Ik f k sz full)
       (.ok (.F (fun j=>.slcT none (.M [.arr k (JE (cW j n) (S0 (f j)) z) (Gx (cW j n) (R8 (f j)) N)]) sz (Gx (cW j n) (R6 (f j)) m) full) (aG n 1)))
     | _=>.bad) .bad
   | _=>.bad
 | _=>.bad
theorem Aq {r s q:Row} (h:(Fq r s).run=some q):r.app s=q:=by
 unfold Fq at h
 split at h
 · rename_i k z n
   rw[rG] at h
   split at h
   · rename_i k' z' hi
     obtain ⟨hk,h⟩:=Tr.aL h
     rw[eB,decide_eq_true_eq] at hk
     have e:Row.app (.M [.arr k z n]) s=(match (Row.M [.arr k z n]).sU s with | some q=>q | none=>.G ((Row.M [.arr k z n]).toList++s.toList)):=by
      cases s<;>rfl
     rw[e]
     unfold Row.sU
     rw[hi]
     dsimp only[Row.ints]
     rw[if_pos hk,← Tr.ab h,lV,aJ,eE]
     rfl
   · exact (Tr.ae h).elim
 · rename_i k l
   split at h
   · rename_i k' l'
     obtain ⟨hk,h⟩:=Tr.aL h
     rw[eB,decide_eq_true_eq] at hk
     simp only[Row.app]
     rw[if_pos hk,← Tr.ab h,jV]
   · rename_i k' z' n'
     obtain ⟨hk,h⟩:=Tr.aL h
     rw[eB,decide_eq_true_eq] at hk
     simp only[Row.app]
     unfold Row.sU
     dsimp only[Row.ints]
     rw[if_pos hk,← Tr.ab h,lV,aJ,c5,iY]
     rfl
   · exact (Tr.ae h).elim
 · split at h
   · rw[← Tr.ab h,jV];rfl
   · exact (Tr.ae h).elim
 · rename_i f n
   split at h
   · rename_i v
     obtain ⟨hv,h⟩:=Tr.aL h
     split at h
     · rename_i k z N sz m full hn
       obtain ⟨hf,h⟩:=Tr.fS h
       rw[xt] at hn
       rw[← Tr.ab h,aJ]
       show Row.F _ _=Row.F _ _
       congr 1
       funext j
       simp only[GA,Gy,gz]
       by_cases e:j<n
       · have hb:Nat.blt j n=true:=by rw[Nat.blt_eq];exact e
         rw[hb,if_pos rfl,decide_eq_true e]
         rw[Fk] at hf
         obtain ⟨z',n',m',e'⟩:=hf j
         rw[e'];rfl
       · have hb:Nat.blt j n=false:=by
          cases hb:Nat.blt j n with
          | false=>rfl
          | true=>rw[Nat.blt_eq] at hb;exact absurd hb e
         rw[hb,if_neg (by simp),decide_eq_false e]
         show (if gr v=true then mG v else .undef)=_
         rw[if_pos (rH hv),hn]
         rfl
     · exact (Tr.ae h).elim
   · exact (Tr.ae h).elim
 · exact (Tr.ae h).elim
def K6 (x:AV):Bool :=
 match x with
 | .slc _ _ _ _ _ _ (some _)=>true
 | _=>false
def KY (s:AV):Bool :=
 match s with
 | .nils | .slc .. | .slcT ..=>true
 | _=>false
def qF (P:Program) (e:TypeId) (n:Nat):Bool :=
 match (cn P e).bind AV.row with
 | some z=>Nat.beq (gL z) n
 | none=>false
theorem sJ {P:Program} {e:TypeId} {n:Nat} (h:qF P e n=true):((cn P e).bind AV.row).map Row.len=some n:=by
 unfold qF at h
 split at h
 · rename_i z hz
   rw[eE] at h
   have h:=Nat.eq_of_beq_eq_true h
   rw[hz,Option.map_some,h]
 · simp at h
def AQ (H:aa) (nx sz m n:Nat) (s:AV) (new:Row):Tr (AV×Delta) :=
 (qV H sz m s).bind fun old=>(Fq old new).bind fun r=>.ok (.slc 0 nx 0 0 sz (aG m n) none,.push (.row (DE r)))
def vV (r:Row) (off n:Nat):Tr Row :=
 match r with
 | .M [.arr k z N]=>.req (fX (aG off n) N) (.ok (.M [.arr k (yN z off) n]))
 | .G l=>cond (Nat.beq (Nat.add off n) (gQ l)) (.ok (.G (gM (kG l off) n))) .bad
 | .F f N=>.req (fX (aG off n) N) (.ok (.F (fun j=>f (aG off j)) n))
 | _=>.bad
theorem Ac {r q:Row} {off n:Nat} (h:(vV r off n).run=some q):off+n=r.len∧r.sub off n=q:=by
 unfold vV at h
 split at h
 · rename_i k z N
   obtain ⟨hc,h⟩:=Tr.aH h
   rw[eK,decide_eq_true_eq,aJ] at hc
   refine ⟨by simp only[Row.len,au,aF];omega,?_⟩
   rw[← Tr.ab h,lR];rfl
 · rename_i l
   obtain ⟨hc,h⟩:=Tr.aL h
   rw[c5] at hc
   have hc:=Nat.eq_of_beq_eq_true hc
   exact ⟨hc,by rw[← Tr.ab h,fD,gi];rfl⟩
 · rename_i f N
   obtain ⟨hc,h⟩:=Tr.aH h
   rw[eK,decide_eq_true_eq,aJ] at hc
   refine ⟨hc,?_⟩
   rw[← Tr.ab h]
   simp only[aJ]
   rfl
 · exact (Tr.ae h).elim
def C6 (P:Program) (nx:Nat) (e:TypeId) (s x:AV):Tr (AV×Delta) :=
 match P.info? e with
 | some inf=>match s with
   | .nils=>match x with
     | .int _ k=>cond (Nat.blt 0 inf.size) (cond (qF P e inf.size) (.req (CW k k inf.bytes) (.ite (dC k (Int.ofNat 0)) (.ok (.nils,.a8)) (.ok (.slc 0 nx 0 0 inf.size (cD k) none,.push (.row (DE (.I .i64 []))))))) .bad) .bad
     | _=>.bad
   | _=>.bad
 | none=>.bad
theorem C7 {P:Program} {nx:Nat} {e:TypeId} {s x:AV} {y:AV×Delta} (h:(C6 P nx e s x).run=some y):C5 P true nx e s x=some y:=by
 unfold C6 at h
 unfold C5
 split at h
 · rename_i inf hi
   rw[hi]
   split at h
   · split at h
     · rename_i kk k
       obtain ⟨hb,h⟩:=Tr.aL h
       obtain ⟨hz,h⟩:=Tr.aL h
       obtain ⟨hm,h⟩:=Tr.aH h
       rw[zI,decide_eq_true_eq] at hm
       dsimp only
       rw[if_pos ⟨hm.1,hm.2.2.2,hm.2.2.1,Av hb,sJ hz⟩]
       rcases Tr.jE h with ⟨hc,h⟩ | ⟨hc,h⟩
       · rw[bh,beq_iff_eq] at hc
         rw[if_pos (show k=0 from hc),Tr.ab h]
       · rw[bh,beq_eq_false_iff_ne] at hc
         rw[if_neg (show ¬ k=0 from hc),← Tr.ab h,u9,np]
     · exact (Tr.ae h).elim
   · exact (Tr.ae h).elim
 · exact (Tr.ae h).elim
def nB (P:Program) (H:aa) (nx:Nat) (t u:TypeId) (s x:AV):Tr (AV×Delta) :=
 match P.underlying t with
 | some (.slice e)=>match P.underlying u with
   | some (.slice _)=>match P.info? e with
     | some inf=>match mU s with
       | some m=>match mU x with
         | some n=>cond (KY s) (match K6 x,n with
           | true,0=>.ok (s,.a8)
           | true,_=>main P H nx e inf s x m n
           | false,_=>.ite (fX n 0) (.ok (s,.a8)) (main P H nx e inf s x m n)) .bad
         | none=>.bad
       | none=>.bad
     | none=>.bad
   | some (.int _)=>C6 P nx e s x
   | _=>.bad
 | _=>.bad
where
 main (P : Program) (H:aa) (nx:Nat) (e:TypeId) (inf:TypeInfo) (s x:AV) (m n:Nat):Tr (AV×Delta) :=
  .req (ou m n inf.bytes) (cond (Nat.blt 0 inf.bytes) (cond (qF P e inf.size) ((qV H inf.size n x).bind fun new =>
   match s with
   | .nils=>.ok (.slc 0 nx 0 0 inf.size n none,.push (.row (DE new)))
   | .slcT _ _ _ _ full=>.req full (AQ H nx inf.size m n s new)
   | .slc d i v off sz _ (some c)=>.ite (cW c (aG m n)) (AQ H nx inf.size m n s new)
     (cond (eM H d) .bad ((vN H d i v (some 0)).bind fun r=>cond (Nat.beq sz inf.size) (match r with
       | .M l=>match kD (iP d new) with
         | []=>.bad
         | y::ys=>(xT (aG off (ff m sz)) (some 0) (y::ys) 0 l).bind fun l'=>.ok (.slc d i v off sz (aG m n) (some c),.set d i (v,.row (.M l')))
       | _=>.bad) .bad))
   | .slc d i v off sz _ none=>cond (eM H d) .bad ((vN H d i v (some 0)).bind fun r=>cond (Nat.beq sz inf.size)
     ((vV r off (ff m sz)).bind fun old=>(Fq old (iP d new)).bind fun r'=>.ok (.slc d i (Nat.succ v) 0 sz (aG m n) none,.set d i (Nat.succ v,.row r'))) .bad)
   | _=>.bad) .bad) .bad)
theorem qW {H:aa} {sz n:Nat} {x:AV} {q:Row} (h:dO H sz n x=some q):q.len=n*sz:=by
 unfold dO at h
 split at h
 · split at h
   · rename_i hn
     simp only[Option.some.injEq] at h
     rw[← h,hn];simp[Row.len]
   · simp at h
 · split at h
   · split at h
     · rename_i hf
       simp only[Option.some.injEq] at h
       rw[← h,oC,Row.dg _ _ _ hf.2.2]
     · simp at h
   · simp at h
 · split at h
   · rename_i hf
     simp only[Option.some.injEq] at h
     rw[← h]
     split
     · exact Row.dg _ _ _ (by omega)
     · rw[oC,Row.dg _ _ _ (by omega)]
   · simp at h
 · simp at h
theorem wO {H:aa} {nx sz m n:Nat} {s:AV} {new:Row} {y:AV×Delta} (h:(AQ H nx sz m n s new).run=some y):∃ old,dO H sz m s=some old∧y=(.slc 0 nx 0 0 sz (m+n) none,.push (.row (qf true (old.app new)))):=by
 unfold AQ at h
 obtain ⟨old,h1,h⟩:=Tr.bind_some h
 obtain ⟨r,h2,h⟩:=Tr.bind_some h
 refine ⟨old,oN h1,?_⟩
 rw[← Tr.ab h,aJ,u9,Aq h2]
theorem yS         {P : Program} {H:aa} {nx:Nat} {t u:TypeId} {s x:AV} {y:AV×Delta} (h:(nB P H nx t u s x).run=some y):nC P true H nx t u s x=some y:=by
 unfold nB at h
 unfold nC
 split at h
 · rename_i e ht
   split at h
   · rename_i e' hu
     split at h
     · rename_i inf hi
       split at h
       · rename_i m hm
         split at h
         · rename_i n hn
           obtain ⟨hsl,h⟩:=Tr.aL h
           rw[ht,hu]
           dsimp only
           rw[hi,hm,hn]
           dsimp only
           have hcase:(n=0∧(s,Delta.a8)=y)∨(n≠0∧(nB.main P H nx e inf s x m n).run=some y):=by
            cases hx:K6 x with
            | true =>
              rw[hx] at h
              cases n with
              | zero=>exact .inl ⟨rfl,Tr.ab h⟩
              | succ n=>exact .inr ⟨by omega,h⟩
            | false =>
              rw[hx] at h
              rcases Tr.jE h with ⟨hc,h⟩ | ⟨hc,h⟩
              · rw[eK,decide_eq_true_eq] at hc
                exact .inl ⟨hc,Tr.ab h⟩
              · rw[eK,decide_eq_false_iff_not] at hc
                exact .inr ⟨hc,h⟩
           clear h
           rcases hcase with ⟨h0,h⟩ | ⟨h0,h⟩
           · rw[if_pos h0]
             cases s<;>simp[KY] at hsl<;>exact congrArg some h
           rw[if_neg h0]
           unfold nB.main at h
           obtain ⟨hr,h⟩:=Tr.aH h
           rw[xO,decide_eq_true_eq] at hr
           obtain ⟨hb,h⟩:=Tr.aL h
           obtain ⟨hz,h⟩:=Tr.aL h
           obtain ⟨new,h1,h⟩:=Tr.bind_some h
           have hcv:=oN h1
           rw[if_pos ⟨hr.1,hr.2,Av hb,sJ hz⟩,hcv]
           dsimp only
           split at h
           · rw[← Tr.ab h,u9]
           · rename_i sT r szT F0 full
             obtain ⟨hf,h⟩:=Tr.aH h
             obtain ⟨old,h2,rfl⟩:=wO h
             subst hf
             dsimp only
             rw[h2]
           · rename_i d i v off sz len c _ _ _ _ _
             rcases Tr.jE h with ⟨hc,h⟩ | ⟨hc,h⟩
             · rw[gz,decide_eq_true_eq,aJ] at hc
               obtain ⟨old,h2,rfl⟩:=wO h
               dsimp only
               rw[if_pos hc,h2]
             · rw[gz,decide_eq_false_iff_not,aJ] at hc
               dsimp only
               rw[if_neg hc]
               rw[dA] at h
               obtain ⟨hl,h⟩:=Tr.jv h
               obtain ⟨r,h2,h⟩:=Tr.bind_some h
               obtain ⟨hs,h⟩:=Tr.aL h
               have hs:=Nat.eq_of_beq_eq_true hs
               rw[hl,if_neg (by simp),kz h2]
               dsimp only
               split at h
               · rename_i l _
                 rw[nk] at h
                 have hcl:=qW hcv
                 split at h
                 · exact (Tr.ae h).elim
                 · rename_i y0 ys hy
                   obtain ⟨l',h3,h⟩:=Tr.bind_some h
                   obtain ⟨k1,k2⟩:=ss _ _ _ _ h3
                   rw[aJ,cq,Nat.add_zero] at k1 k2
                   have hlen:=Row.a6 (iP d new)
                   rw[hy,eF,hcl] at hlen
                   have hfit:off+(m+n)*sz≤(Row.M l).len:=by
                    rcases k1 with k1 | k1
                    · simp at k1
                    · rw[hlen,← hs] at k1
                      rw[Nat.add_mul]
                      show _≤au l
                      omega
                   rw[if_pos ⟨hs,hfit⟩,hy,k2,← Tr.ab h,aJ]
               · exact (Tr.ae h).elim
           · rename_i d i v off sz len _ _ _ _ _
             dsimp only
             rw[dA] at h
             obtain ⟨hl,h⟩:=Tr.jv h
             obtain ⟨r,h2,h⟩:=Tr.bind_some h
             obtain ⟨hs,h⟩:=Tr.aL h
             have hs:=Nat.eq_of_beq_eq_true hs
             obtain ⟨old,h3,h⟩:=Tr.bind_some h
             obtain ⟨r',h4,h⟩:=Tr.bind_some h
             obtain ⟨k1,k2⟩:=Ac h3
             rw[cq] at k1 k2
             rw[hl,if_neg (by simp),kz h2]
             dsimp only
             rw[if_pos ⟨hs,k1⟩,k2,Aq h4,← Tr.ab h,aJ]
           · exact (Tr.ae h).elim
         · exact (Tr.ae h).elim
       · exact (Tr.ae h).elim
     · exact (Tr.ae h).elim
   · rename_i k' hu
     rw[ht,hu]
     exact C7 h
   · exact (Tr.ae h).elim
 · exact (Tr.ae h).elim

end
end Go.Eng
end
