/- The engine as a tree: slices, numbers, operations. -/
import Derived.Test.YtgphpjdchnfjlaaDoorV4EngTb
set_option linter.unusedVariables false
set_option linter.unusedSimpArgs false
section
namespace Go.Eng
noncomputable section

theorem Tr.aO {α:Type} {c:Bool} {t:Tr α} {x:α} (h:(cond c t .bad).run=some x):c=true∧t.run=some x:=by
 cases c with
 | true=>exact ⟨rfl,h⟩
 | false=>exact (Tr.af h).elim
def Jh (op:BinOp) (k:IntKind) (x y:Int):Tr AV :=
 match op with
 | .add=>.ok (.int k (bf k x y))
 | .sub=>.ok (.int k (bw k x y))
 | .mul=>.ok (.int k (zE k x y))
 | .quo=>.req (bz (cK y 0)) (.ok (.int k (Cn k x y)))
 | .rem=>.req (bz (cK y 0)) (.ok (.int k (dc k x y)))
 | .and=>.ok (.int k (ny k x y))
 | .or=>.ok (.int k (uq k x y))
 | .xor=>.ok (.int k (Ka k x y))
 | .andNot=>.ok (.int k (CR k x y))
 | .eql=>.ok (.bool (cK x y))
 | .neq=>.ok (.bool (bz (cK x y)))
 | .lss=>.ok (.bool (cY x y))
 | .leq=>.ok (.bool (eh x y))
 | .gtr=>.ok (.bool (cY y x))
 | .geq=>.ok (.bool (eh y x))
 | _=>.bad
theorem F2 {op:BinOp} {k:IntKind} {x y:Int} {v:AV} (h:(Jh op k x y).run=some v):gN op k x y=some v:=by
 unfold Jh at h
 unfold gN
 cases op<;>dsimp only at h ⊢<;>try exact (Tr.af h).elim
 case quo =>
  obtain ⟨hc,h⟩:=Tr.aK h
  rw[aG,aZ] at hc
  have:¬ y=0:=by simpa using hc
  rw[if_neg this,← Tr.ab h,Bf]
 case rem =>
  obtain ⟨hc,h⟩:=Tr.aK h
  rw[aG,aZ] at hc
  have:¬ y=0:=by simpa using hc
  rw[if_neg this,← Tr.ab h,qC]
 all_goals
  have h:=Tr.ab h
  subst h
  first
   | rfl
   | (simp only[gt_iff_lt,ge_iff_le,gl,dG,oo,qn,sa,vV,qR,aZ,aG,b9,bC,bne];done)
   | (simp only[gl,dG,oo,qn,sa,vV,qR,aZ,aG,b9,bC];done)
   | (simp only[gl,dG,oo,qn,sa,vV,qR,aZ,aG,b9,bC];rfl)
def ib:List Int→List Int→Bool
 | [],[]=>true
 | [x],[y]=>cK x y
 | x::x'::a,y::y'::b=>cr (cK x y) (ib (x'::a) (y'::b))
 | _,_=>false
theorem rO:∀ (l m:List Int),ib l m=eJ l m
 | [],[]=>rfl
 | [],_::_=>by simp[ib,eJ]
 | _::_,[]=>by simp[ib,eJ]
 | [x],[y]=>by simp[ib,eJ,aZ]
 | [x],y::y'::b=>by simp[ib,eJ]
 | x::x'::a,[y]=>by simp[ib,eJ]
 | x::x'::a,y::y'::b=>by
   simp only[ib]
   rw[bV,aZ,rO (x'::a) (y'::b)];rfl
def wS (r:Row):Option (IntKind×(Nat→Int)) :=
 match r with
 | .I k l=>some (k,aX l)
 | .M [.arr k z _]=>some (k,z)
 | _=>none
theorem rI (r:Row):wS r=r.ints:=by
 match r with
 | .I k l=>simp only[wS,Row.ints,kx]
 | .G l=>rfl
 | .F f n=>rfl
 | .M []=>rfl
 | .M [.arr k z n]=>rfl
 | .M (.one v::r)=>rfl
 | .M (.arr k z n::s::r)=>rfl
def Kc (P:Program) (t:TypeId) (x y:AV):Tr Bool :=
 match x,y with
 | .bool a,.bool b=>match P.underlying t with
   | some .bool=>.ok (Au a b)
   | _=>.bad
 | .nils,.slcT s r sz n f=>match P.underlying t with
   | some (.slice _)=>.req (cI 0 n) (.ok false)
   | _=>.bad
 | .slcT s r sz n f,.nils=>match P.underlying t with
   | some (.slice _)=>.req (cI 0 n) (.ok false)
   | _=>.bad
 | .agg (.I k a),.agg (.I k' b)=>cond (gy k k') (match bU P 20 t with
   | some n=>match eN P t with
     | some true=>cond (Nat.beq n (ia a)) (cond (Nat.beq (ia a) (ia b)) (.ok (ib a b)) .bad) .bad
     | _=>.bad
   | none=>.bad) .bad
 | .agg (.M l),.agg s=>eqMT P t (.M l) s
 | .agg (.I k a),.agg (.M l)=>eqMT P t (.I k a) (.M l)
 | x,y=>uo (yN P t x y)
where
 eqMT (P:Program) (t:TypeId) (r s:Row):Tr Bool :=
  match wS r,wS s with
  | some (k,z),some (k',z')=>cond (gy k k') (match bU P 20 t with
    | some n=>match eN P t with
      | some true=>cond (Nat.beq n (gT r)) (cond (Nat.beq (gT r) (gT s)) (.ok (qQ z z' (gT r))) .bad) .bad
      | _=>.bad
    | none=>.bad) .bad
  | _,_=>.bad
theorem Av {P:Program} {t:TypeId} {r s:Row} {b:Bool} (h:(Kc.eqMT P t r s).run=some b):Kb P t r s=some b:=by
 unfold Kc.eqMT at h
 rw[rI,rI] at h
 unfold Kb
 split at h
 · rename_i k z k' z' h1 h2
   rw[h1,h2]
   obtain ⟨hk,h⟩:=Tr.aO h
   rw[eQ,decide_eq_true_eq] at hk
   split at h
   · rename_i n hn
     split at h
     · rename_i ha
       obtain ⟨e1,h⟩:=Tr.aO h
       obtain ⟨e2,h⟩:=Tr.aO h
       rw[eT] at e1 e2 h
       rw[eT] at e2
       have e1:n=r.len:=by simpa using e1
       have e2:r.len=s.len:=by simpa using e2
       dsimp only
       rw[if_pos ⟨hk,by rw[hn,e1],ha,e2⟩,← Tr.ab h,tx]
     · exact (Tr.af h).elim
   · exact (Tr.af h).elim
 · exact (Tr.af h).elim
theorem Dv {P:Program} {t:TypeId} {x y:AV} {b:Bool} (h:(Kc P t x y).run=some b):yN P t x y=some b:=by
 unfold Kc at h
 split at h
 · split at h
   · rename_i hu
     unfold yN
     dsimp only
     rw[hu,← Tr.ab h,Du]
   · exact (Tr.af h).elim
 · split at h
   · rename_i hu
     obtain ⟨hc,h⟩:=Tr.aK h
     rw[gO,decide_eq_true_eq] at hc
     unfold yN
     dsimp only
     rw[hu]
     dsimp only
     rw[if_pos hc,Tr.ab h]
   · exact (Tr.af h).elim
 · split at h
   · rename_i hu
     obtain ⟨hc,h⟩:=Tr.aK h
     rw[gO,decide_eq_true_eq] at hc
     unfold yN
     dsimp only
     rw[hu]
     dsimp only
     rw[if_pos hc,Tr.ab h]
   · exact (Tr.af h).elim
 · obtain ⟨hk,h⟩:=Tr.aO h
   rw[eQ,decide_eq_true_eq] at hk
   split at h
   · rename_i n hn
     split at h
     · rename_i ha
       obtain ⟨e1,h⟩:=Tr.aO h
       obtain ⟨e2,h⟩:=Tr.aO h
       rw[db] at e1 e2
       rw[db] at e2
       have e1:=Nat.eq_of_beq_eq_true e1
       have e2:=Nat.eq_of_beq_eq_true e2
       unfold yN
       dsimp only
       rw[if_pos ⟨hk,by rw[hn,e1],ha,e2⟩,← Tr.ab h,rO]
     · exact (Tr.af h).elim
   · exact (Tr.af h).elim
 · unfold yN;exact Av h
 · unfold yN;exact Av h
 · rw[cJ] at h;exact h
def CZ (P:Program) (op:BinOp) (t:TypeId) (x y:AV):Tr AV :=
 match x,y with
 | .int k a,.int k' b=>match op with
   | .shl=>.req (eh 0 b) (.ok (.int k (eG k a b)))
   | .shr=>.req (eh 0 b) (.ok (.int k (JT k a b)))
   | op=>cond (gy k k') (Jh op k a b) .bad
 | x,y=>match op with
   | .eql=>(Kc P t x y).bind fun b=>.ok (.bool b)
   | .neq=>(Kc P t x y).bind fun b=>.ok (.bool (bz b))
   | _=>.bad
theorem Fz {P:Program} {op:BinOp} {t:TypeId} {x y v:AV} (h:(CZ P op t x y).run=some v):jC P op t x y=some v:=by
 unfold CZ at h
 split at h
 · rename_i k a k' b
   split at h
   · obtain ⟨hc,h⟩:=Tr.aK h
     rw[bC,decide_eq_true_eq] at hc
     unfold jC
     dsimp only
     rw[if_neg (by omega),← Tr.ab h,vQ]
   · obtain ⟨hc,h⟩:=Tr.aK h
     rw[bC,decide_eq_true_eq] at hc
     unfold jC
     dsimp only
     rw[if_neg (by omega),← Tr.ab h,GQ]
   · rename_i h1 h2
     obtain ⟨hk,h⟩:=Tr.aO h
     rw[eQ,decide_eq_true_eq] at hk
     have:jC P op t (.int k a) (.int k' b)=if k=k' then gN op k a b else none:=by
      unfold jC
      cases op<;>first | rfl | exact (h1 rfl).elim | exact (h2 rfl).elim
     rw[this,if_pos hk]
     exact F2 h
 · rename_i hn
   split at h
   · obtain ⟨b,h1,h⟩:=Tr.bind_some h
     have h2:=Dv h1
     have:jC P .eql t x y=(yN P t x y).map .bool:=by
      unfold jC
      cases x<;>cases y<;>first | rfl | exact (hn _ _ _ _ rfl rfl).elim
     rw[this,h2,← Tr.ab h];rfl
   · obtain ⟨b,h1,h⟩:=Tr.bind_some h
     have h2:=Dv h1
     have:jC P .neq t x y=(yN P t x y).map fun b=>.bool (!b):=by
      unfold jC
      cases x<;>cases y<;>first | rfl | exact (hn _ _ _ _ rfl rfl).elim
     rw[this,h2,← Tr.ab h,aG];rfl
   · exact (Tr.af h).elim
def Pv (op:UnOp) (x:AV):Tr AV :=
 match op,x with
 | .not,.bool b=>.ok (.bool (bz b))
 | .neg,.int k n=>.ok (.int k (D7 k n))
 | _,_=>.bad
theorem J6 {op:UnOp} {x v:AV} (h:(Pv op x).run=some v):Mi op x=some v:=by
 unfold Pv at h
 split at h
 · rw[← Tr.ab h,aG];rfl
 · rw[← Tr.ab h,A1];rfl
 · exact (Tr.af h).elim
def om (mx:Bool) (k:IntKind) (x:Int):List AV→Tr AV
 | []=>.ok (.int k x)
 | v::r=>match v with
   | .int k' y=>cond (gy k k') (om mx k (cond mx (Ce x y) (Cf x y)) r) .bad
   | _=>.bad
theorem m7 {mx:Bool} {k:IntKind}:∀ (l:List AV) (x:Int) (v:AV),(om mx k x l).run=some v→ed mx k x l=some v
 | [],x,v,h=>by rw[← Tr.ab h];rfl
 | u :: r,x,v,h=>by
   simp only[om] at h
   split at h
   · rename_i k' y
     obtain ⟨hk,h⟩:=Tr.aO h
     rw[eQ,decide_eq_true_eq] at hk
     simp only[ed]
     rw[if_pos hk,← m7 r _ v h,vp,vq]
     cases mx<;>rfl
   · exact (Tr.af h).elim

def fw (a sz:Nat):Nat :=
 match sz with
 | 1=>a
 | s=>aw a s
theorem ct (a sz:Nat):fw a sz=a*sz:=by
 unfold fw
 split
 · rw[Nat.mul_one]
 · rw[qw]
abbrev PB:=Option Nat×Nat×Option Nat
def lY (lo hi mx:Option AV) (len:Nat):Tr PB :=
 match mx with
 | none=>(match hi with
    | none=>.ok len
    | some (.int _ i)=>.req (mK i len) (.ok (b8 i))
    | some _=>.bad:Tr Nat).bind fun h=>(match lo with
    | none=>.ok (none,h,none)
    | some (.int _ i)=>.req (mK i h) (.ok (some (b8 i),h,none))
    | some _=>.bad)
 | some (.int _ m)=>.req (mK m len) (match hi with
    | some (.int _ i)=>.req (mK i (b8 m)) (match lo with
      | none=>.ok (none,b8 i,some (b8 m))
      | some (.int _ j)=>.req (mK j (b8 i)) (.ok (some (b8 j),b8 i,some (b8 m)))
      | some _=>.bad)
    | _=>.bad)
 | some _=>.bad
def AS (l:Option Nat):Nat :=
 match l with
 | none=>0
 | some l=>l
theorem gu {i:Int} {k:IntKind} {d top:Nat} (h:mK i top=true):bound (some (.int k i)) d top=some (b8 i):=by
 rw[Am,decide_eq_true_eq] at h
 simp only[bound]
 rw[if_pos h,lW]
theorem j8 {lo hi mx:Option AV} {len:Nat} {b:PB} (h:(lY lo hi mx len).run=some b):dQ lo hi mx len=some (AS b.1,b.2.1,b.2.2):=by
 unfold lY at h
 unfold dQ
 split at h
 · obtain ⟨h',h1,h⟩:=Tr.bind_some h
   have e1:bound hi len len=some h':=by
    split at h1
    · rw[← Tr.ab h1];rfl
    · obtain ⟨hc,h1⟩:=Tr.aK h1
      rw[gu hc,Tr.ab h1]
    · exact (Tr.af h1).elim
   dsimp only
   rw[e1]
   dsimp only
   split at h
   · rw[← Tr.ab h];rfl
   · obtain ⟨hc,h⟩:=Tr.aK h
     rw[gu hc,← Tr.ab h];rfl
   · exact (Tr.af h).elim
 · rename_i k m
   obtain ⟨hm,h⟩:=Tr.aK h
   dsimp only
   rw[gu hm]
   dsimp only
   split at h
   · rename_i k' i
     obtain ⟨hi,h⟩:=Tr.aK h
     simp only[Option.isSome_some,if_true]
     rw[gu hi]
     dsimp only
     split at h
     · rw[← Tr.ab h];rfl
     · obtain ⟨hc,h⟩:=Tr.aK h
       rw[gu hc,← Tr.ab h];rfl
     · exact (Tr.af h).elim
   · exact (Tr.af h).elim
 · exact (Tr.af h).elim
def vR (a:Nat) (l:Option Nat):Nat :=
 match l with
 | none=>a
 | some l=>ff a l
theorem mh (a:Nat) (l:Option Nat):vR a l=a-AS l:=by
 cases l with
 | none=>rfl
 | some l=>exact dT a l
def CP (off:Nat) (l:Option Nat) (sz:Nat):Nat :=
 match l with
 | none=>off
 | some l=>aF off (fw l sz)
theorem Ag (off:Nat) (l:Option Nat) (sz:Nat):CP off l sz=off+AS l*sz:=by
 cases l with
 | none=>simp[CP,AS]
 | some l=>simp only[CP,AS,a6,ct]
def Bn (r:Row) (l:Option Nat) (sz n:Nat):Tr Row :=
 match r with
 | .M [.arr k z N]=>.req (iV (aF (fw (AS l) sz) n) N) (.ok (.M [.arr k (match l with | none=>z | some l=>xU z (fw l sz)) n]))
 | .F f N=>.req (iV (aF (fw (AS l) sz) n) N) (.ok (.F (match l with | none=>f | some l=>fun j=>f (aF (fw l sz) j)) n))
 | _=>.bad
theorem xZ {r q:Row} {l:Option Nat} {sz n:Nat} (h:(Bn r l sz n).run=some q):AS l*sz+n≤r.len∧r.sub (AS l*sz) n=q:=by
 unfold Bn at h
 split at h
 · rename_i k z N
   obtain ⟨hc,h⟩:=Tr.aK h
   rw[kr,decide_eq_true_eq,a6,ct] at hc
   refine ⟨by simp only[Row.len,av,aH];omega,?_⟩
   rw[← Tr.ab h]
   cases l with
   | none=>simp only[Row.sub,AS,Nat.zero_mul,Nat.zero_add]
   | some l=>simp only[Row.sub,AS,lU,ct]
 · rename_i f N
   obtain ⟨hc,h⟩:=Tr.aK h
   rw[kr,decide_eq_true_eq,a6,ct] at hc
   refine ⟨by simp only[Row.len];omega,?_⟩
   rw[← Tr.ab h]
   cases l with
   | none=>simp only[Row.sub,AS,Nat.zero_mul,Nat.zero_add]
   | some l=>simp only[Row.sub,AS,a6,ct]
 · exact (Tr.af h).elim
def M9 (o:Option AV):Bool :=
 match o with
 | none=>true
 | some _=>false
def DD (mm:Option Nat) (full hiN:Bool) (h len:Nat):Bool :=
 match mm with
 | none=>cond hiN full (cr full (eO h len))
 | some m=>eO h m
def zT (P:Program) (t:TypeId) (x:AV) (lo hi mx:Option AV):Tr AV :=
 match P.underlying t with
 | some (.slice e)=>match bn P e with
   | some z=>match x with
     | .slc d j v off sz len cap=>cond (Nat.beq z sz) ((lY lo hi mx len).bind fun b=>.ok (.slc d j v (CP off b.1 sz) sz (vR b.2.1 b.1) (match b.2.2 with
       | none=>match cap with | none=>none | some c=>some (vR c b.1)
       | some m=>some (vR m b.1)))) .bad
     | .slcT s r sz len full=>cond (Nat.beq z sz) ((lY lo hi mx len).bind fun b=>(Bn r b.1 sz (fw (vR b.2.1 b.1) sz)).bind fun q=>.ok (.slcT s q sz (vR b.2.1 b.1) (DD b.2.2 full (M9 hi) b.2.1 len))) .bad
     | .nils=>(lY lo hi mx 0).bind fun _=>.ok .nils
     | _=>.bad
   | none=>.bad
 | some (.array n e)=>match bn P e with
   | some sz=>match x with
     | .ptr d j v off=>(lY lo hi mx n).bind fun b=>.ok (.slc d j v (CP off b.1 sz) sz (vR b.2.1 b.1) (match b.2.2 with
       | none=>some (vR n b.1)
       | some m=>some (vR m b.1)))
     | _=>.bad
   | none=>.bad
 | _=>.bad
theorem CA {P:Program} {t:TypeId} {x v:AV} {lo hi mx:Option AV} (h:(zT P t x lo hi mx).run=some v):pD P t x lo hi mx=some v:=by
 unfold zT at h
 unfold pD
 split at h
 · rename_i e hu
   split at h
   · rename_i z hs
     split at h
     · rename_i d j ver off sz len cap
       obtain ⟨hz,h⟩:=Tr.aO h
       have hz:z=sz:=by simpa using hz
       subst hz
       obtain ⟨b,h1,h⟩:=Tr.bind_some h
       rw[hu]
       dsimp only
       rw[j8 h1]
       dsimp only
       rw[if_pos hs,← Tr.ab h,Ag,mh]
       obtain ⟨b1,b2,b3⟩:=b
       cases b3<;>cases cap<;>simp only[mh,Option.map_some,Option.map_none]
     · rename_i s r sz len full
       obtain ⟨hz,h⟩:=Tr.aO h
       have hz:z=sz:=by simpa using hz
       subst hz
       obtain ⟨b,h1,h⟩:=Tr.bind_some h
       obtain ⟨q,h2,h⟩:=Tr.bind_some h
       rw[hu]
       dsimp only
       have hb:=j8 h1
       rw[hb]
       dsimp only
       obtain ⟨k1,k2⟩:=xZ h2
       rw[ct,mh] at k1 k2
       rw[if_pos ⟨hs,k1⟩,k2,← Tr.ab h,mh]
       congr 2
       obtain ⟨b1,b2,b3⟩:=b
       dsimp only at hb ⊢
       cases b3 with
       | some m=>simp only[DD,fC];rw[Bool.eq_iff_iff];simp
       | none =>
         simp only[DD]
         cases hi with
         | some a =>
           simp only[M9,cond_false,bV,fC]
           congr 1
           rw[Bool.eq_iff_iff];simp
         | none =>
           simp only[M9,cond_true]
           have:b2=len:=by
            unfold dQ at hb
            cases mx with
            | none =>
              dsimp only[bound] at hb
              split at hb
              · simp only[nP] at hb;exact hb.2.1.symm
              · simp at hb
            | some a =>
              dsimp only at hb
              split at hb
              · simp at hb
              · simp at hb
           rw[this];simp
     · obtain ⟨b,h1,h⟩:=Tr.bind_some h
       rw[hu]
       dsimp only
       rw[j8 h1,hs,← Tr.ab h]
     · exact (Tr.af h).elim
   · exact (Tr.af h).elim
 · rename_i n e hu
   split at h
   · rename_i sz hs
     split at h
     · rename_i d j ver off
       obtain ⟨b,h1,h⟩:=Tr.bind_some h
       rw[hu]
       dsimp only
       rw[j8 h1]
       dsimp only
       rw[hs,← Tr.ab h,Ag,mh]
       obtain ⟨b1,b2,b3⟩:=b
       cases b3<;>simp only[mh]
     · exact (Tr.af h).elim
   · exact (Tr.af h).elim
 · exact (Tr.af h).elim

def q8 (H:aa) (sz n:Nat) (x:AV):Tr Row :=
 match x with
 | .slc d i v off sz' len cap=>(vK H d i v (some 0)).bind fun r=>cond (Nat.beq sz' sz) (.req (iV n len) (match r with
    | .M [.arr k z N]=>.req (mS off (fw n sz) 0 N) (.ok (.M [.arr k (xU z off) (fw n sz)]))
    | .I k l=>cond (s4 (.I k l) off (Nat.mul n sz)) (.ok (zZ d (Row.I k (gU (kR l off) (Nat.mul n sz))))) .bad
    | .G l=>cond (s4 (.G l) off (Nat.mul n sz)) (.ok (zZ d (Row.G (gU (kR l off) (Nat.mul n sz))))) .bad
    | .F f N=>.req (mS off (fw n sz) 0 N) (.ok (.F (fun j=>f (aF off j)) (fw n sz)))
    | _=>.bad)) .bad
 | .slcT s r sz' len _=>cond (Nat.beq sz' sz) (.req (iV n len) ((Bn r none sz (fw n sz)).bind fun q=>.ok (match s with | none=>q | some k=>zZ k q))) .bad
 | _=>.bad
theorem Ml (d:Nat) (k:IntKind) (z:Nat→Int) (n:Nat):zZ d (.M [.arr k z n])=.M [.arr k z n]:=by cases d<;>rfl
theorem Mk (d:Nat) (f:Nat→AV) (n:Nat):zZ d (.F f n)=.F f n:=by cases d<;>rfl
theorem oR {H:aa} {sz n:Nat} {x:AV} {q:Row} (h:(q8 H sz n x).run=some q):dW H sz n x=some q:=by
 unfold q8 at h
 split at h
 · rename_i d i v off sz' len cap
   obtain ⟨r,h1,h⟩:=Tr.bind_some h
   obtain ⟨hz,h⟩:=Tr.aO h
   have hz:sz'=sz:=by simpa using hz
   obtain ⟨hc,h⟩:=Tr.aK h
   rw[kr,decide_eq_true_eq] at hc
   unfold dW
   dsimp only
   rw[kH h1]
   dsimp only
   split at h
   · rename_i k z N
     obtain ⟨hc2,h⟩:=Tr.aK h
     rw[jo,decide_eq_true_eq,ct] at hc2
     rw[if_pos ⟨hz,hc,by simp only[Row.len,av,aH];omega⟩,← Tr.ab h]
     simp only[Row.sub,Ml,lU,ct]
   · rename_i k l
     obtain ⟨hc2,h⟩:=Tr.aO h
     rw[kg,decide_eq_true_eq] at hc2
     rw[if_pos ⟨hz,hc,hc2⟩,← Tr.ab h,fS,gw]
     rfl
   · rename_i l
     obtain ⟨hc2,h⟩:=Tr.aO h
     rw[kg,decide_eq_true_eq] at hc2
     rw[if_pos ⟨hz,hc,hc2⟩,← Tr.ab h,fS,gw]
     rfl
   · rename_i f N
     obtain ⟨hc2,h⟩:=Tr.aK h
     rw[jo,decide_eq_true_eq,ct] at hc2
     rw[if_pos ⟨hz,hc,by simp only[Row.len];omega⟩,← Tr.ab h]
     simp only[Row.sub,Mk,a6,ct]
   · exact (Tr.af h).elim
 · rename_i s r sz' len full
   obtain ⟨hz,h⟩:=Tr.aO h
   have hz:sz'=sz:=by simpa using hz
   obtain ⟨hc,h⟩:=Tr.aK h
   rw[kr,decide_eq_true_eq] at hc
   obtain ⟨q',h1,h⟩:=Tr.bind_some h
   obtain ⟨k1,k2⟩:=xZ h1
   rw[ct] at k1 k2
   simp only[AS,Nat.zero_mul,Nat.zero_add] at k1 k2
   unfold dW
   dsimp only
   rw[if_pos ⟨hz,hc,k1⟩,← Tr.ab h,k2]
   cases s<;>rfl
 · exact (Tr.af h).elim

end
end Go.Eng
end
section
namespace Go.Eng
noncomputable section

theorem Tr.jE {α:Type} {c:Bool} {t:Tr α} {x:α} (h:(cond c .bad t).run=some x):c=false∧t.run=some x:=by
 cases c with
 | false=>exact ⟨rfl,h⟩
 | true=>exact (Tr.af h).elim

def xm:AV→AV
 | .slcT none (.I k l) sz m _=>.slcT none (.M [.arr k (aX l) (ia l)]) sz m false
 | .slcT none (.M [.arr k z n]) sz m _=>.slcT none (.M [.arr k z n]) sz m false
 | v=>v
theorem xn (v:AV):xm v=mE v:=by
 unfold xm mE
 split
 · simp only[kx,db]
 · rfl
 · rename_i h1 h2
   split
   · exact absurd rfl (h1 _ _ _ _ _)
   · exact absurd rfl (h2 _ _ _ _ _ _)
   · rfl
def Dx (r:Row):Row :=
 match r with
 | .I k l=>.M [.arr k (aX l) (ia l)]
 | .G [v]=>cond (pU v) (.F (fun _=>xm v) 1) (.G [v])
 | r=>r
theorem uY (r:Row):Dx r=qh true r:=by
 cases r with
 | I k l=>simp only[Dx,qh,if_true,kx,db]
 | F f n=>rfl
 | M l=>rfl
 | G l =>
   match l with
   | []=>rfl
   | [v] =>
     show cond (pU v) (Row.F (fun _=>xm v) 1) (Row.G [v])=if (true && pU v)=true then Row.F (fun _=>mE v) 1 else Row.G [v]
     rw[xn]
     cases pU v<;>rfl
   | a::b::r=>rfl
def TP:AV→Nat→Int
 | .slcT _ (.M [.arr _ z _]) _ _ _=>z
 | _=>fun _=>0
def S2:AV→Nat
 | .slcT _ (.M [.arr _ _ n]) _ _ _=>n
 | _=>0
def S0:AV→Nat
 | .slcT _ _ _ m _=>m
 | _=>0
def Ft (r s:Row):Tr Row :=
 match r with
 | .M [.arr k z n]=>match wS s with
   | some (k',z')=>cond (gy k' k) (.ok (.M [.arr k (qe z n z') (aF n (gT s))])) .bad
   | none=>.bad
 | .I k l=>match s with
   | .I k' l'=>cond (gy k' k) (.ok (.I k (mn l l'))) .bad
   | .M [.arr k' z' n']=>cond (gy k' k) (.ok (.M [.arr k (qe (aX l) (ia l) z') (aF (ia l) n')])) .bad
   | _=>.bad
 | .G l=>match s with
   | .G l'=>.ok (.G (mn l l'))
   | _=>.bad
 | .F f n=>match s with
   | .G [v]=>cond (pU v) (match xm v with
     | .slcT none (.M [.arr k z N]) sz m full=>.reqP (IC f k sz full)
       (.ok (.F (fun j=>.slcT none (.M [.arr k (JP (cI j n) (TP (f j)) z) (GI (cI j n) (S2 (f j)) N)]) sz (GI (cI j n) (S0 (f j)) m) full) (aF n 1)))
     | _=>.bad) .bad
   | _=>.bad
 | _=>.bad
theorem Ai {r s q:Row} (h:(Ft r s).run=some q):r.app s=q:=by
 unfold Ft at h
 split at h
 · rename_i k z n
   rw[rI] at h
   split at h
   · rename_i k' z' hi
     obtain ⟨hk,h⟩:=Tr.aO h
     rw[eQ,decide_eq_true_eq] at hk
     have e:Row.app (.M [.arr k z n]) s=(match (Row.M [.arr k z n]).sU s with | some q=>q | none=>.G ((Row.M [.arr k z n]).toList++s.toList)):=by
      cases s<;>rfl
     rw[e]
     unfold Row.sU
     rw[hi]
     dsimp only[Row.ints]
     rw[if_pos hk,← Tr.ab h,nB,a6,eT]
     rfl
   · exact (Tr.af h).elim
 · rename_i k l
   split at h
   · rename_i k' l'
     obtain ⟨hk,h⟩:=Tr.aO h
     rw[eQ,decide_eq_true_eq] at hk
     simp only[Row.app]
     rw[if_pos hk,← Tr.ab h,j6]
   · rename_i k' z' n'
     obtain ⟨hk,h⟩:=Tr.aO h
     rw[eQ,decide_eq_true_eq] at hk
     simp only[Row.app]
     unfold Row.sU
     dsimp only[Row.ints]
     rw[if_pos hk,← Tr.ab h,nB,a6,db,kx]
     rfl
   · exact (Tr.af h).elim
 · split at h
   · rw[← Tr.ab h,j6];rfl
   · exact (Tr.af h).elim
 · rename_i f n
   split at h
   · rename_i v
     obtain ⟨hv,h⟩:=Tr.aO h
     split at h
     · rename_i k z N sz m full hn
       obtain ⟨hf,h⟩:=Tr.fp h
       rw[xn] at hn
       rw[← Tr.ab h,a6]
       show Row.F _ _=Row.F _ _
       congr 1
       funext j
       simp only[GL,GJ,gO]
       by_cases e:j<n
       · have hb:Nat.blt j n=true:=by rw[Nat.blt_eq];exact e
         rw[hb,if_pos rfl,decide_eq_true e]
         rw[Fo] at hf
         obtain ⟨z',n',m',e'⟩:=hf j
         rw[e'];rfl
       · have hb:Nat.blt j n=false:=by
          cases hb:Nat.blt j n with
          | false=>rfl
          | true=>rw[Nat.blt_eq] at hb;exact absurd hb e
         rw[hb,if_neg (by simp),decide_eq_false e]
         show (if gE v=true then mE v else .undef)=_
         rw[if_pos (rJ hv),hn]
         rfl
     · exact (Tr.af h).elim
   · exact (Tr.af h).elim
 · exact (Tr.af h).elim
def Ll (x:AV):Bool :=
 match x with
 | .slc _ _ _ _ _ _ (some _)=>true
 | _=>false
def Lc (s:AV):Bool :=
 match s with
 | .nils | .slc .. | .slcT ..=>true
 | _=>false
def qK (P:Program) (e:TypeId) (n:Nat):Bool :=
 match (cq P e).bind AV.row with
 | some z=>Nat.beq (gT z) n
 | none=>false
theorem sI {P:Program} {e:TypeId} {n:Nat} (h:qK P e n=true):((cq P e).bind AV.row).map Row.len=some n:=by
 unfold qK at h
 split at h
 · rename_i z hz
   rw[eT] at h
   have h:=Nat.eq_of_beq_eq_true h
   rw[hz,Option.map_some,h]
 · simp at h
def AG (H:aa) (nx sz m n:Nat) (s:AV) (new:Row):Tr (AV×Delta) :=
 (q8 H sz m s).bind fun old=>(Ft old new).bind fun r=>.ok (.slc 0 nx 0 0 sz (aF m n) none,.push (.row (Dx r)))
def vS (r:Row) (off n:Nat):Tr Row :=
 match r with
 | .M [.arr k z N]=>.req (eO (aF off n) N) (.ok (.M [.arr k (xU z off) n]))
 | .G l=>cond (Nat.beq (Nat.add off n) (ia l)) (.ok (.G (gU (kR l off) n))) .bad
 | .F f N=>.req (eO (aF off n) N) (.ok (.F (fun j=>f (aF off j)) n))
 | _=>.bad
theorem zW {r q:Row} {off n:Nat} (h:(vS r off n).run=some q):off+n=r.len∧r.sub off n=q:=by
 unfold vS at h
 split at h
 · rename_i k z N
   obtain ⟨hc,h⟩:=Tr.aK h
   rw[fC,decide_eq_true_eq,a6] at hc
   refine ⟨by simp only[Row.len,av,aH];omega,?_⟩
   rw[← Tr.ab h,lU];rfl
 · rename_i l
   obtain ⟨hc,h⟩:=Tr.aO h
   rw[db] at hc
   have hc:=Nat.eq_of_beq_eq_true hc
   exact ⟨hc,by rw[← Tr.ab h,fS,gw];rfl⟩
 · rename_i f N
   obtain ⟨hc,h⟩:=Tr.aK h
   rw[fC,decide_eq_true_eq,a6] at hc
   refine ⟨hc,?_⟩
   rw[← Tr.ab h]
   simp only[a6]
   rfl
 · exact (Tr.af h).elim
def CU (P:Program) (nx:Nat) (e:TypeId) (s x:AV):Tr (AV×Delta) :=
 match P.info? e with
 | some inf=>match s with
   | .nils=>match x with
     | .int _ k=>cond (Nat.blt 0 inf.size) (cond (qK P e inf.size) (.req (CN k k inf.bytes) (.ite (cK k (Int.ofNat 0)) (.ok (.nils,.bk)) (.ok (.slc 0 nx 0 0 inf.size (b8 k) none,.push (.row (Dx (.I .i64 []))))))) .bad) .bad
     | _=>.bad
   | _=>.bad
 | none=>.bad
theorem CV {P:Program} {nx:Nat} {e:TypeId} {s x:AV} {y:AV×Delta} (h:(CU P nx e s x).run=some y):CT P true nx e s x=some y:=by
 unfold CU at h
 unfold CT
 split at h
 · rename_i inf hi
   rw[hi]
   split at h
   · split at h
     · rename_i kk k
       obtain ⟨hb,h⟩:=Tr.aO h
       obtain ⟨hz,h⟩:=Tr.aO h
       obtain ⟨hm,h⟩:=Tr.aK h
       rw[zC,decide_eq_true_eq] at hm
       dsimp only
       rw[if_pos ⟨hm.1,hm.2.2.2,hm.2.2.1,Al hb,sI hz⟩]
       rcases Tr.fL h with ⟨hc,h⟩ | ⟨hc,h⟩
       · rw[aZ,beq_iff_eq] at hc
         rw[if_pos (show k=0 from hc),Tr.ab h]
       · rw[aZ,beq_eq_false_iff_ne] at hc
         rw[if_neg (show ¬ k=0 from hc),← Tr.ab h,uY,lW]
     · exact (Tr.af h).elim
   · exact (Tr.af h).elim
 · exact (Tr.af h).elim
def nC (P:Program) (H:aa) (nx:Nat) (t u:TypeId) (s x:AV):Tr (AV×Delta) :=
 match P.underlying t with
 | some (.slice e)=>match P.underlying u with
   | some (.slice _)=>match P.info? e with
     | some inf=>match mU s with
       | some m=>match mU x with
         | some n=>cond (Lc s) (match Ll x,n with
           | true,0=>.ok (s,.bk)
           | true,_=>main P H nx e inf s x m n
           | false,_=>.ite (eO n 0) (.ok (s,.bk)) (main P H nx e inf s x m n)) .bad
         | none=>.bad
       | none=>.bad
     | none=>.bad
   | some (.int _)=>CU P nx e s x
   | _=>.bad
 | _=>.bad
where
 main (P : Program) (H:aa) (nx:Nat) (e:TypeId) (inf:TypeInfo) (s x:AV) (m n:Nat):Tr (AV×Delta) :=
  .req (jW m n inf.bytes) (cond (Nat.blt 0 inf.bytes) (cond (qK P e inf.size) ((q8 H inf.size n x).bind fun new =>
   match s with
   | .nils=>.ok (.slc 0 nx 0 0 inf.size n none,.push (.row (Dx new)))
   | .slcT _ _ _ _ full=>.req full (AG H nx inf.size m n s new)
   | .slc d i v off sz _ (some c)=>.ite (cI c (aF m n)) (AG H nx inf.size m n s new)
     (cond (eY H d) .bad ((vK H d i v (some 0)).bind fun r=>cond (Nat.beq sz inf.size) (match r with
       | .M l=>match kM (iS d new) with
         | []=>.bad
         | y::ys=>(xS (aF off (fw m sz)) (some 0) (y::ys) 0 l).bind fun l'=>.ok (.slc d i v off sz (aF m n) (some c),.set d i (v,.row (.M l')))
       | _=>.bad) .bad))
   | .slc d i v off sz _ none=>cond (eY H d) .bad ((vK H d i v (some 0)).bind fun r=>cond (Nat.beq sz inf.size)
     ((vS r off (fw m sz)).bind fun old=>(Ft old (iS d new)).bind fun r'=>.ok (.slc d i (Nat.succ v) 0 sz (aF m n) none,.set d i (Nat.succ v,.row r'))) .bad)
   | _=>.bad) .bad) .bad)
theorem q9 {H:aa} {sz n:Nat} {x:AV} {q:Row} (h:dW H sz n x=some q):q.len=n*sz:=by
 unfold dW at h
 split at h
 · split at h
   · rename_i hn
     simp only[Option.some.injEq] at h
     rw[← h,hn];simp[Row.len]
   · simp at h
 · split at h
   · split at h
     · rename_i hf
       simp only[Option.some.injEq] at h
       rw[← h,oI,Row.dp _ _ _ hf.2.2]
     · simp at h
   · simp at h
 · split at h
   · rename_i hf
     simp only[Option.some.injEq] at h
     rw[← h]
     split
     · exact Row.dp _ _ _ (by omega)
     · rw[oI,Row.dp _ _ _ (by omega)]
   · simp at h
 · simp at h
theorem wJ {H:aa} {nx sz m n:Nat} {s:AV} {new:Row} {y:AV×Delta} (h:(AG H nx sz m n s new).run=some y):∃ old,dW H sz m s=some old∧y=(.slc 0 nx 0 0 sz (m+n) none,.push (.row (qh true (old.app new)))):=by
 unfold AG at h
 obtain ⟨old,h1,h⟩:=Tr.bind_some h
 obtain ⟨r,h2,h⟩:=Tr.bind_some h
 refine ⟨old,oR h1,?_⟩
 rw[← Tr.ab h,a6,uY,Ai h2]
theorem yQ         {P : Program} {H:aa} {nx:Nat} {t u:TypeId} {s x:AV} {y:AV×Delta} (h:(nC P H nx t u s x).run=some y):nD P true H nx t u s x=some y:=by
 unfold nC at h
 unfold nD
 split at h
 · rename_i e ht
   split at h
   · rename_i e' hu
     split at h
     · rename_i inf hi
       split at h
       · rename_i m hm
         split at h
         · rename_i n hn
           obtain ⟨hsl,h⟩:=Tr.aO h
           rw[ht,hu]
           dsimp only
           rw[hi,hm,hn]
           dsimp only
           have hcase:(n=0∧(s,Delta.bk)=y)∨(n≠0∧(nC.main P H nx e inf s x m n).run=some y):=by
            cases hx:Ll x with
            | true =>
              rw[hx] at h
              cases n with
              | zero=>exact .inl ⟨rfl,Tr.ab h⟩
              | succ n=>exact .inr ⟨by omega,h⟩
            | false =>
              rw[hx] at h
              rcases Tr.fL h with ⟨hc,h⟩ | ⟨hc,h⟩
              · rw[fC,decide_eq_true_eq] at hc
                exact .inl ⟨hc,Tr.ab h⟩
              · rw[fC,decide_eq_false_iff_not] at hc
                exact .inr ⟨hc,h⟩
           clear h
           rcases hcase with ⟨h0,h⟩ | ⟨h0,h⟩
           · rw[if_pos h0]
             cases s<;>simp[Lc] at hsl<;>exact congrArg some h
           rw[if_neg h0]
           unfold nC.main at h
           obtain ⟨hr,h⟩:=Tr.aK h
           rw[xL,decide_eq_true_eq] at hr
           obtain ⟨hb,h⟩:=Tr.aO h
           obtain ⟨hz,h⟩:=Tr.aO h
           obtain ⟨new,h1,h⟩:=Tr.bind_some h
           have hcv:=oR h1
           rw[if_pos ⟨hr.1,hr.2,Al hb,sI hz⟩,hcv]
           dsimp only
           split at h
           · rw[← Tr.ab h,uY]
           · rename_i sT r szT F7 full
             obtain ⟨hf,h⟩:=Tr.aK h
             obtain ⟨old,h2,rfl⟩:=wJ h
             subst hf
             dsimp only
             rw[h2]
           · rename_i d i v off sz len c _ _ _ _ _
             rcases Tr.fL h with ⟨hc,h⟩ | ⟨hc,h⟩
             · rw[gO,decide_eq_true_eq,a6] at hc
               obtain ⟨old,h2,rfl⟩:=wJ h
               dsimp only
               rw[if_pos hc,h2]
             · rw[gO,decide_eq_false_iff_not,a6] at hc
               dsimp only
               rw[if_neg hc]
               rw[dN] at h
               obtain ⟨hl,h⟩:=Tr.jE h
               obtain ⟨r,h2,h⟩:=Tr.bind_some h
               obtain ⟨hs,h⟩:=Tr.aO h
               have hs:=Nat.eq_of_beq_eq_true hs
               rw[hl,if_neg (by simp),kH h2]
               dsimp only
               split at h
               · rename_i l _
                 rw[nm] at h
                 have hcl:=q9 hcv
                 split at h
                 · exact (Tr.af h).elim
                 · rename_i y0 ys hy
                   obtain ⟨l',h3,h⟩:=Tr.bind_some h
                   obtain ⟨k1,k2⟩:=sq _ _ _ _ h3
                   rw[a6,ct,Nat.add_zero] at k1 k2
                   have hlen:=Row.bh (iS d new)
                   rw[hy,eU,hcl] at hlen
                   have hfit:off+(m+n)*sz≤(Row.M l).len:=by
                    rcases k1 with k1 | k1
                    · simp at k1
                    · rw[hlen,← hs] at k1
                      rw[Nat.add_mul]
                      show _≤av l
                      omega
                   rw[if_pos ⟨hs,hfit⟩,hy,k2,← Tr.ab h,a6]
               · exact (Tr.af h).elim
           · rename_i d i v off sz len _ _ _ _ _
             dsimp only
             rw[dN] at h
             obtain ⟨hl,h⟩:=Tr.jE h
             obtain ⟨r,h2,h⟩:=Tr.bind_some h
             obtain ⟨hs,h⟩:=Tr.aO h
             have hs:=Nat.eq_of_beq_eq_true hs
             obtain ⟨old,h3,h⟩:=Tr.bind_some h
             obtain ⟨r',h4,h⟩:=Tr.bind_some h
             obtain ⟨k1,k2⟩:=zW h3
             rw[ct] at k1 k2
             rw[hl,if_neg (by simp),kH h2]
             dsimp only
             rw[if_pos ⟨hs,k1⟩,k2,Ai h4,← Tr.ab h,a6]
           · exact (Tr.af h).elim
         · exact (Tr.af h).elim
       · exact (Tr.af h).elim
     · exact (Tr.af h).elim
   · rename_i k' hu
     rw[ht,hu]
     exact CV h
   · exact (Tr.af h).elim
 · exact (Tr.af h).elim

end
end Go.Eng
end
