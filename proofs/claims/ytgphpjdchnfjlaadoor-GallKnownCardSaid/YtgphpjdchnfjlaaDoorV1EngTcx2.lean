/- The engine as a tree: slices, numbers, operations. -/
import Derived.Test.YtgphpjdchnfjlaaDoorV1EngTb
set_option linter.unusedVariables false
set_option linter.unusedSimpArgs false
section
namespace Go.Eng
noncomputable section

theorem Tr.ay {α:Type} {c:Bool} {t:Tr α} {x:α} (h:(cond c t .bad).run=some x):c=true∧t.run=some x:=by
 cases c with
 | true=>exact ⟨rfl,h⟩
 | false=>exact (Tr.ad h).elim
def Ee (op:BinOp) (k:IntKind) (x y:Int):Tr AV :=
 match op with
 | .add=>.ok (.int k (nv k x y))
 | .sub=>.ok (.int k (yK k x y))
 | .mul=>.ok (.int k (BQ k x y))
 | .quo=>.req (nB (qM y 0)) (.ok (.int k (EF k x y)))
 | .rem=>.req (nB (qM y 0)) (.ok (.int k (EH k x y)))
 | .and=>.ok (.int k (vo k x y))
 | .or=>.ok (.int k (yo k x y))
 | .xor=>.ok (.int k (Fb k x y))
 | .andNot=>.ok (.int k (DH k x y))
 | .eql=>.ok (.bool (qM x y))
 | .neq=>.ok (.bool (nB (qM x y)))
 | .lss=>.ok (.bool (yP x y))
 | .leq=>.ok (.bool (qp x y))
 | .gtr=>.ok (.bool (yP y x))
 | .geq=>.ok (.bool (qp y x))
 | _=>.bad
theorem BD {op:BinOp} {k:IntKind} {x y:Int} {v:AV} (h:(Ee op k x y).run=some v):eT op k x y=some v:=by
 unfold Ee at h
 unfold eT
 cases op<;>dsimp only at h ⊢<;>try exact (Tr.ad h).elim
 case quo =>
  obtain ⟨hc,h⟩:=Tr.au h
  rw[eC,ef] at hc
  have:¬ y=0:=by simpa using hc
  rw[if_neg this,← Tr.ab h,Cc]
 case rem =>
  obtain ⟨hc,h⟩:=Tr.au h
  rw[eC,ef] at hc
  have:¬ y=0:=by simpa using hc
  rw[if_neg this,← Tr.ab h,Cg]
 all_goals
  have h:=Tr.ab h
  subst h
  first
   | rfl
   | (simp only[gt_iff_lt,ge_iff_le,fT,lP,nM,nF,rZ,sn,rB,ef,eC,o6,gn,bne];done)
   | (simp only[fT,lP,nM,nF,rZ,sn,rB,ef,eC,o6,gn];done)
   | (simp only[fT,lP,nM,nF,rZ,sn,rB,ef,eC,o6,gn];rfl)
def fc:List Int→List Int→Bool
 | [],[]=>true
 | [x],[y]=>qM x y
 | x::x'::a,y::y'::b=>qa (qM x y) (fc (x'::a) (y'::b))
 | _,_=>false
theorem o5:∀ (l m:List Int),fc l m=da l m
 | [],[]=>rfl
 | [],_::_=>by simp[fc,da]
 | _::_,[]=>by simp[fc,da]
 | [x],[y]=>by simp[fc,da,ef]
 | [x],y::y'::b=>by simp[fc,da]
 | x::x'::a,[y]=>by simp[fc,da]
 | x::x'::a,y::y'::b=>by
   simp only[fc]
   rw[kQ,ef,o5 (x'::a) (y'::b)];rfl
def s4 (r:Row):Option (IntKind×(Nat→Int)) :=
 match r with
 | .I k l=>some (k,bx l)
 | .M [.arr k z _]=>some (k,z)
 | _=>none
theorem oU (r:Row):s4 r=r.ints:=by
 match r with
 | .I k l=>simp only[s4,Row.ints,jK]
 | .G l=>rfl
 | .F f n=>rfl
 | .M []=>rfl
 | .M [.arr k z n]=>rfl
 | .M (.one v::r)=>rfl
 | .M (.arr k z n::s::r)=>rfl
def Ff (P:Program) (t:TypeId) (x y:AV):Tr Bool :=
 match x,y with
 | .bool a,.bool b=>match P.underlying t with
   | some .bool=>.ok (GH a b)
   | _=>.bad
 | .nils,.slcT s r sz n f=>match P.underlying t with
   | some (.slice _)=>.req (sq 0 n) (.ok false)
   | _=>.bad
 | .slcT s r sz n f,.nils=>match P.underlying t with
   | some (.slice _)=>.req (sq 0 n) (.ok false)
   | _=>.bad
 | .agg (.I k a),.agg (.I k' b)=>cond (eJ k k') (match a7 P 20 t with
   | some n=>match dc P t with
     | some true=>cond (Nat.beq n (fb a)) (cond (Nat.beq (fb a) (fb b)) (.ok (fc a b)) .bad) .bad
     | _=>.bad
   | none=>.bad) .bad
 | .agg (.M l),.agg s=>eqMT P t (.M l) s
 | .agg (.I k a),.agg (.M l)=>eqMT P t (.I k a) (.M l)
 | x,y=>ri (vl P t x y)
where
 eqMT (P:Program) (t:TypeId) (r s:Row):Tr Bool :=
  match s4 r,s4 s with
  | some (k,z),some (k',z')=>cond (eJ k k') (match a7 P 20 t with
    | some n=>match dc P t with
      | some true=>cond (Nat.beq n (eY r)) (cond (Nat.beq (eY r) (eY s)) (.ok (vn z z' (eY r))) .bad) .bad
      | _=>.bad
    | none=>.bad) .bad
  | _,_=>.bad
theorem wJ {P:Program} {t:TypeId} {r s:Row} {b:Bool} (h:(Ff.eqMT P t r s).run=some b):Fe P t r s=some b:=by
 unfold Ff.eqMT at h
 rw[oU,oU] at h
 unfold Fe
 split at h
 · rename_i k z k' z' h1 h2
   rw[h1,h2]
   obtain ⟨hk,h⟩:=Tr.ay h
   rw[dg,decide_eq_true_eq] at hk
   split at h
   · rename_i n hn
     split at h
     · rename_i ha
       obtain ⟨e1,h⟩:=Tr.ay h
       obtain ⟨e2,h⟩:=Tr.ay h
       rw[dj] at e1 e2 h
       rw[dj] at e2
       have e1:n=r.len:=by simpa using e1
       have e2:r.len=s.len:=by simpa using e2
       dsimp only
       rw[if_pos ⟨hk,by rw[hn,e1],ha,e2⟩,← Tr.ab h,xR]
     · exact (Tr.ad h).elim
   · exact (Tr.ad h).elim
 · exact (Tr.ad h).elim
theorem zu {P:Program} {t:TypeId} {x y:AV} {b:Bool} (h:(Ff P t x y).run=some b):vl P t x y=some b:=by
 unfold Ff at h
 split at h
 · split at h
   · rename_i hu
     unfold vl
     dsimp only
     rw[hu,← Tr.ab h,D0]
   · exact (Tr.ad h).elim
 · split at h
   · rename_i hu
     obtain ⟨hc,h⟩:=Tr.au h
     rw[eU,decide_eq_true_eq] at hc
     unfold vl
     dsimp only
     rw[hu]
     dsimp only
     rw[if_pos hc,Tr.ab h]
   · exact (Tr.ad h).elim
 · split at h
   · rename_i hu
     obtain ⟨hc,h⟩:=Tr.au h
     rw[eU,decide_eq_true_eq] at hc
     unfold vl
     dsimp only
     rw[hu]
     dsimp only
     rw[if_pos hc,Tr.ab h]
   · exact (Tr.ad h).elim
 · obtain ⟨hk,h⟩:=Tr.ay h
   rw[dg,decide_eq_true_eq] at hk
   split at h
   · rename_i n hn
     split at h
     · rename_i ha
       obtain ⟨e1,h⟩:=Tr.ay h
       obtain ⟨e2,h⟩:=Tr.ay h
       rw[bN] at e1 e2
       rw[bN] at e2
       have e1:=Nat.eq_of_beq_eq_true e1
       have e2:=Nat.eq_of_beq_eq_true e2
       unfold vl
       dsimp only
       rw[if_pos ⟨hk,by rw[hn,e1],ha,e2⟩,← Tr.ab h,o5]
     · exact (Tr.ad h).elim
   · exact (Tr.ad h).elim
 · unfold vl;exact wJ h
 · unfold vl;exact wJ h
 · rw[bz] at h;exact h
def yX (P:Program) (op:BinOp) (t:TypeId) (x y:AV):Tr AV :=
 match x,y with
 | .int k a,.int k' b=>match op with
   | .shl=>.req (qp 0 b) (.ok (.int k (iQ k a b)))
   | .shr=>.req (qp 0 b) (.ok (.int k (ES k a b)))
   | op=>cond (eJ k k') (Ee op k a b) .bad
 | x,y=>match op with
   | .eql=>(Ff P t x y).bind fun b=>.ok (.bool b)
   | .neq=>(Ff P t x y).bind fun b=>.ok (.bool (nB b))
   | _=>.bad
theorem Bd {P:Program} {op:BinOp} {t:TypeId} {x y v:AV} (h:(yX P op t x y).run=some v):gy P op t x y=some v:=by
 unfold yX at h
 split at h
 · rename_i k a k' b
   split at h
   · obtain ⟨hc,h⟩:=Tr.au h
     rw[gn,decide_eq_true_eq] at hc
     unfold gy
     dsimp only
     rw[if_neg (by omega),← Tr.ab h,xx]
   · obtain ⟨hc,h⟩:=Tr.au h
     rw[gn,decide_eq_true_eq] at hc
     unfold gy
     dsimp only
     rw[if_neg (by omega),← Tr.ab h,Cs]
   · rename_i h1 h2
     obtain ⟨hk,h⟩:=Tr.ay h
     rw[dg,decide_eq_true_eq] at hk
     have:gy P op t (.int k a) (.int k' b)=if k=k' then eT op k a b else none:=by
      unfold gy
      cases op<;>first | rfl | exact (h1 rfl).elim | exact (h2 rfl).elim
     rw[this,if_pos hk]
     exact BD h
 · rename_i hn
   split at h
   · obtain ⟨b,h1,h⟩:=Tr.bind_some h
     have h2:=zu h1
     have:gy P .eql t x y=(vl P t x y).map .bool:=by
      unfold gy
      cases x<;>cases y<;>first | rfl | exact (hn _ _ _ _ rfl rfl).elim
     rw[this,h2,← Tr.ab h];rfl
   · obtain ⟨b,h1,h⟩:=Tr.bind_some h
     have h2:=zu h1
     have:gy P .neq t x y=(vl P t x y).map fun b=>.bool (!b):=by
      unfold gy
      cases x<;>cases y<;>first | rfl | exact (hn _ _ _ _ rfl rfl).elim
     rw[this,h2,← Tr.ab h,eC];rfl
   · exact (Tr.ad h).elim
def IE (op:UnOp) (x:AV):Tr AV :=
 match op,x with
 | .not,.bool b=>.ok (.bool (nB b))
 | .neg,.int k n=>.ok (.int k (Ep k n))
 | _,_=>.bad
theorem EZ {op:UnOp} {x v:AV} (h:(IE op x).run=some v):Gq op x=some v:=by
 unfold IE at h
 split at h
 · rw[← Tr.ab h,eC];rfl
 · rw[← Tr.ab h,BW];rfl
 · exact (Tr.ad h).elim
def lC (mx:Bool) (k:IntKind) (x:Int):List AV→Tr AV
 | []=>.ok (.int k x)
 | v::r=>match v with
   | .int k' y=>cond (eJ k k') (lC mx k (cond mx (zZ x y) (z7 x y)) r) .bad
   | _=>.bad
theorem kz {mx:Bool} {k:IntKind}:∀ (l:List AV) (x:Int) (v:AV),(lC mx k x l).run=some v→cP mx k x l=some v
 | [],x,v,h=>by rw[← Tr.ab h];rfl
 | u :: r,x,v,h=>by
   simp only[lC] at h
   split at h
   · rename_i k' y
     obtain ⟨hk,h⟩:=Tr.ay h
     rw[dg,decide_eq_true_eq] at hk
     simp only[cP]
     rw[if_pos hk,← kz r _ v h,xc,xf]
     cases mx<;>rfl
   · exact (Tr.ad h).elim

def fG (a sz:Nat):Nat :=
 match sz with
 | 1=>a
 | s=>kB a s
theorem bw (a sz:Nat):fG a sz=a*sz:=by
 unfold fG
 split
 · rw[Nat.mul_one]
 · rw[nN]
abbrev II:=Option Nat×Nat×Option Nat
def jE (lo hi mx:Option AV) (len:Nat):Tr II :=
 match mx with
 | none=>(match hi with
    | none=>.ok len
    | some (.int _ i)=>.req (qd i len) (.ok (vi i))
    | some _=>.bad:Tr Nat).bind fun h=>(match lo with
    | none=>.ok (none,h,none)
    | some (.int _ i)=>.req (qd i h) (.ok (some (vi i),h,none))
    | some _=>.bad)
 | some (.int _ m)=>.req (qd m len) (match hi with
    | some (.int _ i)=>.req (qd i (vi m)) (match lo with
      | none=>.ok (none,vi i,some (vi m))
      | some (.int _ j)=>.req (qd j (vi i)) (.ok (some (vi j),vi i,some (vi m)))
      | some _=>.bad)
    | _=>.bad)
 | some _=>.bad
def w9 (l:Option Nat):Nat :=
 match l with
 | none=>0
 | some l=>l
theorem eF {i:Int} {k:IntKind} {d top:Nat} (h:qd i top=true):bound (some (.int k i)) d top=some (vi i):=by
 rw[wC,decide_eq_true_eq] at h
 simp only[bound]
 rw[if_pos h,pQ]
theorem gZ {lo hi mx:Option AV} {len:Nat} {b:II} (h:(jE lo hi mx len).run=some b):cw lo hi mx len=some (w9 b.1,b.2.1,b.2.2):=by
 unfold jE at h
 unfold cw
 split at h
 · obtain ⟨h',h1,h⟩:=Tr.bind_some h
   have e1:bound hi len len=some h':=by
    split at h1
    · rw[← Tr.ab h1];rfl
    · obtain ⟨hc,h1⟩:=Tr.au h1
      rw[eF hc,Tr.ab h1]
    · exact (Tr.ad h1).elim
   dsimp only
   rw[e1]
   dsimp only
   split at h
   · rw[← Tr.ab h];rfl
   · obtain ⟨hc,h⟩:=Tr.au h
     rw[eF hc,← Tr.ab h];rfl
   · exact (Tr.ad h).elim
 · rename_i k m
   obtain ⟨hm,h⟩:=Tr.au h
   dsimp only
   rw[eF hm]
   dsimp only
   split at h
   · rename_i k' i
     obtain ⟨hi,h⟩:=Tr.au h
     simp only[Option.isSome_some,if_true]
     rw[eF hi]
     dsimp only
     split at h
     · rw[← Tr.ab h];rfl
     · obtain ⟨hc,h⟩:=Tr.au h
       rw[eF hc,← Tr.ab h];rfl
     · exact (Tr.ad h).elim
   · exact (Tr.ad h).elim
 · exact (Tr.ad h).elim
def si (a:Nat) (l:Option Nat):Nat :=
 match l with
 | none=>a
 | some l=>mQ a l
theorem jQ (a:Nat) (l:Option Nat):si a l=a-w9 l:=by
 cases l with
 | none=>rfl
 | some l=>exact jR a l
def yR (off:Nat) (l:Option Nat) (sz:Nat):Nat :=
 match l with
 | none=>off
 | some l=>dM off (fG l sz)
theorem wx (off:Nat) (l:Option Nat) (sz:Nat):yR off l sz=off+w9 l*sz:=by
 cases l with
 | none=>simp[yR,w9]
 | some l=>simp only[yR,w9,bc,bw]
def xz (r:Row) (l:Option Nat) (sz n:Nat):Tr Row :=
 match r with
 | .M [.arr k z N]=>.req (tg (dM (fG (w9 l) sz) n) N) (.ok (.M [.arr k (match l with | none=>z | some l=>AI z (fG l sz)) n]))
 | .F f N=>.req (tg (dM (fG (w9 l) sz) n) N) (.ok (.F (match l with | none=>f | some l=>fun j=>f (dM (fG l sz) j)) n))
 | _=>.bad
theorem uk {r q:Row} {l:Option Nat} {sz n:Nat} (h:(xz r l sz n).run=some q):w9 l*sz+n≤r.len∧r.sub (w9 l*sz) n=q:=by
 unfold xz at h
 split at h
 · rename_i k z N
   obtain ⟨hc,h⟩:=Tr.au h
   rw[iq,decide_eq_true_eq,bc,bw] at hc
   refine ⟨by simp only[Row.len,ai,ar];omega,?_⟩
   rw[← Tr.ab h]
   cases l with
   | none=>simp only[Row.sub,w9,Nat.zero_mul,Nat.zero_add]
   | some l=>simp only[Row.sub,w9,jC,bw]
 · rename_i f N
   obtain ⟨hc,h⟩:=Tr.au h
   rw[iq,decide_eq_true_eq,bc,bw] at hc
   refine ⟨by simp only[Row.len];omega,?_⟩
   rw[← Tr.ab h]
   cases l with
   | none=>simp only[Row.sub,w9,Nat.zero_mul,Nat.zero_add]
   | some l=>simp only[Row.sub,w9,bc,bw]
 · exact (Tr.ad h).elim
def GM (o:Option AV):Bool :=
 match o with
 | none=>true
 | some _=>false
def zD (mm:Option Nat) (full hiN:Bool) (h len:Nat):Bool :=
 match mm with
 | none=>cond hiN full (qa full (qf h len))
 | some m=>qf h m
def wb (P:Program) (t:TypeId) (x:AV) (lo hi mx:Option AV):Tr AV :=
 match P.underlying t with
 | some (.slice e)=>match aI P e with
   | some z=>match x with
     | .slc d j v off sz len cap=>cond (Nat.beq z sz) ((jE lo hi mx len).bind fun b=>.ok (.slc d j v (yR off b.1 sz) sz (si b.2.1 b.1) (match b.2.2 with
       | none=>match cap with | none=>none | some c=>some (si c b.1)
       | some m=>some (si m b.1)))) .bad
     | .slcT s r sz len full=>cond (Nat.beq z sz) ((jE lo hi mx len).bind fun b=>(xz r b.1 sz (fG (si b.2.1 b.1) sz)).bind fun q=>.ok (.slcT s q sz (si b.2.1 b.1) (zD b.2.2 full (GM hi) b.2.1 len))) .bad
     | .nils=>(jE lo hi mx 0).bind fun _=>.ok .nils
     | _=>.bad
   | none=>.bad
 | some (.array n e)=>match aI P e with
   | some sz=>match x with
     | .ptr d j v off=>(jE lo hi mx n).bind fun b=>.ok (.slc d j v (yR off b.1 sz) sz (si b.2.1 b.1) (match b.2.2 with
       | none=>some (si n b.1)
       | some m=>some (si m b.1)))
     | _=>.bad
   | none=>.bad
 | _=>.bad
theorem yE {P:Program} {t:TypeId} {x v:AV} {lo hi mx:Option AV} (h:(wb P t x lo hi mx).run=some v):mP P t x lo hi mx=some v:=by
 unfold wb at h
 unfold mP
 split at h
 · rename_i e hu
   split at h
   · rename_i z hs
     split at h
     · rename_i d j ver off sz len cap
       obtain ⟨hz,h⟩:=Tr.ay h
       have hz:z=sz:=by simpa using hz
       subst hz
       obtain ⟨b,h1,h⟩:=Tr.bind_some h
       rw[hu]
       dsimp only
       rw[gZ h1]
       dsimp only
       rw[if_pos hs,← Tr.ab h,wx,jQ]
       obtain ⟨b1,b2,b3⟩:=b
       cases b3<;>cases cap<;>simp only[jQ,Option.map_some,Option.map_none]
     · rename_i s r sz len full
       obtain ⟨hz,h⟩:=Tr.ay h
       have hz:z=sz:=by simpa using hz
       subst hz
       obtain ⟨b,h1,h⟩:=Tr.bind_some h
       obtain ⟨q,h2,h⟩:=Tr.bind_some h
       rw[hu]
       dsimp only
       have hb:=gZ h1
       rw[hb]
       dsimp only
       obtain ⟨k1,k2⟩:=uk h2
       rw[bw,jQ] at k1 k2
       rw[if_pos ⟨hs,k1⟩,k2,← Tr.ab h,jQ]
       congr 2
       obtain ⟨b1,b2,b3⟩:=b
       dsimp only at hb ⊢
       cases b3 with
       | some m=>simp only[zD,dP];rw[Bool.eq_iff_iff];simp
       | none =>
         simp only[zD]
         cases hi with
         | some a =>
           simp only[GM,cond_false,kQ,dP]
           congr 1
           rw[Bool.eq_iff_iff];simp
         | none =>
           simp only[GM,cond_true]
           have:b2=len:=by
            unfold cw at hb
            cases mx with
            | none =>
              dsimp only[bound] at hb
              split at hb
              · simp only[nP] at hb;exact hb.2.1.symm
              · simp at hb
            | some a =>
              dsimp only at hb
              split at hb
              · simp at hb
              · simp at hb
           rw[this];simp
     · obtain ⟨b,h1,h⟩:=Tr.bind_some h
       rw[hu]
       dsimp only
       rw[gZ h1,hs,← Tr.ab h]
     · exact (Tr.ad h).elim
   · exact (Tr.ad h).elim
 · rename_i n e hu
   split at h
   · rename_i sz hs
     split at h
     · rename_i d j ver off
       obtain ⟨b,h1,h⟩:=Tr.bind_some h
       rw[hu]
       dsimp only
       rw[gZ h1]
       dsimp only
       rw[hs,← Tr.ab h,wx,jQ]
       obtain ⟨b1,b2,b3⟩:=b
       cases b3<;>simp only[jQ]
     · exact (Tr.ad h).elim
   · exact (Tr.ad h).elim
 · exact (Tr.ad h).elim

def ot (H:aa) (sz n:Nat) (x:AV):Tr Row :=
 match x with
 | .slc d i v off sz' len cap=>(sc H d i v (some 0)).bind fun r=>cond (Nat.beq sz' sz) (.req (tg n len) (match r with
    | .M [.arr k z N]=>.req (vm off (fG n sz) 0 N) (.ok (.M [.arr k (AI z off) (fG n sz)]))
    | .I k l=>cond (qj (.I k l) off (Nat.mul n sz)) (.ok (wi d (Row.I k (eZ (iJ l off) (Nat.mul n sz))))) .bad
    | .G l=>cond (qj (.G l) off (Nat.mul n sz)) (.ok (wi d (Row.G (eZ (iJ l off) (Nat.mul n sz))))) .bad
    | .F f N=>.req (vm off (fG n sz) 0 N) (.ok (.F (fun j=>f (dM off j)) (fG n sz)))
    | _=>.bad)) .bad
 | .slcT s r sz' len _=>cond (Nat.beq sz' sz) (.req (tg n len) ((xz r none sz (fG n sz)).bind fun q=>.ok (match s with | none=>q | some k=>wi k q))) .bad
 | _=>.bad
theorem Gt (d:Nat) (k:IntKind) (z:Nat→Int) (n:Nat):wi d (.M [.arr k z n])=.M [.arr k z n]:=by cases d<;>rfl
theorem Gs (d:Nat) (f:Nat→AV) (n:Nat):wi d (.F f n)=.F f n:=by cases d<;>rfl
theorem l7 {H:aa} {sz n:Nat} {x:AV} {q:Row} (h:(ot H sz n x).run=some q):cI H sz n x=some q:=by
 unfold ot at h
 split at h
 · rename_i d i v off sz' len cap
   obtain ⟨r,h1,h⟩:=Tr.bind_some h
   obtain ⟨hz,h⟩:=Tr.ay h
   have hz:sz'=sz:=by simpa using hz
   obtain ⟨hc,h⟩:=Tr.au h
   rw[iq,decide_eq_true_eq] at hc
   unfold cI
   dsimp only
   rw[iD h1]
   dsimp only
   split at h
   · rename_i k z N
     obtain ⟨hc2,h⟩:=Tr.au h
     rw[gl,decide_eq_true_eq,bw] at hc2
     rw[if_pos ⟨hz,hc,by simp only[Row.len,ai,ar];omega⟩,← Tr.ab h]
     simp only[Row.sub,Gt,jC,bw]
   · rename_i k l
     obtain ⟨hc2,h⟩:=Tr.ay h
     rw[ib,decide_eq_true_eq] at hc2
     rw[if_pos ⟨hz,hc,hc2⟩,← Tr.ab h,dZ,eH]
     rfl
   · rename_i l
     obtain ⟨hc2,h⟩:=Tr.ay h
     rw[ib,decide_eq_true_eq] at hc2
     rw[if_pos ⟨hz,hc,hc2⟩,← Tr.ab h,dZ,eH]
     rfl
   · rename_i f N
     obtain ⟨hc2,h⟩:=Tr.au h
     rw[gl,decide_eq_true_eq,bw] at hc2
     rw[if_pos ⟨hz,hc,by simp only[Row.len];omega⟩,← Tr.ab h]
     simp only[Row.sub,Gs,bc,bw]
   · exact (Tr.ad h).elim
 · rename_i s r sz' len full
   obtain ⟨hz,h⟩:=Tr.ay h
   have hz:sz'=sz:=by simpa using hz
   obtain ⟨hc,h⟩:=Tr.au h
   rw[iq,decide_eq_true_eq] at hc
   obtain ⟨q',h1,h⟩:=Tr.bind_some h
   obtain ⟨k1,k2⟩:=uk h1
   rw[bw] at k1 k2
   simp only[w9,Nat.zero_mul,Nat.zero_add] at k1 k2
   unfold cI
   dsimp only
   rw[if_pos ⟨hz,hc,k1⟩,← Tr.ab h,k2]
   cases s<;>rfl
 · exact (Tr.ad h).elim

end
end Go.Eng
end
section
namespace Go.Eng
noncomputable section

theorem Tr.gA {α:Type} {c:Bool} {t:Tr α} {x:α} (h:(cond c .bad t).run=some x):c=false∧t.run=some x:=by
 cases c with
 | false=>exact ⟨rfl,h⟩
 | true=>exact (Tr.ad h).elim

def tA:AV→AV
 | .slcT none (.I k l) sz m _=>.slcT none (.M [.arr k (bx l) (fb l)]) sz m false
 | .slcT none (.M [.arr k z n]) sz m _=>.slcT none (.M [.arr k z n]) sz m false
 | v=>v
theorem tC (v:AV):tA v=j5 v:=by
 unfold tA j5
 split
 · simp only[jK,bN]
 · rfl
 · rename_i h1 h2
   split
   · exact absurd rfl (h1 _ _ _ _ _)
   · exact absurd rfl (h2 _ _ _ _ _ _)
   · rfl
def zx (r:Row):Row :=
 match r with
 | .I k l=>.M [.arr k (bx l) (fb l)]
 | .G [v]=>cond (na v) (.F (fun _=>tA v) 1) (.G [v])
 | r=>r
theorem rN (r:Row):zx r=nz true r:=by
 cases r with
 | I k l=>simp only[zx,nz,if_true,jK,bN]
 | F f n=>rfl
 | M l=>rfl
 | G l =>
   match l with
   | []=>rfl
   | [v] =>
     show cond (na v) (Row.F (fun _=>tA v) 1) (Row.G [v])=if (true && na v)=true then Row.F (fun _=>j5 v) 1 else Row.G [v]
     rw[tC]
     cases na v<;>rfl
   | a::b::r=>rfl
def LG:AV→Nat→Int
 | .slcT _ (.M [.arr _ z _]) _ _ _=>z
 | _=>fun _=>0
def Lh:AV→Nat
 | .slcT _ (.M [.arr _ _ n]) _ _ _=>n
 | _=>0
def Lg:AV→Nat
 | .slcT _ _ _ m _=>m
 | _=>0
def Ba (r s:Row):Tr Row :=
 match r with
 | .M [.arr k z n]=>match s4 s with
   | some (k',z')=>cond (eJ k' k) (.ok (.M [.arr k (yW z n z') (dM n (eY s))])) .bad
   | none=>.bad
 | .I k l=>match s with
   | .I k' l'=>cond (eJ k' k) (.ok (.I k (jU l l'))) .bad
   | .M [.arr k' z' n']=>cond (eJ k' k) (.ok (.M [.arr k (yW (bx l) (fb l) z') (dM (fb l) n')])) .bad
   | _=>.bad
 | .G l=>match s with
   | .G l'=>.ok (.G (jU l l'))
   | _=>.bad
 | .F f n=>match s with
   | .G [v]=>cond (na v) (match tA v with
     | .slcT none (.M [.arr k z N]) sz m full=>.reqP (DG f k sz full)
       (.ok (.F (fun j=>.slcT none (.M [.arr k (EN (sq j n) (LG (f j)) z) (Ck (sq j n) (Lh (f j)) N)]) sz (Ck (sq j n) (Lg (f j)) m) full) (dM n 1)))
     | _=>.bad) .bad
   | _=>.bad
 | _=>.bad
theorem wz {r s q:Row} (h:(Ba r s).run=some q):r.app s=q:=by
 unfold Ba at h
 split at h
 · rename_i k z n
   rw[oU] at h
   split at h
   · rename_i k' z' hi
     obtain ⟨hk,h⟩:=Tr.ay h
     rw[dg,decide_eq_true_eq] at hk
     have e:Row.app (.M [.arr k z n]) s=(match (Row.M [.arr k z n]).qc s with | some q=>q | none=>.G ((Row.M [.arr k z n]).toList++s.toList)):=by
      cases s<;>rfl
     rw[e]
     unfold Row.qc
     rw[hi]
     dsimp only[Row.ints]
     rw[if_pos hk,← Tr.ab h,rC,bc,dj]
     rfl
   · exact (Tr.ad h).elim
 · rename_i k l
   split at h
   · rename_i k' l'
     obtain ⟨hk,h⟩:=Tr.ay h
     rw[dg,decide_eq_true_eq] at hk
     simp only[Row.app]
     rw[if_pos hk,← Tr.ab h,gX]
   · rename_i k' z' n'
     obtain ⟨hk,h⟩:=Tr.ay h
     rw[dg,decide_eq_true_eq] at hk
     simp only[Row.app]
     unfold Row.qc
     dsimp only[Row.ints]
     rw[if_pos hk,← Tr.ab h,rC,bc,bN,jK]
     rfl
   · exact (Tr.ad h).elim
 · split at h
   · rw[← Tr.ab h,gX];rfl
   · exact (Tr.ad h).elim
 · rename_i f n
   split at h
   · rename_i v
     obtain ⟨hv,h⟩:=Tr.ay h
     split at h
     · rename_i k z N sz m full hn
       obtain ⟨hf,h⟩:=Tr.jN h
       rw[tC] at hn
       rw[← Tr.ab h,bc]
       show Row.F _ _=Row.F _ _
       congr 1
       funext j
       simp only[Cn,Cl,eU]
       by_cases e:j<n
       · have hb:Nat.blt j n=true:=by rw[Nat.blt_eq];exact e
         rw[hb,if_pos rfl,decide_eq_true e]
         rw[A6] at hf
         obtain ⟨z',n',m',e'⟩:=hf j
         rw[e'];rfl
       · have hb:Nat.blt j n=false:=by
          cases hb:Nat.blt j n with
          | false=>rfl
          | true=>rw[Nat.blt_eq] at hb;exact absurd hb e
         rw[hb,if_neg (by simp),decide_eq_false e]
         show (if eM v=true then j5 v else .undef)=_
         rw[if_pos (oV hv),hn]
         rfl
     · exact (Tr.ad h).elim
   · exact (Tr.ad h).elim
 · exact (Tr.ad h).elim
def F0 (x:AV):Bool :=
 match x with
 | .slc _ _ _ _ _ _ (some _)=>true
 | _=>false
def FR (s:AV):Bool :=
 match s with
 | .nils | .slc .. | .slcT ..=>true
 | _=>false
def nZ (P:Program) (e:TypeId) (n:Nat):Bool :=
 match (bn P e).bind AV.row with
 | some z=>Nat.beq (eY z) n
 | none=>false
theorem pX {P:Program} {e:TypeId} {n:Nat} (h:nZ P e n=true):((bn P e).bind AV.row).map Row.len=some n:=by
 unfold nZ at h
 split at h
 · rename_i z hz
   rw[dj] at h
   have h:=Nat.eq_of_beq_eq_true h
   rw[hz,Option.map_some,h]
 · simp at h
def wQ (H:aa) (nx sz m n:Nat) (s:AV) (new:Row):Tr (AV×Delta) :=
 (ot H sz m s).bind fun old=>(Ba old new).bind fun r=>.ok (.slc 0 nx 0 0 sz (dM m n) none,.push (.row (zx r)))
def sj (r:Row) (off n:Nat):Tr Row :=
 match r with
 | .M [.arr k z N]=>.req (qf (dM off n) N) (.ok (.M [.arr k (AI z off) n]))
 | .G l=>cond (Nat.beq (Nat.add off n) (fb l)) (.ok (.G (eZ (iJ l off) n))) .bad
 | .F f N=>.req (qf (dM off n) N) (.ok (.F (fun j=>f (dM off j)) n))
 | _=>.bad
theorem wg {r q:Row} {off n:Nat} (h:(sj r off n).run=some q):off+n=r.len∧r.sub off n=q:=by
 unfold sj at h
 split at h
 · rename_i k z N
   obtain ⟨hc,h⟩:=Tr.au h
   rw[dP,decide_eq_true_eq,bc] at hc
   refine ⟨by simp only[Row.len,ai,ar];omega,?_⟩
   rw[← Tr.ab h,jC];rfl
 · rename_i l
   obtain ⟨hc,h⟩:=Tr.ay h
   rw[bN] at hc
   have hc:=Nat.eq_of_beq_eq_true hc
   exact ⟨hc,by rw[← Tr.ab h,dZ,eH];rfl⟩
 · rename_i f N
   obtain ⟨hc,h⟩:=Tr.au h
   rw[dP,decide_eq_true_eq,bc] at hc
   refine ⟨hc,?_⟩
   rw[← Tr.ab h]
   simp only[bc]
   rfl
 · exact (Tr.ad h).elim
def yT (P:Program) (nx:Nat) (e:TypeId) (s x:AV):Tr (AV×Delta) :=
 match P.info? e with
 | some inf=>match s with
   | .nils=>match x with
     | .int _ k=>cond (Nat.blt 0 inf.size) (cond (nZ P e inf.size) (.req (Fj k k inf.bytes) (.ite (qM k (Int.ofNat 0)) (.ok (.nils,.aJ)) (.ok (.slc 0 nx 0 0 inf.size (vi k) none,.push (.row (zx (.I .i64 []))))))) .bad) .bad
     | _=>.bad
   | _=>.bad
 | none=>.bad
theorem yU {P:Program} {nx:Nat} {e:TypeId} {s x:AV} {y:AV×Delta} (h:(yT P nx e s x).run=some y):yS P true nx e s x=some y:=by
 unfold yT at h
 unfold yS
 split at h
 · rename_i inf hi
   rw[hi]
   split at h
   · split at h
     · rename_i kk k
       obtain ⟨hb,h⟩:=Tr.ay h
       obtain ⟨hz,h⟩:=Tr.ay h
       obtain ⟨hm,h⟩:=Tr.au h
       rw[vS,decide_eq_true_eq] at hm
       dsimp only
       rw[if_pos ⟨hm.1,hm.2.2.2,hm.2.2.1,wB hb,pX hz⟩]
       rcases Tr.jk h with ⟨hc,h⟩ | ⟨hc,h⟩
       · rw[ef,beq_iff_eq] at hc
         rw[if_pos (show k=0 from hc),Tr.ab h]
       · rw[ef,beq_eq_false_iff_ne] at hc
         rw[if_neg (show ¬ k=0 from hc),← Tr.ab h,rN,pQ]
     · exact (Tr.ad h).elim
   · exact (Tr.ad h).elim
 · exact (Tr.ad h).elim
def kT (P:Program) (H:aa) (nx:Nat) (t u:TypeId) (s x:AV):Tr (AV×Delta) :=
 match P.underlying t with
 | some (.slice e)=>match P.underlying u with
   | some (.slice _)=>match P.info? e with
     | some inf=>match ki s with
       | some m=>match ki x with
         | some n=>cond (FR s) (match F0 x,n with
           | true,0=>.ok (s,.aJ)
           | true,_=>main P H nx e inf s x m n
           | false,_=>.ite (qf n 0) (.ok (s,.aJ)) (main P H nx e inf s x m n)) .bad
         | none=>.bad
       | none=>.bad
     | none=>.bad
   | some (.int _)=>yT P nx e s x
   | _=>.bad
 | _=>.bad
where
 main (P : Program) (H:aa) (nx:Nat) (e:TypeId) (inf:TypeInfo) (s x:AV) (m n:Nat):Tr (AV×Delta) :=
  .req (pC m n inf.bytes) (cond (Nat.blt 0 inf.bytes) (cond (nZ P e inf.size) ((ot H inf.size n x).bind fun new =>
   match s with
   | .nils=>.ok (.slc 0 nx 0 0 inf.size n none,.push (.row (zx new)))
   | .slcT _ _ _ _ full=>.req full (wQ H nx inf.size m n s new)
   | .slc d i v off sz _ (some c)=>.ite (sq c (dM m n)) (wQ H nx inf.size m n s new)
     (cond (dw H d) .bad ((sc H d i v (some 0)).bind fun r=>cond (Nat.beq sz inf.size) (match r with
       | .M l=>match iH (fP d new) with
         | []=>.bad
         | y::ys=>(uf (dM off (fG m sz)) (some 0) (y::ys) 0 l).bind fun l'=>.ok (.slc d i v off sz (dM m n) (some c),.set d i (v,.row (.M l')))
       | _=>.bad) .bad))
   | .slc d i v off sz _ none=>cond (dw H d) .bad ((sc H d i v (some 0)).bind fun r=>cond (Nat.beq sz inf.size)
     ((sj r off (fG m sz)).bind fun old=>(Ba old (fP d new)).bind fun r'=>.ok (.slc d i (Nat.succ v) 0 sz (dM m n) none,.set d i (Nat.succ v,.row r'))) .bad)
   | _=>.bad) .bad) .bad)
theorem ou {H:aa} {sz n:Nat} {x:AV} {q:Row} (h:cI H sz n x=some q):q.len=n*sz:=by
 unfold cI at h
 split at h
 · split at h
   · rename_i hn
     simp only[Option.some.injEq] at h
     rw[← h,hn];simp[Row.len]
   · simp at h
 · split at h
   · split at h
     · rename_i hf
       simp only[Option.some.injEq] at h
       rw[← h,lT,Row.bS _ _ _ hf.2.2]
     · simp at h
   · simp at h
 · split at h
   · rename_i hf
     simp only[Option.some.injEq] at h
     rw[← h]
     split
     · exact Row.bS _ _ _ (by omega)
     · rw[lT,Row.bS _ _ _ (by omega)]
   · simp at h
 · simp at h
theorem sR {H:aa} {nx sz m n:Nat} {s:AV} {new:Row} {y:AV×Delta} (h:(wQ H nx sz m n s new).run=some y):∃ old,cI H sz m s=some old∧y=(.slc 0 nx 0 0 sz (m+n) none,.push (.row (nz true (old.app new)))):=by
 unfold wQ at h
 obtain ⟨old,h1,h⟩:=Tr.bind_some h
 obtain ⟨r,h2,h⟩:=Tr.bind_some h
 refine ⟨old,l7 h1,?_⟩
 rw[← Tr.ab h,bc,rN,wz h2]
theorem vq         {P : Program} {H:aa} {nx:Nat} {t u:TypeId} {s x:AV} {y:AV×Delta} (h:(kT P H nx t u s x).run=some y):kU P true H nx t u s x=some y:=by
 unfold kT at h
 unfold kU
 split at h
 · rename_i e ht
   split at h
   · rename_i e' hu
     split at h
     · rename_i inf hi
       split at h
       · rename_i m hm
         split at h
         · rename_i n hn
           obtain ⟨hsl,h⟩:=Tr.ay h
           rw[ht,hu]
           dsimp only
           rw[hi,hm,hn]
           dsimp only
           have hcase:(n=0∧(s,Delta.aJ)=y)∨(n≠0∧(kT.main P H nx e inf s x m n).run=some y):=by
            cases hx:F0 x with
            | true =>
              rw[hx] at h
              cases n with
              | zero=>exact .inl ⟨rfl,Tr.ab h⟩
              | succ n=>exact .inr ⟨by omega,h⟩
            | false =>
              rw[hx] at h
              rcases Tr.jk h with ⟨hc,h⟩ | ⟨hc,h⟩
              · rw[dP,decide_eq_true_eq] at hc
                exact .inl ⟨hc,Tr.ab h⟩
              · rw[dP,decide_eq_false_iff_not] at hc
                exact .inr ⟨hc,h⟩
           clear h
           rcases hcase with ⟨h0,h⟩ | ⟨h0,h⟩
           · rw[if_pos h0]
             cases s<;>simp[FR] at hsl<;>exact congrArg some h
           rw[if_neg h0]
           unfold kT.main at h
           obtain ⟨hr,h⟩:=Tr.au h
           rw[ua,decide_eq_true_eq] at hr
           obtain ⟨hb,h⟩:=Tr.ay h
           obtain ⟨hz,h⟩:=Tr.ay h
           obtain ⟨new,h1,h⟩:=Tr.bind_some h
           have hcv:=l7 h1
           rw[if_pos ⟨hr.1,hr.2,wB hb,pX hz⟩,hcv]
           dsimp only
           split at h
           · rw[← Tr.ab h,rN]
           · rename_i sT r szT BI full
             obtain ⟨hf,h⟩:=Tr.au h
             obtain ⟨old,h2,rfl⟩:=sR h
             subst hf
             dsimp only
             rw[h2]
           · rename_i d i v off sz len c _ _ _ _ _
             rcases Tr.jk h with ⟨hc,h⟩ | ⟨hc,h⟩
             · rw[eU,decide_eq_true_eq,bc] at hc
               obtain ⟨old,h2,rfl⟩:=sR h
               dsimp only
               rw[if_pos hc,h2]
             · rw[eU,decide_eq_false_iff_not,bc] at hc
               dsimp only
               rw[if_neg hc]
               rw[ct] at h
               obtain ⟨hl,h⟩:=Tr.gA h
               obtain ⟨r,h2,h⟩:=Tr.bind_some h
               obtain ⟨hs,h⟩:=Tr.ay h
               have hs:=Nat.eq_of_beq_eq_true hs
               rw[hl,if_neg (by simp),iD h2]
               dsimp only
               split at h
               · rename_i l _
                 rw[kL] at h
                 have hcl:=ou hcv
                 split at h
                 · exact (Tr.ad h).elim
                 · rename_i y0 ys hy
                   obtain ⟨l',h3,h⟩:=Tr.bind_some h
                   obtain ⟨k1,k2⟩:=pK _ _ _ _ h3
                   rw[bc,bw,Nat.add_zero] at k1 k2
                   have hlen:=Row.aG (fP d new)
                   rw[hy,dm,hcl] at hlen
                   have hfit:off+(m+n)*sz≤(Row.M l).len:=by
                    rcases k1 with k1 | k1
                    · simp at k1
                    · rw[hlen,← hs] at k1
                      rw[Nat.add_mul]
                      show _≤ai l
                      omega
                   rw[if_pos ⟨hs,hfit⟩,hy,k2,← Tr.ab h,bc]
               · exact (Tr.ad h).elim
           · rename_i d i v off sz len _ _ _ _ _
             dsimp only
             rw[ct] at h
             obtain ⟨hl,h⟩:=Tr.gA h
             obtain ⟨r,h2,h⟩:=Tr.bind_some h
             obtain ⟨hs,h⟩:=Tr.ay h
             have hs:=Nat.eq_of_beq_eq_true hs
             obtain ⟨old,h3,h⟩:=Tr.bind_some h
             obtain ⟨r',h4,h⟩:=Tr.bind_some h
             obtain ⟨k1,k2⟩:=wg h3
             rw[bw] at k1 k2
             rw[hl,if_neg (by simp),iD h2]
             dsimp only
             rw[if_pos ⟨hs,k1⟩,k2,wz h4,← Tr.ab h,bc]
           · exact (Tr.ad h).elim
         · exact (Tr.ad h).elim
       · exact (Tr.ad h).elim
     · exact (Tr.ad h).elim
   · rename_i k' hu
     rw[ht,hu]
     exact yU h
   · exact (Tr.ad h).elim
 · exact (Tr.ad h).elim

end
end Go.Eng
end
