/- The engine as a tree: slices, numbers, operations. -/
import Derived.Test.YtgphpjdchnfjlaaDoorV2EngTb
set_option linter.unusedVariables false
set_option linter.unusedSimpArgs false
section
namespace Go.Eng
noncomputable section

theorem Tr.aP {α:Type} {c:Bool} {t:Tr α} {x:α} (h:(cond c t .bad).run=some x):c=true∧t.run=some x:=by
 cases c with
 | true=>exact ⟨rfl,h⟩
 | false=>exact (Tr.ag h).elim
def KC (op:BinOp) (k:IntKind) (x y:Int):Tr AV :=
 match op with
 | .add=>.ok (.int k (bg k x y))
 | .sub=>.ok (.int k (bX k x y))
 | .mul=>.ok (.int k (Hl k x y))
 | .quo=>.req (bL (cJ y 0)) (.ok (.int k (Dp k x y)))
 | .rem=>.req (bL (cJ y 0)) (.ok (.int k (jf k x y)))
 | .and=>.ok (.int k (pj k x y))
 | .or=>.ok (.int k (pU k x y))
 | .xor=>.ok (.int k (Lv k x y))
 | .andNot=>.ok (.int k (Gt k x y))
 | .eql=>.ok (.bool (cJ x y))
 | .neq=>.ok (.bool (bL (cJ x y)))
 | .lss=>.ok (.bool (bO x y))
 | .leq=>.ok (.bool (dN x y))
 | .gtr=>.ok (.bool (bO y x))
 | .geq=>.ok (.bool (dN y x))
 | _=>.bad
theorem G5 {op:BinOp} {k:IntKind} {x y:Int} {v:AV} (h:(KC op k x y).run=some v):ig op k x y=some v:=by
 unfold KC at h
 unfold ig
 cases op<;>dsimp only at h ⊢<;>try exact (Tr.ag h).elim
 case quo =>
  obtain ⟨hc,h⟩:=Tr.aL h
  rw[aY,aT] at hc
  have:¬ y=0:=by simpa using hc
  rw[if_neg this,← Tr.ae h,Ck]
 case rem =>
  obtain ⟨hc,h⟩:=Tr.aL h
  rw[aY,aT] at hc
  have:¬ y=0:=by simpa using hc
  rw[if_neg this,← Tr.ae h,mN]
 all_goals
  have h:=Tr.ae h
  subst h
  first
   | rfl
   | (simp only[gt_iff_lt,ge_iff_le,fI,dT,rj,qU,sW,wS,rF,aT,aY,bF,bt,bne];done)
   | (simp only[fI,dT,rj,qU,sW,wS,rF,aT,aY,bF,bt];done)
   | (simp only[fI,dT,rj,qU,sW,wS,rF,aT,aY,bF,bt];rfl)
def iF:List Int→List Int→Bool
 | [],[]=>true
 | [x],[y]=>cJ x y
 | x::x'::a,y::y'::b=>b7 (cJ x y) (iF (x'::a) (y'::b))
 | _,_=>false
theorem sx:∀ (l m:List Int),iF l m=eM l m
 | [],[]=>rfl
 | [],_::_=>by simp[iF,eM]
 | _::_,[]=>by simp[iF,eM]
 | [x],[y]=>by simp[iF,eM,aT]
 | [x],y::y'::b=>by simp[iF,eM]
 | x::x'::a,[y]=>by simp[iF,eM]
 | x::x'::a,y::y'::b=>by
   simp only[iF]
   rw[bS,aT,sx (x'::a) (y'::b)];rfl
def xN (r:Row):Option (IntKind×(Nat→Int)) :=
 match r with
 | .I k l=>some (k,aS l)
 | .M [.arr k z _]=>some (k,z)
 | _=>none
theorem sq (r:Row):xN r=r.ints:=by
 match r with
 | .I k l=>simp only[xN,Row.ints,kO]
 | .G l=>rfl
 | .F f n=>rfl
 | .M []=>rfl
 | .M [.arr k z n]=>rfl
 | .M (.one v::r)=>rfl
 | .M (.arr k z n::s::r)=>rfl
def Ly (P:Program) (t:TypeId) (x y:AV):Tr Bool :=
 match x,y with
 | .bool a,.bool b=>match P.underlying t with
   | some .bool=>.ok (Kd a b)
   | _=>.bad
 | .nils,.slcT s r sz n f=>match P.underlying t with
   | some (.slice _)=>.req (cZ 0 n) (.ok false)
   | _=>.bad
 | .slcT s r sz n f,.nils=>match P.underlying t with
   | some (.slice _)=>.req (cZ 0 n) (.ok false)
   | _=>.bad
 | .agg (.I k a),.agg (.I k' b)=>cond (gQ k k') (match bW P 20 t with
   | some n=>match eQ P t with
     | some true=>cond (Nat.beq n (iE a)) (cond (Nat.beq (iE a) (iE b)) (.ok (iF a b)) .bad) .bad
     | _=>.bad
   | none=>.bad) .bad
 | .agg (.M l),.agg s=>eqMT P t (.M l) s
 | .agg (.I k a),.agg (.M l)=>eqMT P t (.I k a) (.M l)
 | x,y=>vm (zK P t x y)
where
 eqMT (P:Program) (t:TypeId) (r s:Row):Tr Bool :=
  match xN r,xN s with
  | some (k,z),some (k',z')=>cond (gQ k k') (match bW P 20 t with
    | some n=>match eQ P t with
      | some true=>cond (Nat.beq n (iy r)) (cond (Nat.beq (iy r) (iy s)) (.ok (lA z z' (iy r))) .bad) .bad
      | _=>.bad
    | none=>.bad) .bad
  | _,_=>.bad
theorem Bu {P:Program} {t:TypeId} {r s:Row} {b:Bool} (h:(Ly.eqMT P t r s).run=some b):Lx P t r s=some b:=by
 unfold Ly.eqMT at h
 rw[sq,sq] at h
 unfold Lx
 split at h
 · rename_i k z k' z' h1 h2
   rw[h1,h2]
   obtain ⟨hk,h⟩:=Tr.aP h
   rw[eS,decide_eq_true_eq] at hk
   split at h
   · rename_i n hn
     split at h
     · rename_i ha
       obtain ⟨e1,h⟩:=Tr.aP h
       obtain ⟨e2,h⟩:=Tr.aP h
       rw[eV] at e1 e2 h
       rw[eV] at e2
       have e1:n=r.len:=by simpa using e1
       have e2:r.len=s.len:=by simpa using e2
       dsimp only
       rw[if_pos ⟨hk,by rw[hn,e1],ha,e2⟩,← Tr.ae h,uB]
     · exact (Tr.ag h).elim
   · exact (Tr.ag h).elim
 · exact (Tr.ag h).elim
theorem Es {P:Program} {t:TypeId} {x y:AV} {b:Bool} (h:(Ly P t x y).run=some b):zK P t x y=some b:=by
 unfold Ly at h
 split at h
 · split at h
   · rename_i hu
     unfold zK
     dsimp only
     rw[hu,← Tr.ae h,z8]
   · exact (Tr.ag h).elim
 · split at h
   · rename_i hu
     obtain ⟨hc,h⟩:=Tr.aL h
     rw[ij,decide_eq_true_eq] at hc
     unfold zK
     dsimp only
     rw[hu]
     dsimp only
     rw[if_pos hc,Tr.ae h]
   · exact (Tr.ag h).elim
 · split at h
   · rename_i hu
     obtain ⟨hc,h⟩:=Tr.aL h
     rw[ij,decide_eq_true_eq] at hc
     unfold zK
     dsimp only
     rw[hu]
     dsimp only
     rw[if_pos hc,Tr.ae h]
   · exact (Tr.ag h).elim
 · obtain ⟨hk,h⟩:=Tr.aP h
   rw[eS,decide_eq_true_eq] at hk
   split at h
   · rename_i n hn
     split at h
     · rename_i ha
       obtain ⟨e1,h⟩:=Tr.aP h
       obtain ⟨e2,h⟩:=Tr.aP h
       rw[df] at e1 e2
       rw[df] at e2
       have e1:=Nat.eq_of_beq_eq_true e1
       have e2:=Nat.eq_of_beq_eq_true e2
       unfold zK
       dsimp only
       rw[if_pos ⟨hk,by rw[hn,e1],ha,e2⟩,← Tr.ae h,sx]
     · exact (Tr.ag h).elim
   · exact (Tr.ag h).elim
 · unfold zK;exact Bu h
 · unfold zK;exact Bu h
 · rw[cN] at h;exact h
def D2 (P:Program) (op:BinOp) (t:TypeId) (x y:AV):Tr AV :=
 match x,y with
 | .int k a,.int k' b=>match op with
   | .shl=>.req (dN 0 b) (.ok (.int k (dO k a b)))
   | .shr=>.req (dN 0 b) (.ok (.int k (Lh k a b)))
   | op=>cond (gQ k k') (KC op k a b) .bad
 | x,y=>match op with
   | .eql=>(Ly P t x y).bind fun b=>.ok (.bool b)
   | .neq=>(Ly P t x y).bind fun b=>.ok (.bool (bL b))
   | _=>.bad
theorem GD {P:Program} {op:BinOp} {t:TypeId} {x y v:AV} (h:(D2 P op t x y).run=some v):jU P op t x y=some v:=by
 unfold D2 at h
 split at h
 · rename_i k a k' b
   split at h
   · obtain ⟨hc,h⟩:=Tr.aL h
     rw[bt,decide_eq_true_eq] at hc
     unfold jU
     dsimp only
     rw[if_neg (by omega),← Tr.ae h,wM]
   · obtain ⟨hc,h⟩:=Tr.aL h
     rw[bt,decide_eq_true_eq] at hc
     unfold jU
     dsimp only
     rw[if_neg (by omega),← Tr.ae h,H8]
   · rename_i h1 h2
     obtain ⟨hk,h⟩:=Tr.aP h
     rw[eS,decide_eq_true_eq] at hk
     have:jU P op t (.int k a) (.int k' b)=if k=k' then ig op k a b else none:=by
      unfold jU
      cases op<;>first | rfl | exact (h1 rfl).elim | exact (h2 rfl).elim
     rw[this,if_pos hk]
     exact G5 h
 · rename_i hn
   split at h
   · obtain ⟨b,h1,h⟩:=Tr.bind_some h
     have h2:=Es h1
     have:jU P .eql t x y=(zK P t x y).map .bool:=by
      unfold jU
      cases x<;>cases y<;>first | rfl | exact (hn _ _ _ _ rfl rfl).elim
     rw[this,h2,← Tr.ae h];rfl
   · obtain ⟨b,h1,h⟩:=Tr.bind_some h
     have h2:=Es h1
     have:jU P .neq t x y=(zK P t x y).map fun b=>.bool (!b):=by
      unfold jU
      cases x<;>cases y<;>first | rfl | exact (hn _ _ _ _ rfl rfl).elim
     rw[this,h2,← Tr.ae h,aY];rfl
   · exact (Tr.ag h).elim
def QM (op:UnOp) (x:AV):Tr AV :=
 match op,x with
 | .not,.bool b=>.ok (.bool (bL b))
 | .neg,.int k n=>.ok (.int k (Fj k n))
 | _,_=>.bad
theorem Lt {op:UnOp} {x v:AV} (h:(QM op x).run=some v):NP op x=some v:=by
 unfold QM at h
 split at h
 · rw[← Tr.ae h,aY];rfl
 · rw[← Tr.ae h,B4];rfl
 · exact (Tr.ag h).elim
def oR (mx:Bool) (k:IntKind) (x:Int):List AV→Tr AV
 | []=>.ok (.int k x)
 | v::r=>match v with
   | .int k' y=>cond (gQ k k') (oR mx k (cond mx (uk x y) (ya x y)) r) .bad
   | _=>.bad
theorem nF {mx:Bool} {k:IntKind}:∀ (l:List AV) (x:Int) (v:AV),(oR mx k x l).run=some v→ep mx k x l=some v
 | [],x,v,h=>by rw[← Tr.ae h];rfl
 | u :: r,x,v,h=>by
   simp only[oR] at h
   split at h
   · rename_i k' y
     obtain ⟨hk,h⟩:=Tr.aP h
     rw[eS,decide_eq_true_eq] at hk
     simp only[ep]
     rw[if_pos hk,← nF r _ v h,rh,ri]
     cases mx<;>rfl
   · exact (Tr.ag h).elim

def fE (a sz:Nat):Nat :=
 match sz with
 | 1=>a
 | s=>ar a s
theorem cC (a sz:Nat):fE a sz=a*sz:=by
 unfold fE
 split
 · rw[Nat.mul_one]
 · rw[oS]
abbrev QP:=Option Nat×Nat×Option Nat
def mC (lo hi mx:Option AV) (len:Nat):Tr QP :=
 match mx with
 | none=>(match hi with
    | none=>.ok len
    | some (.int _ i)=>.req (kx i len) (.ok (bR i))
    | some _=>.bad:Tr Nat).bind fun h=>(match lo with
    | none=>.ok (none,h,none)
    | some (.int _ i)=>.req (kx i h) (.ok (some (bR i),h,none))
    | some _=>.bad)
 | some (.int _ m)=>.req (kx m len) (match hi with
    | some (.int _ i)=>.req (kx i (bR m)) (match lo with
      | none=>.ok (none,bR i,some (bR m))
      | some (.int _ j)=>.req (kx j (bR i)) (.ok (some (bR j),bR i,some (bR m)))
      | some _=>.bad)
    | _=>.bad)
 | some _=>.bad
def BT (l:Option Nat):Nat :=
 match l with
 | none=>0
 | some l=>l
theorem gM {i:Int} {k:IntKind} {d top:Nat} (h:kx i top=true):bound (some (.int k i)) d top=some (bR i):=by
 rw[Bk,decide_eq_true_eq] at h
 simp only[bound]
 rw[if_pos h,lf]
theorem kz {lo hi mx:Option AV} {len:Nat} {b:QP} (h:(mC lo hi mx len).run=some b):dP lo hi mx len=some (BT b.1,b.2.1,b.2.2):=by
 unfold mC at h
 unfold dP
 split at h
 · obtain ⟨h',h1,h⟩:=Tr.bind_some h
   have e1:bound hi len len=some h':=by
    split at h1
    · rw[← Tr.ae h1];rfl
    · obtain ⟨hc,h1⟩:=Tr.aL h1
      rw[gM hc,Tr.ae h1]
    · exact (Tr.ag h1).elim
   dsimp only
   rw[e1]
   dsimp only
   split at h
   · rw[← Tr.ae h];rfl
   · obtain ⟨hc,h⟩:=Tr.aL h
     rw[gM hc,← Tr.ae h];rfl
   · exact (Tr.ag h).elim
 · rename_i k m
   obtain ⟨hm,h⟩:=Tr.aL h
   dsimp only
   rw[gM hm]
   dsimp only
   split at h
   · rename_i k' i
     obtain ⟨hi,h⟩:=Tr.aL h
     simp only[Option.isSome_some,if_true]
     rw[gM hi]
     dsimp only
     split at h
     · rw[← Tr.ae h];rfl
     · obtain ⟨hc,h⟩:=Tr.aL h
       rw[gM hc,← Tr.ae h];rfl
     · exact (Tr.ag h).elim
   · exact (Tr.ag h).elim
 · exact (Tr.ag h).elim
def wO (a:Nat) (l:Option Nat):Nat :=
 match l with
 | none=>a
 | some l=>dD a l
theorem mQ (a:Nat) (l:Option Nat):wO a l=a-BT l:=by
 cases l with
 | none=>rfl
 | some l=>exact gf a l
def DR (off:Nat) (l:Option Nat) (sz:Nat):Nat :=
 match l with
 | none=>off
 | some l=>av off (fE l sz)
theorem Bb (off:Nat) (l:Option Nat) (sz:Nat):DR off l sz=off+BT l*sz:=by
 cases l with
 | none=>simp[DR,BT]
 | some l=>simp only[DR,BT,aH,cC]
def Cr (r:Row) (l:Option Nat) (sz n:Nat):Tr Row :=
 match r with
 | .M [.arr k z N]=>.req (gm (av (fE (BT l) sz) n) N) (.ok (.M [.arr k (match l with | none=>z | some l=>rv z (fE l sz)) n]))
 | .F f N=>.req (gm (av (fE (BT l) sz) n) N) (.ok (.F (match l with | none=>f | some l=>fun j=>f (av (fE l sz) j)) n))
 | _=>.bad
theorem yM {r q:Row} {l:Option Nat} {sz n:Nat} (h:(Cr r l sz n).run=some q):BT l*sz+n≤r.len∧r.sub (BT l*sz) n=q:=by
 unfold Cr at h
 split at h
 · rename_i k z N
   obtain ⟨hc,h⟩:=Tr.aL h
   rw[kM,decide_eq_true_eq,aH,cC] at hc
   refine ⟨by simp only[Row.len,ay,aG];omega,?_⟩
   rw[← Tr.ae h]
   cases l with
   | none=>simp only[Row.sub,BT,Nat.zero_mul,Nat.zero_add]
   | some l=>simp only[Row.sub,BT,mr,cC]
 · rename_i f N
   obtain ⟨hc,h⟩:=Tr.aL h
   rw[kM,decide_eq_true_eq,aH,cC] at hc
   refine ⟨by simp only[Row.len];omega,?_⟩
   rw[← Tr.ae h]
   cases l with
   | none=>simp only[Row.sub,BT,Nat.zero_mul,Nat.zero_add]
   | some l=>simp only[Row.sub,BT,aH,cC]
 · exact (Tr.ag h).elim
def Ow (o:Option AV):Bool :=
 match o with
 | none=>true
 | some _=>false
def EA (mm:Option Nat) (full hiN:Bool) (h len:Nat):Bool :=
 match mm with
 | none=>cond hiN full (b7 full (cG h len))
 | some m=>cG h m
def AP (P:Program) (t:TypeId) (x:AV) (lo hi mx:Option AV):Tr AV :=
 match P.underlying t with
 | some (.slice e)=>match bn P e with
   | some z=>match x with
     | .slc d j v off sz len cap=>cond (Nat.beq z sz) ((mC lo hi mx len).bind fun b=>.ok (.slc d j v (DR off b.1 sz) sz (wO b.2.1 b.1) (match b.2.2 with
       | none=>match cap with | none=>none | some c=>some (wO c b.1)
       | some m=>some (wO m b.1)))) .bad
     | .slcT s r sz len full=>cond (Nat.beq z sz) ((mC lo hi mx len).bind fun b=>(Cr r b.1 sz (fE (wO b.2.1 b.1) sz)).bind fun q=>.ok (.slcT s q sz (wO b.2.1 b.1) (EA b.2.2 full (Ow hi) b.2.1 len))) .bad
     | .nils=>(mC lo hi mx 0).bind fun _=>.ok .nils
     | _=>.bad
   | none=>.bad
 | some (.array n e)=>match bn P e with
   | some sz=>match x with
     | .ptr d j v off=>(mC lo hi mx n).bind fun b=>.ok (.slc d j v (DR off b.1 sz) sz (wO b.2.1 b.1) (match b.2.2 with
       | none=>some (wO n b.1)
       | some m=>some (wO m b.1)))
     | _=>.bad
   | none=>.bad
 | _=>.bad
theorem DA {P:Program} {t:TypeId} {x v:AV} {lo hi mx:Option AV} (h:(AP P t x lo hi mx).run=some v):p8 P t x lo hi mx=some v:=by
 unfold AP at h
 unfold p8
 split at h
 · rename_i e hu
   split at h
   · rename_i z hs
     split at h
     · rename_i d j ver off sz len cap
       obtain ⟨hz,h⟩:=Tr.aP h
       have hz:z=sz:=by simpa using hz
       subst hz
       obtain ⟨b,h1,h⟩:=Tr.bind_some h
       rw[hu]
       dsimp only
       rw[kz h1]
       dsimp only
       rw[if_pos hs,← Tr.ae h,Bb,mQ]
       obtain ⟨b1,b2,b3⟩:=b
       cases b3<;>cases cap<;>simp only[mQ,Option.map_some,Option.map_none]
     · rename_i s r sz len full
       obtain ⟨hz,h⟩:=Tr.aP h
       have hz:z=sz:=by simpa using hz
       subst hz
       obtain ⟨b,h1,h⟩:=Tr.bind_some h
       obtain ⟨q,h2,h⟩:=Tr.bind_some h
       rw[hu]
       dsimp only
       have hb:=kz h1
       rw[hb]
       dsimp only
       obtain ⟨k1,k2⟩:=yM h2
       rw[cC,mQ] at k1 k2
       rw[if_pos ⟨hs,k1⟩,k2,← Tr.ae h,mQ]
       congr 2
       obtain ⟨b1,b2,b3⟩:=b
       dsimp only at hb ⊢
       cases b3 with
       | some m=>simp only[EA,fO];rw[Bool.eq_iff_iff];simp
       | none =>
         simp only[EA]
         cases hi with
         | some a =>
           simp only[Ow,cond_false,bS,fO]
           congr 1
           rw[Bool.eq_iff_iff];simp
         | none =>
           simp only[Ow,cond_true]
           have:b2=len:=by
            unfold dP at hb
            cases mx with
            | none =>
              dsimp only[bound] at hb
              split at hb
              · simp only[nP] at hb;exact hb.2.1.symm
              · simp at hb
            | some a =>
              dsimp only at hb
              split at hb
              · simp at hb
              · simp at hb
           rw[this];simp
     · obtain ⟨b,h1,h⟩:=Tr.bind_some h
       rw[hu]
       dsimp only
       rw[kz h1,hs,← Tr.ae h]
     · exact (Tr.ag h).elim
   · exact (Tr.ag h).elim
 · rename_i n e hu
   split at h
   · rename_i sz hs
     split at h
     · rename_i d j ver off
       obtain ⟨b,h1,h⟩:=Tr.bind_some h
       rw[hu]
       dsimp only
       rw[kz h1]
       dsimp only
       rw[hs,← Tr.ae h,Bb,mQ]
       obtain ⟨b1,b2,b3⟩:=b
       cases b3<;>simp only[mQ]
     · exact (Tr.ag h).elim
   · exact (Tr.ag h).elim
 · exact (Tr.ag h).elim

def rQ (H:aa) (sz n:Nat) (x:AV):Tr Row :=
 match x with
 | .slc d i v off sz' len cap=>(wG H d i v (some 0)).bind fun r=>cond (Nat.beq sz' sz) (.req (gm n len) (match r with
    | .M [.arr k z N]=>.req (fC off (fE n sz) 0 N) (.ok (.M [.arr k (rv z off) (fE n sz)]))
    | .I k l=>cond (ub (.I k l) off (Nat.mul n sz)) (.ok (A1 d (Row.I k (iA (lj l off) (Nat.mul n sz))))) .bad
    | .G l=>cond (ub (.G l) off (Nat.mul n sz)) (.ok (A1 d (Row.G (iA (lj l off) (Nat.mul n sz))))) .bad
    | .F f N=>.req (fC off (fE n sz) 0 N) (.ok (.F (fun j=>f (av off j)) (fE n sz)))
    | _=>.bad)) .bad
 | .slcT s r sz' len _=>cond (Nat.beq sz' sz) (.req (gm n len) ((Cr r none sz (fE n sz)).bind fun q=>.ok (match s with | none=>q | some k=>A1 k q))) .bad
 | _=>.bad
theorem NS (d:Nat) (k:IntKind) (z:Nat→Int) (n:Nat):A1 d (.M [.arr k z n])=.M [.arr k z n]:=by cases d<;>rfl
theorem NR (d:Nat) (f:Nat→AV) (n:Nat):A1 d (.F f n)=.F f n:=by cases d<;>rfl
theorem pr {H:aa} {sz n:Nat} {x:AV} {q:Row} (h:(rQ H sz n x).run=some q):dW H sz n x=some q:=by
 unfold rQ at h
 split at h
 · rename_i d i v off sz' len cap
   obtain ⟨r,h1,h⟩:=Tr.bind_some h
   obtain ⟨hz,h⟩:=Tr.aP h
   have hz:sz'=sz:=by simpa using hz
   obtain ⟨hc,h⟩:=Tr.aL h
   rw[kM,decide_eq_true_eq] at hc
   unfold dW
   dsimp only
   rw[kW h1]
   dsimp only
   split at h
   · rename_i k z N
     obtain ⟨hc2,h⟩:=Tr.aL h
     rw[jJ,decide_eq_true_eq,cC] at hc2
     rw[if_pos ⟨hz,hc,by simp only[Row.len,ay,aG];omega⟩,← Tr.ae h]
     simp only[Row.sub,NS,mr,cC]
   · rename_i k l
     obtain ⟨hc2,h⟩:=Tr.aP h
     rw[kE,decide_eq_true_eq] at hc2
     rw[if_pos ⟨hz,hc,hc2⟩,← Tr.ae h,gh,gO]
     rfl
   · rename_i l
     obtain ⟨hc2,h⟩:=Tr.aP h
     rw[kE,decide_eq_true_eq] at hc2
     rw[if_pos ⟨hz,hc,hc2⟩,← Tr.ae h,gh,gO]
     rfl
   · rename_i f N
     obtain ⟨hc2,h⟩:=Tr.aL h
     rw[jJ,decide_eq_true_eq,cC] at hc2
     rw[if_pos ⟨hz,hc,by simp only[Row.len];omega⟩,← Tr.ae h]
     simp only[Row.sub,NR,aH,cC]
   · exact (Tr.ag h).elim
 · rename_i s r sz' len full
   obtain ⟨hz,h⟩:=Tr.aP h
   have hz:sz'=sz:=by simpa using hz
   obtain ⟨hc,h⟩:=Tr.aL h
   rw[kM,decide_eq_true_eq] at hc
   obtain ⟨q',h1,h⟩:=Tr.bind_some h
   obtain ⟨k1,k2⟩:=yM h1
   rw[cC] at k1 k2
   simp only[BT,Nat.zero_mul,Nat.zero_add] at k1 k2
   unfold dW
   dsimp only
   rw[if_pos ⟨hz,hc,k1⟩,← Tr.ae h,k2]
   cases s<;>rfl
 · exact (Tr.ag h).elim

end
end Go.Eng
end
section
namespace Go.Eng
noncomputable section

theorem Tr.jW {α:Type} {c:Bool} {t:Tr α} {x:α} (h:(cond c .bad t).run=some x):c=false∧t.run=some x:=by
 cases c with
 | false=>exact ⟨rfl,h⟩
 | true=>exact (Tr.ag h).elim

def yf:AV→AV
 | .slcT none (.I k l) sz m _=>.slcT none (.M [.arr k (aS l) (iE l)]) sz m false
 | .slcT none (.M [.arr k z n]) sz m _=>.slcT none (.M [.arr k z n]) sz m false
 | v=>v
theorem yg (v:AV):yf v=m8 v:=by
 unfold yf m8
 split
 · simp only[kO,df]
 · rfl
 · rename_i h1 h2
   split
   · exact absurd rfl (h1 _ _ _ _ _)
   · exact absurd rfl (h2 _ _ _ _ _ _)
   · rfl
def Eu (r:Row):Row :=
 match r with
 | .I k l=>.M [.arr k (aS l) (iE l)]
 | .G [v]=>cond (qt v) (.F (fun _=>yf v) 1) (.G [v])
 | r=>r
theorem vT (r:Row):Eu r=qN true r:=by
 cases r with
 | I k l=>simp only[Eu,qN,if_true,kO,df]
 | F f n=>rfl
 | M l=>rfl
 | G l =>
   match l with
   | []=>rfl
   | [v] =>
     show cond (qt v) (Row.F (fun _=>yf v) 1) (Row.G [v])=if (true && qt v)=true then Row.F (fun _=>m8 v) 1 else Row.G [v]
     rw[yg]
     cases qt v<;>rfl
   | a::b::r=>rfl
def UG:AV→Nat→Int
 | .slcT _ (.M [.arr _ z _]) _ _ _=>z
 | _=>fun _=>0
def T2:AV→Nat
 | .slcT _ (.M [.arr _ _ n]) _ _ _=>n
 | _=>0
def TY:AV→Nat
 | .slcT _ _ _ m _=>m
 | _=>0
def Gw (r s:Row):Tr Row :=
 match r with
 | .M [.arr k z n]=>match xN s with
   | some (k',z')=>cond (gQ k' k) (.ok (.M [.arr k (po z n z') (av n (iy s))])) .bad
   | none=>.bad
 | .I k l=>match s with
   | .I k' l'=>cond (gQ k' k) (.ok (.I k (mT l l'))) .bad
   | .M [.arr k' z' n']=>cond (gQ k' k) (.ok (.M [.arr k (po (aS l) (iE l) z') (av (iE l) n')])) .bad
   | _=>.bad
 | .G l=>match s with
   | .G l'=>.ok (.G (mT l l'))
   | _=>.bad
 | .F f n=>match s with
   | .G [v]=>cond (qt v) (match yf v with
     | .slcT none (.M [.arr k z N]) sz m full=>.reqP (JT f k sz full)
       (.ok (.F (fun j=>.slcT none (.M [.arr k (Le (cZ j n) (UG (f j)) z) (HR (cZ j n) (T2 (f j)) N)]) sz (HR (cZ j n) (TY (f j)) m) full) (av n 1)))
     | _=>.bad) .bad
   | _=>.bad
 | _=>.bad
theorem Be {r s q:Row} (h:(Gw r s).run=some q):r.app s=q:=by
 unfold Gw at h
 split at h
 · rename_i k z n
   rw[sq] at h
   split at h
   · rename_i k' z' hi
     obtain ⟨hk,h⟩:=Tr.aP h
     rw[eS,decide_eq_true_eq] at hk
     have e:Row.app (.M [.arr k z n]) s=(match (Row.M [.arr k z n]).tT s with | some q=>q | none=>.G ((Row.M [.arr k z n]).toList++s.toList)):=by
      cases s<;>rfl
     rw[e]
     unfold Row.tT
     rw[hi]
     dsimp only[Row.ints]
     rw[if_pos hk,← Tr.ae h,my,aH,eV]
     rfl
   · exact (Tr.ag h).elim
 · rename_i k l
   split at h
   · rename_i k' l'
     obtain ⟨hk,h⟩:=Tr.aP h
     rw[eS,decide_eq_true_eq] at hk
     simp only[Row.app]
     rw[if_pos hk,← Tr.ae h,ku]
   · rename_i k' z' n'
     obtain ⟨hk,h⟩:=Tr.aP h
     rw[eS,decide_eq_true_eq] at hk
     simp only[Row.app]
     unfold Row.tT
     dsimp only[Row.ints]
     rw[if_pos hk,← Tr.ae h,my,aH,df,kO]
     rfl
   · exact (Tr.ag h).elim
 · split at h
   · rw[← Tr.ae h,ku];rfl
   · exact (Tr.ag h).elim
 · rename_i f n
   split at h
   · rename_i v
     obtain ⟨hv,h⟩:=Tr.aP h
     split at h
     · rename_i k z N sz m full hn
       obtain ⟨hf,h⟩:=Tr.gz h
       rw[yg] at hn
       rw[← Tr.ae h,aH]
       show Row.F _ _=Row.F _ _
       congr 1
       funext j
       simp only[HU,HS,ij]
       by_cases e:j<n
       · have hb:Nat.blt j n=true:=by rw[Nat.blt_eq];exact e
         rw[hb,if_pos rfl,decide_eq_true e]
         rw[Gr] at hf
         obtain ⟨z',n',m',e'⟩:=hf j
         rw[e'];rfl
       · have hb:Nat.blt j n=false:=by
          cases hb:Nat.blt j n with
          | false=>rfl
          | true=>rw[Nat.blt_eq] at hb;exact absurd hb e
         rw[hb,if_neg (by simp),decide_eq_false e]
         show (if gT v=true then m8 v else .undef)=_
         rw[if_pos (sr hv),hn]
         rfl
     · exact (Tr.ag h).elim
   · exact (Tr.ag h).elim
 · exact (Tr.ag h).elim
def ML (x:AV):Bool :=
 match x with
 | .slc _ _ _ _ _ _ (some _)=>true
 | _=>false
def My (s:AV):Bool :=
 match s with
 | .nils | .slc .. | .slcT ..=>true
 | _=>false
def rB (P:Program) (e:TypeId) (n:Nat):Bool :=
 match (cA P e).bind AV.row with
 | some z=>Nat.beq (iy z) n
 | none=>false
theorem tG {P:Program} {e:TypeId} {n:Nat} (h:rB P e n=true):((cA P e).bind AV.row).map Row.len=some n:=by
 unfold rB at h
 split at h
 · rename_i z hz
   rw[eV] at h
   have h:=Nat.eq_of_beq_eq_true h
   rw[hz,Option.map_some,h]
 · simp at h
def BD (H:aa) (nx sz m n:Nat) (s:AV) (new:Row):Tr (AV×Delta) :=
 (rQ H sz m s).bind fun old=>(Gw old new).bind fun r=>.ok (.slc 0 nx 0 0 sz (av m n) none,.push (.row (Eu r)))
def wP (r:Row) (off n:Nat):Tr Row :=
 match r with
 | .M [.arr k z N]=>.req (cG (av off n) N) (.ok (.M [.arr k (rv z off) n]))
 | .G l=>cond (Nat.beq (Nat.add off n) (iE l)) (.ok (.G (iA (lj l off) n))) .bad
 | .F f N=>.req (cG (av off n) N) (.ok (.F (fun j=>f (av off j)) n))
 | _=>.bad
theorem AY {r q:Row} {off n:Nat} (h:(wP r off n).run=some q):off+n=r.len∧r.sub off n=q:=by
 unfold wP at h
 split at h
 · rename_i k z N
   obtain ⟨hc,h⟩:=Tr.aL h
   rw[fO,decide_eq_true_eq,aH] at hc
   refine ⟨by simp only[Row.len,ay,aG];omega,?_⟩
   rw[← Tr.ae h,mr];rfl
 · rename_i l
   obtain ⟨hc,h⟩:=Tr.aP h
   rw[df] at hc
   have hc:=Nat.eq_of_beq_eq_true hc
   exact ⟨hc,by rw[← Tr.ae h,gh,gO];rfl⟩
 · rename_i f N
   obtain ⟨hc,h⟩:=Tr.aL h
   rw[fO,decide_eq_true_eq,aH] at hc
   refine ⟨hc,?_⟩
   rw[← Tr.ae h]
   simp only[aH]
   rfl
 · exact (Tr.ag h).elim
def DU (P:Program) (nx:Nat) (e:TypeId) (s x:AV):Tr (AV×Delta) :=
 match P.info? e with
 | some inf=>match s with
   | .nils=>match x with
     | .int _ k=>cond (Nat.blt 0 inf.size) (cond (rB P e inf.size) (.req (DP k k inf.bytes) (.ite (cJ k (Int.ofNat 0)) (.ok (.nils,.bk)) (.ok (.slc 0 nx 0 0 inf.size (bR k) none,.push (.row (Eu (.I .i64 []))))))) .bad) .bad
     | _=>.bad
   | _=>.bad
 | none=>.bad
theorem DV {P:Program} {nx:Nat} {e:TypeId} {s x:AV} {y:AV×Delta} (h:(DU P nx e s x).run=some y):DT P true nx e s x=some y:=by
 unfold DU at h
 unfold DT
 split at h
 · rename_i inf hi
   rw[hi]
   split at h
   · split at h
     · rename_i kk k
       obtain ⟨hb,h⟩:=Tr.aP h
       obtain ⟨hz,h⟩:=Tr.aP h
       obtain ⟨hm,h⟩:=Tr.aL h
       rw[Ay,decide_eq_true_eq] at hm
       dsimp only
       rw[if_pos ⟨hm.1,hm.2.2.2,hm.2.2.1,Bj hb,tG hz⟩]
       rcases Tr.j7 h with ⟨hc,h⟩ | ⟨hc,h⟩
       · rw[aT,beq_iff_eq] at hc
         rw[if_pos (show k=0 from hc),Tr.ae h]
       · rw[aT,beq_eq_false_iff_ne] at hc
         rw[if_neg (show ¬ k=0 from hc),← Tr.ae h,vT,lf]
     · exact (Tr.ag h).elim
   · exact (Tr.ag h).elim
 · exact (Tr.ag h).elim
def oh (P:Program) (H:aa) (nx:Nat) (t u:TypeId) (s x:AV):Tr (AV×Delta) :=
 match P.underlying t with
 | some (.slice e)=>match P.underlying u with
   | some (.slice _)=>match P.info? e with
     | some inf=>match nw s with
       | some m=>match nw x with
         | some n=>cond (My s) (match ML x,n with
           | true,0=>.ok (s,.bk)
           | true,_=>main P H nx e inf s x m n
           | false,_=>.ite (cG n 0) (.ok (s,.bk)) (main P H nx e inf s x m n)) .bad
         | none=>.bad
       | none=>.bad
     | none=>.bad
   | some (.int _)=>DU P nx e s x
   | _=>.bad
 | _=>.bad
where
 main (P : Program) (H:aa) (nx:Nat) (e:TypeId) (inf:TypeInfo) (s x:AV) (m n:Nat):Tr (AV×Delta) :=
  .req (jA m n inf.bytes) (cond (Nat.blt 0 inf.bytes) (cond (rB P e inf.size) ((rQ H inf.size n x).bind fun new =>
   match s with
   | .nils=>.ok (.slc 0 nx 0 0 inf.size n none,.push (.row (Eu new)))
   | .slcT _ _ _ _ full=>.req full (BD H nx inf.size m n s new)
   | .slc d i v off sz _ (some c)=>.ite (cZ c (av m n)) (BD H nx inf.size m n s new)
     (cond (ff H d) .bad ((wG H d i v (some 0)).bind fun r=>cond (Nat.beq sz inf.size) (match r with
       | .M l=>match ld (jn d new) with
         | []=>.bad
         | y::ys=>(yH (av off (fE m sz)) (some 0) (y::ys) 0 l).bind fun l'=>.ok (.slc d i v off sz (av m n) (some c),.set d i (v,.row (.M l')))
       | _=>.bad) .bad))
   | .slc d i v off sz _ none=>cond (ff H d) .bad ((wG H d i v (some 0)).bind fun r=>cond (Nat.beq sz inf.size)
     ((wP r off (fE m sz)).bind fun old=>(Gw old (jn d new)).bind fun r'=>.ok (.slc d i (Nat.succ v) 0 sz (av m n) none,.set d i (Nat.succ v,.row r'))) .bad)
   | _=>.bad) .bad) .bad)
theorem rR {H:aa} {sz n:Nat} {x:AV} {q:Row} (h:dW H sz n x=some q):q.len=n*sz:=by
 unfold dW at h
 split at h
 · split at h
   · rename_i hn
     simp only[Option.some.injEq] at h
     rw[← h,hn];simp[Row.len]
   · simp at h
 · split at h
   · split at h
     · rename_i hf
       simp only[Option.some.injEq] at h
       rw[← h,pb,Row.cY _ _ _ hf.2.2]
     · simp at h
   · simp at h
 · split at h
   · rename_i hf
     simp only[Option.some.injEq] at h
     rw[← h]
     split
     · exact Row.cY _ _ _ (by omega)
     · rw[pb,Row.cY _ _ _ (by omega)]
   · simp at h
 · simp at h
theorem xD {H:aa} {nx sz m n:Nat} {s:AV} {new:Row} {y:AV×Delta} (h:(BD H nx sz m n s new).run=some y):∃ old,dW H sz m s=some old∧y=(.slc 0 nx 0 0 sz (m+n) none,.push (.row (qN true (old.app new)))):=by
 unfold BD at h
 obtain ⟨old,h1,h⟩:=Tr.bind_some h
 obtain ⟨r,h2,h⟩:=Tr.bind_some h
 refine ⟨old,pr h1,?_⟩
 rw[← Tr.ae h,aH,vT,Be h2]
theorem zN         {P : Program} {H:aa} {nx:Nat} {t u:TypeId} {s x:AV} {y:AV×Delta} (h:(oh P H nx t u s x).run=some y):oi P true H nx t u s x=some y:=by
 unfold oh at h
 unfold oi
 split at h
 · rename_i e ht
   split at h
   · rename_i e' hu
     split at h
     · rename_i inf hi
       split at h
       · rename_i m hm
         split at h
         · rename_i n hn
           obtain ⟨hsl,h⟩:=Tr.aP h
           rw[ht,hu]
           dsimp only
           rw[hi,hm,hn]
           dsimp only
           have hcase:(n=0∧(s,Delta.bk)=y)∨(n≠0∧(oh.main P H nx e inf s x m n).run=some y):=by
            cases hx:ML x with
            | true =>
              rw[hx] at h
              cases n with
              | zero=>exact .inl ⟨rfl,Tr.ae h⟩
              | succ n=>exact .inr ⟨by omega,h⟩
            | false =>
              rw[hx] at h
              rcases Tr.j7 h with ⟨hc,h⟩ | ⟨hc,h⟩
              · rw[fO,decide_eq_true_eq] at hc
                exact .inl ⟨hc,Tr.ae h⟩
              · rw[fO,decide_eq_false_iff_not] at hc
                exact .inr ⟨hc,h⟩
           clear h
           rcases hcase with ⟨h0,h⟩ | ⟨h0,h⟩
           · rw[if_pos h0]
             cases s<;>simp[My] at hsl<;>exact congrArg some h
           rw[if_neg h0]
           unfold oh.main at h
           obtain ⟨hr,h⟩:=Tr.aL h
           rw[yC,decide_eq_true_eq] at hr
           obtain ⟨hb,h⟩:=Tr.aP h
           obtain ⟨hz,h⟩:=Tr.aP h
           obtain ⟨new,h1,h⟩:=Tr.bind_some h
           have hcv:=pr h1
           rw[if_pos ⟨hr.1,hr.2,Bj hb,tG hz⟩,hcv]
           dsimp only
           split at h
           · rw[← Tr.ae h,vT]
           · rename_i sT r szT Hc full
             obtain ⟨hf,h⟩:=Tr.aL h
             obtain ⟨old,h2,rfl⟩:=xD h
             subst hf
             dsimp only
             rw[h2]
           · rename_i d i v off sz len c _ _ _ _ _
             rcases Tr.j7 h with ⟨hc,h⟩ | ⟨hc,h⟩
             · rw[ij,decide_eq_true_eq,aH] at hc
               obtain ⟨old,h2,rfl⟩:=xD h
               dsimp only
               rw[if_pos hc,h2]
             · rw[ij,decide_eq_false_iff_not,aH] at hc
               dsimp only
               rw[if_neg hc]
               rw[dK] at h
               obtain ⟨hl,h⟩:=Tr.jW h
               obtain ⟨r,h2,h⟩:=Tr.bind_some h
               obtain ⟨hs,h⟩:=Tr.aP h
               have hs:=Nat.eq_of_beq_eq_true hs
               rw[hl,if_neg (by simp),kW h2]
               dsimp only
               split at h
               · rename_i l _
                 rw[nX] at h
                 have hcl:=rR hcv
                 split at h
                 · exact (Tr.ag h).elim
                 · rename_i y0 ys hy
                   obtain ⟨l',h3,h⟩:=Tr.bind_some h
                   obtain ⟨k1,k2⟩:=tm _ _ _ _ h3
                   rw[aH,cC,Nat.add_zero] at k1 k2
                   have hlen:=Row.bh (jn d new)
                   rw[hy,eY,hcl] at hlen
                   have hfit:off+(m+n)*sz≤(Row.M l).len:=by
                    rcases k1 with k1 | k1
                    · simp at k1
                    · rw[hlen,← hs] at k1
                      rw[Nat.add_mul]
                      show _≤ay l
                      omega
                   rw[if_pos ⟨hs,hfit⟩,hy,k2,← Tr.ae h,aH]
               · exact (Tr.ag h).elim
           · rename_i d i v off sz len _ _ _ _ _
             dsimp only
             rw[dK] at h
             obtain ⟨hl,h⟩:=Tr.jW h
             obtain ⟨r,h2,h⟩:=Tr.bind_some h
             obtain ⟨hs,h⟩:=Tr.aP h
             have hs:=Nat.eq_of_beq_eq_true hs
             obtain ⟨old,h3,h⟩:=Tr.bind_some h
             obtain ⟨r',h4,h⟩:=Tr.bind_some h
             obtain ⟨k1,k2⟩:=AY h3
             rw[cC] at k1 k2
             rw[hl,if_neg (by simp),kW h2]
             dsimp only
             rw[if_pos ⟨hs,k1⟩,k2,Be h4,← Tr.ae h,aH]
           · exact (Tr.ag h).elim
         · exact (Tr.ag h).elim
       · exact (Tr.ag h).elim
     · exact (Tr.ag h).elim
   · rename_i k' hu
     rw[ht,hu]
     exact DV h
   · exact (Tr.ag h).elim
 · exact (Tr.ag h).elim

end
end Go.Eng
end
