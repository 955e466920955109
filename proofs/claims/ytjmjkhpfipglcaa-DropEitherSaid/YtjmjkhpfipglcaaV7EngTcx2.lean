/- The engine as a tree: slices, numbers, operations. -/
import Derived.Test.YtjmjkhpfipglcaaV7EngTb
section
namespace Go.Eng
set_option linter.unusedVariables false
set_option linter.unusedSimpArgs false
noncomputable section

theorem Tr.bg {α:Type} {c:Bool} {t:Tr α} {x:α} (h:(cond c t .bad).run=some x):c=true∧t.run=some x:=by
 cases c with
 | true=>exact ⟨rfl,h⟩
 | false=>exact (Tr.ag h).elim
def Hq (op:BinOp) (k:IntKind) (x y:Int):Tr AV :=
 match op with
 | .add=>.ok (.int k (ay k x y))
 | .sub=>.ok (.int k (az k x y))
 | .mul=>.ok (.int k (bS k x y))
 | .quo=>.req (aD (aF y 0)) (.ok (.int k (HL k x y)))
 | .rem=>.req (aD (aF y 0)) (.ok (.int k (gn k x y)))
 | .and=>.ok (.int k (Gx k x y))
 | .or=>.ok (.int k (NR k x y))
 | .xor=>.ok (.int k (Iy k x y))
 | .andNot=>.ok (.int k (Ly k x y))
 | .eql=>.ok (.bool (aF x y))
 | .neq=>.ok (.bool (aD (aF x y)))
 | .lss=>.ok (.bool (bA x y))
 | .leq=>.ok (.bool (dA x y))
 | .gtr=>.ok (.bool (bA y x))
 | .geq=>.ok (.bool (dA y x))
 | _=>.bad
theorem Ev {op:BinOp} {k:IntKind} {x y:Int} {v:AV} (h:(Hq op k x y).run=some v):ig op k x y=some v:=by
 unfold Hq at h
 unfold ig
 cases op<;>dsimp only at h ⊢<;>try exact (Tr.ag h).elim
 case quo =>
  obtain ⟨hc,h⟩:=Tr.aZ h
  rw[cL,bY] at hc
  have:¬ y=0:=by simpa using hc
  rw[if_neg this,← Tr.ab h,Fg]
 case rem =>
  obtain ⟨hc,h⟩:=Tr.aZ h
  rw[cL,bY] at hc
  have:¬ y=0:=by simpa using hc
  rw[if_neg this,← Tr.ab h,Ad]
 all_goals
  have h:=Tr.ab h
  subst h
  first
   | rfl
   | (simp only[gt_iff_lt,ge_iff_le,aR,aQ,bu,ur,yy,vz,xZ,bY,cL,cj,er,bne];done)
   | (simp only[aR,aQ,bu,ur,yy,vz,xZ,bY,cL,cj,er];done)
   | (simp only[aR,aQ,bu,ur,yy,vz,xZ,bY,cL,cj,er];rfl)
def iB:List Int→List Int→Bool
 | [],[]=>true
 | [x],[y]=>aF x y
 | x::x'::a,y::y'::b=>cX (aF x y) (iB (x'::a) (y'::b))
 | _,_=>false
theorem rO:∀ (l m:List Int),iB l m=fo l m
 | [],[]=>rfl
 | [],_::_=>by simp[iB,fo]
 | _::_,[]=>by simp[iB,fo]
 | [x],[y]=>by simp[iB,fo,bY]
 | [x],y::y'::b=>by simp[iB,fo]
 | x::x'::a,[y]=>by simp[iB,fo]
 | x::x'::a,y::y'::b=>by
   simp only[iB]
   rw[kf,bY,rO (x'::a) (y'::b)];rfl
def wD (r:Row):Option (IntKind×(Nat→Int)) :=
 match r with
 | .I k l=>some (k,bE l)
 | .M [.arr k z _]=>some (k,z)
 | _=>none
theorem rI (r:Row):wD r=r.ints:=by
 match r with
 | .I k l=>simp only[wD,Row.ints,gL]
 | .G l=>rfl
 | .F f n=>rfl
 | .M []=>rfl
 | .M [.arr k z n]=>rfl
 | .M (.one v::r)=>rfl
 | .M (.arr k z n::s::r)=>rfl
def IB (P:Program) (t:TypeId) (x y:AV):Tr Bool :=
 match x,y with
 | .bool a,.bool b=>match P.underlying t with
   | some .bool=>.ok (Mm a b)
   | _=>.bad
 | .nils,.slcT s r sz n f=>match P.underlying t with
   | some (.slice _)=>.req (bt 0 n) (.ok false)
   | _=>.bad
 | .slcT s r sz n f,.nils=>match P.underlying t with
   | some (.slice _)=>.req (bt 0 n) (.ok false)
   | _=>.bad
 | .agg (.I k a),.agg (.I k' b)=>cond (gX k k') (match cE P 20 t with
   | some n=>match fv P t with
     | some true=>cond (Nat.beq n (kA a)) (cond (Nat.beq (kA a) (kA b)) (.ok (iB a b)) .bad) .bad
     | _=>.bad
   | none=>.bad) .bad
 | .agg (.M l),.agg s=>eqMT P t (.M l) s
 | .agg (.I k a),.agg (.M l)=>eqMT P t (.I k a) (.M l)
 | x,y=>uW (xT P t x y)
where
 eqMT (P:Program) (t:TypeId) (r s:Row):Tr Bool :=
  match wD r,wD s with
  | some (k,z),some (k',z')=>cond (gX k k') (match cE P 20 t with
    | some n=>match fv P t with
      | some true=>cond (Nat.beq n (iu r)) (cond (Nat.beq (iu r) (iu s)) (.ok (oN z z' (iu r))) .bad) .bad
      | _=>.bad
    | none=>.bad) .bad
  | _,_=>.bad
theorem zh {P:Program} {t:TypeId} {r s:Row} {b:Bool} (h:(IB.eqMT P t r s).run=some b):IA P t r s=some b:=by
 unfold IB.eqMT at h
 rw[rI,rI] at h
 unfold IA
 split at h
 · rename_i k z k' z' h1 h2
   rw[h1,h2]
   obtain ⟨hk,h⟩:=Tr.bg h
   rw[fw,decide_eq_true_eq] at hk
   split at h
   · rename_i n hn
     split at h
     · rename_i ha
       obtain ⟨e1,h⟩:=Tr.bg h
       obtain ⟨e2,h⟩:=Tr.bg h
       rw[fz] at e1 e2 h
       rw[fz] at e2
       have e1:n=r.len:=by simpa using e1
       have e2:r.len=s.len:=by simpa using e2
       dsimp only
       rw[if_pos ⟨hk,by rw[hn,e1],ha,e2⟩,← Tr.ab h,AA]
     · exact (Tr.ag h).elim
   · exact (Tr.ag h).elim
 · exact (Tr.ag h).elim
theorem B9 {P:Program} {t:TypeId} {x y:AV} {b:Bool} (h:(IB P t x y).run=some b):xT P t x y=some b:=by
 unfold IB at h
 split at h
 · split at h
   · rename_i hu
     unfold xT
     dsimp only
     rw[hu,← Tr.ab h,GY]
   · exact (Tr.ag h).elim
 · split at h
   · rename_i hu
     obtain ⟨hc,h⟩:=Tr.aZ h
     rw[dJ,decide_eq_true_eq] at hc
     unfold xT
     dsimp only
     rw[hu]
     dsimp only
     rw[if_pos hc,Tr.ab h]
   · exact (Tr.ag h).elim
 · split at h
   · rename_i hu
     obtain ⟨hc,h⟩:=Tr.aZ h
     rw[dJ,decide_eq_true_eq] at hc
     unfold xT
     dsimp only
     rw[hu]
     dsimp only
     rw[if_pos hc,Tr.ab h]
   · exact (Tr.ag h).elim
 · obtain ⟨hk,h⟩:=Tr.bg h
   rw[fw,decide_eq_true_eq] at hk
   split at h
   · rename_i n hn
     split at h
     · rename_i ha
       obtain ⟨e1,h⟩:=Tr.bg h
       obtain ⟨e2,h⟩:=Tr.bg h
       rw[fa] at e1 e2
       rw[fa] at e2
       have e1:=Nat.eq_of_beq_eq_true e1
       have e2:=Nat.eq_of_beq_eq_true e2
       unfold xT
       dsimp only
       rw[if_pos ⟨hk,by rw[hn,e1],ha,e2⟩,← Tr.ab h,rO]
     · exact (Tr.ag h).elim
   · exact (Tr.ag h).elim
 · unfold xT;exact zh h
 · unfold xT;exact zh h
 · rw[dw] at h;exact h
def BM (P:Program) (op:BinOp) (t:TypeId) (x y:AV):Tr AV :=
 match x,y with
 | .int k a,.int k' b=>match op with
   | .shl=>.req (dA 0 b) (.ok (.int k (H3 k a b)))
   | .shr=>.req (dA 0 b) (.ok (.int k (H4 k a b)))
   | op=>cond (gX k k') (Hq op k a b) .bad
 | x,y=>match op with
   | .eql=>(IB P t x y).bind fun b=>.ok (.bool b)
   | .neq=>(IB P t x y).bind fun b=>.ok (.bool (aD b))
   | _=>.bad
theorem DY {P:Program} {op:BinOp} {t:TypeId} {x y v:AV} (h:(BM P op t x y).run=some v):jM P op t x y=some v:=by
 unfold BM at h
 split at h
 · rename_i k a k' b
   split at h
   · obtain ⟨hc,h⟩:=Tr.aZ h
     rw[er,decide_eq_true_eq] at hc
     unfold jM
     dsimp only
     rw[if_neg (by omega),← Tr.ab h,FA]
   · obtain ⟨hc,h⟩:=Tr.aZ h
     rw[er,decide_eq_true_eq] at hc
     unfold jM
     dsimp only
     rw[if_neg (by omega),← Tr.ab h,FC]
   · rename_i h1 h2
     obtain ⟨hk,h⟩:=Tr.bg h
     rw[fw,decide_eq_true_eq] at hk
     have:jM P op t (.int k a) (.int k' b)=if k=k' then ig op k a b else none:=by
      unfold jM
      cases op<;>first | rfl | exact (h1 rfl).elim | exact (h2 rfl).elim
     rw[this,if_pos hk]
     exact Ev h
 · rename_i hn
   split at h
   · obtain ⟨b,h1,h⟩:=Tr.bind_some h
     have h2:=B9 h1
     have:jM P .eql t x y=(xT P t x y).map .bool:=by
      unfold jM
      cases x<;>cases y<;>first | rfl | exact (hn _ _ _ _ rfl rfl).elim
     rw[this,h2,← Tr.ab h];rfl
   · obtain ⟨b,h1,h⟩:=Tr.bind_some h
     have h2:=B9 h1
     have:jM P .neq t x y=(xT P t x y).map fun b=>.bool (!b):=by
      unfold jM
      cases x<;>cases y<;>first | rfl | exact (hn _ _ _ _ rfl rfl).elim
     rw[this,h2,← Tr.ab h,cL];rfl
   · exact (Tr.ag h).elim
def O5 (op:UnOp) (x:AV):Tr AV :=
 match op,x with
 | .not,.bool b=>.ok (.bool (aD b))
 | .neg,.int k n=>.ok (.int k (HC k n))
 | _,_=>.bad
theorem Iv {op:UnOp} {x v:AV} (h:(O5 op x).run=some v):Lu op x=some v:=by
 unfold O5 at h
 split at h
 · rw[← Tr.ab h,cL];rfl
 · rw[← Tr.ab h,ER];rfl
 · exact (Tr.ag h).elim
def ow (mx:Bool) (k:IntKind) (x:Int):List AV→Tr AV
 | []=>.ok (.int k x)
 | v::r=>match v with
   | .int k' y=>cond (gX k k') (ow mx k (cond mx (Cw x y) (Cz x y)) r) .bad
   | _=>.bad
theorem m7 {mx:Bool} {k:IntKind}:∀ (l:List AV) (x:Int) (v:AV),(ow mx k x l).run=some v→eU mx k x l=some v
 | [],x,v,h=>by rw[← Tr.ab h];rfl
 | u :: r,x,v,h=>by
   simp only[ow] at h
   split at h
   · rename_i k' y
     obtain ⟨hk,h⟩:=Tr.bg h
     rw[fw,decide_eq_true_eq] at hk
     simp only[eU]
     rw[if_pos hk,← m7 r _ v h,zR,zS]
     cases mx<;>rfl
   · exact (Tr.ag h).elim

def iS (a sz:Nat):Nat :=
 match sz with
 | 1=>a
 | s=>aI a s
theorem cT (a sz:Nat):iS a sz=a*sz:=by
 unfold iS
 split
 · rw[Nat.mul_one]
 · rw[gl]
abbrev O7:=Option Nat×Nat×Option Nat
def lS (lo hi mx:Option AV) (len:Nat):Tr O7 :=
 match mx with
 | none=>(match hi with
    | none=>.ok len
    | some (.int _ i)=>.req (mN i len) (.ok (fi i))
    | some _=>.bad:Tr Nat).bind fun h=>(match lo with
    | none=>.ok (none,h,none)
    | some (.int _ i)=>.req (mN i h) (.ok (some (fi i),h,none))
    | some _=>.bad)
 | some (.int _ m)=>.req (mN m len) (match hi with
    | some (.int _ i)=>.req (mN i (fi m)) (match lo with
      | none=>.ok (none,fi i,some (fi m))
      | some (.int _ j)=>.req (mN j (fi i)) (.ok (some (fi j),fi i,some (fi m)))
      | some _=>.bad)
    | _=>.bad)
 | some _=>.bad
def zM (l:Option Nat):Nat :=
 match l with
 | none=>0
 | some l=>l
theorem gP {i:Int} {k:IntKind} {d top:Nat} (h:mN i top=true):bound (some (.int k i)) d top=some (fi i):=by
 rw[uw,decide_eq_true_eq] at h
 simp only[bound]
 rw[if_pos h,ir]
theorem kh {lo hi mx:Option AV} {len:Nat} {b:O7} (h:(lS lo hi mx len).run=some b):eD lo hi mx len=some (zM b.1,b.2.1,b.2.2):=by
 unfold lS at h
 unfold eD
 split at h
 · obtain ⟨h',h1,h⟩:=Tr.bind_some h
   have e1:bound hi len len=some h':=by
    split at h1
    · rw[← Tr.ab h1];rfl
    · obtain ⟨hc,h1⟩:=Tr.aZ h1
      rw[gP hc,Tr.ab h1]
    · exact (Tr.ag h1).elim
   dsimp only
   rw[e1]
   dsimp only
   split at h
   · rw[← Tr.ab h];rfl
   · obtain ⟨hc,h⟩:=Tr.aZ h
     rw[gP hc,← Tr.ab h];rfl
   · exact (Tr.ag h).elim
 · rename_i k m
   obtain ⟨hm,h⟩:=Tr.aZ h
   dsimp only
   rw[gP hm]
   dsimp only
   split at h
   · rename_i k' i
     obtain ⟨hi,h⟩:=Tr.aZ h
     simp only[Option.isSome_some,if_true]
     rw[gP hi]
     dsimp only
     split at h
     · rw[← Tr.ab h];rfl
     · obtain ⟨hc,h⟩:=Tr.aZ h
       rw[gP hc,← Tr.ab h];rfl
     · exact (Tr.ag h).elim
   · exact (Tr.ag h).elim
 · exact (Tr.ag h).elim
def vq (a:Nat) (l:Option Nat):Nat :=
 match l with
 | none=>a
 | some l=>fM a l
theorem mf (a:Nat) (l:Option Nat):vq a l=a-zM l:=by
 cases l with
 | none=>rfl
 | some l=>exact fh a l
def BF (off:Nat) (l:Option Nat) (sz:Nat):Nat :=
 match l with
 | none=>off
 | some l=>au off (iS l sz)
theorem yU (off:Nat) (l:Option Nat) (sz:Nat):BF off l sz=off+zM l*sz:=by
 cases l with
 | none=>simp[BF,zM]
 | some l=>simp only[BF,zM,bP,cT]
def Am (r:Row) (l:Option Nat) (sz n:Nat):Tr Row :=
 match r with
 | .M [.arr k z N]=>.req (cB (au (iS (zM l) sz) n) N) (.ok (.M [.arr k (match l with | none=>z | some l=>nv z (iS l sz)) n]))
 | .F f N=>.req (cB (au (iS (zM l) sz) n) N) (.ok (.F (match l with | none=>f | some l=>fun j=>f (au (iS l sz) j)) n))
 | _=>.bad
theorem xE {r q:Row} {l:Option Nat} {sz n:Nat} (h:(Am r l sz n).run=some q):zM l*sz+n≤r.len∧r.sub (zM l*sz) n=q:=by
 unfold Am at h
 split at h
 · rename_i k z N
   obtain ⟨hc,h⟩:=Tr.aZ h
   rw[eB,decide_eq_true_eq,bP,cT] at hc
   refine ⟨by simp only[Row.len,aM,aT];omega,?_⟩
   rw[← Tr.ab h]
   cases l with
   | none=>simp only[Row.sub,zM,Nat.zero_mul,Nat.zero_add]
   | some l=>simp only[Row.sub,zM,jF,cT]
 · rename_i f N
   obtain ⟨hc,h⟩:=Tr.aZ h
   rw[eB,decide_eq_true_eq,bP,cT] at hc
   refine ⟨by simp only[Row.len];omega,?_⟩
   rw[← Tr.ab h]
   cases l with
   | none=>simp only[Row.sub,zM,Nat.zero_mul,Nat.zero_add]
   | some l=>simp only[Row.sub,zM,bP,cT]
 · exact (Tr.ag h).elim
def Mv (o:Option AV):Bool :=
 match o with
 | none=>true
 | some _=>false
def Cg (mm:Option Nat) (full hiN:Bool) (h len:Nat):Bool :=
 match mm with
 | none=>cond hiN full (cX full (dH h len))
 | some m=>dH h m
def yF (P:Program) (t:TypeId) (x:AV) (lo hi mx:Option AV):Tr AV :=
 match P.underlying t with
 | some (.slice e)=>match bR P e with
   | some z=>match x with
     | .slc d j v off sz len cap=>cond (Nat.beq z sz) ((lS lo hi mx len).bind fun b=>.ok (.slc d j v (BF off b.1 sz) sz (vq b.2.1 b.1) (match b.2.2 with
       | none=>match cap with | none=>none | some c=>some (vq c b.1)
       | some m=>some (vq m b.1)))) .bad
     | .slcT s r sz len full=>cond (Nat.beq z sz) ((lS lo hi mx len).bind fun b=>(Am r b.1 sz (iS (vq b.2.1 b.1) sz)).bind fun q=>.ok (.slcT s q sz (vq b.2.1 b.1) (Cg b.2.2 full (Mv hi) b.2.1 len))) .bad
     | .nils=>(lS lo hi mx 0).bind fun _=>.ok .nils
     | _=>.bad
   | none=>.bad
 | some (.array n e)=>match bR P e with
   | some sz=>match x with
     | .ptr d j v off=>(lS lo hi mx n).bind fun b=>.ok (.slc d j v (BF off b.1 sz) sz (vq b.2.1 b.1) (match b.2.2 with
       | none=>some (vq n b.1)
       | some m=>some (vq m b.1)))
     | _=>.bad
   | none=>.bad
 | _=>.bad
theorem Bk {P:Program} {t:TypeId} {x v:AV} {lo hi mx:Option AV} (h:(yF P t x lo hi mx).run=some v):pt P t x lo hi mx=some v:=by
 unfold yF at h
 unfold pt
 split at h
 · rename_i e hu
   split at h
   · rename_i z hs
     split at h
     · rename_i d j ver off sz len cap
       obtain ⟨hz,h⟩:=Tr.bg h
       have hz:z=sz:=by simpa using hz
       subst hz
       obtain ⟨b,h1,h⟩:=Tr.bind_some h
       rw[hu]
       dsimp only
       rw[kh h1]
       dsimp only
       rw[if_pos hs,← Tr.ab h,yU,mf]
       obtain ⟨b1,b2,b3⟩:=b
       cases b3<;>cases cap<;>simp only[mf,Option.map_some,Option.map_none]
     · rename_i s r sz len full
       obtain ⟨hz,h⟩:=Tr.bg h
       have hz:z=sz:=by simpa using hz
       subst hz
       obtain ⟨b,h1,h⟩:=Tr.bind_some h
       obtain ⟨q,h2,h⟩:=Tr.bind_some h
       rw[hu]
       dsimp only
       have hb:=kh h1
       rw[hb]
       dsimp only
       obtain ⟨k1,k2⟩:=xE h2
       rw[cT,mf] at k1 k2
       rw[if_pos ⟨hs,k1⟩,k2,← Tr.ab h,mf]
       congr 2
       obtain ⟨b1,b2,b3⟩:=b
       dsimp only at hb ⊢
       cases b3 with
       | some m=>simp only[Cg,cu];rw[Bool.eq_iff_iff];simp
       | none =>
         simp only[Cg]
         cases hi with
         | some a =>
           simp only[Mv,cond_false,kf,cu]
           congr 1
           rw[Bool.eq_iff_iff];simp
         | none =>
           simp only[Mv,cond_true]
           have:b2=len:=by
            unfold eD at hb
            cases mx with
            | none =>
              dsimp only[bound] at hb
              split at hb
              · simp only[nP] at hb;exact hb.2.1.symm
              · simp at hb
            | some a =>
              dsimp only at hb
              split at hb
              · simp at hb
              · simp at hb
           rw[this];simp
     · obtain ⟨b,h1,h⟩:=Tr.bind_some h
       rw[hu]
       dsimp only
       rw[kh h1,hs,← Tr.ab h]
     · exact (Tr.ag h).elim
   · exact (Tr.ag h).elim
 · rename_i n e hu
   split at h
   · rename_i sz hs
     split at h
     · rename_i d j ver off
       obtain ⟨b,h1,h⟩:=Tr.bind_some h
       rw[hu]
       dsimp only
       rw[kh h1]
       dsimp only
       rw[hs,← Tr.ab h,yU,mf]
       obtain ⟨b1,b2,b3⟩:=b
       cases b3<;>simp only[mf]
     · exact (Tr.ag h).elim
   · exact (Tr.ag h).elim
 · exact (Tr.ag h).elim

def qQ (H:ae) (sz n:Nat) (x:AV):Tr Row :=
 match x with
 | .slc d i v off sz' len cap=>(vk H d i v (match cap with | some _=>none | none=>some 0)).bind fun r=>cond (Nat.beq sz' sz) (.req (cB n len) (match r with
    | .M [.arr k z N]=>.req (kO off (iS n sz) 0 N) (.ok (.M [.arr k (nv z off) (iS n sz)]))
    | .I k l=>cond (sW (.I k l) off (Nat.mul n sz)) (.ok (yN d (Row.I k (kQ (kM l off) (Nat.mul n sz))))) .bad
    | .G l=>cond (sW (.G l) off (Nat.mul n sz)) (.ok (yN d (Row.G (kQ (kM l off) (Nat.mul n sz))))) .bad
    | .F f N=>.req (kO off (iS n sz) 0 N) (.ok (.F (fun j=>f (au off j)) (iS n sz)))
    | _=>.bad)) .bad
 | .slcT s r sz' len _=>cond (Nat.beq sz' sz) (.req (cB n len) ((Am r none sz (iS n sz)).bind fun q=>.ok (match s with | none=>q | some k=>yN k q))) .bad
 | _=>.bad
theorem Ll (d:Nat) (k:IntKind) (z:Nat→Int) (n:Nat):yN d (.M [.arr k z n])=.M [.arr k z n]:=by cases d<;>rfl
theorem Lk (d:Nat) (f:Nat→AV) (n:Nat):yN d (.F f n)=.F f n:=by cases d<;>rfl
theorem oP {H:ae} {sz n:Nat} {x:AV} {q:Row} (h:(qQ H sz n x).run=some q):eM H sz n x=some q:=by
 unfold qQ at h
 split at h
 · rename_i d i v off sz' len cap
   obtain ⟨r,h1,h⟩:=Tr.bind_some h
   obtain ⟨hz,h⟩:=Tr.bg h
   have hz:sz'=sz:=by simpa using hz
   obtain ⟨hc,h⟩:=Tr.aZ h
   rw[eB,decide_eq_true_eq] at hc
   unfold eM
   dsimp only
   rw[kH h1]
   dsimp only
   split at h
   · rename_i k z N
     obtain ⟨hc2,h⟩:=Tr.aZ h
     rw[fH,decide_eq_true_eq,cT] at hc2
     rw[if_pos ⟨hz,hc,by simp only[Row.len,aM,aT];omega⟩,← Tr.ab h]
     simp only[Row.sub,Ll,jF,cT]
   · rename_i k l
     obtain ⟨hc2,h⟩:=Tr.bg h
     rw[kn,decide_eq_true_eq] at hc2
     rw[if_pos ⟨hz,hc,hc2⟩,← Tr.ab h,h8,gU]
     rfl
   · rename_i l
     obtain ⟨hc2,h⟩:=Tr.bg h
     rw[kn,decide_eq_true_eq] at hc2
     rw[if_pos ⟨hz,hc,hc2⟩,← Tr.ab h,h8,gU]
     rfl
   · rename_i f N
     obtain ⟨hc2,h⟩:=Tr.aZ h
     rw[fH,decide_eq_true_eq,cT] at hc2
     rw[if_pos ⟨hz,hc,by simp only[Row.len];omega⟩,← Tr.ab h]
     simp only[Row.sub,Lk,bP,cT]
   · exact (Tr.ag h).elim
 · rename_i s r sz' len full
   obtain ⟨hz,h⟩:=Tr.bg h
   have hz:sz'=sz:=by simpa using hz
   obtain ⟨hc,h⟩:=Tr.aZ h
   rw[eB,decide_eq_true_eq] at hc
   obtain ⟨q',h1,h⟩:=Tr.bind_some h
   obtain ⟨k1,k2⟩:=xE h1
   rw[cT] at k1 k2
   simp only[zM,Nat.zero_mul,Nat.zero_add] at k1 k2
   unfold eM
   dsimp only
   rw[if_pos ⟨hz,hc,k1⟩,← Tr.ab h,k2]
   cases s<;>rfl
 · exact (Tr.ag h).elim

end
end Go.Eng
end
section
namespace Go.Eng
set_option linter.unusedVariables false
set_option linter.unusedSimpArgs false
noncomputable section

theorem Tr.jO {α:Type} {c:Bool} {t:Tr α} {x:α} (h:(cond c .bad t).run=some x):c=false∧t.run=some x:=by
 cases c with
 | false=>exact ⟨rfl,h⟩
 | true=>exact (Tr.ag h).elim

def wY:AV→AV
 | .slcT none (.I k l) sz m _=>.slcT none (.M [.arr k (bE l) (kA l)]) sz m false
 | .slcT none (.M [.arr k z n]) sz m _=>.slcT none (.M [.arr k z n]) sz m false
 | v=>v
theorem wZ (v:AV):wY v=mE v:=by
 unfold wY mE
 split
 · simp only[gL,fa]
 · rfl
 · rename_i h1 h2
   split
   · exact absurd rfl (h1 _ _ _ _ _)
   · exact absurd rfl (h2 _ _ _ _ _ _)
   · rfl
def Ef (r:Row):Row :=
 match r with
 | .I k l=>.M [.arr k (bE l) (kA l)]
 | .G [v]=>cond (pQ v) (.F (fun _=>wY v) 1) (.G [v])
 | r=>r
theorem zt (r:Row):Ef r=rn true r:=by
 cases r with
 | I k l=>simp only[Ef,rn,if_true,gL,fa]
 | F f n=>rfl
 | M l=>rfl
 | G l =>
   match l with
   | []=>rfl
   | [v] =>
     show cond (pQ v) (Row.F (fun _=>wY v) 1) (Row.G [v])=if (true && pQ v)=true then Row.F (fun _=>mE v) 1 else Row.G [v]
     rw[wZ]
     cases pQ v<;>rfl
   | a::b::r=>rfl
def Sc:AV→Nat→Int
 | .slcT _ (.M [.arr _ z _]) _ _ _=>z
 | _=>fun _=>0
def RD:AV→Nat
 | .slcT _ (.M [.arr _ _ n]) _ _ _=>n
 | _=>0
def RC:AV→Nat
 | .slcT _ _ _ m _=>m
 | _=>0
def DH (r s:Row):Tr Row :=
 match r with
 | .M [.arr k z n]=>match wD s with
   | some (k',z')=>cond (gX k' k) (.ok (.M [.arr k (qe z n z') (au n (iu s))])) .bad
   | none=>.bad
 | .I k l=>match s with
   | .I k' l'=>cond (gX k' k) (.ok (.I k (qf l l'))) .bad
   | .M [.arr k' z' n']=>cond (gX k' k) (.ok (.M [.arr k (qe (bE l) (kA l) z') (au (kA l) n')])) .bad
   | _=>.bad
 | .G l=>match s with
   | .G l'=>.ok (.G (qf l l'))
   | _=>.bad
 | .F f n=>match s with
   | .G [v]=>cond (pQ v) (match wY v with
     | .slcT none (.M [.arr k z N]) sz m full=>.reqP (Gt f k sz full)
       (.ok (.F (fun j=>.slcT none (.M [.arr k (HY (bt j n) (Sc (f j)) z) (Fu (bt j n) (RD (f j)) N)]) sz (Fu (bt j n) (RC (f j)) m) full) (au n 1)))
     | _=>.bad) .bad
   | _=>.bad
 | _=>.bad
theorem yX {r s q:Row} (h:(DH r s).run=some q):r.app s=q:=by
 unfold DH at h
 split at h
 · rename_i k z n
   rw[rI] at h
   split at h
   · rename_i k' z' hi
     obtain ⟨hk,h⟩:=Tr.bg h
     rw[fw,decide_eq_true_eq] at hk
     have e:Row.app (.M [.arr k z n]) s=(match (Row.M [.arr k z n]).sQ s with | some q=>q | none=>.G ((Row.M [.arr k z n]).toList++s.toList)):=by
      cases s<;>rfl
     rw[e]
     unfold Row.sQ
     rw[hi]
     dsimp only[Row.ints]
     rw[if_pos hk,← Tr.ab h,qm,bP,fz]
     rfl
   · exact (Tr.ag h).elim
 · rename_i k l
   split at h
   · rename_i k' l'
     obtain ⟨hk,h⟩:=Tr.bg h
     rw[fw,decide_eq_true_eq] at hk
     simp only[Row.app]
     rw[if_pos hk,← Tr.ab h,qn]
   · rename_i k' z' n'
     obtain ⟨hk,h⟩:=Tr.bg h
     rw[fw,decide_eq_true_eq] at hk
     simp only[Row.app]
     unfold Row.sQ
     dsimp only[Row.ints]
     rw[if_pos hk,← Tr.ab h,qm,bP,fa,gL]
     rfl
   · exact (Tr.ag h).elim
 · split at h
   · rw[← Tr.ab h,qn];rfl
   · exact (Tr.ag h).elim
 · rename_i f n
   split at h
   · rename_i v
     obtain ⟨hv,h⟩:=Tr.bg h
     split at h
     · rename_i k z N sz m full hn
       obtain ⟨hf,h⟩:=Tr.fX h
       rw[wZ] at hn
       rw[← Tr.ab h,bP]
       show Row.F _ _=Row.F _ _
       congr 1
       funext j
       simp only[Fx,Fv,dJ]
       by_cases e:j<n
       · have hb:Nat.blt j n=true:=by rw[Nat.blt_eq];exact e
         rw[hb,if_pos rfl,decide_eq_true e]
         rw[DD] at hf
         obtain ⟨z',n',m',e'⟩:=hf j
         rw[e'];rfl
       · have hb:Nat.blt j n=false:=by
          cases hb:Nat.blt j n with
          | false=>rfl
          | true=>rw[Nat.blt_eq] at hb;exact absurd hb e
         rw[hb,if_neg (by simp),decide_eq_false e]
         show (if g8 v=true then mE v else .undef)=_
         rw[if_pos (rJ hv),hn]
         rfl
     · exact (Tr.ag h).elim
   · exact (Tr.ag h).elim
 · exact (Tr.ag h).elim
def JT (x:AV):Bool :=
 match x with
 | .slc _ _ _ _ _ _ (some _)=>true
 | _=>false
def JK (s:AV):Bool :=
 match s with
 | .nils | .slc .. | .slcT ..=>true
 | _=>false
def vA (P:Program) (e:TypeId) (n:Nat):Bool :=
 match (dr P e).bind AV.row with
 | some z=>Nat.beq (iu z) n
 | none=>false
theorem yQ {P:Program} {e:TypeId} {n:Nat} (h:vA P e n=true):((dr P e).bind AV.row).map Row.len=some n:=by
 unfold vA at h
 split at h
 · rename_i z hz
   rw[fz] at h
   have h:=Nat.eq_of_beq_eq_true h
   rw[hz,Option.map_some,h]
 · simp at h
def zA (H:ae) (nx sz m n:Nat) (s:AV) (new:Row):Tr (AV×Delta) :=
 (qQ H sz m s).bind fun old=>(DH old new).bind fun r=>.ok (.slc 0 nx 0 0 sz (au m n) none,.push (.row (Ef r)))
def vr (r:Row) (off n:Nat):Tr Row :=
 match r with
 | .M [.arr k z N]=>.req (dH (au off n) N) (.ok (.M [.arr k (nv z off) n]))
 | .G l=>cond (Nat.beq (Nat.add off n) (kA l)) (.ok (.G (kQ (kM l off) n))) .bad
 | .F f N=>.req (dH (au off n) N) (.ok (.F (fun j=>f (au off j)) n))
 | _=>.bad
theorem yK {r q:Row} {off n:Nat} (h:(vr r off n).run=some q):off+n=r.len∧r.sub off n=q:=by
 unfold vr at h
 split at h
 · rename_i k z N
   obtain ⟨hc,h⟩:=Tr.aZ h
   rw[cu,decide_eq_true_eq,bP] at hc
   refine ⟨by simp only[Row.len,aM,aT];omega,?_⟩
   rw[← Tr.ab h,jF];rfl
 · rename_i l
   obtain ⟨hc,h⟩:=Tr.bg h
   rw[fa] at hc
   have hc:=Nat.eq_of_beq_eq_true hc
   exact ⟨hc,by rw[← Tr.ab h,h8,gU];rfl⟩
 · rename_i f N
   obtain ⟨hc,h⟩:=Tr.aZ h
   rw[cu,decide_eq_true_eq,bP] at hc
   refine ⟨hc,?_⟩
   rw[← Tr.ab h]
   simp only[bP]
   rfl
 · exact (Tr.ag h).elim
def nA (P:Program) (H:ae) (nx:Nat) (t u:TypeId) (s x:AV):Tr (AV×Delta) :=
 match P.underlying t with
 | some (.slice e)=>match P.underlying u with
   | some (.slice _)=>match P.info? e with
     | some inf=>match mX s with
       | some m=>match mX x with
         | some n=>cond (JK s) (match JT x,n with
           | true,0=>.ok (s,.bO)
           | true,_=>main P H nx e inf s x m n
           | false,_=>.ite (dH n 0) (.ok (s,.bO)) (main P H nx e inf s x m n)) .bad
         | none=>.bad
       | none=>.bad
     | none=>.bad
   | _=>.bad
 | _=>.bad
where
 main (P : Program) (H:ae) (nx:Nat) (e:TypeId) (inf:TypeInfo) (s x:AV) (m n:Nat):Tr (AV×Delta) :=
  .req (gx m n inf.bytes) (cond (Nat.blt 0 inf.bytes) (cond (vA P e inf.size) ((qQ H inf.size n x).bind fun new =>
   match s with
   | .nils=>.ok (.slc 0 nx 0 0 inf.size n none,.push (.row (Ef new)))
   | .slcT _ _ _ _ full=>.req full (zA H nx inf.size m n s new)
   | .slc d i v off sz _ (some c)=>.ite (bt c (au m n)) (zA H nx inf.size m n s new)
     (cond (jB H d) .bad ((vk H d i v none).bind fun r=>cond (Nat.beq sz inf.size) (match r with
       | .M l=>match kJ (mz d new) with
         | []=>.bad
         | y::ys=>(xy (au off (iS m sz)) (some 0) (y::ys) 0 l).bind fun l'=>.ok (.slc d i v off sz (au m n) (some c),.set d i (v,.row (.M l')))
       | _=>.bad) .bad))
   | .slc d i v off sz _ none=>cond (jB H d) .bad ((vk H d i v (some 0)).bind fun r=>cond (Nat.beq sz inf.size)
     ((vr r off (iS m sz)).bind fun old=>(DH old (mz d new)).bind fun r'=>.ok (.slc d i (Nat.succ v) 0 sz (au m n) none,.set d i (Nat.succ v,.row r'))) .bad)
   | _=>.bad) .bad) .bad)
theorem qR {H:ae} {sz n:Nat} {x:AV} {q:Row} (h:eM H sz n x=some q):q.len=n*sz:=by
 unfold eM at h
 split at h
 · split at h
   · rename_i hn
     simp only[Option.some.injEq] at h
     rw[← h,hn];simp[Row.len]
   · simp at h
 · split at h
   · split at h
     · rename_i hf
       simp only[Option.some.injEq] at h
       rw[← h,oJ,Row.dM _ _ _ hf.2.2]
     · simp at h
   · simp at h
 · split at h
   · rename_i hf
     simp only[Option.some.injEq] at h
     rw[← h]
     split
     · exact Row.dM _ _ _ (by omega)
     · rw[oJ,Row.dM _ _ _ (by omega)]
   · simp at h
 · simp at h
theorem wj {H:ae} {nx sz m n:Nat} {s:AV} {new:Row} {y:AV×Delta} (h:(zA H nx sz m n s new).run=some y):∃ old,eM H sz m s=some old∧y=(.slc 0 nx 0 0 sz (m+n) none,.push (.row (rn true (old.app new)))):=by
 unfold zA at h
 obtain ⟨old,h1,h⟩:=Tr.bind_some h
 obtain ⟨r,h2,h⟩:=Tr.bind_some h
 refine ⟨old,oP h1,?_⟩
 rw[← Tr.ab h,bP,zt,yX h2]
theorem x4         {P : Program} {H:ae} {nx:Nat} {t u:TypeId} {s x:AV} {y:AV×Delta} (h:(nA P H nx t u s x).run=some y):nB P true H nx t u s x=some y:=by
 unfold nA at h
 unfold nB
 split at h
 · rename_i e ht
   split at h
   · rename_i e' hu
     split at h
     · rename_i inf hi
       split at h
       · rename_i m hm
         split at h
         · rename_i n hn
           obtain ⟨hsl,h⟩:=Tr.bg h
           rw[ht,hu]
           dsimp only
           rw[hi,hm,hn]
           dsimp only
           have hcase:(n=0∧(s,Delta.bO)=y)∨(n≠0∧(nA.main P H nx e inf s x m n).run=some y):=by
            cases hx:JT x with
            | true =>
              rw[hx] at h
              cases n with
              | zero=>exact .inl ⟨rfl,Tr.ab h⟩
              | succ n=>exact .inr ⟨by omega,h⟩
            | false =>
              rw[hx] at h
              rcases Tr.bH h with ⟨hc,h⟩ | ⟨hc,h⟩
              · rw[cu,decide_eq_true_eq] at hc
                exact .inl ⟨hc,Tr.ab h⟩
              · rw[cu,decide_eq_false_iff_not] at hc
                exact .inr ⟨hc,h⟩
           clear h
           rcases hcase with ⟨h0,h⟩ | ⟨h0,h⟩
           · rw[if_pos h0]
             cases s<;>simp[JK] at hsl<;>exact congrArg some h
           rw[if_neg h0]
           unfold nA.main at h
           obtain ⟨hr,h⟩:=Tr.aZ h
           rw[xu,decide_eq_true_eq] at hr
           obtain ⟨hb,h⟩:=Tr.bg h
           obtain ⟨hz,h⟩:=Tr.bg h
           obtain ⟨new,h1,h⟩:=Tr.bind_some h
           have hcv:=oP h1
           rw[if_pos ⟨hr.1,hr.2,BR hb,yQ hz⟩,hcv]
           dsimp only
           split at h
           · rw[← Tr.ab h,zt]
           · rename_i sT r szT EC full
             obtain ⟨hf,h⟩:=Tr.aZ h
             obtain ⟨old,h2,rfl⟩:=wj h
             subst hf
             dsimp only
             rw[h2]
           · rename_i d i v off sz len c _ _ _ _ _
             rcases Tr.bH h with ⟨hc,h⟩ | ⟨hc,h⟩
             · rw[dJ,decide_eq_true_eq,bP] at hc
               obtain ⟨old,h2,rfl⟩:=wj h
               dsimp only
               rw[if_pos hc,h2]
             · rw[dJ,decide_eq_false_iff_not,bP] at hc
               dsimp only
               rw[if_neg hc]
               rw[gA] at h
               obtain ⟨hl,h⟩:=Tr.jO h
               obtain ⟨r,h2,h⟩:=Tr.bind_some h
               obtain ⟨hs,h⟩:=Tr.bg h
               have hs:=Nat.eq_of_beq_eq_true hs
               rw[hl,if_neg (by simp),kH h2]
               dsimp only
               split at h
               · rename_i l _
                 rw[np] at h
                 have hcl:=qR hcv
                 split at h
                 · exact (Tr.ag h).elim
                 · rename_i y0 ys hy
                   obtain ⟨l',h3,h⟩:=Tr.bind_some h
                   obtain ⟨k1,k2⟩:=sq _ _ _ _ h3
                   rw[bP,cT,Nat.add_zero] at k1 k2
                   have hlen:=Row.bC (mz d new)
                   rw[hy,fB,hcl] at hlen
                   have hfit:off+(m+n)*sz≤(Row.M l).len:=by
                    rcases k1 with k1 | k1
                    · simp at k1
                    · rw[hlen,← hs] at k1
                      rw[Nat.add_mul]
                      show _≤aM l
                      omega
                   rw[if_pos ⟨hs,hfit⟩,hy,k2,← Tr.ab h,bP]
               · exact (Tr.ag h).elim
           · rename_i d i v off sz len _ _ _ _ _
             dsimp only
             rw[gA] at h
             obtain ⟨hl,h⟩:=Tr.jO h
             obtain ⟨r,h2,h⟩:=Tr.bind_some h
             obtain ⟨hs,h⟩:=Tr.bg h
             have hs:=Nat.eq_of_beq_eq_true hs
             obtain ⟨old,h3,h⟩:=Tr.bind_some h
             obtain ⟨r',h4,h⟩:=Tr.bind_some h
             obtain ⟨k1,k2⟩:=yK h3
             rw[cT] at k1 k2
             rw[hl,if_neg (by simp),kH h2]
             dsimp only
             rw[if_pos ⟨hs,k1⟩,k2,yX h4,← Tr.ab h,bP]
           · exact (Tr.ag h).elim
         · exact (Tr.ag h).elim
       · exact (Tr.ag h).elim
     · exact (Tr.ag h).elim
   · exact (Tr.ag h).elim
 · exact (Tr.ag h).elim

end
end Go.Eng
end
