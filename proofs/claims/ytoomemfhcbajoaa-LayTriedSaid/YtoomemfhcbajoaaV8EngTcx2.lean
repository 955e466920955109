/- The engine as a tree: slices, numbers, operations. -/
import Derived.Test.YtoomemfhcbajoaaV8EngTb
set_option linter.unusedVariables false
set_option linter.unusedSimpArgs false
section
namespace Go.Eng
noncomputable section

theorem Tr.aF {α:Type} {c:Bool} {t:Tr α} {x:α} (h:(cond c t .bad).run=some x):c=true∧t.run=some x:=by
 cases c with
 | true=>exact ⟨rfl,h⟩
 | false=>exact (Tr.ae h).elim
def I7 (op:BinOp) (k:IntKind) (x y:Int):Tr AV :=
 match op with
 | .add=>.ok (.int k (bf k x y))
 | .sub=>.ok (.int k (cB k x y))
 | .mul=>.ok (.int k (fg k x y))
 | .quo=>.req (bx (dX y 0)) (.ok (.int k (Fj k x y)))
 | .rem=>.req (bx (dX y 0)) (.ok (.int k (Ao k x y)))
 | .and=>.ok (.int k (ry k x y))
 | .or=>.ok (.int k (NM k x y))
 | .xor=>.ok (.int k (J1 k x y))
 | .andNot=>.ok (.int k (Md k x y))
 | .eql=>.ok (.bool (dX x y))
 | .neq=>.ok (.bool (bx (dX x y)))
 | .lss=>.ok (.bool (cF x y))
 | .leq=>.ok (.bool (mU x y))
 | .gtr=>.ok (.bool (cF y x))
 | .geq=>.ok (.bool (mU y x))
 | _=>.bad
theorem Gv {op:BinOp} {k:IntKind} {x y:Int} {v:AV} (h:(I7 op k x y).run=some v):hY op k x y=some v:=by
 unfold I7 at h
 unfold hY
 cases op<;>dsimp only at h ⊢<;>try exact (Tr.ae h).elim
 case quo =>
  obtain ⟨hc,h⟩:=Tr.aD h
  rw[gL,dB] at hc
  have:¬ y=0:=by simpa using hc
  rw[if_neg this,← Tr.ab h,BW]
 case rem =>
  obtain ⟨hc,h⟩:=Tr.aD h
  rw[gL,dB] at hc
  have:¬ y=0:=by simpa using hc
  rw[if_neg this,← Tr.ab h,BZ]
 all_goals
  have h:=Tr.ab h
  subst h
  first
   | rfl
   | (simp only[gt_iff_lt,ge_iff_le,jc,mF,mA,qX,Ai,wU,zE,dB,gL,eH,kJ,bne];done)
   | (simp only[jc,mF,mA,qX,Ai,wU,zE,dB,gL,eH,kJ];done)
   | (simp only[jc,mF,mA,qX,Ai,wU,zE,dB,gL,eH,kJ];rfl)
def iv:List Int→List Int→Bool
 | [],[]=>true
 | [x],[y]=>dX x y
 | x::x'::a,y::y'::b=>jI (dX x y) (iv (x'::a) (y'::b))
 | _,_=>false
theorem sh:∀ (l m:List Int),iv l m=eY l m
 | [],[]=>rfl
 | [],_::_=>by simp[iv,eY]
 | _::_,[]=>by simp[iv,eY]
 | [x],[y]=>by simp[iv,eY,dB]
 | [x],y::y'::b=>by simp[iv,eY]
 | x::x'::a,[y]=>by simp[iv,eY]
 | x::x'::a,y::y'::b=>by
   simp only[iv]
   rw[nT,dB,sh (x'::a) (y'::b)];rfl
def xR (r:Row):Option (IntKind×(Nat→Int)) :=
 match r with
 | .I k l=>some (k,aK l)
 | .M [.arr k z _]=>some (k,z)
 | _=>none
theorem se (r:Row):xR r=r.ints:=by
 match r with
 | .I k l=>simp only[xR,Row.ints,jj]
 | .G l=>rfl
 | .F f n=>rfl
 | .M []=>rfl
 | .M [.arr k z n]=>rfl
 | .M (.one v::r)=>rfl
 | .M (.arr k z n::s::r)=>rfl
def J3 (P:Program) (t:TypeId) (x y:AV):Tr Bool :=
 match x,y with
 | .bool a,.bool b=>match P.underlying t with
   | some .bool=>.ok (Gi a b)
   | _=>.bad
 | .nils,.slcT s r sz n f=>match P.underlying t with
   | some (.slice _)=>.req (dg 0 n) (.ok false)
   | _=>.bad
 | .slcT s r sz n f,.nils=>match P.underlying t with
   | some (.slice _)=>.req (dg 0 n) (.ok false)
   | _=>.bad
 | .agg (.I k a),.agg (.I k' b)=>cond (gn k k') (match bS P 20 t with
   | some n=>match fb P t with
     | some true=>cond (Nat.beq n (iu a)) (cond (Nat.beq (iu a) (iu b)) (.ok (iv a b)) .bad) .bad
     | _=>.bad
   | none=>.bad) .bad
 | .agg (.M l),.agg s=>eqMT P t (.M l) s
 | .agg (.I k a),.agg (.M l)=>eqMT P t (.I k a) (.M l)
 | x,y=>uV (zA P t x y)
where
 eqMT (P:Program) (t:TypeId) (r s:Row):Tr Bool :=
  match xR r,xR s with
  | some (k,z),some (k',z')=>cond (gn k k') (match bS P 20 t with
    | some n=>match fb P t with
      | some true=>cond (Nat.beq n (ie r)) (cond (Nat.beq (ie r) (ie s)) (.ok (m6 z z' (ie r))) .bad) .bad
      | _=>.bad
    | none=>.bad) .bad
  | _,_=>.bad
theorem A7 {P:Program} {t:TypeId} {r s:Row} {b:Bool} (h:(J3.eqMT P t r s).run=some b):J2 P t r s=some b:=by
 unfold J3.eqMT at h
 rw[se,se] at h
 unfold J2
 split at h
 · rename_i k z k' z' h1 h2
   rw[h1,h2]
   obtain ⟨hk,h⟩:=Tr.aF h
   rw[eG,decide_eq_true_eq] at hk
   split at h
   · rename_i n hn
     split at h
     · rename_i ha
       obtain ⟨e1,h⟩:=Tr.aF h
       obtain ⟨e2,h⟩:=Tr.aF h
       rw[fj] at e1 e2 h
       rw[fj] at e2
       have e1:n=r.len:=by simpa using e1
       have e2:r.len=s.len:=by simpa using e2
       dsimp only
       rw[if_pos ⟨hk,by rw[hn,e1],ha,e2⟩,← Tr.ab h,tY]
     · exact (Tr.ae h).elim
   · exact (Tr.ae h).elim
 · exact (Tr.ae h).elim
theorem Ef {P:Program} {t:TypeId} {x y:AV} {b:Bool} (h:(J3 P t x y).run=some b):zA P t x y=some b:=by
 unfold J3 at h
 split at h
 · split at h
   · rename_i hu
     unfold zA
     dsimp only
     rw[hu,← Tr.ab h,rS]
   · exact (Tr.ae h).elim
 · split at h
   · rename_i hu
     obtain ⟨hc,h⟩:=Tr.aD h
     rw[gd,decide_eq_true_eq] at hc
     unfold zA
     dsimp only
     rw[hu]
     dsimp only
     rw[if_pos hc,Tr.ab h]
   · exact (Tr.ae h).elim
 · split at h
   · rename_i hu
     obtain ⟨hc,h⟩:=Tr.aD h
     rw[gd,decide_eq_true_eq] at hc
     unfold zA
     dsimp only
     rw[hu]
     dsimp only
     rw[if_pos hc,Tr.ab h]
   · exact (Tr.ae h).elim
 · obtain ⟨hk,h⟩:=Tr.aF h
   rw[eG,decide_eq_true_eq] at hk
   split at h
   · rename_i n hn
     split at h
     · rename_i ha
       obtain ⟨e1,h⟩:=Tr.aF h
       obtain ⟨e2,h⟩:=Tr.aF h
       rw[c5] at e1 e2
       rw[c5] at e2
       have e1:=Nat.eq_of_beq_eq_true e1
       have e2:=Nat.eq_of_beq_eq_true e2
       unfold zA
       dsimp only
       rw[if_pos ⟨hk,by rw[hn,e1],ha,e2⟩,← Tr.ab h,sh]
     · exact (Tr.ae h).elim
   · exact (Tr.ae h).elim
 · unfold zA;exact A7 h
 · unfold zA;exact A7 h
 · rw[cH] at h;exact h
def DQ (P:Program) (op:BinOp) (t:TypeId) (x y:AV):Tr AV :=
 match x,y with
 | .int k a,.int k' b=>match op with
   | .shl=>.req (mU 0 b) (.ok (.int k (tS k a b)))
   | .shr=>.req (mU 0 b) (.ok (.int k (zb k a b)))
   | op=>cond (gn k k') (I7 op k a b) .bad
 | x,y=>match op with
   | .eql=>(J3 P t x y).bind fun b=>.ok (.bool b)
   | .neq=>(J3 P t x y).bind fun b=>.ok (.bool (bx b))
   | _=>.bad
theorem F5 {P:Program} {op:BinOp} {t:TypeId} {x y v:AV} (h:(DQ P op t x y).run=some v):jJ P op t x y=some v:=by
 unfold DQ at h
 split at h
 · rename_i k a k' b
   split at h
   · obtain ⟨hc,h⟩:=Tr.aD h
     rw[kJ,decide_eq_true_eq] at hc
     unfold jJ
     dsimp only
     rw[if_neg (by omega),← Tr.ab h,B6]
   · obtain ⟨hc,h⟩:=Tr.aD h
     rw[kJ,decide_eq_true_eq] at hc
     unfold jJ
     dsimp only
     rw[if_neg (by omega),← Tr.ab h,B8]
   · rename_i h1 h2
     obtain ⟨hk,h⟩:=Tr.aF h
     rw[eG,decide_eq_true_eq] at hk
     have:jJ P op t (.int k a) (.int k' b)=if k=k' then hY op k a b else none:=by
      unfold jJ
      cases op<;>first | rfl | exact (h1 rfl).elim | exact (h2 rfl).elim
     rw[this,if_pos hk]
     exact Gv h
 · rename_i hn
   split at h
   · obtain ⟨b,h1,h⟩:=Tr.bind_some h
     have h2:=Ef h1
     have:jJ P .eql t x y=(zA P t x y).map .bool:=by
      unfold jJ
      cases x<;>cases y<;>first | rfl | exact (hn _ _ _ _ rfl rfl).elim
     rw[this,h2,← Tr.ab h];rfl
   · obtain ⟨b,h1,h⟩:=Tr.bind_some h
     have h2:=Ef h1
     have:jJ P .neq t x y=(zA P t x y).map fun b=>.bool (!b):=by
      unfold jJ
      cases x<;>cases y<;>first | rfl | exact (hn _ _ _ _ rfl rfl).elim
     rw[this,h2,← Tr.ab h,gL];rfl
   · exact (Tr.ae h).elim
def Ot (op:UnOp) (x:AV):Tr AV :=
 match op,x with
 | .not,.bool b=>.ok (.bool (bx b))
 | .neg,.int k n=>.ok (.int k (Jq k n))
 | _,_=>.bad
theorem JW {op:UnOp} {x v:AV} (h:(Ot op x).run=some v):LW op x=some v:=by
 unfold Ot at h
 split at h
 · rw[← Tr.ab h,gL];rfl
 · rw[← Tr.ab h,GV];rfl
 · exact (Tr.ae h).elim
def oR (mx:Bool) (k:IntKind) (x:Int):List AV→Tr AV
 | []=>.ok (.int k x)
 | v::r=>match v with
   | .int k' y=>cond (gn k k') (oR mx k (cond mx (C7 x y) (yn x y)) r) .bad
   | _=>.bad
theorem nz {mx:Bool} {k:IntKind}:∀ (l:List AV) (x:Int) (v:AV),(oR mx k x l).run=some v→eI mx k x l=some v
 | [],x,v,h=>by rw[← Tr.ab h];rfl
 | u :: r,x,v,h=>by
   simp only[oR] at h
   split at h
   · rename_i k' y
     obtain ⟨hk,h⟩:=Tr.aF h
     rw[eG,decide_eq_true_eq] at hk
     simp only[eI]
     rw[if_pos hk,← nz r _ v h,BG,BH]
     cases mx<;>rfl
   · exact (Tr.ae h).elim

def iQ (a sz:Nat):Nat :=
 match sz with
 | 1=>a
 | s=>GP a s
theorem b5 (a sz:Nat):iQ a sz=a*sz:=by
 unfold iQ
 split
 · rw[Nat.mul_one]
 · rw[BK]
abbrev Ow:=Option Nat×Nat×Option Nat
def me (lo hi mx:Option AV) (len:Nat):Tr Ow :=
 match mx with
 | none=>(match hi with
    | none=>.ok len
    | some (.int _ i)=>.req (tv i len) (.ok (fa i))
    | some _=>.bad:Tr Nat).bind fun h=>(match lo with
    | none=>.ok (none,h,none)
    | some (.int _ i)=>.req (tv i h) (.ok (some (fa i),h,none))
    | some _=>.bad)
 | some (.int _ m)=>.req (tv m len) (match hi with
    | some (.int _ i)=>.req (tv i (fa m)) (match lo with
      | none=>.ok (none,fa i,some (fa m))
      | some (.int _ j)=>.req (tv j (fa i)) (.ok (some (fa j),fa i,some (fa m)))
      | some _=>.bad)
    | _=>.bad)
 | some _=>.bad
def Bz (l:Option Nat):Nat :=
 match l with
 | none=>0
 | some l=>l
theorem gO {i:Int} {k:IntKind} {d top:Nat} (h:tv i top=true):bound (some (.int k i)) d top=some (fa i):=by
 rw[AW,decide_eq_true_eq] at h
 simp only[bound]
 rw[if_pos h,qa]
theorem kn {lo hi mx:Option AV} {len:Nat} {b:Ow} (h:(me lo hi mx len).run=some b):dW lo hi mx len=some (Bz b.1,b.2.1,b.2.2):=by
 unfold me at h
 unfold dW
 split at h
 · obtain ⟨h',h1,h⟩:=Tr.bind_some h
   have e1:bound hi len len=some h':=by
    split at h1
    · rw[← Tr.ab h1];rfl
    · obtain ⟨hc,h1⟩:=Tr.aD h1
      rw[gO hc,Tr.ab h1]
    · exact (Tr.ae h1).elim
   dsimp only
   rw[e1]
   dsimp only
   split at h
   · rw[← Tr.ab h];rfl
   · obtain ⟨hc,h⟩:=Tr.aD h
     rw[gO hc,← Tr.ab h];rfl
   · exact (Tr.ae h).elim
 · rename_i k m
   obtain ⟨hm,h⟩:=Tr.aD h
   dsimp only
   rw[gO hm]
   dsimp only
   split at h
   · rename_i k' i
     obtain ⟨hi,h⟩:=Tr.aD h
     simp only[Option.isSome_some,if_true]
     rw[gO hi]
     dsimp only
     split at h
     · rw[← Tr.ab h];rfl
     · obtain ⟨hc,h⟩:=Tr.aD h
       rw[gO hc,← Tr.ab h];rfl
     · exact (Tr.ae h).elim
   · exact (Tr.ae h).elim
 · exact (Tr.ae h).elim
def wQ (a:Nat) (l:Option Nat):Nat :=
 match l with
 | none=>a
 | some l=>s4 a l
theorem mG (a:Nat) (l:Option Nat):wQ a l=a-Bz l:=by
 cases l with
 | none=>rfl
 | some l=>exact kV a l
def DE (off:Nat) (l:Option Nat) (sz:Nat):Nat :=
 match l with
 | none=>off
 | some l=>cM off (iQ l sz)
theorem AM (off:Nat) (l:Option Nat) (sz:Nat):DE off l sz=off+Bz l*sz:=by
 cases l with
 | none=>simp[DE,Bz]
 | some l=>simp only[DE,Bz,bK,b5]
def Cb (r:Row) (l:Option Nat) (sz n:Nat):Tr Row :=
 match r with
 | .M [.arr k z N]=>.req (jz (cM (iQ (Bz l) sz) n) N) (.ok (.M [.arr k (match l with | none=>z | some l=>ep z (iQ l sz)) n]))
 | .F f N=>.req (jz (cM (iQ (Bz l) sz) n) N) (.ok (.F (match l with | none=>f | some l=>fun j=>f (cM (iQ l sz) j)) n))
 | _=>.bad
theorem zf {r q:Row} {l:Option Nat} {sz n:Nat} (h:(Cb r l sz n).run=some q):Bz l*sz+n≤r.len∧r.sub (Bz l*sz) n=q:=by
 unfold Cb at h
 split at h
 · rename_i k z N
   obtain ⟨hc,h⟩:=Tr.aD h
   rw[kK,decide_eq_true_eq,bK,b5] at hc
   refine ⟨by simp only[Row.len,au,aE];omega,?_⟩
   rw[← Tr.ab h]
   cases l with
   | none=>simp only[Row.sub,Bz,Nat.zero_mul,Nat.zero_add]
   | some l=>simp only[Row.sub,Bz,l9,b5]
 · rename_i f N
   obtain ⟨hc,h⟩:=Tr.aD h
   rw[kK,decide_eq_true_eq,bK,b5] at hc
   refine ⟨by simp only[Row.len];omega,?_⟩
   rw[← Tr.ab h]
   cases l with
   | none=>simp only[Row.sub,Bz,Nat.zero_mul,Nat.zero_add]
   | some l=>simp only[Row.sub,Bz,bK,b5]
 · exact (Tr.ae h).elim
def MF (o:Option AV):Bool :=
 match o with
 | none=>true
 | some _=>false
def Eo (mm:Option Nat) (full hiN:Bool) (h len:Nat):Bool :=
 match mm with
 | none=>cond hiN full (jI full (cT h len))
 | some m=>cT h m
def Av (P:Program) (t:TypeId) (x:AV) (lo hi mx:Option AV):Tr AV :=
 match P.underlying t with
 | some (.slice e)=>match ba P e with
   | some z=>match x with
     | .slc d j v off sz len cap=>cond (Nat.beq z sz) ((me lo hi mx len).bind fun b=>.ok (.slc d j v (DE off b.1 sz) sz (wQ b.2.1 b.1) (match b.2.2 with
       | none=>match cap with | none=>none | some c=>some (wQ c b.1)
       | some m=>some (wQ m b.1)))) .bad
     | .slcT s r sz len full=>cond (Nat.beq z sz) ((me lo hi mx len).bind fun b=>(Cb r b.1 sz (iQ (wQ b.2.1 b.1) sz)).bind fun q=>.ok (.slcT s q sz (wQ b.2.1 b.1) (Eo b.2.2 full (MF hi) b.2.1 len))) .bad
     | .nils=>(me lo hi mx 0).bind fun _=>.ok .nils
     | _=>.bad
   | none=>.bad
 | some (.array n e)=>match ba P e with
   | some sz=>match x with
     | .ptr d j v off=>(me lo hi mx n).bind fun b=>.ok (.slc d j v (DE off b.1 sz) sz (wQ b.2.1 b.1) (match b.2.2 with
       | none=>some (wQ n b.1)
       | some m=>some (wQ m b.1)))
     | _=>.bad
   | none=>.bad
 | _=>.bad
theorem Dr {P:Program} {t:TypeId} {x v:AV} {lo hi mx:Option AV} (h:(Av P t x lo hi mx).run=some v):p9 P t x lo hi mx=some v:=by
 unfold Av at h
 unfold p9
 split at h
 · rename_i e hu
   split at h
   · rename_i z hs
     split at h
     · rename_i d j ver off sz len cap
       obtain ⟨hz,h⟩:=Tr.aF h
       have hz:z=sz:=by simpa using hz
       subst hz
       obtain ⟨b,h1,h⟩:=Tr.bind_some h
       rw[hu]
       dsimp only
       rw[kn h1]
       dsimp only
       rw[if_pos hs,← Tr.ab h,AM,mG]
       obtain ⟨b1,b2,b3⟩:=b
       cases b3<;>cases cap<;>simp only[mG,Option.map_some,Option.map_none]
     · rename_i s r sz len full
       obtain ⟨hz,h⟩:=Tr.aF h
       have hz:z=sz:=by simpa using hz
       subst hz
       obtain ⟨b,h1,h⟩:=Tr.bind_some h
       obtain ⟨q,h2,h⟩:=Tr.bind_some h
       rw[hu]
       dsimp only
       have hb:=kn h1
       rw[hb]
       dsimp only
       obtain ⟨k1,k2⟩:=zf h2
       rw[b5,mG] at k1 k2
       rw[if_pos ⟨hs,k1⟩,k2,← Tr.ab h,mG]
       congr 2
       obtain ⟨b1,b2,b3⟩:=b
       dsimp only at hb ⊢
       cases b3 with
       | some m=>simp only[Eo,gr];rw[Bool.eq_iff_iff];simp
       | none =>
         simp only[Eo]
         cases hi with
         | some a =>
           simp only[MF,cond_false,nT,gr]
           congr 1
           rw[Bool.eq_iff_iff];simp
         | none =>
           simp only[MF,cond_true]
           have:b2=len:=by
            unfold dW at hb
            cases mx with
            | none =>
              dsimp only[bound] at hb
              split at hb
              · simp only[nP] at hb;exact hb.2.1.symm
              · simp at hb
            | some a =>
              dsimp only at hb
              split at hb
              · simp at hb
              · simp at hb
           rw[this];simp
     · obtain ⟨b,h1,h⟩:=Tr.bind_some h
       rw[hu]
       dsimp only
       rw[kn h1,hs,← Tr.ab h]
     · exact (Tr.ae h).elim
   · exact (Tr.ae h).elim
 · rename_i n e hu
   split at h
   · rename_i sz hs
     split at h
     · rename_i d j ver off
       obtain ⟨b,h1,h⟩:=Tr.bind_some h
       rw[hu]
       dsimp only
       rw[kn h1]
       dsimp only
       rw[hs,← Tr.ab h,AM,mG]
       obtain ⟨b1,b2,b3⟩:=b
       cases b3<;>simp only[mG]
     · exact (Tr.ae h).elim
   · exact (Tr.ae h).elim
 · exact (Tr.ae h).elim

def rG (H:aa) (sz n:Nat) (x:AV):Tr Row :=
 match x with
 | .slc d i v off sz' len cap=>(wI H d i v (some 0)).bind fun r=>cond (Nat.beq sz' sz) (.req (jz n len) (match r with
    | .M [.arr k z N]=>.req (kH off (iQ n sz) 0 N) (.ok (.M [.arr k (ep z off) (iQ n sz)]))
    | .I k l=>cond (tB (.I k l) off (Nat.mul n sz)) (.ok (AD d (Row.I k (ig (lg l off) (Nat.mul n sz))))) .bad
    | .G l=>cond (tB (.G l) off (Nat.mul n sz)) (.ok (AD d (Row.G (ig (lg l off) (Nat.mul n sz))))) .bad
    | .F f N=>.req (kH off (iQ n sz) 0 N) (.ok (.F (fun j=>f (cM off j)) (iQ n sz)))
    | _=>.bad)) .bad
 | .slcT s r sz' len _=>cond (Nat.beq sz' sz) (.req (jz n len) ((Cb r none sz (iQ n sz)).bind fun q=>.ok (match s with | none=>q | some k=>AD k q))) .bad
 | _=>.bad
theorem LY (d:Nat) (k:IntKind) (z:Nat→Int) (n:Nat):AD d (.M [.arr k z n])=.M [.arr k z n]:=by cases d<;>rfl
theorem LX (d:Nat) (f:Nat→AV) (n:Nat):AD d (.F f n)=.F f n:=by cases d<;>rfl
theorem pn {H:aa} {sz n:Nat} {x:AV} {q:Row} (h:(rG H sz n x).run=some q):eA H sz n x=some q:=by
 unfold rG at h
 split at h
 · rename_i d i v off sz' len cap
   obtain ⟨r,h1,h⟩:=Tr.bind_some h
   obtain ⟨hz,h⟩:=Tr.aF h
   have hz:sz'=sz:=by simpa using hz
   obtain ⟨hc,h⟩:=Tr.aD h
   rw[kK,decide_eq_true_eq] at hc
   unfold eA
   dsimp only
   rw[kS h1]
   dsimp only
   split at h
   · rename_i k z N
     obtain ⟨hc2,h⟩:=Tr.aD h
     rw[gx,decide_eq_true_eq,b5] at hc2
     rw[if_pos ⟨hz,hc,by simp only[Row.len,au,aE];omega⟩,← Tr.ab h]
     simp only[Row.sub,LY,l9,b5]
   · rename_i k l
     obtain ⟨hc2,h⟩:=Tr.aF h
     rw[kA,decide_eq_true_eq] at hc2
     rw[if_pos ⟨hz,hc,hc2⟩,← Tr.ab h,gl,gR]
     rfl
   · rename_i l
     obtain ⟨hc2,h⟩:=Tr.aF h
     rw[kA,decide_eq_true_eq] at hc2
     rw[if_pos ⟨hz,hc,hc2⟩,← Tr.ab h,gl,gR]
     rfl
   · rename_i f N
     obtain ⟨hc2,h⟩:=Tr.aD h
     rw[gx,decide_eq_true_eq,b5] at hc2
     rw[if_pos ⟨hz,hc,by simp only[Row.len];omega⟩,← Tr.ab h]
     simp only[Row.sub,LX,bK,b5]
   · exact (Tr.ae h).elim
 · rename_i s r sz' len full
   obtain ⟨hz,h⟩:=Tr.aF h
   have hz:sz'=sz:=by simpa using hz
   obtain ⟨hc,h⟩:=Tr.aD h
   rw[kK,decide_eq_true_eq] at hc
   obtain ⟨q',h1,h⟩:=Tr.bind_some h
   obtain ⟨k1,k2⟩:=zf h1
   rw[b5] at k1 k2
   simp only[Bz,Nat.zero_mul,Nat.zero_add] at k1 k2
   unfold eA
   dsimp only
   rw[if_pos ⟨hz,hc,k1⟩,← Tr.ab h,k2]
   cases s<;>rfl
 · exact (Tr.ae h).elim

end
end Go.Eng
end
section
namespace Go.Eng
noncomputable section

theorem Tr.jL {α:Type} {c:Bool} {t:Tr α} {x:α} (h:(cond c .bad t).run=some x):c=false∧t.run=some x:=by
 cases c with
 | false=>exact ⟨rfl,h⟩
 | true=>exact (Tr.ae h).elim

def yu:AV→AV
 | .slcT none (.I k l) sz m _=>.slcT none (.M [.arr k (aK l) (iu l)]) sz m false
 | .slcT none (.M [.arr k z n]) sz m _=>.slcT none (.M [.arr k z n]) sz m false
 | v=>v
theorem yv (v:AV):yu v=mW v:=by
 unfold yu mW
 split
 · simp only[jj,c5]
 · rfl
 · rename_i h1 h2
   split
   · exact absurd rfl (h1 _ _ _ _ _)
   · exact absurd rfl (h2 _ _ _ _ _ _)
   · rfl
def Eh (r:Row):Row :=
 match r with
 | .I k l=>.M [.arr k (aK l) (iu l)]
 | .G [v]=>cond (qy v) (.F (fun _=>yu v) 1) (.G [v])
 | r=>r
theorem vM (r:Row):Eh r=qQ true r:=by
 cases r with
 | I k l=>simp only[Eh,qQ,if_true,jj,c5]
 | F f n=>rfl
 | M l=>rfl
 | G l =>
   match l with
   | []=>rfl
   | [v] =>
     show cond (qy v) (Row.F (fun _=>yu v) 1) (Row.G [v])=if (true && qy v)=true then Row.F (fun _=>mW v) 1 else Row.G [v]
     rw[yv]
     cases qy v<;>rfl
   | a::b::r=>rfl
def R3:AV→Nat→Int
 | .slcT _ (.M [.arr _ z _]) _ _ _=>z
 | _=>fun _=>0
def Rd:AV→Nat
 | .slcT _ (.M [.arr _ _ n]) _ _ _=>n
 | _=>0
def Rc:AV→Nat
 | .slcT _ _ _ m _=>m
 | _=>0
def F0 (r s:Row):Tr Row :=
 match r with
 | .M [.arr k z n]=>match xR s with
   | some (k',z')=>cond (gn k' k) (.ok (.M [.arr k (w8 z n z') (cM n (ie s))])) .bad
   | none=>.bad
 | .I k l=>match s with
   | .I k' l'=>cond (gn k' k) (.ok (.I k (mK l l'))) .bad
   | .M [.arr k' z' n']=>cond (gn k' k) (.ok (.M [.arr k (w8 (aK l) (iu l) z') (cM (iu l) n')])) .bad
   | _=>.bad
 | .G l=>match s with
   | .G l'=>.ok (.G (mK l l'))
   | _=>.bad
 | .F f n=>match s with
   | .G [v]=>cond (qy v) (match yu v with
     | .slcT none (.M [.arr k z N]) sz m full=>.reqP (DG f k sz full)
       (.ok (.F (fun j=>.slcT none (.M [.arr k (Hg (dg j n) (R3 (f j)) z) (Dq (dg j n) (Rd (f j)) N)]) sz (Dq (dg j n) (Rc (f j)) m) full) (cM n 1)))
     | _=>.bad) .bad
   | _=>.bad
 | _=>.bad
theorem AQ {r s q:Row} (h:(F0 r s).run=some q):r.app s=q:=by
 unfold F0 at h
 split at h
 · rename_i k z n
   rw[se] at h
   split at h
   · rename_i k' z' hi
     obtain ⟨hk,h⟩:=Tr.aF h
     rw[eG,decide_eq_true_eq] at hk
     have e:Row.app (.M [.arr k z n]) s=(match (Row.M [.arr k z n]).tu s with | some q=>q | none=>.G ((Row.M [.arr k z n]).toList++s.toList)):=by
      cases s<;>rfl
     rw[e]
     unfold Row.tu
     rw[hi]
     dsimp only[Row.ints]
     rw[if_pos hk,← Tr.ab h,vu,bK,fj]
     rfl
   · exact (Tr.ae h).elim
 · rename_i k l
   split at h
   · rename_i k' l'
     obtain ⟨hk,h⟩:=Tr.aF h
     rw[eG,decide_eq_true_eq] at hk
     simp only[Row.app]
     rw[if_pos hk,← Tr.ab h,kh]
   · rename_i k' z' n'
     obtain ⟨hk,h⟩:=Tr.aF h
     rw[eG,decide_eq_true_eq] at hk
     simp only[Row.app]
     unfold Row.tu
     dsimp only[Row.ints]
     rw[if_pos hk,← Tr.ab h,vu,bK,c5,jj]
     rfl
   · exact (Tr.ae h).elim
 · split at h
   · rw[← Tr.ab h,kh];rfl
   · exact (Tr.ae h).elim
 · rename_i f n
   split at h
   · rename_i v
     obtain ⟨hv,h⟩:=Tr.aF h
     split at h
     · rename_i k z N sz m full hn
       obtain ⟨hf,h⟩:=Tr.cY h
       rw[yv] at hn
       rw[← Tr.ab h,bK]
       show Row.F _ _=Row.F _ _
       congr 1
       funext j
       simp only[wO,wN,gd]
       by_cases e:j<n
       · have hb:Nat.blt j n=true:=by rw[Nat.blt_eq];exact e
         rw[hb,if_pos rfl,decide_eq_true e]
         rw[AO] at hf
         obtain ⟨z',n',m',e'⟩:=hf j
         rw[e'];rfl
       · have hb:Nat.blt j n=false:=by
          cases hb:Nat.blt j n with
          | false=>rfl
          | true=>rw[Nat.blt_eq] at hb;exact absurd hb e
         rw[hb,if_neg (by simp),decide_eq_false e]
         show (if gY v=true then mW v else .undef)=_
         rw[if_pos (sf hv),hn]
         rfl
     · exact (Tr.ae h).elim
   · exact (Tr.ae h).elim
 · exact (Tr.ae h).elim
def K1 (x:AV):Bool :=
 match x with
 | .slc _ _ _ _ _ _ (some _)=>true
 | _=>false
def KP (s:AV):Bool :=
 match s with
 | .nils | .slc .. | .slcT ..=>true
 | _=>false
def rp (P:Program) (e:TypeId) (n:Nat):Bool :=
 match (cg P e).bind AV.row with
 | some z=>Nat.beq (ie z) n
 | none=>false
theorem te {P:Program} {e:TypeId} {n:Nat} (h:rp P e n=true):((cg P e).bind AV.row).map Row.len=some n:=by
 unfold rp at h
 split at h
 · rename_i z hz
   rw[fj] at h
   have h:=Nat.eq_of_beq_eq_true h
   rw[hz,Option.map_some,h]
 · simp at h
def Bg (H:aa) (nx sz m n:Nat) (s:AV) (new:Row):Tr (AV×Delta) :=
 (rG H sz m s).bind fun old=>(F0 old new).bind fun r=>.ok (.slc 0 nx 0 0 sz (cM m n) none,.push (.row (Eh r)))
def wR (r:Row) (off n:Nat):Tr Row :=
 match r with
 | .M [.arr k z N]=>.req (cT (cM off n) N) (.ok (.M [.arr k (ep z off) n]))
 | .G l=>cond (Nat.beq (Nat.add off n) (iu l)) (.ok (.G (ig (lg l off) n))) .bad
 | .F f N=>.req (cT (cM off n) N) (.ok (.F (fun j=>f (cM off j)) n))
 | _=>.bad
theorem AB {r q:Row} {off n:Nat} (h:(wR r off n).run=some q):off+n=r.len∧r.sub off n=q:=by
 unfold wR at h
 split at h
 · rename_i k z N
   obtain ⟨hc,h⟩:=Tr.aD h
   rw[gr,decide_eq_true_eq,bK] at hc
   refine ⟨by simp only[Row.len,au,aE];omega,?_⟩
   rw[← Tr.ab h,l9];rfl
 · rename_i l
   obtain ⟨hc,h⟩:=Tr.aF h
   rw[c5] at hc
   have hc:=Nat.eq_of_beq_eq_true hc
   exact ⟨hc,by rw[← Tr.ab h,gl,gR];rfl⟩
 · rename_i f N
   obtain ⟨hc,h⟩:=Tr.aD h
   rw[gr,decide_eq_true_eq,bK] at hc
   refine ⟨hc,?_⟩
   rw[← Tr.ab h]
   simp only[bK]
   rfl
 · exact (Tr.ae h).elim
def DJ (P:Program) (nx:Nat) (e:TypeId) (s x:AV):Tr (AV×Delta) :=
 match P.info? e with
 | some inf=>match s with
   | .nils=>match x with
     | .int _ k=>cond (Nat.blt 0 inf.size) (cond (rp P e inf.size) (.req (EO k k inf.bytes) (.ite (dX k (Int.ofNat 0)) (.ok (.nils,.aS)) (.ok (.slc 0 nx 0 0 inf.size (fa k) none,.push (.row (Eh (.I .i64 []))))))) .bad) .bad
     | _=>.bad
   | _=>.bad
 | none=>.bad
theorem DK {P:Program} {nx:Nat} {e:TypeId} {s x:AV} {y:AV×Delta} (h:(DJ P nx e s x).run=some y):DI P true nx e s x=some y:=by
 unfold DJ at h
 unfold DI
 split at h
 · rename_i inf hi
   rw[hi]
   split at h
   · split at h
     · rename_i kk k
       obtain ⟨hb,h⟩:=Tr.aF h
       obtain ⟨hz,h⟩:=Tr.aF h
       obtain ⟨hm,h⟩:=Tr.aD h
       rw[wa,decide_eq_true_eq] at hm
       dsimp only
       rw[if_pos ⟨hm.1,hm.2.2.2,hm.2.2.1,AU hb,te hz⟩]
       rcases Tr.ff h with ⟨hc,h⟩ | ⟨hc,h⟩
       · rw[dB,beq_iff_eq] at hc
         rw[if_pos (show k=0 from hc),Tr.ab h]
       · rw[dB,beq_eq_false_iff_ne] at hc
         rw[if_neg (show ¬ k=0 from hc),← Tr.ab h,vM,qa]
     · exact (Tr.ae h).elim
   · exact (Tr.ae h).elim
 · exact (Tr.ae h).elim
def nY (P:Program) (H:aa) (nx:Nat) (t u:TypeId) (s x:AV):Tr (AV×Delta) :=
 match P.underlying t with
 | some (.slice e)=>match P.underlying u with
   | some (.slice _)=>match P.info? e with
     | some inf=>match nm s with
       | some m=>match nm x with
         | some n=>cond (KP s) (match K1 x,n with
           | true,0=>.ok (s,.aS)
           | true,_=>main P H nx e inf s x m n
           | false,_=>.ite (cT n 0) (.ok (s,.aS)) (main P H nx e inf s x m n)) .bad
         | none=>.bad
       | none=>.bad
     | none=>.bad
   | some (.int _)=>DJ P nx e s x
   | _=>.bad
 | _=>.bad
where
 main (P : Program) (H:aa) (nx:Nat) (e:TypeId) (inf:TypeInfo) (s x:AV) (m n:Nat):Tr (AV×Delta) :=
  .req (j8 m n inf.bytes) (cond (Nat.blt 0 inf.bytes) (cond (rp P e inf.size) ((rG H inf.size n x).bind fun new =>
   match s with
   | .nils=>.ok (.slc 0 nx 0 0 inf.size n none,.push (.row (Eh new)))
   | .slcT _ _ _ _ full=>.req full (Bg H nx inf.size m n s new)
   | .slc d i v off sz _ (some c)=>.ite (dg c (cM m n)) (Bg H nx inf.size m n s new)
     (cond (fv H d) .bad ((wI H d i v (some 0)).bind fun r=>cond (Nat.beq sz inf.size) (match r with
       | .M l=>match kY (lf d new) with
         | []=>.bad
         | y::ys=>(y8 (cM off (iQ m sz)) (some 0) (y::ys) 0 l).bind fun l'=>.ok (.slc d i v off sz (cM m n) (some c),.set d i (v,.row (.M l')))
       | _=>.bad) .bad))
   | .slc d i v off sz _ none=>cond (fv H d) .bad ((wI H d i v (some 0)).bind fun r=>cond (Nat.beq sz inf.size)
     ((wR r off (iQ m sz)).bind fun old=>(F0 old (lf d new)).bind fun r'=>.ok (.slc d i (Nat.succ v) 0 sz (cM m n) none,.set d i (Nat.succ v,.row r'))) .bad)
   | _=>.bad) .bad) .bad)
theorem rH {H:aa} {sz n:Nat} {x:AV} {q:Row} (h:eA H sz n x=some q):q.len=n*sz:=by
 unfold eA at h
 split at h
 · split at h
   · rename_i hn
     simp only[Option.some.injEq] at h
     rw[← h,hn];simp[Row.len]
   · simp at h
 · split at h
   · split at h
     · rename_i hf
       simp only[Option.some.injEq] at h
       rw[← h,o9,Row.dk _ _ _ hf.2.2]
     · simp at h
   · simp at h
 · split at h
   · rename_i hf
     simp only[Option.some.injEq] at h
     rw[← h]
     split
     · exact Row.dk _ _ _ (by omega)
     · rw[o9,Row.dk _ _ _ (by omega)]
   · simp at h
 · simp at h
theorem xF {H:aa} {nx sz m n:Nat} {s:AV} {new:Row} {y:AV×Delta} (h:(Bg H nx sz m n s new).run=some y):∃ old,eA H sz m s=some old∧y=(.slc 0 nx 0 0 sz (m+n) none,.push (.row (qQ true (old.app new)))):=by
 unfold Bg at h
 obtain ⟨old,h1,h⟩:=Tr.bind_some h
 obtain ⟨r,h2,h⟩:=Tr.bind_some h
 refine ⟨old,pn h1,?_⟩
 rw[← Tr.ab h,bK,vM,AQ h2]
theorem zG         {P : Program} {H:aa} {nx:Nat} {t u:TypeId} {s x:AV} {y:AV×Delta} (h:(nY P H nx t u s x).run=some y):nZ P true H nx t u s x=some y:=by
 unfold nY at h
 unfold nZ
 split at h
 · rename_i e ht
   split at h
   · rename_i e' hu
     split at h
     · rename_i inf hi
       split at h
       · rename_i m hm
         split at h
         · rename_i n hn
           obtain ⟨hsl,h⟩:=Tr.aF h
           rw[ht,hu]
           dsimp only
           rw[hi,hm,hn]
           dsimp only
           have hcase:(n=0∧(s,Delta.aS)=y)∨(n≠0∧(nY.main P H nx e inf s x m n).run=some y):=by
            cases hx:K1 x with
            | true =>
              rw[hx] at h
              cases n with
              | zero=>exact .inl ⟨rfl,Tr.ab h⟩
              | succ n=>exact .inr ⟨by omega,h⟩
            | false =>
              rw[hx] at h
              rcases Tr.ff h with ⟨hc,h⟩ | ⟨hc,h⟩
              · rw[gr,decide_eq_true_eq] at hc
                exact .inl ⟨hc,Tr.ab h⟩
              · rw[gr,decide_eq_false_iff_not] at hc
                exact .inr ⟨hc,h⟩
           clear h
           rcases hcase with ⟨h0,h⟩ | ⟨h0,h⟩
           · rw[if_pos h0]
             cases s<;>simp[KP] at hsl<;>exact congrArg some h
           rw[if_neg h0]
           unfold nY.main at h
           obtain ⟨hr,h⟩:=Tr.aD h
           rw[yU,decide_eq_true_eq] at hr
           obtain ⟨hb,h⟩:=Tr.aF h
           obtain ⟨hz,h⟩:=Tr.aF h
           obtain ⟨new,h1,h⟩:=Tr.bind_some h
           have hcv:=pn h1
           rw[if_pos ⟨hr.1,hr.2,AU hb,te hz⟩,hcv]
           dsimp only
           split at h
           · rw[← Tr.ab h,vM]
           · rename_i sT r szT GF full
             obtain ⟨hf,h⟩:=Tr.aD h
             obtain ⟨old,h2,rfl⟩:=xF h
             subst hf
             dsimp only
             rw[h2]
           · rename_i d i v off sz len c _ _ _ _ _
             rcases Tr.ff h with ⟨hc,h⟩ | ⟨hc,h⟩
             · rw[gd,decide_eq_true_eq,bK] at hc
               obtain ⟨old,h2,rfl⟩:=xF h
               dsimp only
               rw[if_pos hc,h2]
             · rw[gd,decide_eq_false_iff_not,bK] at hc
               dsimp only
               rw[if_neg hc]
               rw[dQ] at h
               obtain ⟨hl,h⟩:=Tr.jL h
               obtain ⟨r,h2,h⟩:=Tr.bind_some h
               obtain ⟨hs,h⟩:=Tr.aF h
               have hs:=Nat.eq_of_beq_eq_true hs
               rw[hl,if_neg (by simp),kS h2]
               dsimp only
               split at h
               · rename_i l _
                 rw[nK] at h
                 have hcl:=rH hcv
                 split at h
                 · exact (Tr.ae h).elim
                 · rename_i y0 ys hy
                   obtain ⟨l',h3,h⟩:=Tr.bind_some h
                   obtain ⟨k1,k2⟩:=sW _ _ _ _ h3
                   rw[bK,b5,Nat.add_zero] at k1 k2
                   have hlen:=Row.aZ (lf d new)
                   rw[hy,fk,hcl] at hlen
                   have hfit:off+(m+n)*sz≤(Row.M l).len:=by
                    rcases k1 with k1 | k1
                    · simp at k1
                    · rw[hlen,← hs] at k1
                      rw[Nat.add_mul]
                      show _≤au l
                      omega
                   rw[if_pos ⟨hs,hfit⟩,hy,k2,← Tr.ab h,bK]
               · exact (Tr.ae h).elim
           · rename_i d i v off sz len _ _ _ _ _
             dsimp only
             rw[dQ] at h
             obtain ⟨hl,h⟩:=Tr.jL h
             obtain ⟨r,h2,h⟩:=Tr.bind_some h
             obtain ⟨hs,h⟩:=Tr.aF h
             have hs:=Nat.eq_of_beq_eq_true hs
             obtain ⟨old,h3,h⟩:=Tr.bind_some h
             obtain ⟨r',h4,h⟩:=Tr.bind_some h
             obtain ⟨k1,k2⟩:=AB h3
             rw[b5] at k1 k2
             rw[hl,if_neg (by simp),kS h2]
             dsimp only
             rw[if_pos ⟨hs,k1⟩,k2,AQ h4,← Tr.ab h,bK]
           · exact (Tr.ae h).elim
         · exact (Tr.ae h).elim
       · exact (Tr.ae h).elim
     · exact (Tr.ae h).elim
   · rename_i k' hu
     rw[ht,hu]
     exact DK h
   · exact (Tr.ae h).elim
 · exact (Tr.ae h).elim

end
end Go.Eng
end
