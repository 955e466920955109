/- The engine as a tree: slices, numbers, operations. -/
import Derived.Test.YtgphpjdchnfjlaaDoorV3EngTb
set_option linter.unusedVariables false
set_option linter.unusedSimpArgs false
section
namespace Go.Eng
noncomputable section

theorem Tr.aZ {α:Type} {c:Bool} {t:Tr α} {x:α} (h:(cond c t .bad).run=some x):c=true∧t.run=some x:=by
 cases c with
 | true=>exact ⟨rfl,h⟩
 | false=>exact (Tr.ah h).elim
def Mo (op:BinOp) (k:IntKind) (x y:Int):Tr AV :=
 match op with
 | .add=>.ok (.int k (bh k x y))
 | .sub=>.ok (.int k (bN k x y))
 | .mul=>.ok (.int k (xm k x y))
 | .quo=>.req (bx (cw y 0)) (.ok (.int k (vk k x y)))
 | .rem=>.req (bx (cw y 0)) (.ok (.int k (vm k x y)))
 | .and=>.ok (.int k (l9 k x y))
 | .or=>.ok (.int k (sa k x y))
 | .xor=>.ok (.int k (Nx k x y))
 | .andNot=>.ok (.int k (AY k x y))
 | .eql=>.ok (.bool (cw x y))
 | .neq=>.ok (.bool (bx (cw x y)))
 | .lss=>.ok (.bool (bD x y))
 | .leq=>.ok (.bool (c8 x y))
 | .gtr=>.ok (.bool (bD y x))
 | .geq=>.ok (.bool (c8 y x))
 | _=>.bad
theorem IW {op:BinOp} {k:IntKind} {x y:Int} {v:AV} (h:(Mo op k x y).run=some v):iw op k x y=some v:=by
 unfold Mo at h;unfold iw;cases op<;>dsimp only at h ⊢<;>try exact (Tr.ah h).elim
 case quo =>
  obtain ⟨hc,h⟩:=Tr.aX h
  rw[aB,aQ] at hc
  have:¬ y=0:=by simpa using hc
  rw[if_neg this,← Tr.af h,xE]
 case rem =>
  obtain ⟨hc,h⟩:=Tr.aX h
  rw[aB,aQ] at hc
  have:¬ y=0:=by simpa using hc
  rw[if_neg this,← Tr.af h,xG]
 all_goals
  have h:=Tr.af h
  subst h
  first
   | rfl
   | (simp only[gt_iff_lt,ge_iff_le,fS,eG,np,rL,tL,xZ,sj,aQ,aB,bw,bf,bne];done)
   | (simp only[fS,eG,np,rL,tL,xZ,sj,aQ,aB,bw,bf];done)
   | (simp only[fS,eG,np,rL,tL,xZ,sj,aQ,aB,bw,bf];rfl)
def iK:List Int→List Int→Bool
 | [],[]=>true
 | [x],[y]=>cw x y
 | x::x'::a,y::y'::b=>bO (cw x y) (iK (x'::a) (y'::b))
 | _,_=>false
theorem tg:∀ (l m:List Int),iK l m=fe l m
 | [],[]=>rfl
 | [],_::_=>by simp[iK,fe]
 | _::_,[]=>by simp[iK,fe]
 | [x],[y]=>by simp[iK,fe,aQ]
 | [x],y::y'::b=>by simp[iK,fe]
 | x::x'::a,[y]=>by simp[iK,fe]
 | x::x'::a,y::y'::b=>by
   simp only[iK];rw[bT,aQ,tg (x'::a) (y'::b)];rfl
def yO (r:Row):Option (IntKind×(Nat→Int)) :=
 match r with
 | .I k l=>some (k,az l)
 | .M [.arr k z _]=>some (k,z)
 | _=>none
theorem s7 (r:Row):yO r=r.ints:=by
 match r with
 | .I k l=>simp only[yO,Row.ints,jE]
 | .G l=>rfl
 | .F f n=>rfl
 | .M []=>rfl
 | .M [.arr k z n]=>rfl
 | .M (.one v::r)=>rfl
 | .M (.arr k z n::s::r)=>rfl
def NA (P:Program) (t:TypeId) (x y:AV):Tr Bool :=
 match x,y with
 | .bool a,.bool b=>match P.underlying t with
   | some .bool=>.ok (Qs a b)
   | _=>.bad
 | .nils,.slcT s r sz n f=>match P.underlying t with
   | some (.slice _)=>.req (bW 0 n) (.ok false)
   | _=>.bad
 | .slcT s r sz n f,.nils=>match P.underlying t with
   | some (.slice _)=>.req (bW 0 n) (.ok false)
   | _=>.bad
 | .agg (.I k a),.agg (.I k' b)=>cond (gY k k') (match cA P 20 t with
   | some n=>match fj P t with
     | some true=>cond (Nat.beq n (kz a)) (cond (Nat.beq (kz a) (kz b)) (.ok (iK a b)) .bad) .bad
     | _=>.bad
   | none=>.bad) .bad
 | .agg (.M l),.agg s=>eqMT P t (.M l) s
 | .agg (.I k a),.agg (.M l)=>eqMT P t (.I k a) (.M l)
 | x,y=>wb (AZ P t x y)
where
 eqMT (P:Program) (t:TypeId) (r s:Row):Tr Bool :=
  match yO r,yO s with
  | some (k,z),some (k',z')=>cond (gY k k') (match cA P 20 t with
    | some n=>match fj P t with
      | some true=>cond (Nat.beq n (iD r)) (cond (Nat.beq (iD r) (iD s)) (.ok (l8 z z' (iD r))) .bad) .bad
      | _=>.bad
    | none=>.bad) .bad
  | _,_=>.bad
theorem CI {P:Program} {t:TypeId} {r s:Row} {b:Bool} (h:(NA.eqMT P t r s).run=some b):Nz P t r s=some b:=by
 unfold NA.eqMT at h;rw[s7,s7] at h;unfold Nz;split at h
 · rename_i k z k' z' h1 h2;rw[h1,h2];obtain ⟨hk,h⟩:=Tr.aZ h;rw[fm,decide_eq_true_eq] at hk;split at h
   · rename_i n hn;split at h
     · rename_i ha;obtain ⟨e1,h⟩:=Tr.aZ h;obtain ⟨e2,h⟩:=Tr.aZ h;rw[fp] at e1 e2 h;rw[fp] at e2;have e1:n=r.len:=by simpa using e1
       have e2:r.len=s.len:=by simpa using e2
       dsimp only;rw[if_pos ⟨hk,by rw[hn,e1],ha,e2⟩,← Tr.af h,vw]
     · exact (Tr.ah h).elim
   · exact (Tr.ah h).elim
 · exact (Tr.ah h).elim
theorem F2 {P:Program} {t:TypeId} {x y:AV} {b:Bool} (h:(NA P t x y).run=some b):AZ P t x y=some b:=by
 unfold NA at h;split at h
 · split at h
   · rename_i hu;unfold AZ;dsimp only;rw[hu,← Tr.af h,F1]
   · exact (Tr.ah h).elim
 · split at h
   · rename_i hu;obtain ⟨hc,h⟩:=Tr.aX h;rw[iy,decide_eq_true_eq] at hc;unfold AZ;dsimp only;rw[hu];dsimp only;rw[if_pos hc,Tr.af h]
   · exact (Tr.ah h).elim
 · split at h
   · rename_i hu;obtain ⟨hc,h⟩:=Tr.aX h;rw[iy,decide_eq_true_eq] at hc;unfold AZ;dsimp only;rw[hu];dsimp only;rw[if_pos hc,Tr.af h]
   · exact (Tr.ah h).elim
 · obtain ⟨hk,h⟩:=Tr.aZ h;rw[fm,decide_eq_true_eq] at hk;split at h
   · rename_i n hn;split at h
     · rename_i ha;obtain ⟨e1,h⟩:=Tr.aZ h;obtain ⟨e2,h⟩:=Tr.aZ h;rw[eE] at e1 e2;rw[eE] at e2;have e1:=Nat.eq_of_beq_eq_true e1;have e2:=Nat.eq_of_beq_eq_true e2;unfold AZ;dsimp only;rw[if_pos ⟨hk,by rw[hn,e1],ha,e2⟩,← Tr.af h,tg]
     · exact (Tr.ah h).elim
   · exact (Tr.ah h).elim
 · unfold AZ;exact CI h
 · unfold AZ;exact CI h
 · rw[da] at h;exact h
def Fy (P:Program) (op:BinOp) (t:TypeId) (x y:AV):Tr AV :=
 match x,y with
 | .int k a,.int k' b=>match op with
   | .shl=>.req (c8 0 b) (.ok (.int k (eh k a b)))
   | .shr=>.req (c8 0 b) (.ok (.int k (Nc k a b)))
   | op=>cond (gY k k') (Mo op k a b) .bad
 | x,y=>match op with
   | .eql=>(NA P t x y).bind fun b=>.ok (.bool b)
   | .neq=>(NA P t x y).bind fun b=>.ok (.bool (bx b))
   | _=>.bad
theorem Ir {P:Program} {op:BinOp} {t:TypeId} {x y v:AV} (h:(Fy P op t x y).run=some v):ke P op t x y=some v:=by
 unfold Fy at h;split at h
 · rename_i k a k' b;split at h
   · obtain ⟨hc,h⟩:=Tr.aX h;rw[bf,decide_eq_true_eq] at hc;unfold ke;dsimp only;rw[if_neg (by omega),← Tr.af h,xS]
   · obtain ⟨hc,h⟩:=Tr.aX h;rw[bf,decide_eq_true_eq] at hc;unfold ke;dsimp only;rw[if_neg (by omega),← Tr.af h,JN]
   · rename_i h1 h2;obtain ⟨hk,h⟩:=Tr.aZ h;rw[fm,decide_eq_true_eq] at hk;have:ke P op t (.int k a) (.int k' b)=if k=k' then iw op k a b else none:=by
      unfold ke;cases op<;>first | rfl | exact (h1 rfl).elim | exact (h2 rfl).elim
     rw[this,if_pos hk];exact IW h
 · rename_i hn;split at h
   · obtain ⟨b,h1,h⟩:=Tr.bind_some h;have h2:=F2 h1;have:ke P .eql t x y=(AZ P t x y).map .bool:=by
      unfold ke;cases x<;>cases y<;>first | rfl | exact (hn _ _ _ _ rfl rfl).elim
     rw[this,h2,← Tr.af h];rfl
   · obtain ⟨b,h1,h⟩:=Tr.bind_some h;have h2:=F2 h1;have:ke P .neq t x y=(AZ P t x y).map fun b=>.bool (!b):=by
      unfold ke;cases x<;>cases y<;>first | rfl | exact (hn _ _ _ _ rfl rfl).elim
     rw[this,h2,← Tr.af h,aB];rfl
   · exact (Tr.ah h).elim
def T3 (op:UnOp) (x:AV):Tr AV :=
 match op,x with
 | .not,.bool b=>.ok (.bool (bx b))
 | .neg,.int k n=>.ok (.int k (BQ k n))
 | _,_=>.bad
theorem Nr {op:UnOp} {x v:AV} (h:(T3 op x).run=some v):Qz op x=some v:=by
 unfold T3 at h;split at h
 · rw[← Tr.af h,aB];rfl
 · rw[← Tr.af h,xp];rfl
 · exact (Tr.ah h).elim
def pE (mx:Bool) (k:IntKind) (x:Int):List AV→Tr AV
 | []=>.ok (.int k x)
 | v::r=>match v with
   | .int k' y=>cond (gY k k') (pE mx k (cond mx (nH x y) (rG x y)) r) .bad
   | _=>.bad
theorem oC {mx:Bool} {k:IntKind}:∀ (l:List AV) (x:Int) (v:AV),(pE mx k x l).run=some v→eP mx k x l=some v
 | [],x,v,h=>by rw[← Tr.af h];rfl
 | u :: r,x,v,h=>by
   simp only[pE] at h;split at h
   · rename_i k' y;obtain ⟨hk,h⟩:=Tr.aZ h;rw[fm,decide_eq_true_eq] at hk;simp only[eP];rw[if_pos hk,← oC r _ v h,nk,nm];cases mx<;>rfl
   · exact (Tr.ah h).elim

def fP (a sz:Nat):Nat :=
 match sz with
 | 1=>a
 | s=>bU a s
theorem cM (a sz:Nat):fP a sz=a*sz:=by
 unfold fP;split
 · rw[Nat.mul_one]
 · rw[jI]
abbrev T8:=Option Nat×Nat×Option Nat
def mZ (lo hi mx:Option AV) (len:Nat):Tr T8 :=
 match mx with
 | none=>(match hi with
    | none=>.ok len
    | some (.int _ i)=>.req (kP i len) (.ok (b5 i))
    | some _=>.bad:Tr Nat).bind fun h=>(match lo with
    | none=>.ok (none,h,none)
    | some (.int _ i)=>.req (kP i h) (.ok (some (b5 i),h,none))
    | some _=>.bad)
 | some (.int _ m)=>.req (kP m len) (match hi with
    | some (.int _ i)=>.req (kP i (b5 m)) (match lo with
      | none=>.ok (none,b5 i,some (b5 m))
      | some (.int _ j)=>.req (kP j (b5 i)) (.ok (some (b5 j),b5 i,some (b5 m)))
      | some _=>.bad)
    | _=>.bad)
 | some _=>.bad
def De (l:Option Nat):Nat :=
 match l with
 | none=>0
 | some l=>l
theorem gP {i:Int} {k:IntKind} {d top:Nat} (h:kP i top=true):bound (some (.int k i)) d top=some (b5 i):=by
 rw[CB,decide_eq_true_eq] at h;simp only[bound];rw[if_pos h,j6]
theorem kR {lo hi mx:Option AV} {len:Nat} {b:T8} (h:(mZ lo hi mx len).run=some b):ey lo hi mx len=some (De b.1,b.2.1,b.2.2):=by
 unfold mZ at h;unfold ey;split at h
 · obtain ⟨h',h1,h⟩:=Tr.bind_some h;have e1:bound hi len len=some h':=by
    split at h1
    · rw[← Tr.af h1];rfl
    · obtain ⟨hc,h1⟩:=Tr.aX h1;rw[gP hc,Tr.af h1]
    · exact (Tr.ah h1).elim
   dsimp only;rw[e1];dsimp only;split at h
   · rw[← Tr.af h];rfl
   · obtain ⟨hc,h⟩:=Tr.aX h;rw[gP hc,← Tr.af h];rfl
   · exact (Tr.ah h).elim
 · rename_i k m;obtain ⟨hm,h⟩:=Tr.aX h;dsimp only;rw[gP hm];dsimp only;split at h
   · rename_i k' i;obtain ⟨hi,h⟩:=Tr.aX h;simp only[Option.isSome_some,if_true];rw[gP hi];dsimp only;split at h
     · rw[← Tr.af h];rfl
     · obtain ⟨hc,h⟩:=Tr.aX h;rw[gP hc,← Tr.af h];rfl
     · exact (Tr.ah h).elim
   · exact (Tr.ah h).elim
 · exact (Tr.ah h).elim
def xU (a:Nat) (l:Option Nat):Nat :=
 match l with
 | none=>a
 | some l=>dC a l
theorem ny (a:Nat) (l:Option Nat):xU a l=a-De l:=by
 cases l with
 | none=>rfl
 | some l=>exact dv a l
def Fo (off:Nat) (l:Option Nat) (sz:Nat):Nat :=
 match l with
 | none=>off
 | some l=>ar off (fP l sz)
theorem Ct (off:Nat) (l:Option Nat) (sz:Nat):Fo off l sz=off+De l*sz:=by
 cases l with
 | none=>simp[Fo,De]
 | some l=>simp only[Fo,De,aI,cM]
def DK (r:Row) (l:Option Nat) (sz n:Nat):Tr Row :=
 match r with
 | .M [.arr k z N]=>.req (eR (ar (fP (De l) sz) n) N) (.ok (.M [.arr k (match l with | none=>z | some l=>pZ z (fP l sz)) n]))
 | .F f N=>.req (eR (ar (fP (De l) sz) n) N) (.ok (.F (match l with | none=>f | some l=>fun j=>f (ar (fP l sz) j)) n))
 | _=>.bad
theorem z7 {r q:Row} {l:Option Nat} {sz n:Nat} (h:(DK r l sz n).run=some q):De l*sz+n≤r.len∧r.sub (De l*sz) n=q:=by
 unfold DK at h;split at h
 · rename_i k z N;obtain ⟨hc,h⟩:=Tr.aX h;rw[jj,decide_eq_true_eq,aI,cM] at hc;refine ⟨by simp only[Row.len,aC,aU];omega,?_⟩;rw[← Tr.af h];cases l with
   | none=>simp only[Row.sub,De,Nat.zero_mul,Nat.zero_add]
   | some l=>simp only[Row.sub,De,mT,cM]
 · rename_i f N;obtain ⟨hc,h⟩:=Tr.aX h;rw[jj,decide_eq_true_eq,aI,cM] at hc;refine ⟨by simp only[Row.len];omega,?_⟩;rw[← Tr.af h];cases l with
   | none=>simp only[Row.sub,De,Nat.zero_mul,Nat.zero_add]
   | some l=>simp only[Row.sub,De,aI,cM]
 · exact (Tr.ah h).elim
def Q9 (o:Option AV):Bool :=
 match o with
 | none=>true
 | some _=>false
def Gg (mm:Option Nat) (full hiN:Bool) (h len:Nat):Bool :=
 match mm with
 | none=>cond hiN full (bO full (cD h len))
 | some m=>cD h m
def Ca (P:Program) (t:TypeId) (x:AV) (lo hi mx:Option AV):Tr AV :=
 match P.underlying t with
 | some (.slice e)=>match bH P e with
   | some z=>match x with
     | .slc d j v off sz len cap=>cond (Nat.beq z sz) ((mZ lo hi mx len).bind fun b=>.ok (.slc d j v (Fo off b.1 sz) sz (xU b.2.1 b.1) (match b.2.2 with
       | none=>match cap with | none=>none | some c=>some (xU c b.1)
       | some m=>some (xU m b.1)))) .bad
     | .slcT s r sz len full=>cond (Nat.beq z sz) ((mZ lo hi mx len).bind fun b=>(DK r b.1 sz (fP (xU b.2.1 b.1) sz)).bind fun q=>.ok (.slcT s q sz (xU b.2.1 b.1) (Gg b.2.2 full (Q9 hi) b.2.1 len))) .bad
     | .nils=>(mZ lo hi mx 0).bind fun _=>.ok .nils
     | _=>.bad
   | none=>.bad
 | some (.array n e)=>match bH P e with
   | some sz=>match x with
     | .ptr d j v off=>(mZ lo hi mx n).bind fun b=>.ok (.slc d j v (Fo off b.1 sz) sz (xU b.2.1 b.1) (match b.2.2 with
       | none=>some (xU n b.1)
       | some m=>some (xU m b.1)))
     | _=>.bad
   | none=>.bad
 | _=>.bad
theorem EU {P:Program} {t:TypeId} {x v:AV} {lo hi mx:Option AV} (h:(Ca P t x lo hi mx).run=some v):qP P t x lo hi mx=some v:=by
 unfold Ca at h;unfold qP;split at h
 · rename_i e hu;split at h
   · rename_i z hs;split at h
     · rename_i d j ver off sz len cap;obtain ⟨hz,h⟩:=Tr.aZ h;have hz:z=sz:=by simpa using hz
       subst hz;obtain ⟨b,h1,h⟩:=Tr.bind_some h;rw[hu];dsimp only;rw[kR h1];dsimp only;rw[if_pos hs,← Tr.af h,Ct,ny];obtain ⟨b1,b2,b3⟩:=b;cases b3<;>cases cap<;>simp only[ny,Option.map_some,Option.map_none]
     · rename_i s r sz len full;obtain ⟨hz,h⟩:=Tr.aZ h;have hz:z=sz:=by simpa using hz
       subst hz;obtain ⟨b,h1,h⟩:=Tr.bind_some h;obtain ⟨q,h2,h⟩:=Tr.bind_some h;rw[hu];dsimp only;have hb:=kR h1;rw[hb];dsimp only;obtain ⟨k1,k2⟩:=z7 h2;rw[cM,ny] at k1 k2;rw[if_pos ⟨hs,k1⟩,k2,← Tr.af h,ny];congr 2;obtain ⟨b1,b2,b3⟩:=b;dsimp only at hb ⊢;cases b3 with
       | some m=>simp only[Gg,fz];rw[Bool.eq_iff_iff];simp
       | none =>
         simp only[Gg];cases hi with
         | some a =>
           simp only[Q9,cond_false,bT,fz];congr 1;rw[Bool.eq_iff_iff];simp
         | none =>
           simp only[Q9,cond_true];have:b2=len:=by
            unfold ey at hb;cases mx with
            | none =>
              dsimp only[bound] at hb;split at hb
              · simp only[nP] at hb;exact hb.2.1.symm
              · simp at hb
            | some a =>
              dsimp only at hb;split at hb
              · simp at hb
              · simp at hb
           rw[this];simp
     · obtain ⟨b,h1,h⟩:=Tr.bind_some h;rw[hu];dsimp only;rw[kR h1,hs,← Tr.af h]
     · exact (Tr.ah h).elim
   · exact (Tr.ah h).elim
 · rename_i n e hu;split at h
   · rename_i sz hs;split at h
     · rename_i d j ver off;obtain ⟨b,h1,h⟩:=Tr.bind_some h;rw[hu];dsimp only;rw[kR h1];dsimp only;rw[hs,← Tr.af h,Ct,ny];obtain ⟨b1,b2,b3⟩:=b;cases b3<;>simp only[ny]
     · exact (Tr.ah h).elim
   · exact (Tr.ah h).elim
 · exact (Tr.ah h).elim

def sr (H:ab) (sz n:Nat) (x:AV):Tr Row :=
 match x with
 | .slc d i v off sz' len cap=>(xL H d i v (some 0)).bind fun r=>cond (Nat.beq sz' sz) (.req (eR n len) (match r with
    | .M [.arr k z N]=>.req (eD off (fP n sz) 0 N) (.ok (.M [.arr k (pZ z off) (fP n sz)]))
    | .I k l=>cond (uU (.I k l) off (Nat.mul n sz)) (.ok (Cj d (Row.I k (lQ (lM l off) (Nat.mul n sz))))) .bad
    | .G l=>cond (uU (.G l) off (Nat.mul n sz)) (.ok (Cj d (Row.G (lQ (lM l off) (Nat.mul n sz))))) .bad
    | .F f N=>.req (eD off (fP n sz) 0 N) (.ok (.F (fun j=>f (ar off j)) (fP n sz)))
    | _=>.bad)) .bad
 | .slcT s r sz' len _=>cond (Nat.beq sz' sz) (.req (eR n len) ((DK r none sz (fP n sz)).bind fun q=>.ok (match s with | none=>q | some k=>Cj k q))) .bad
 | _=>.bad
theorem Qj (d:Nat) (k:IntKind) (z:Nat→Int) (n:Nat):Cj d (.M [.arr k z n])=.M [.arr k z n]:=by cases d<;>rfl
theorem Qi (d:Nat) (f:Nat→AV) (n:Nat):Cj d (.F f n)=.F f n:=by cases d<;>rfl
theorem qe {H:ab} {sz n:Nat} {x:AV} {q:Row} (h:(sr H sz n x).run=some q):eK H sz n x=some q:=by
 unfold sr at h;split at h
 · rename_i d i v off sz' len cap;obtain ⟨r,h1,h⟩:=Tr.bind_some h;obtain ⟨hz,h⟩:=Tr.aZ h;have hz:sz'=sz:=by simpa using hz
   obtain ⟨hc,h⟩:=Tr.aX h;rw[jj,decide_eq_true_eq] at hc;unfold eK;dsimp only;rw[lB h1];dsimp only;split at h
   · rename_i k z N;obtain ⟨hc2,h⟩:=Tr.aX h;rw[jg,decide_eq_true_eq,cM] at hc2;rw[if_pos ⟨hz,hc,by simp only[Row.len,aC,aU];omega⟩,← Tr.af h];simp only[Row.sub,Qj,mT,cM]
   · rename_i k l;obtain ⟨hc2,h⟩:=Tr.aZ h;rw[kW,decide_eq_true_eq] at hc2;rw[if_pos ⟨hz,hc,hc2⟩,← Tr.af h,ik,gU];rfl
   · rename_i l;obtain ⟨hc2,h⟩:=Tr.aZ h;rw[kW,decide_eq_true_eq] at hc2;rw[if_pos ⟨hz,hc,hc2⟩,← Tr.af h,ik,gU];rfl
   · rename_i f N;obtain ⟨hc2,h⟩:=Tr.aX h;rw[jg,decide_eq_true_eq,cM] at hc2;rw[if_pos ⟨hz,hc,by simp only[Row.len];omega⟩,← Tr.af h];simp only[Row.sub,Qi,aI,cM]
   · exact (Tr.ah h).elim
 · rename_i s r sz' len full;obtain ⟨hz,h⟩:=Tr.aZ h;have hz:sz'=sz:=by simpa using hz
   obtain ⟨hc,h⟩:=Tr.aX h;rw[jj,decide_eq_true_eq] at hc;obtain ⟨q',h1,h⟩:=Tr.bind_some h;obtain ⟨k1,k2⟩:=z7 h1;rw[cM] at k1 k2;simp only[De,Nat.zero_mul,Nat.zero_add] at k1 k2;unfold eK;dsimp only;rw[if_pos ⟨hz,hc,k1⟩,← Tr.af h,k2];cases s<;>rfl
 · exact (Tr.ah h).elim

end
end Go.Eng
end
section
namespace Go.Eng
noncomputable section

theorem Tr.kh {α:Type} {c:Bool} {t:Tr α} {x:α} (h:(cond c .bad t).run=some x):c=false∧t.run=some x:=by
 cases c with
 | false=>exact ⟨rfl,h⟩
 | true=>exact (Tr.ah h).elim

def vZ:AV→AV
 | .slcT none (.I k l) sz m _=>.slcT none (.M [.arr k (az l) (kz l)]) sz m false
 | .slcT none (.M [.arr k z n]) sz m _=>.slcT none (.M [.arr k z n]) sz m false
 | v=>v
theorem tC (v:AV):vZ v=jJ v:=by
 unfold vZ jJ;split
 · simp only[jE,eE]
 · rfl
 · rename_i h1 h2;split
   · exact absurd rfl (h1 _ _ _ _ _)
   · exact absurd rfl (h2 _ _ _ _ _ _)
   · rfl
def F6 (r:Row):Row :=
 match r with
 | .I k l=>.M [.arr k (az l) (kz l)]
 | .G [v]=>cond (rj v) (.F (fun _=>vZ v) 1) (.G [v])
 | r=>r
theorem wT (r:Row):F6 r=rD true r:=by
 cases r with
 | I k l=>simp only[F6,rD,if_true,jE,eE]
 | F f n=>rfl
 | M l=>rfl
 | G l =>
   match l with
   | []=>rfl
   | [v] =>
     show cond (rj v) (Row.F (fun _=>vZ v) 1) (Row.G [v])=if (true && rj v)=true then Row.F (fun _=>jJ v) 1 else Row.G [v]
     rw[tC];cases rj v<;>rfl
   | a::b::r=>rfl
def YQ:AV→Nat→Int
 | .slcT _ (.M [.arr _ z _]) _ _ _=>z
 | _=>fun _=>0
def XN:AV→Nat
 | .slcT _ (.M [.arr _ _ n]) _ _ _=>n
 | _=>0
def XL:AV→Nat
 | .slcT _ _ _ m _=>m
 | _=>0
def Il (r s:Row):Tr Row :=
 match r with
 | .M [.arr k z n]=>match yO s with
   | some (k',z')=>cond (gY k' k) (.ok (.M [.arr k (nZ z n z') (ar n (iD s))])) .bad
   | none=>.bad
 | .I k l=>match s with
   | .I k' l'=>cond (gY k' k) (.ok (.I k (rA l l'))) .bad
   | .M [.arr k' z' n']=>cond (gY k' k) (.ok (.M [.arr k (nZ (az l) (kz l) z') (ar (kz l) n')])) .bad
   | _=>.bad
 | .G l=>match s with
   | .G l'=>.ok (.G (rA l l'))
   | _=>.bad
 | .F f n=>match s with
   | .G [v]=>cond (rj v) (match vZ v with
     | .slcT none (.M [.arr k z N]) sz m full=>.reqP (LB f k sz full)
       (.ok (.F (fun j=>.slcT none (.M [.arr k (M9 (bW j n) (YQ (f j)) z) (JF (bW j n) (XN (f j)) N)]) sz (JF (bW j n) (XL (f j)) m) full) (ar n 1)))
     | _=>.bad) .bad
   | _=>.bad
 | _=>.bad
theorem Cv {r s q:Row} (h:(Il r s).run=some q):r.app s=q:=by
 unfold Il at h;split at h
 · rename_i k z n;rw[s7] at h;split at h
   · rename_i k' z' hi;obtain ⟨hk,h⟩:=Tr.aZ h;rw[fm,decide_eq_true_eq] at hk;have e:Row.app (.M [.arr k z n]) s=(match (Row.M [.arr k z n]).uM s with | some q=>q | none=>.G ((Row.M [.arr k z n]).toList++s.toList)):=by
      cases s<;>rfl
     rw[e];unfold Row.uM;rw[hi];dsimp only[Row.ints];rw[if_pos hk,← Tr.af h,mX,aI,fp];rfl
   · exact (Tr.ah h).elim
 · rename_i k l;split at h
   · rename_i k' l';obtain ⟨hk,h⟩:=Tr.aZ h;rw[fm,decide_eq_true_eq] at hk;simp only[Row.app];rw[if_pos hk,← Tr.af h,rO]
   · rename_i k' z' n';obtain ⟨hk,h⟩:=Tr.aZ h;rw[fm,decide_eq_true_eq] at hk;simp only[Row.app];unfold Row.uM;dsimp only[Row.ints];rw[if_pos hk,← Tr.af h,mX,aI,eE,jE];rfl
   · exact (Tr.ah h).elim
 · split at h
   · rw[← Tr.af h,rO];rfl
   · exact (Tr.ah h).elim
 · rename_i f n;split at h
   · rename_i v;obtain ⟨hv,h⟩:=Tr.aZ h;split at h
     · rename_i k z N sz m full hn;obtain ⟨hf,h⟩:=Tr.gz h;rw[tC] at hn;rw[← Tr.af h,aI];show Row.F _ _=Row.F _ _;congr 1;funext j;simp only[JI,JG,iy];by_cases e:j<n
       · have hb:Nat.blt j n=true:=by rw[Nat.blt_eq];exact e
         rw[hb,if_pos rfl,decide_eq_true e];rw[Ih] at hf;obtain ⟨z',n',m',e'⟩:=hf j;rw[e'];rfl
       · have hb:Nat.blt j n=false:=by
          cases hb:Nat.blt j n with
          | false=>rfl
          | true=>rw[Nat.blt_eq] at hb;exact absurd hb e
         rw[hb,if_neg (by simp),decide_eq_false e];show (if ib v=true then jJ v else .undef)=_;rw[if_pos (s8 hv),hn];rfl
     · exact (Tr.ah h).elim
   · exact (Tr.ah h).elim
 · exact (Tr.ah h).elim
def OX (x:AV):Bool :=
 match x with
 | .slc _ _ _ _ _ _ (some _)=>true
 | _=>false
def OI (s:AV):Bool :=
 match s with
 | .nils | .slc .. | .slcT ..=>true
 | _=>false
def sf (P:Program) (e:TypeId) (n:Nat):Bool :=
 match (cY P e).bind AV.row with
 | some z=>Nat.beq (iD z) n
 | none=>false
theorem uD {P:Program} {e:TypeId} {n:Nat} (h:sf P e n=true):((cY P e).bind AV.row).map Row.len=some n:=by
 unfold sf at h;split at h
 · rename_i z hz;rw[fp] at h;have h:=Nat.eq_of_beq_eq_true h;rw[hz,Option.map_some,h]
 · simp at h
def CU (H:ab) (nx sz m n:Nat) (s:AV) (new:Row):Tr (AV×Delta) :=
 (sr H sz m s).bind fun old=>(Il old new).bind fun r=>.ok (.slc 0 nx 0 0 sz (ar m n) none,.push (.row (F6 r)))
def xV (r:Row) (off n:Nat):Tr Row :=
 match r with
 | .M [.arr k z N]=>.req (cD (ar off n) N) (.ok (.M [.arr k (pZ z off) n]))
 | .G l=>cond (Nat.beq (Nat.add off n) (kz l)) (.ok (.G (lQ (lM l off) n))) .bad
 | .F f N=>.req (cD (ar off n) N) (.ok (.F (fun j=>f (ar off j)) n))
 | _=>.bad
theorem Cf {r q:Row} {off n:Nat} (h:(xV r off n).run=some q):off+n=r.len∧r.sub off n=q:=by
 unfold xV at h;split at h
 · rename_i k z N;obtain ⟨hc,h⟩:=Tr.aX h;rw[fz,decide_eq_true_eq,aI] at hc;refine ⟨by simp only[Row.len,aC,aU];omega,?_⟩;rw[← Tr.af h,mT];rfl
 · rename_i l;obtain ⟨hc,h⟩:=Tr.aZ h;rw[eE] at hc;have hc:=Nat.eq_of_beq_eq_true hc;exact ⟨hc,by rw[← Tr.af h,ik,gU];rfl⟩
 · rename_i f N;obtain ⟨hc,h⟩:=Tr.aX h;rw[fz,decide_eq_true_eq,aI] at hc;refine ⟨hc,?_⟩;rw[← Tr.af h];simp only[aI];rfl
 · exact (Tr.ah h).elim
def Fs (P:Program) (nx:Nat) (e:TypeId) (s x:AV):Tr (AV×Delta) :=
 match P.info? e with
 | some inf=>match s with
   | .nils=>match x with
     | .int _ k=>cond (Nat.blt 0 inf.size) (cond (sf P e inf.size) (.req (Dm k k inf.bytes) (.ite (cw k (Int.ofNat 0)) (.ok (.nils,.bE)) (.ok (.slc 0 nx 0 0 inf.size (b5 k) none,.push (.row (F6 (.I .i64 []))))))) .bad) .bad
     | _=>.bad
   | _=>.bad
 | none=>.bad
theorem Ft {P:Program} {nx:Nat} {e:TypeId} {s x:AV} {y:AV×Delta} (h:(Fs P nx e s x).run=some y):Fq P true nx e s x=some y:=by
 unfold Fs at h;unfold Fq;split at h
 · rename_i inf hi;rw[hi];split at h
   · split at h
     · rename_i kk k;obtain ⟨hb,h⟩:=Tr.aZ h;obtain ⟨hz,h⟩:=Tr.aZ h;obtain ⟨hm,h⟩:=Tr.aX h;rw[BN,decide_eq_true_eq] at hm;dsimp only;rw[if_pos ⟨hm.1,hm.2.2.2,hm.2.2.1,CA hb,uD hz⟩];rcases Tr.kx h with ⟨hc,h⟩ | ⟨hc,h⟩
       · rw[aQ,beq_iff_eq] at hc;rw[if_pos (show k=0 from hc),Tr.af h]
       · rw[aQ,beq_eq_false_iff_ne] at hc;rw[if_neg (show ¬ k=0 from hc),← Tr.af h,wT,j6]
     · exact (Tr.ah h).elim
   · exact (Tr.ah h).elim
 · exact (Tr.ah h).elim
def oV (P:Program) (H:ab) (nx:Nat) (t u:TypeId) (s x:AV):Tr (AV×Delta) :=
 match P.underlying t with
 | some (.slice e)=>match P.underlying u with
   | some (.slice _)=>match P.info? e with
     | some inf=>match ou s with
       | some m=>match ou x with
         | some n=>cond (OI s) (match OX x,n with
           | true,0=>.ok (s,.bE)
           | true,_=>main P H nx e inf s x m n
           | false,_=>.ite (cD n 0) (.ok (s,.bE)) (main P H nx e inf s x m n)) .bad
         | none=>.bad
       | none=>.bad
     | none=>.bad
   | some (.int _)=>Fs P nx e s x
   | _=>.bad
 | _=>.bad
where
 main (P : Program) (H:ab) (nx:Nat) (e:TypeId) (inf:TypeInfo) (s x:AV) (m n:Nat):Tr (AV×Delta) :=
  .req (ie m n inf.bytes) (cond (Nat.blt 0 inf.bytes) (cond (sf P e inf.size) ((sr H inf.size n x).bind fun new =>
   match s with
   | .nils=>.ok (.slc 0 nx 0 0 inf.size n none,.push (.row (F6 new)))
   | .slcT _ _ _ _ full=>.req full (CU H nx inf.size m n s new)
   | .slc d i v off sz _ (some c)=>.ite (bW c (ar m n)) (CU H nx inf.size m n s new)
     (cond (jX H d) .bad ((xL H d i v (some 0)).bind fun r=>cond (Nat.beq sz inf.size) (match r with
       | .M l=>match lJ (jt d new) with
         | []=>.bad
         | y::ys=>(zV (ar off (fP m sz)) (some 0) (y::ys) 0 l).bind fun l'=>.ok (.slc d i v off sz (ar m n) (some c),.set d i (v,.row (.M l')))
       | _=>.bad) .bad))
   | .slc d i v off sz _ none=>cond (jX H d) .bad ((xL H d i v (some 0)).bind fun r=>cond (Nat.beq sz inf.size)
     ((xV r off (fP m sz)).bind fun old=>(Il old (jt d new)).bind fun r'=>.ok (.slc d i (Nat.succ v) 0 sz (ar m n) none,.set d i (Nat.succ v,.row r'))) .bad)
   | _=>.bad) .bad) .bad)
theorem ss {H:ab} {sz n:Nat} {x:AV} {q:Row} (h:eK H sz n x=some q):q.len=n*sz:=by
 unfold eK at h;split at h
 · split at h
   · rename_i hn;simp only[Option.some.injEq] at h;rw[← h,hn];simp[Row.len]
   · simp at h
 · split at h
   · split at h
     · rename_i hf;simp only[Option.some.injEq] at h;rw[← h,pT,Row.dw _ _ _ hf.2.2]
     · simp at h
   · simp at h
 · split at h
   · rename_i hf;simp only[Option.some.injEq] at h;rw[← h];split
     · exact Row.dw _ _ _ (by omega)
     · rw[pT,Row.dw _ _ _ (by omega)]
   · simp at h
 · simp at h
theorem yE {H:ab} {nx sz m n:Nat} {s:AV} {new:Row} {y:AV×Delta} (h:(CU H nx sz m n s new).run=some y):∃ old,eK H sz m s=some old∧y=(.slc 0 nx 0 0 sz (m+n) none,.push (.row (rD true (old.app new)))):=by
 unfold CU at h;obtain ⟨old,h1,h⟩:=Tr.bind_some h;obtain ⟨r,h2,h⟩:=Tr.bind_some h;refine ⟨old,qe h1,?_⟩;rw[← Tr.af h,aI,wT,Cv h2]
theorem A5         {P : Program} {H:ab} {nx:Nat} {t u:TypeId} {s x:AV} {y:AV×Delta} (h:(oV P H nx t u s x).run=some y):oW P true H nx t u s x=some y:=by
 unfold oV at h;unfold oW;split at h
 · rename_i e ht;split at h
   · rename_i e' hu;split at h
     · rename_i inf hi;split at h
       · rename_i m hm;split at h
         · rename_i n hn;obtain ⟨hsl,h⟩:=Tr.aZ h;rw[ht,hu];dsimp only;rw[hi,hm,hn];dsimp only;have hcase:(n=0∧(s,Delta.bE)=y)∨(n≠0∧(oV.main P H nx e inf s x m n).run=some y):=by
            cases hx:OX x with
            | true =>
              rw[hx] at h;cases n with
              | zero=>exact .inl ⟨rfl,Tr.af h⟩
              | succ n=>exact .inr ⟨by omega,h⟩
            | false =>
              rw[hx] at h;rcases Tr.kx h with ⟨hc,h⟩ | ⟨hc,h⟩
              · rw[fz,decide_eq_true_eq] at hc;exact .inl ⟨hc,Tr.af h⟩
              · rw[fz,decide_eq_false_iff_not] at hc;exact .inr ⟨hc,h⟩
           clear h;rcases hcase with ⟨h0,h⟩ | ⟨h0,h⟩
           · rw[if_pos h0];cases s<;>simp[OI] at hsl<;>exact congrArg some h
           rw[if_neg h0];unfold oV.main at h;obtain ⟨hr,h⟩:=Tr.aX h;rw[zM,decide_eq_true_eq] at hr;obtain ⟨hb,h⟩:=Tr.aZ h;obtain ⟨hz,h⟩:=Tr.aZ h;obtain ⟨new,h1,h⟩:=Tr.bind_some h;have hcv:=qe h1;rw[if_pos ⟨hr.1,hr.2,CA hb,uD hz⟩,hcv];dsimp only;split at h
           · rw[← Tr.af h,wT]
           · rename_i sT r szT I1 full;obtain ⟨hf,h⟩:=Tr.aX h;obtain ⟨old,h2,rfl⟩:=yE h;subst hf;dsimp only;rw[h2]
           · rename_i d i v off sz len c _ _ _ _ _;rcases Tr.kx h with ⟨hc,h⟩ | ⟨hc,h⟩
             · rw[iy,decide_eq_true_eq,aI] at hc;obtain ⟨old,h2,rfl⟩:=yE h;dsimp only;rw[if_pos hc,h2]
             · rw[iy,decide_eq_false_iff_not,aI] at hc;dsimp only;rw[if_neg hc];rw[gv] at h;obtain ⟨hl,h⟩:=Tr.kh h;obtain ⟨r,h2,h⟩:=Tr.bind_some h;obtain ⟨hs,h⟩:=Tr.aZ h;have hs:=Nat.eq_of_beq_eq_true hs;rw[hl,if_neg (by simp),lB h2];dsimp only;split at h
               · rename_i l _;rw[oP] at h;have hcl:=ss hcv;split at h
                 · exact (Tr.ah h).elim
                 · rename_i y0 ys hy;obtain ⟨l',h3,h⟩:=Tr.bind_some h;obtain ⟨k1,k2⟩:=uk _ _ _ _ h3;rw[aI,cM,Nat.add_zero] at k1 k2;have hlen:=Row.bz (jt d new);rw[hy,ft,hcl] at hlen;have hfit:off+(m+n)*sz≤(Row.M l).len:=by
                    rcases k1 with k1 | k1
                    · simp at k1
                    · rw[hlen,← hs] at k1;rw[Nat.add_mul];show _≤aC l;omega
                   rw[if_pos ⟨hs,hfit⟩,hy,k2,← Tr.af h,aI]
               · exact (Tr.ah h).elim
           · rename_i d i v off sz len _ _ _ _ _;dsimp only;rw[gv] at h;obtain ⟨hl,h⟩:=Tr.kh h;obtain ⟨r,h2,h⟩:=Tr.bind_some h;obtain ⟨hs,h⟩:=Tr.aZ h;have hs:=Nat.eq_of_beq_eq_true hs;obtain ⟨old,h3,h⟩:=Tr.bind_some h;obtain ⟨r',h4,h⟩:=Tr.bind_some h;obtain ⟨k1,k2⟩:=Cf h3;rw[cM] at k1 k2;rw[hl,if_neg (by simp),lB h2];dsimp only;rw[if_pos ⟨hs,k1⟩,k2,Cv h4,← Tr.af h,aI]
           · exact (Tr.ah h).elim
         · exact (Tr.ah h).elim
       · exact (Tr.ah h).elim
     · exact (Tr.ah h).elim
   · rename_i k' hu;rw[ht,hu];exact Ft h
   · exact (Tr.ah h).elim
 · exact (Tr.ah h).elim

end
end Go.Eng
end
