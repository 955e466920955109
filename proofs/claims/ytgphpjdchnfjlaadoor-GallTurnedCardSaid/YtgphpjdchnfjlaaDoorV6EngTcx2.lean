/- The engine as a tree: slices, numbers, operations. -/
import Derived.Test.YtgphpjdchnfjlaaDoorV6EngTb
set_option linter.unusedVariables false
set_option linter.unusedSimpArgs false
section
namespace Go.Eng
noncomputable section

theorem Tr.a6 {α:Type} {c:Bool} {t:Tr α} {x:α} (h:(cond c t .bad).run=some x):c=true∧t.run=some x:=by
 cases c with
 | true=>exact ⟨rfl,h⟩
 | false=>exact (Tr.ah h).elim
def Nv (op:BinOp) (k:IntKind) (x y:Int):Tr AV :=
 match op with
 | .add=>.ok (.int k (bm k x y))
 | .sub=>.ok (.int k (aV k x y))
 | .mul=>.ok (.int k (qJ k x y))
 | .quo=>.req (aQ (bV y 0)) (.ok (.int k (Fi k x y)))
 | .rem=>.req (aQ (bV y 0)) (.ok (.int k (lQ k x y)))
 | .and=>.ok (.int k (qd k x y))
 | .or=>.ok (.int k (wC k x y))
 | .xor=>.ok (.int k (OP k x y))
 | .andNot=>.ok (.int k (FQ k x y))
 | .eql=>.ok (.bool (bV x y))
 | .neq=>.ok (.bool (aQ (bV x y)))
 | .lss=>.ok (.bool (bE x y))
 | .leq=>.ok (.bool (dQ x y))
 | .gtr=>.ok (.bool (bE y x))
 | .geq=>.ok (.bool (dQ y x))
 | _=>.bad
theorem JC {op:BinOp} {k:IntKind} {x y:Int} {v:AV} (h:(Nv op k x y).run=some v):iJ op k x y=some v:=by
 unfold Nv at h;unfold iJ;cases op<;>dsimp only at h ⊢<;>try exact (Tr.ah h).elim
 case quo =>
  obtain ⟨hc,h⟩:=Tr.aW h
  rw[aH,bg] at hc
  have:¬ y=0:=by simpa using hc
  rw[if_neg this,← Tr.ae h,DZ]
 case rem =>
  obtain ⟨hc,h⟩:=Tr.aW h
  rw[aH,bg] at hc
  have:¬ y=0:=by simpa using hc
  rw[if_neg this,← Tr.ae h,sj]
 all_goals
  have h:=Tr.ae h
  subst h
  first
   | rfl
   | (simp only[gt_iff_lt,ge_iff_le,fX,eI,pH,rN,ui,ya,sw,bg,aH,bS,bu,bne];done)
   | (simp only[fX,eI,pH,rN,ui,ya,sw,bg,aH,bS,bu];done)
   | (simp only[fX,eI,pH,rN,ui,ya,sw,bg,aH,bS,bu];rfl)
def iX:List Int→List Int→Bool
 | [],[]=>true
 | [x],[y]=>bV x y
 | x::x'::a,y::y'::b=>cr (bV x y) (iX (x'::a) (y'::b))
 | _,_=>false
theorem tC:∀ (l m:List Int),iX l m=fg l m
 | [],[]=>rfl
 | [],_::_=>by simp[iX,fg]
 | _::_,[]=>by simp[iX,fg]
 | [x],[y]=>by simp[iX,fg,bg]
 | [x],y::y'::b=>by simp[iX,fg]
 | x::x'::a,[y]=>by simp[iX,fg]
 | x::x'::a,y::y'::b=>by
   simp only[iX];rw[ct,bg,tC (x'::a) (y'::b)];rfl
def yU (r:Row):Option (IntKind×(Nat→Int)) :=
 match r with
 | .I k l=>some (k,aC l)
 | .M [.arr k z _]=>some (k,z)
 | _=>none
theorem tu (r:Row):yU r=r.ints:=by
 match r with
 | .I k l=>simp only[yU,Row.ints,lG]
 | .G l=>rfl
 | .F f n=>rfl
 | .M []=>rfl
 | .M [.arr k z n]=>rfl
 | .M (.one v::r)=>rfl
 | .M (.arr k z n::s::r)=>rfl
def OS (P:Program) (t:TypeId) (x y:AV):Tr Bool :=
 match x,y with
 | .bool a,.bool b=>match P.underlying t with
   | some .bool=>.ok (Sa a b)
   | _=>.bad
 | .nils,.slcT s r sz n f=>match P.underlying t with
   | some (.slice _)=>.req (cK 0 n) (.ok false)
   | _=>.bad
 | .slcT s r sz n f,.nils=>match P.underlying t with
   | some (.slice _)=>.req (cK 0 n) (.ok false)
   | _=>.bad
 | .agg (.I k a),.agg (.I k' b)=>cond (iu k k') (match cE P 20 t with
   | some n=>match fk P t with
     | some true=>cond (Nat.beq n (kN a)) (cond (Nat.beq (kN a) (kN b)) (.ok (iX a b)) .bad) .bad
     | _=>.bad
   | none=>.bad) .bad
 | .agg (.M l),.agg s=>eqMT P t (.M l) s
 | .agg (.I k a),.agg (.M l)=>eqMT P t (.I k a) (.M l)
 | x,y=>wB (Be P t x y)
where
 eqMT (P:Program) (t:TypeId) (r s:Row):Tr Bool :=
  match yU r,yU s with
  | some (k,z),some (k',z')=>cond (iu k k') (match cE P 20 t with
    | some n=>match fk P t with
      | some true=>cond (Nat.beq n (iQ r)) (cond (Nat.beq (iQ r) (iQ s)) (.ok (ml z z' (iQ r))) .bad) .bad
      | _=>.bad
    | none=>.bad) .bad
  | _,_=>.bad
theorem CZ {P:Program} {t:TypeId} {r s:Row} {b:Bool} (h:(OS.eqMT P t r s).run=some b):OR P t r s=some b:=by
 unfold OS.eqMT at h;rw[tu,tu] at h;unfold OR;split at h
 · rename_i k z k' z' h1 h2;rw[h1,h2];obtain ⟨hk,h⟩:=Tr.a6 h;rw[fo,decide_eq_true_eq] at hk;split at h
   · rename_i n hn;split at h
     · rename_i ha;obtain ⟨e1,h⟩:=Tr.a6 h;obtain ⟨e2,h⟩:=Tr.a6 h;rw[fq] at e1 e2 h;rw[fq] at e2;have e1:n=r.len:=by simpa using e1
       have e2:r.len=s.len:=by simpa using e2
       dsimp only;rw[if_pos ⟨hk,by rw[hn,e1],ha,e2⟩,← Tr.ae h,vO]
     · exact (Tr.ah h).elim
   · exact (Tr.ah h).elim
 · exact (Tr.ah h).elim
theorem Gy {P:Program} {t:TypeId} {x y:AV} {b:Bool} (h:(OS P t x y).run=some b):Be P t x y=some b:=by
 unfold OS at h;split at h
 · split at h
   · rename_i hu;unfold Be;dsimp only;rw[hu,← Tr.ae h,M8]
   · exact (Tr.ah h).elim
 · split at h
   · rename_i hu;obtain ⟨hc,h⟩:=Tr.aW h;rw[iK,decide_eq_true_eq] at hc;unfold Be;dsimp only;rw[hu];dsimp only;rw[if_pos hc,Tr.ae h]
   · exact (Tr.ah h).elim
 · split at h
   · rename_i hu;obtain ⟨hc,h⟩:=Tr.aW h;rw[iK,decide_eq_true_eq] at hc;unfold Be;dsimp only;rw[hu];dsimp only;rw[if_pos hc,Tr.ae h]
   · exact (Tr.ah h).elim
 · obtain ⟨hk,h⟩:=Tr.a6 h;rw[fo,decide_eq_true_eq] at hk;split at h
   · rename_i n hn;split at h
     · rename_i ha;obtain ⟨e1,h⟩:=Tr.a6 h;obtain ⟨e2,h⟩:=Tr.a6 h;rw[eE] at e1 e2;rw[eE] at e2;have e1:=Nat.eq_of_beq_eq_true e1;have e2:=Nat.eq_of_beq_eq_true e2;unfold Be;dsimp only;rw[if_pos ⟨hk,by rw[hn,e1],ha,e2⟩,← Tr.ae h,tC]
     · exact (Tr.ah h).elim
   · exact (Tr.ah h).elim
 · unfold Be;exact CZ h
 · unfold Be;exact CZ h
 · rw[di] at h;exact h
def F0 (P:Program) (op:BinOp) (t:TypeId) (x y:AV):Tr AV :=
 match x,y with
 | .int k a,.int k' b=>match op with
   | .shl=>.req (dQ 0 b) (.ok (.int k (fU k a b)))
   | .shr=>.req (dQ 0 b) (.ok (.int k (Of k a b)))
   | op=>cond (iu k k') (Nv op k a b) .bad
 | x,y=>match op with
   | .eql=>(OS P t x y).bind fun b=>.ok (.bool b)
   | .neq=>(OS P t x y).bind fun b=>.ok (.bool (aQ b))
   | _=>.bad
theorem I1 {P:Program} {op:BinOp} {t:TypeId} {x y v:AV} (h:(F0 P op t x y).run=some v):kC P op t x y=some v:=by
 unfold F0 at h;split at h
 · rename_i k a k' b;split at h
   · obtain ⟨hc,h⟩:=Tr.aW h;rw[bu,decide_eq_true_eq] at hc;unfold kC;dsimp only;rw[if_neg wO,← Tr.ae h,xZ]
   · obtain ⟨hc,h⟩:=Tr.aW h;rw[bu,decide_eq_true_eq] at hc;unfold kC;dsimp only;rw[if_neg wO,← Tr.ae h,KB]
   · rename_i h1 h2;obtain ⟨hk,h⟩:=Tr.a6 h;rw[fo,decide_eq_true_eq] at hk;have:kC P op t (.int k a) (.int k' b)=if k=k' then iJ op k a b else none:=by
      unfold kC;cases op<;>first | rfl | exact (h1 rfl).elim | exact (h2 rfl).elim
     rw[this,if_pos hk];exact JC h
 · rename_i hn;split at h
   · obtain ⟨b,h1,h⟩:=Tr.bind_some h;have h2:=Gy h1;have:kC P .eql t x y=(Be P t x y).map .bool:=by
      unfold kC;cases x<;>cases y<;>first | rfl | exact (hn _ _ _ _ rfl rfl).elim
     rw[this,h2,← Tr.ae h];rfl
   · obtain ⟨b,h1,h⟩:=Tr.bind_some h;have h2:=Gy h1;have:kC P .neq t x y=(Be P t x y).map fun b=>.bool (!b):=by
      unfold kC;cases x<;>cases y<;>first | rfl | exact (hn _ _ _ _ rfl rfl).elim
     rw[this,h2,← Tr.ae h,aH];rfl
   · exact (Tr.ah h).elim
def UP (op:UnOp) (x:AV):Tr AV :=
 match op,x with
 | .not,.bool b=>.ok (.bool (aQ b))
 | .neg,.int k n=>.ok (.int k (Hg k n))
 | _,_=>.bad
theorem OK {op:UnOp} {x v:AV} (h:(UP op x).run=some v):RJ op x=some v:=by
 unfold UP at h;split at h
 · rw[← Tr.ae h,aH];rfl
 · rw[← Tr.ae h,DC];rfl
 · exact (Tr.ah h).elim
def pG (mx:Bool) (k:IntKind) (x:Int):List AV→Tr AV
 | []=>.ok (.int k x)
 | v::r=>match v with
   | .int k' y=>cond (iu k k') (pG mx k (cond mx (vA x y) (zw x y)) r) .bad
   | _=>.bad
theorem oC {mx:Bool} {k:IntKind}:∀ (l:List AV) (x:Int) (v:AV),(pG mx k x l).run=some v→eS mx k x l=some v
 | [],x,v,h=>by rw[← Tr.ae h];rfl
 | u :: r,x,v,h=>by
   simp only[pG] at h;split at h
   · rename_i k' y;obtain ⟨hk,h⟩:=Tr.a6 h;rw[fo,decide_eq_true_eq] at hk;simp only[eS];rw[if_pos hk,← oC r _ v h,sb,sc];cases mx<;>rfl
   · exact (Tr.ah h).elim

def fT (a sz:Nat):Nat :=
 match sz with
 | 1=>a
 | s=>bR a s
theorem cO (a sz:Nat):fT a sz=a*sz:=by
 unfold fT;split
 · rw[Nat.mul_one]
 · rw[nq]
abbrev UU:=Option Nat×Nat×Option Nat
def nb (lo hi mx:Option AV) (len:Nat):Tr UU :=
 match mx with
 | none=>(match hi with
    | none=>.ok len
    | some (.int _ i)=>.req (lh i len) (.ok (cC i))
    | some _=>.bad:Tr Nat).bind fun h=>(match lo with
    | none=>.ok (none,h,none)
    | some (.int _ i)=>.req (lh i h) (.ok (some (cC i),h,none))
    | some _=>.bad)
 | some (.int _ m)=>.req (lh m len) (match hi with
    | some (.int _ i)=>.req (lh i (cC m)) (match lo with
      | none=>.ok (none,cC i,some (cC m))
      | some (.int _ j)=>.req (lh j (cC i)) (.ok (some (cC j),cC i,some (cC m)))
      | some _=>.bad)
    | _=>.bad)
 | some _=>.bad
def Dv (l:Option Nat):Nat :=
 match l with
 | none=>0
 | some l=>l
theorem ib {i:Int} {k:IntKind} {d top:Nat} (h:lh i top=true):bound (some (.int k i)) d top=some (cC i):=by
 rw[CQ,decide_eq_true_eq] at h;simp only[bound];rw[if_pos h,lX]
theorem lk {lo hi mx:Option AV} {len:Nat} {b:UU} (h:(nb lo hi mx len).run=some b):eC lo hi mx len=some (Dv b.1,b.2.1,b.2.2):=by
 unfold nb at h;unfold eC;split at h
 · obtain ⟨h',h1,h⟩:=Tr.bind_some h;have e1:bound hi len len=some h':=by
    split at h1
    · rw[← Tr.ae h1];rfl
    · obtain ⟨hc,h1⟩:=Tr.aW h1;rw[ib hc,Tr.ae h1]
    · exact (Tr.ah h1).elim
   dsimp only;rw[e1];dsimp only;split at h
   · rw[← Tr.ae h];rfl
   · obtain ⟨hc,h⟩:=Tr.aW h;rw[ib hc,← Tr.ae h];rfl
   · exact (Tr.ah h).elim
 · rename_i k m;obtain ⟨hm,h⟩:=Tr.aW h;dsimp only;rw[ib hm];dsimp only;split at h
   · rename_i k' i;obtain ⟨hi,h⟩:=Tr.aW h;simp only[Option.isSome_some,if_true];rw[ib hi];dsimp only;split at h
     · rw[← Tr.ae h];rfl
     · obtain ⟨hc,h⟩:=Tr.aW h;rw[ib hc,← Tr.ae h];rfl
     · exact (Tr.ah h).elim
   · exact (Tr.ah h).elim
 · exact (Tr.ah h).elim
def x5 (a:Nat) (l:Option Nat):Nat :=
 match l with
 | none=>a
 | some l=>c9 a l
theorem nz (a:Nat) (l:Option Nat):x5 a l=a-Dv l:=by
 cases l with
 | none=>rfl
 | some l=>exact dj a l
def FO (off:Nat) (l:Option Nat) (sz:Nat):Nat :=
 match l with
 | none=>off
 | some l=>ar off (fT l sz)
theorem CK (off:Nat) (l:Option Nat) (sz:Nat):FO off l sz=off+Dv l*sz:=by
 cases l with
 | none=>simp[FO,Dv]
 | some l=>simp only[FO,Dv,aI,cO]
def D7 (r:Row) (l:Option Nat) (sz n:Nat):Tr Row :=
 match r with
 | .M [.arr k z N]=>.req (eU (ar (fT (Dv l) sz) n) N) (.ok (.M [.arr k (match l with | none=>z | some l=>jI z (fT l sz)) n]))
 | .F f N=>.req (eU (ar (fT (Dv l) sz) n) N) (.ok (.F (match l with | none=>f | some l=>fun j=>f (ar (fT l sz) j)) n))
 | _=>.bad
theorem Aj {r q:Row} {l:Option Nat} {sz n:Nat} (h:(D7 r l sz n).run=some q):Dv l*sz+n≤r.len∧r.sub (Dv l*sz) n=q:=by
 unfold D7 at h;split at h
 · rename_i k z N;obtain ⟨hc,h⟩:=Tr.aW h;rw[lD,decide_eq_true_eq,aI,cO] at hc;refine ⟨by simp only[Row.len,aE,aU];omega,?_⟩;rw[← Tr.ae h];cases l with
   | none=>simp only[Row.sub,Dv,Nat.zero_mul,Nat.zero_add]
   | some l=>simp only[Row.sub,Dv,m5,cO]
 · rename_i f N;obtain ⟨hc,h⟩:=Tr.aW h;rw[lD,decide_eq_true_eq,aI,cO] at hc;refine ⟨by simp only[Row.len];omega,?_⟩;rw[← Tr.ae h];cases l with
   | none=>simp only[Row.sub,Dv,Nat.zero_mul,Nat.zero_add]
   | some l=>simp only[Row.sub,Dv,aI,cO]
 · exact (Tr.ah h).elim
def Sf (o:Option AV):Bool :=
 match o with
 | none=>true
 | some _=>false
def GK (mm:Option Nat) (full hiN:Bool) (h len:Nat):Bool :=
 match mm with
 | none=>cond hiN full (cr full (cg h len))
 | some m=>cg h m
def Co (P:Program) (t:TypeId) (x:AV) (lo hi mx:Option AV):Tr AV :=
 match P.underlying t with
 | some (.slice e)=>match bH P e with
   | some z=>match x with
     | .slc d j v off sz len cap=>cond (Nat.beq z sz) ((nb lo hi mx len).bind fun b=>.ok (.slc d j v (FO off b.1 sz) sz (x5 b.2.1 b.1) (match b.2.2 with
       | none=>match cap with | none=>none | some c=>some (x5 c b.1)
       | some m=>some (x5 m b.1)))) .bad
     | .slcT s r sz len full=>cond (Nat.beq z sz) ((nb lo hi mx len).bind fun b=>(D7 r b.1 sz (fT (x5 b.2.1 b.1) sz)).bind fun q=>.ok (.slcT s q sz (x5 b.2.1 b.1) (GK b.2.2 full (Sf hi) b.2.1 len))) .bad
     | .nils=>(nb lo hi mx 0).bind fun _=>.ok .nils
     | _=>.bad
   | none=>.bad
 | some (.array n e)=>match bH P e with
   | some sz=>match x with
     | .ptr d j v off=>(nb lo hi mx n).bind fun b=>.ok (.slc d j v (FO off b.1 sz) sz (x5 b.2.1 b.1) (match b.2.2 with
       | none=>some (x5 n b.1)
       | some m=>some (x5 m b.1)))
     | _=>.bad
   | none=>.bad
 | _=>.bad
theorem Ft {P:Program} {t:TypeId} {x v:AV} {lo hi mx:Option AV} (h:(Co P t x lo hi mx).run=some v):qP P t x lo hi mx=some v:=by
 unfold Co at h;unfold qP;split at h
 · rename_i e hu;split at h
   · rename_i z hs;split at h
     · rename_i d j ver off sz len cap;obtain ⟨hz,h⟩:=Tr.a6 h;have hz:z=sz:=by simpa using hz
       subst hz;obtain ⟨b,h1,h⟩:=Tr.bind_some h;rw[hu];dsimp only;rw[lk h1];dsimp only;rw[if_pos hs,← Tr.ae h,CK,nz];obtain ⟨b1,b2,b3⟩:=b;cases b3<;>cases cap<;>simp only[nz,Option.map_some,Option.map_none]
     · rename_i s r sz len full;obtain ⟨hz,h⟩:=Tr.a6 h;have hz:z=sz:=by simpa using hz
       subst hz;obtain ⟨b,h1,h⟩:=Tr.bind_some h;obtain ⟨q,h2,h⟩:=Tr.bind_some h;rw[hu];dsimp only;have hb:=lk h1;rw[hb];dsimp only;obtain ⟨k1,k2⟩:=Aj h2;rw[cO,nz] at k1 k2;rw[if_pos ⟨hs,k1⟩,k2,← Tr.ae h,nz];congr 2;obtain ⟨b1,b2,b3⟩:=b;dsimp only at hb ⊢;cases b3 with
       | some m=>simp only[GK,fZ];rw[Bool.eq_iff_iff];simp
       | none =>
         simp only[GK];cases hi with
         | some a =>
           simp only[Sf,cond_false,ct,fZ];congr 1;rw[Bool.eq_iff_iff];simp
         | none =>
           simp only[Sf,cond_true];have:b2=len:=by
            unfold eC at hb;cases mx with
            | none =>
              dsimp only[bound] at hb;split at hb
              · simp only[nP] at hb;exact hb.2.1.symm
              · simp at hb
            | some a =>
              dsimp only at hb;split at hb
              · simp at hb
              · simp at hb
           rw[this];simp
     · obtain ⟨b,h1,h⟩:=Tr.bind_some h;rw[hu];dsimp only;rw[lk h1,hs,← Tr.ae h]
     · exact (Tr.ah h).elim
   · exact (Tr.ah h).elim
 · rename_i n e hu;split at h
   · rename_i sz hs;split at h
     · rename_i d j ver off;obtain ⟨b,h1,h⟩:=Tr.bind_some h;rw[hu];dsimp only;rw[lk h1];dsimp only;rw[hs,← Tr.ae h,CK,nz];obtain ⟨b1,b2,b3⟩:=b;cases b3<;>simp only[nz]
     · exact (Tr.ah h).elim
   · exact (Tr.ah h).elim
 · exact (Tr.ah h).elim

def sF (H:aa) (sz n:Nat) (x:AV):Tr Row :=
 match x with
 | .slc d i v off sz' len cap=>(xS H d i v (some 0)).bind fun r=>cond (Nat.beq sz' sz) (.req (eU n len) (match r with
    | .M [.arr k z N]=>.req (dN off (fT n sz) 0 N) (.ok (.M [.arr k (jI z off) (fT n sz)]))
    | .I k l=>cond (vo (.I k l) off (Nat.mul n sz)) (.ok (CA d (Row.I k (l9 (lZ l off) (Nat.mul n sz))))) .bad
    | .G l=>cond (vo (.G l) off (Nat.mul n sz)) (.ok (CA d (Row.G (l9 (lZ l off) (Nat.mul n sz))))) .bad
    | .F f N=>.req (dN off (fT n sz) 0 N) (.ok (.F (fun j=>f (ar off j)) (fT n sz)))
    | _=>.bad)) .bad
 | .slcT s r sz' len _=>cond (Nat.beq sz' sz) (.req (eU n len) ((D7 r none sz (fT n sz)).bind fun q=>.ok (match s with | none=>q | some k=>CA k q))) .bad
 | _=>.bad
theorem Rv (d:Nat) (k:IntKind) (z:Nat→Int) (n:Nat):CA d (.M [.arr k z n])=.M [.arr k z n]:=by cases d<;>rfl
theorem Ru (d:Nat) (f:Nat→AV) (n:Nat):CA d (.F f n)=.F f n:=by cases d<;>rfl
theorem qg {H:aa} {sz n:Nat} {x:AV} {q:Row} (h:(sF H sz n x).run=some q):eP H sz n x=some q:=by
 unfold sF at h;split at h
 · rename_i d i v off sz' len cap;obtain ⟨r,h1,h⟩:=Tr.bind_some h;obtain ⟨hz,h⟩:=Tr.a6 h;have hz:sz'=sz:=by simpa using hz
   obtain ⟨hc,h⟩:=Tr.aW h;rw[lD,decide_eq_true_eq] at hc;unfold eP;dsimp only;rw[lR h1];dsimp only;split at h
   · rename_i k z N;obtain ⟨hc2,h⟩:=Tr.aW h;rw[kh,decide_eq_true_eq,cO] at hc2;rw[if_pos ⟨hz,hc,by simp only[Row.len,aE,aU];omega⟩,← Tr.ae h];simp only[Row.sub,Rv,m5,cO]
   · rename_i k l;obtain ⟨hc2,h⟩:=Tr.a6 h;rw[lr,decide_eq_true_eq] at hc2;rw[if_pos ⟨hz,hc,hc2⟩,← Tr.ae h,iC,ik];rfl
   · rename_i l;obtain ⟨hc2,h⟩:=Tr.a6 h;rw[lr,decide_eq_true_eq] at hc2;rw[if_pos ⟨hz,hc,hc2⟩,← Tr.ae h,iC,ik];rfl
   · rename_i f N;obtain ⟨hc2,h⟩:=Tr.aW h;rw[kh,decide_eq_true_eq,cO] at hc2;rw[if_pos ⟨hz,hc,by simp only[Row.len];omega⟩,← Tr.ae h];simp only[Row.sub,Ru,aI,cO]
   · exact (Tr.ah h).elim
 · rename_i s r sz' len full;obtain ⟨hz,h⟩:=Tr.a6 h;have hz:sz'=sz:=by simpa using hz
   obtain ⟨hc,h⟩:=Tr.aW h;rw[lD,decide_eq_true_eq] at hc;obtain ⟨q',h1,h⟩:=Tr.bind_some h;obtain ⟨k1,k2⟩:=Aj h1;rw[cO] at k1 k2;simp only[Dv,Nat.zero_mul,Nat.zero_add] at k1 k2;unfold eP;dsimp only;rw[if_pos ⟨hz,hc,k1⟩,← Tr.ae h,k2];cases s<;>rfl
 · exact (Tr.ah h).elim

end
end Go.Eng
end
section
namespace Go.Eng
noncomputable section

theorem Tr.kE {α:Type} {c:Bool} {t:Tr α} {x:α} (h:(cond c .bad t).run=some x):c=false∧t.run=some x:=by
 cases c with
 | false=>exact ⟨rfl,h⟩
 | true=>exact (Tr.ah h).elim

def wv:AV→AV
 | .slcT none (.I k l) sz m _=>.slcT none (.M [.arr k (aC l) (kN l)]) sz m false
 | .slcT none (.M [.arr k z n]) sz m _=>.slcT none (.M [.arr k z n]) sz m false
 | v=>v
theorem ua (v:AV):wv v=jY v:=by
 unfold wv jY;split
 · simp only[lG,eE]
 · rfl
 · rename_i h1 h2;split
   · exact absurd rfl (h1 _ _ _ _ _)
   · exact absurd rfl (h2 _ _ _ _ _ _)
   · rfl
def GC (r:Row):Row :=
 match r with
 | .I k l=>.M [.arr k (aC l) (kN l)]
 | .G [v]=>cond (rm v) (.F (fun _=>wv v) 1) (.G [v])
 | r=>r
theorem xh (r:Row):GC r=rH true r:=by
 cases r with
 | I k l=>simp only[GC,rH,if_true,lG,eE]
 | F f n=>rfl
 | M l=>rfl
 | G l =>
   match l with
   | []=>rfl
   | [v] =>
     show cond (rm v) (Row.F (fun _=>wv v) 1) (Row.G [v])=if (true && rm v)=true then Row.F (fun _=>jY v) 1 else Row.G [v]
     rw[ua];cases rm v<;>rfl
   | a::b::r=>rfl
def YW:AV→Nat→Int
 | .slcT _ (.M [.arr _ z _]) _ _ _=>z
 | _=>fun _=>0
def Yb:AV→Nat
 | .slcT _ (.M [.arr _ _ n]) _ _ _=>n
 | _=>0
def X9:AV→Nat
 | .slcT _ _ _ m _=>m
 | _=>0
def IU (r s:Row):Tr Row :=
 match r with
 | .M [.arr k z n]=>match yU s with
   | some (k',z')=>cond (iu k' k) (.ok (.M [.arr k (mb z n z') (ar n (iQ s))])) .bad
   | none=>.bad
 | .I k l=>match s with
   | .I k' l'=>cond (iu k' k) (.ok (.I k (rE l l'))) .bad
   | .M [.arr k' z' n']=>cond (iu k' k) (.ok (.M [.arr k (mb (aC l) (kN l) z') (ar (kN l) n')])) .bad
   | _=>.bad
 | .G l=>match s with
   | .G l'=>.ok (.G (rE l l'))
   | _=>.bad
 | .F f n=>match s with
   | .G [v]=>cond (rm v) (match wv v with
     | .slcT none (.M [.arr k z N]) sz m full=>.reqP (MG f k sz full)
       (.ok (.F (fun j=>.slcT none (.M [.arr k (Oc (cK j n) (YW (f j)) z) (Kt (cK j n) (Yb (f j)) N)]) sz (Kt (cK j n) (X9 (f j)) m) full) (ar n 1)))
     | _=>.bad) .bad
   | _=>.bad
 | _=>.bad
theorem CM {r s q:Row} (h:(IU r s).run=some q):r.app s=q:=by
 unfold IU at h;split at h
 · rename_i k z n;rw[tu] at h;split at h
   · rename_i k' z' hi;obtain ⟨hk,h⟩:=Tr.a6 h;rw[fo,decide_eq_true_eq] at hk;have e:Row.app (.M [.arr k z n]) s=(match (Row.M [.arr k z n]).vh s with | some q=>q | none=>.G ((Row.M [.arr k z n]).toList++s.toList)):=by
      cases s<;>rfl
     rw[e];unfold Row.vh;rw[hi];dsimp only[Row.ints];rw[if_pos hk,← Tr.ae h,gS,aI,fq];rfl
   · exact (Tr.ah h).elim
 · rename_i k l;split at h
   · rename_i k' l';obtain ⟨hk,h⟩:=Tr.a6 h;rw[fo,decide_eq_true_eq] at hk;simp only[Row.app];rw[if_pos hk,← Tr.ae h,rP]
   · rename_i k' z' n';obtain ⟨hk,h⟩:=Tr.a6 h;rw[fo,decide_eq_true_eq] at hk;simp only[Row.app];unfold Row.vh;dsimp only[Row.ints];rw[if_pos hk,← Tr.ae h,gS,aI,eE,lG];rfl
   · exact (Tr.ah h).elim
 · split at h
   · rw[← Tr.ae h,rP];rfl
   · exact (Tr.ah h).elim
 · rename_i f n;split at h
   · rename_i v;obtain ⟨hv,h⟩:=Tr.a6 h;split at h
     · rename_i k z N sz m full hn;obtain ⟨hf,h⟩:=Tr.gL h;rw[ua] at hn;rw[← Tr.ae h,aI];show Row.F _ _=Row.F _ _;congr 1;funext j;simp only[Kw,Ku,iK];by_cases e:j<n
       · have hb:Nat.blt j n=true:=by rw[Nat.blt_eq];exact e
         rw[hb,if_pos rfl,decide_eq_true e];rw[IP] at hf;obtain ⟨z',n',m',e'⟩:=hf j;rw[e'];rfl
       · have hb:Nat.blt j n=false:=by
          cases hb:Nat.blt j n with
          | false=>rfl
          | true=>rw[Nat.blt_eq] at hb;exact absurd hb e
         rw[hb,if_neg (by simp),decide_eq_false e];show (if iz v=true then jY v else .undef)=_;rw[if_pos (tv hv),hn];rfl
     · exact (Tr.ah h).elim
   · exact (Tr.ah h).elim
 · exact (Tr.ah h).elim
def Qa (x:AV):Bool :=
 match x with
 | .slc _ _ _ _ _ _ (some _)=>true
 | _=>false
def PU (s:AV):Bool :=
 match s with
 | .nils | .slc .. | .slcT ..=>true
 | _=>false
def sq (P:Program) (e:TypeId) (n:Nat):Bool :=
 match (da P e).bind AV.row with
 | some z=>Nat.beq (iQ z) n
 | none=>false
theorem uX {P:Program} {e:TypeId} {n:Nat} (h:sq P e n=true):((da P e).bind AV.row).map Row.len=some n:=by
 unfold sq at h;split at h
 · rename_i z hz;rw[fq] at h;have h:=Nat.eq_of_beq_eq_true h;rw[hz,Option.map_some,h]
 · simp at h
def Dd (H:aa) (nx sz m n:Nat) (s:AV) (new:Row):Tr (AV×Delta) :=
 (sF H sz m s).bind fun old=>(IU old new).bind fun r=>.ok (.slc 0 nx 0 0 sz (ar m n) none,.push (.row (GC r)))
def x6 (r:Row) (off n:Nat):Tr Row :=
 match r with
 | .M [.arr k z N]=>.req (cg (ar off n) N) (.ok (.M [.arr k (jI z off) n]))
 | .G l=>cond (Nat.beq (Nat.add off n) (kN l)) (.ok (.G (l9 (lZ l off) n))) .bad
 | .F f N=>.req (cg (ar off n) N) (.ok (.F (fun j=>f (ar off j)) n))
 | _=>.bad
theorem Cu {r q:Row} {off n:Nat} (h:(x6 r off n).run=some q):off+n=r.len∧r.sub off n=q:=by
 unfold x6 at h;split at h
 · rename_i k z N;obtain ⟨hc,h⟩:=Tr.aW h;rw[fZ,decide_eq_true_eq,aI] at hc;refine ⟨by simp only[Row.len,aE,aU];omega,?_⟩;rw[← Tr.ae h,m5];rfl
 · rename_i l;obtain ⟨hc,h⟩:=Tr.a6 h;rw[eE] at hc;have hc:=Nat.eq_of_beq_eq_true hc;exact ⟨hc,by rw[← Tr.ae h,iC,ik];rfl⟩
 · rename_i f N;obtain ⟨hc,h⟩:=Tr.aW h;rw[fZ,decide_eq_true_eq,aI] at hc;refine ⟨hc,?_⟩;rw[← Tr.ae h];simp only[aI];rfl
 · exact (Tr.ah h).elim
def FT (P:Program) (nx:Nat) (e:TypeId) (s x:AV):Tr (AV×Delta) :=
 match P.info? e with
 | some inf=>match s with
   | .nils=>match x with
     | .int _ k=>cond (Nat.blt 0 inf.size) (cond (sq P e inf.size) (.req (FL k k inf.bytes) (.ite (bV k (Int.ofNat 0)) (.ok (.nils,.bD)) (.ok (.slc 0 nx 0 0 inf.size (cC k) none,.push (.row (GC (.I .i64 []))))))) .bad) .bad
     | _=>.bad
   | _=>.bad
 | none=>.bad
theorem FU {P:Program} {nx:Nat} {e:TypeId} {s x:AV} {y:AV×Delta} (h:(FT P nx e s x).run=some y):FR P true nx e s x=some y:=by
 unfold FT at h;unfold FR;split at h
 · rename_i inf hi;rw[hi];split at h
   · split at h
     · rename_i kk k;obtain ⟨hb,h⟩:=Tr.a6 h;obtain ⟨hz,h⟩:=Tr.a6 h;obtain ⟨hm,h⟩:=Tr.aW h;rw[B6,decide_eq_true_eq] at hm;dsimp only;rw[if_pos ⟨hm.1,hm.2.2.2,hm.2.2.1,CP hb,uX hz⟩];rcases Tr.kL h with ⟨hc,h⟩ | ⟨hc,h⟩
       · rw[bg,beq_iff_eq] at hc;rw[if_pos (show k=0 from hc),Tr.ae h]
       · rw[bg,beq_eq_false_iff_ne] at hc;rw[if_neg (show ¬ k=0 from hc),← Tr.ae h,xh,lX]
     · exact (Tr.ah h).elim
   · exact (Tr.ah h).elim
 · exact (Tr.ah h).elim
def oV (P:Program) (H:aa) (nx:Nat) (t u:TypeId) (s x:AV):Tr (AV×Delta) :=
 match P.underlying t with
 | some (.slice e)=>match P.underlying u with
   | some (.slice _)=>match P.info? e with
     | some inf=>match ou s with
       | some m=>match ou x with
         | some n=>cond (PU s) (match Qa x,n with
           | true,0=>.ok (s,.bD)
           | true,_=>main P H nx e inf s x m n
           | false,_=>.ite (cg n 0) (.ok (s,.bD)) (main P H nx e inf s x m n)) .bad
         | none=>.bad
       | none=>.bad
     | none=>.bad
   | some (.int _)=>FT P nx e s x
   | _=>.bad
 | _=>.bad
where
 main (P : Program) (H:aa) (nx:Nat) (e:TypeId) (inf:TypeInfo) (s x:AV) (m n:Nat):Tr (AV×Delta) :=
  .req (eT m n inf.bytes) (cond (Nat.blt 0 inf.bytes) (cond (sq P e inf.size) ((sF H inf.size n x).bind fun new =>
   match s with
   | .nils=>.ok (.slc 0 nx 0 0 inf.size n none,.push (.row (GC new)))
   | .slcT _ _ _ _ full=>.req full (Dd H nx inf.size m n s new)
   | .slc d i v off sz _ (some c)=>.ite (cK c (ar m n)) (Dd H nx inf.size m n s new)
     (cond (kg H d) .bad ((xS H d i v (some 0)).bind fun r=>cond (Nat.beq sz inf.size) (match r with
       | .M l=>match lW (jM d new) with
         | []=>.bad
         | y::ys=>(Ac (ar off (fT m sz)) (some 0) (y::ys) 0 l).bind fun l'=>.ok (.slc d i v off sz (ar m n) (some c),.set d i (v,.row (.M l')))
       | _=>.bad) .bad))
   | .slc d i v off sz _ none=>cond (kg H d) .bad ((xS H d i v (some 0)).bind fun r=>cond (Nat.beq sz inf.size)
     ((x6 r off (fT m sz)).bind fun old=>(IU old (jM d new)).bind fun r'=>.ok (.slc d i (Nat.succ v) 0 sz (ar m n) none,.set d i (Nat.succ v,.row r'))) .bad)
   | _=>.bad) .bad) .bad)
theorem sG {H:aa} {sz n:Nat} {x:AV} {q:Row} (h:eP H sz n x=some q):q.len=n*sz:=by
 unfold eP at h;split at h
 · split at h
   · rename_i hn;simp only[Option.some.injEq] at h;rw[← h,hn];simp[Row.len]
   · simp at h
 · split at h
   · split at h
     · rename_i hf;simp only[Option.some.injEq] at h;rw[← h,pX,Row.dy _ _ _ hf.2.2]
     · simp at h
   · simp at h
 · split at h
   · rename_i hf;simp only[Option.some.injEq] at h;rw[← h];split
     · exact Row.dy _ _ _ wO
     · rw[pX,Row.dy _ _ _ wO]
   · simp at h
 · simp at h
theorem yK {H:aa} {nx sz m n:Nat} {s:AV} {new:Row} {y:AV×Delta} (h:(Dd H nx sz m n s new).run=some y):∃ old,eP H sz m s=some old∧y=(.slc 0 nx 0 0 sz (m+n) none,.push (.row (rH true (old.app new)))):=by
 unfold Dd at h;obtain ⟨old,h1,h⟩:=Tr.bind_some h;obtain ⟨r,h2,h⟩:=Tr.bind_some h;refine ⟨old,qg h1,?_⟩;rw[← Tr.ae h,aI,xh,CM h2]
theorem Bi         {P : Program} {H:aa} {nx:Nat} {t u:TypeId} {s x:AV} {y:AV×Delta} (h:(oV P H nx t u s x).run=some y):oW P true H nx t u s x=some y:=by
 unfold oV at h;unfold oW;split at h
 · rename_i e ht;split at h
   · rename_i e' hu;split at h
     · rename_i inf hi;split at h
       · rename_i m hm;split at h
         · rename_i n hn;obtain ⟨hsl,h⟩:=Tr.a6 h;rw[ht,hu];dsimp only;rw[hi,hm,hn];dsimp only;have hcase:(n=0∧(s,Delta.bD)=y)∨(n≠0∧(oV.main P H nx e inf s x m n).run=some y):=by
            cases hx:Qa x with
            | true =>
              rw[hx] at h;cases n with
              | zero=>exact .inl ⟨rfl,Tr.ae h⟩
              | succ n=>exact .inr ⟨by omega,h⟩
            | false =>
              rw[hx] at h;rcases Tr.kL h with ⟨hc,h⟩ | ⟨hc,h⟩
              · rw[fZ,decide_eq_true_eq] at hc;exact .inl ⟨hc,Tr.ae h⟩
              · rw[fZ,decide_eq_false_iff_not] at hc;exact .inr ⟨hc,h⟩
           clear h;rcases hcase with ⟨h0,h⟩ | ⟨h0,h⟩
           · rw[if_pos h0];cases s<;>simp[PU] at hsl<;>exact congrArg some h
           rw[if_neg h0];unfold oV.main at h;obtain ⟨hr,h⟩:=Tr.aW h;rw[zY,decide_eq_true_eq] at hr;obtain ⟨hb,h⟩:=Tr.a6 h;obtain ⟨hz,h⟩:=Tr.a6 h;obtain ⟨new,h1,h⟩:=Tr.bind_some h;have hcv:=qg h1;rw[if_pos ⟨hr.1,hr.2,CP hb,uX hz⟩,hcv];dsimp only;split at h
           · rw[← Tr.ae h,xh]
           · rename_i sT r szT JI full;obtain ⟨hf,h⟩:=Tr.aW h;obtain ⟨old,h2,rfl⟩:=yK h;subst hf;dsimp only;rw[h2]
           · rename_i d i v off sz len c _ _ _ _ _;rcases Tr.kL h with ⟨hc,h⟩ | ⟨hc,h⟩
             · rw[iK,decide_eq_true_eq,aI] at hc;obtain ⟨old,h2,rfl⟩:=yK h;dsimp only;rw[if_pos hc,h2]
             · rw[iK,decide_eq_false_iff_not,aI] at hc;dsimp only;rw[if_neg hc];rw[gG] at h;obtain ⟨hl,h⟩:=Tr.kE h;obtain ⟨r,h2,h⟩:=Tr.bind_some h;obtain ⟨hs,h⟩:=Tr.a6 h;have hs:=Nat.eq_of_beq_eq_true hs;rw[hl,if_neg (by simp),lR h2];dsimp only;split at h
               · rename_i l _;rw[oP] at h;have hcl:=sG hcv;split at h
                 · exact (Tr.ah h).elim
                 · rename_i y0 ys hy;obtain ⟨l',h3,h⟩:=Tr.bind_some h;obtain ⟨k1,k2⟩:=uI _ _ _ _ h3;rw[aI,cO,Nat.add_zero] at k1 k2;have hlen:=Row.bz (jM d new);rw[hy,ft,hcl] at hlen;have hfit:off+(m+n)*sz≤(Row.M l).len:=by
                    rcases k1 with k1 | k1
                    · simp at k1
                    · rw[hlen,← hs] at k1;rw[Nat.add_mul];show _≤aE l;omega
                   rw[if_pos ⟨hs,hfit⟩,hy,k2,← Tr.ae h,aI]
               · exact (Tr.ah h).elim
           · rename_i d i v off sz len _ _ _ _ _;dsimp only;rw[gG] at h;obtain ⟨hl,h⟩:=Tr.kE h;obtain ⟨r,h2,h⟩:=Tr.bind_some h;obtain ⟨hs,h⟩:=Tr.a6 h;have hs:=Nat.eq_of_beq_eq_true hs;obtain ⟨old,h3,h⟩:=Tr.bind_some h;obtain ⟨r',h4,h⟩:=Tr.bind_some h;obtain ⟨k1,k2⟩:=Cu h3;rw[cO] at k1 k2;rw[hl,if_neg (by simp),lR h2];dsimp only;rw[if_pos ⟨hs,k1⟩,k2,CM h4,← Tr.ae h,aI]
           · exact (Tr.ah h).elim
         · exact (Tr.ah h).elim
       · exact (Tr.ah h).elim
     · exact (Tr.ah h).elim
   · rename_i k' hu;rw[ht,hu];exact FU h
   · exact (Tr.ah h).elim
 · exact (Tr.ah h).elim

end
end Go.Eng
end
