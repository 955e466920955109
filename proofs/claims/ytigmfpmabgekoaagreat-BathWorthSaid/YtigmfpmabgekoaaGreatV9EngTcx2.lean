/- The engine as a tree: slices, numbers, operations. -/
import Derived.Test.YtigmfpmabgekoaaGreatV9EngTb
set_option linter.unusedVariables false
set_option linter.unusedSimpArgs false
section
namespace Go.Eng
noncomputable section

theorem Tr.aW {α:Type} {c:Bool} {t:Tr α} {x:α} (h:(cond c t .bad).run=some x):c=true∧t.run=some x:=by
 cases c with
 | true=>exact ⟨rfl,h⟩
 | false=>exact (Tr.ae h).elim
def J8 (op:BinOp) (k:IntKind) (x y:Int):Tr AV :=
 match op with
 | .add=>.ok (.int k (aS k x y))
 | .sub=>.ok (.int k (bQ k x y))
 | .mul=>.ok (.int k (nD k x y))
 | .quo=>.req (bL (c5 y 0)) (.ok (.int k (Kz k x y)))
 | .rem=>.req (bL (c5 y 0)) (.ok (.int k (oE k x y)))
 | .and=>.ok (.int k (Js k x y))
 | .or=>.ok (.int k (PW k x y))
 | .xor=>.ok (.int k (K5 k x y))
 | .andNot=>.ok (.int k (NQ k x y))
 | .eql=>.ok (.bool (c5 x y))
 | .neq=>.ok (.bool (bL (c5 x y)))
 | .lss=>.ok (.bool (cn x y))
 | .leq=>.ok (.bool (mI x y))
 | .gtr=>.ok (.bool (cn y x))
 | .geq=>.ok (.bool (mI y x))
 | _=>.bad
theorem Hh {op:BinOp} {k:IntKind} {x y:Int} {v:AV} (h:(J8 op k x y).run=some v):iv op k x y=some v:=by
 unfold J8 at h
 unfold iv
 cases op<;>dsimp only at h ⊢<;>try exact (Tr.ae h).elim
 case quo =>
  obtain ⟨hc,h⟩:=Tr.aR h
  rw[iJ,b8] at hc
  have:¬ y=0:=by simpa using hc
  rw[if_neg this,← Tr.ab h,H7]
 case rem =>
  obtain ⟨hc,h⟩:=Tr.aR h
  rw[iJ,b8] at hc
  have:¬ y=0:=by simpa using hc
  rw[if_neg this,← Tr.ab h,CH]
 all_goals
  have h:=Tr.ab h
  subst h
  first
   | rfl
   | (simp only[gt_iff_lt,ge_iff_le,cD,cG,nj,wU,A9,ye,AA,b8,iJ,eZ,jb,bne];done)
   | (simp only[cD,cG,nj,wU,A9,ye,AA,b8,iJ,eZ,jb];done)
   | (simp only[cD,cG,nj,wU,A9,ye,AA,b8,iJ,eZ,jb];rfl)
def iH:List Int→List Int→Bool
 | [],[]=>true
 | [x],[y]=>c5 x y
 | x::x'::a,y::y'::b=>g7 (c5 x y) (iH (x'::a) (y'::b))
 | _,_=>false
theorem tI:∀ (l m:List Int),iH l m=fx l m
 | [],[]=>rfl
 | [],_::_=>by simp[iH,fx]
 | _::_,[]=>by simp[iH,fx]
 | [x],[y]=>by simp[iH,fx,b8]
 | [x],y::y'::b=>by simp[iH,fx]
 | x::x'::a,[y]=>by simp[iH,fx]
 | x::x'::a,y::y'::b=>by
   simp only[iH]
   rw[oU,b8,tI (x'::a) (y'::b)];rfl
def yZ (r:Row):Option (IntKind×(Nat→Int)) :=
 match r with
 | .I k l=>some (k,bn l)
 | .M [.arr k z _]=>some (k,z)
 | _=>none
theorem tD (r:Row):yZ r=r.ints:=by
 match r with
 | .I k l=>simp only[yZ,Row.ints,ly]
 | .G l=>rfl
 | .F f n=>rfl
 | .M []=>rfl
 | .M [.arr k z n]=>rfl
 | .M (.one v::r)=>rfl
 | .M (.arr k z n::s::r)=>rfl
def K9 (P:Program) (t:TypeId) (x y:AV):Tr Bool :=
 match x,y with
 | .bool a,.bool b=>match P.underlying t with
   | some .bool=>.ok (Ox a b)
   | _=>.bad
 | .nils,.slcT s r sz n f=>match P.underlying t with
   | some (.slice _)=>.req (bB 0 n) (.ok false)
   | _=>.bad
 | .slcT s r sz n f,.nils=>match P.underlying t with
   | some (.slice _)=>.req (bB 0 n) (.ok false)
   | _=>.bad
 | .agg (.I k a),.agg (.I k' b)=>cond (gE k k') (match cC P 20 t with
   | some n=>match fA P t with
     | some true=>cond (Nat.beq n (iG a)) (cond (Nat.beq (iG a) (iG b)) (.ok (iH a b)) .bad) .bad
     | _=>.bad
   | none=>.bad) .bad
 | .agg (.M l),.agg s=>eqMT P t (.M l) s
 | .agg (.I k a),.agg (.M l)=>eqMT P t (.I k a) (.M l)
 | x,y=>wu (Ax P t x y)
where
 eqMT (P:Program) (t:TypeId) (r s:Row):Tr Bool :=
  match yZ r,yZ s with
  | some (k,z),some (k',z')=>cond (gE k k') (match cC P 20 t with
    | some n=>match fA P t with
      | some true=>cond (Nat.beq n (iC r)) (cond (Nat.beq (iC r) (iC s)) (.ok (kU z z' (iC r))) .bad) .bad
      | _=>.bad
    | none=>.bad) .bad
  | _,_=>.bad
theorem BW {P:Program} {t:TypeId} {r s:Row} {b:Bool} (h:(K9.eqMT P t r s).run=some b):K8 P t r s=some b:=by
 unfold K9.eqMT at h
 rw[tD,tD] at h
 unfold K8
 split at h
 · rename_i k z k' z' h1 h2
   rw[h1,h2]
   obtain ⟨hk,h⟩:=Tr.aW h
   rw[eY,decide_eq_true_eq] at hk
   split at h
   · rename_i n hn
     split at h
     · rename_i ha
       obtain ⟨e1,h⟩:=Tr.aW h
       obtain ⟨e2,h⟩:=Tr.aW h
       rw[fE] at e1 e2 h
       rw[fE] at e2
       have e1:n=r.len:=by simpa using e1
       have e2:r.len=s.len:=by simpa using e2
       dsimp only
       rw[if_pos ⟨hk,by rw[hn,e1],ha,e2⟩,← Tr.ab h,Da]
     · exact (Tr.ae h).elim
   · exact (Tr.ae h).elim
 · exact (Tr.ae h).elim
theorem ER {P:Program} {t:TypeId} {x y:AV} {b:Bool} (h:(K9 P t x y).run=some b):Ax P t x y=some b:=by
 unfold K9 at h
 split at h
 · split at h
   · rename_i hu
     unfold Ax
     dsimp only
     rw[hu,← Tr.ab h,JM]
   · exact (Tr.ae h).elim
 · split at h
   · rename_i hu
     obtain ⟨hc,h⟩:=Tr.aR h
     rw[iw,decide_eq_true_eq] at hc
     unfold Ax
     dsimp only
     rw[hu]
     dsimp only
     rw[if_pos hc,Tr.ab h]
   · exact (Tr.ae h).elim
 · split at h
   · rename_i hu
     obtain ⟨hc,h⟩:=Tr.aR h
     rw[iw,decide_eq_true_eq] at hc
     unfold Ax
     dsimp only
     rw[hu]
     dsimp only
     rw[if_pos hc,Tr.ab h]
   · exact (Tr.ae h).elim
 · obtain ⟨hk,h⟩:=Tr.aW h
   rw[eY,decide_eq_true_eq] at hk
   split at h
   · rename_i n hn
     split at h
     · rename_i ha
       obtain ⟨e1,h⟩:=Tr.aW h
       obtain ⟨e2,h⟩:=Tr.aW h
       rw[dx] at e1 e2
       rw[dx] at e2
       have e1:=Nat.eq_of_beq_eq_true e1
       have e2:=Nat.eq_of_beq_eq_true e2
       unfold Ax
       dsimp only
       rw[if_pos ⟨hk,by rw[hn,e1],ha,e2⟩,← Tr.ab h,tI]
     · exact (Tr.ae h).elim
   · exact (Tr.ae h).elim
 · unfold Ax;exact BW h
 · unfold Ax;exact BW h
 · rw[db] at h;exact h
def Ew (P:Program) (op:BinOp) (t:TypeId) (x y:AV):Tr AV :=
 match x,y with
 | .int k a,.int k' b=>match op with
   | .shl=>.req (mI 0 b) (.ok (.int k (KJ k a b)))
   | .shr=>.req (mI 0 b) (.ok (.int k (KL k a b)))
   | op=>cond (gE k k') (J8 op k a b) .bad
 | x,y=>match op with
   | .eql=>(K9 P t x y).bind fun b=>.ok (.bool b)
   | .neq=>(K9 P t x y).bind fun b=>.ok (.bool (bL b))
   | _=>.bad
theorem GR {P:Program} {op:BinOp} {t:TypeId} {x y v:AV} (h:(Ew P op t x y).run=some v):kn P op t x y=some v:=by
 unfold Ew at h
 split at h
 · rename_i k a k' b
   split at h
   · obtain ⟨hc,h⟩:=Tr.aR h
     rw[jb,decide_eq_true_eq] at hc
     unfold kn
     dsimp only
     rw[if_neg (by omega),← Tr.ab h,Iq]
   · obtain ⟨hc,h⟩:=Tr.aR h
     rw[jb,decide_eq_true_eq] at hc
     unfold kn
     dsimp only
     rw[if_neg (by omega),← Tr.ab h,Is]
   · rename_i h1 h2
     obtain ⟨hk,h⟩:=Tr.aW h
     rw[eY,decide_eq_true_eq] at hk
     have:kn P op t (.int k a) (.int k' b)=if k=k' then iv op k a b else none:=by
      unfold kn
      cases op<;>first | rfl | exact (h1 rfl).elim | exact (h2 rfl).elim
     rw[this,if_pos hk]
     exact Hh h
 · rename_i hn
   split at h
   · obtain ⟨b,h1,h⟩:=Tr.bind_some h
     have h2:=ER h1
     have:kn P .eql t x y=(Ax P t x y).map .bool:=by
      unfold kn
      cases x<;>cases y<;>first | rfl | exact (hn _ _ _ _ rfl rfl).elim
     rw[this,h2,← Tr.ab h];rfl
   · obtain ⟨b,h1,h⟩:=Tr.bind_some h
     have h2:=ER h1
     have:kn P .neq t x y=(Ax P t x y).map fun b=>.bool (!b):=by
      unfold kn
      cases x<;>cases y<;>first | rfl | exact (hn _ _ _ _ rfl rfl).elim
     rw[this,h2,← Tr.ab h,iJ];rfl
   · exact (Tr.ae h).elim
def Q5 (op:UnOp) (x:AV):Tr AV :=
 match op,x with
 | .not,.bool b=>.ok (.bool (bL b))
 | .neg,.int k n=>.ok (.int k (FI k n))
 | _,_=>.bad
theorem K2 {op:UnOp} {x v:AV} (h:(Q5 op x).run=some v):Ny op x=some v:=by
 unfold Q5 at h
 split at h
 · rw[← Tr.ab h,iJ];rfl
 · rw[← Tr.ab h,Ct];rfl
 · exact (Tr.ae h).elim
def pS (mx:Bool) (k:IntKind) (x:Int):List AV→Tr AV
 | []=>.ok (.int k x)
 | v::r=>match v with
   | .int k' y=>cond (gE k k') (pS mx k (cond mx (FD x y) (vk x y)) r) .bad
   | _=>.bad
theorem ow {mx:Bool} {k:IntKind}:∀ (l:List AV) (x:Int) (v:AV),(pS mx k x l).run=some v→fa mx k x l=some v
 | [],x,v,h=>by rw[← Tr.ab h];rfl
 | u :: r,x,v,h=>by
   simp only[pS] at h
   split at h
   · rename_i k' y
     obtain ⟨hk,h⟩:=Tr.aW h
     rw[eY,decide_eq_true_eq] at hk
     simp only[fa]
     rw[if_pos hk,← ow r _ v h,Cp,xD]
     cases mx<;>rfl
   · exact (Tr.ae h).elim

def jg (a sz:Nat):Nat :=
 match sz with
 | 1=>a
 | s=>aH a s
theorem cu (a sz:Nat):jg a sz=a*sz:=by
 unfold jg
 split
 · rw[Nat.mul_one]
 · rw[gw]
abbrev Q9:=Option Nat×Nat×Option Nat
def m6 (lo hi mx:Option AV) (len:Nat):Tr Q9 :=
 match mx with
 | none=>(match hi with
    | none=>.ok len
    | some (.int _ i)=>.req (nX i len) (.ok (fc i))
    | some _=>.bad:Tr Nat).bind fun h=>(match lo with
    | none=>.ok (none,h,none)
    | some (.int _ i)=>.req (nX i h) (.ok (some (fc i),h,none))
    | some _=>.bad)
 | some (.int _ m)=>.req (nX m len) (match hi with
    | some (.int _ i)=>.req (nX i (fc m)) (match lo with
      | none=>.ok (none,fc i,some (fc m))
      | some (.int _ j)=>.req (nX j (fc i)) (.ok (some (fc j),fc i,some (fc m)))
      | some _=>.bad)
    | _=>.bad)
 | some _=>.bad
def Cm (l:Option Nat):Nat :=
 match l with
 | none=>0
 | some l=>l
theorem g8 {i:Int} {k:IntKind} {d top:Nat} (h:nX i top=true):bound (some (.int k i)) d top=some (fc i):=by
 rw[BN,decide_eq_true_eq] at h
 simp only[bound]
 rw[if_pos h,iA]
theorem kX {lo hi mx:Option AV} {len:Nat} {b:Q9} (h:(m6 lo hi mx len).run=some b):eM lo hi mx len=some (Cm b.1,b.2.1,b.2.2):=by
 unfold m6 at h
 unfold eM
 split at h
 · obtain ⟨h',h1,h⟩:=Tr.bind_some h
   have e1:bound hi len len=some h':=by
    split at h1
    · rw[← Tr.ab h1];rfl
    · obtain ⟨hc,h1⟩:=Tr.aR h1
      rw[g8 hc,Tr.ab h1]
    · exact (Tr.ae h1).elim
   dsimp only
   rw[e1]
   dsimp only
   split at h
   · rw[← Tr.ab h];rfl
   · obtain ⟨hc,h⟩:=Tr.aR h
     rw[g8 hc,← Tr.ab h];rfl
   · exact (Tr.ae h).elim
 · rename_i k m
   obtain ⟨hm,h⟩:=Tr.aR h
   dsimp only
   rw[g8 hm]
   dsimp only
   split at h
   · rename_i k' i
     obtain ⟨hi,h⟩:=Tr.aR h
     simp only[Option.isSome_some,if_true]
     rw[g8 hi]
     dsimp only
     split at h
     · rw[← Tr.ab h];rfl
     · obtain ⟨hc,h⟩:=Tr.aR h
       rw[g8 hc,← Tr.ab h];rfl
     · exact (Tr.ae h).elim
   · exact (Tr.ae h).elim
 · exact (Tr.ae h).elim
def x8 (a:Nat) (l:Option Nat):Nat :=
 match l with
 | none=>a
 | some l=>eD a l
theorem nu (a:Nat) (l:Option Nat):x8 a l=a-Cm l:=by
 cases l with
 | none=>rfl
 | some l=>exact jO a l
def En (off:Nat) (l:Option Nat) (sz:Nat):Nat :=
 match l with
 | none=>off
 | some l=>ak off (jg l sz)
theorem BD (off:Nat) (l:Option Nat) (sz:Nat):En off l sz=off+Cm l*sz:=by
 cases l with
 | none=>simp[En,Cm]
 | some l=>simp only[En,Cm,a7,cu]
def CP (r:Row) (l:Option Nat) (sz n:Nat):Tr Row :=
 match r with
 | .M [.arr k z N]=>.req (ju (ak (jg (Cm l) sz) n) N) (.ok (.M [.arr k (match l with | none=>z | some l=>nQ z (jg l sz)) n]))
 | .F f N=>.req (ju (ak (jg (Cm l) sz) n) N) (.ok (.F (match l with | none=>f | some l=>fun j=>f (ak (jg l sz) j)) n))
 | _=>.bad
theorem Am {r q:Row} {l:Option Nat} {sz n:Nat} (h:(CP r l sz n).run=some q):Cm l*sz+n≤r.len∧r.sub (Cm l*sz) n=q:=by
 unfold CP at h
 split at h
 · rename_i k z N
   obtain ⟨hc,h⟩:=Tr.aR h
   rw[lu,decide_eq_true_eq,a7,cu] at hc
   refine ⟨by simp only[Row.len,aD,aN];omega,?_⟩
   rw[← Tr.ab h]
   cases l with
   | none=>simp only[Row.sub,Cm,Nat.zero_mul,Nat.zero_add]
   | some l=>simp only[Row.sub,Cm,jq,cu]
 · rename_i f N
   obtain ⟨hc,h⟩:=Tr.aR h
   rw[lu,decide_eq_true_eq,a7,cu] at hc
   refine ⟨by simp only[Row.len];omega,?_⟩
   rw[← Tr.ab h]
   cases l with
   | none=>simp only[Row.sub,Cm,Nat.zero_mul,Nat.zero_add]
   | some l=>simp only[Row.sub,Cm,a7,cu]
 · exact (Tr.ae h).elim
def OJ (o:Option AV):Bool :=
 match o with
 | none=>true
 | some _=>false
def Fg (mm:Option Nat) (full hiN:Bool) (h len:Nat):Bool :=
 match mm with
 | none=>cond hiN full (g7 full (dS h len))
 | some m=>dS h m
def Bk (P:Program) (t:TypeId) (x:AV) (lo hi mx:Option AV):Tr AV :=
 match P.underlying t with
 | some (.slice e)=>match br P e with
   | some z=>match x with
     | .slc d j v off sz len cap=>cond (Nat.beq z sz) ((m6 lo hi mx len).bind fun b=>.ok (.slc d j v (En off b.1 sz) sz (x8 b.2.1 b.1) (match b.2.2 with
       | none=>match cap with | none=>none | some c=>some (x8 c b.1)
       | some m=>some (x8 m b.1)))) .bad
     | .slcT s r sz len full=>cond (Nat.beq z sz) ((m6 lo hi mx len).bind fun b=>(CP r b.1 sz (jg (x8 b.2.1 b.1) sz)).bind fun q=>.ok (.slcT s q sz (x8 b.2.1 b.1) (Fg b.2.2 full (OJ hi) b.2.1 len))) .bad
     | .nils=>(m6 lo hi mx 0).bind fun _=>.ok .nils
     | _=>.bad
   | none=>.bad
 | some (.array n e)=>match br P e with
   | some sz=>match x with
     | .ptr d j v off=>(m6 lo hi mx n).bind fun b=>.ok (.slc d j v (En off b.1 sz) sz (x8 b.2.1 b.1) (match b.2.2 with
       | none=>some (x8 n b.1)
       | some m=>some (x8 m b.1)))
     | _=>.bad
   | none=>.bad
 | _=>.bad
theorem D5 {P:Program} {t:TypeId} {x v:AV} {lo hi mx:Option AV} (h:(Bk P t x lo hi mx).run=some v):ra P t x lo hi mx=some v:=by
 unfold Bk at h
 unfold ra
 split at h
 · rename_i e hu
   split at h
   · rename_i z hs
     split at h
     · rename_i d j ver off sz len cap
       obtain ⟨hz,h⟩:=Tr.aW h
       have hz:z=sz:=by simpa using hz
       subst hz
       obtain ⟨b,h1,h⟩:=Tr.bind_some h
       rw[hu]
       dsimp only
       rw[kX h1]
       dsimp only
       rw[if_pos hs,← Tr.ab h,BD,nu]
       obtain ⟨b1,b2,b3⟩:=b
       cases b3<;>cases cap<;>simp only[nu,Option.map_some,Option.map_none]
     · rename_i s r sz len full
       obtain ⟨hz,h⟩:=Tr.aW h
       have hz:z=sz:=by simpa using hz
       subst hz
       obtain ⟨b,h1,h⟩:=Tr.bind_some h
       obtain ⟨q,h2,h⟩:=Tr.bind_some h
       rw[hu]
       dsimp only
       have hb:=kX h1
       rw[hb]
       dsimp only
       obtain ⟨k1,k2⟩:=Am h2
       rw[cu,nu] at k1 k2
       rw[if_pos ⟨hs,k1⟩,k2,← Tr.ab h,nu]
       congr 2
       obtain ⟨b1,b2,b3⟩:=b
       dsimp only at hb ⊢
       cases b3 with
       | some m=>simp only[Fg,gK];rw[Bool.eq_iff_iff];simp
       | none =>
         simp only[Fg]
         cases hi with
         | some a =>
           simp only[OJ,cond_false,oU,gK]
           congr 1
           rw[Bool.eq_iff_iff];simp
         | none =>
           simp only[OJ,cond_true]
           have:b2=len:=by
            unfold eM at hb
            cases mx with
            | none =>
              dsimp only[bound] at hb
              split at hb
              · simp only[nP] at hb;exact hb.2.1.symm
              · simp at hb
            | some a =>
              dsimp only at hb
              split at hb
              · simp at hb
              · simp at hb
           rw[this];simp
     · obtain ⟨b,h1,h⟩:=Tr.bind_some h
       rw[hu]
       dsimp only
       rw[kX h1,hs,← Tr.ab h]
     · exact (Tr.ae h).elim
   · exact (Tr.ae h).elim
 · rename_i n e hu
   split at h
   · rename_i sz hs
     split at h
     · rename_i d j ver off
       obtain ⟨b,h1,h⟩:=Tr.bind_some h
       rw[hu]
       dsimp only
       rw[kX h1]
       dsimp only
       rw[hs,← Tr.ab h,BD,nu]
       obtain ⟨b1,b2,b3⟩:=b
       cases b3<;>simp only[nu]
     · exact (Tr.ae h).elim
   · exact (Tr.ae h).elim
 · exact (Tr.ae h).elim

def sS (H:aa) (sz n:Nat) (x:AV):Tr Row :=
 match x with
 | .slc d i v off sz' len cap=>(xR H d i v (some 0)).bind fun r=>cond (Nat.beq sz' sz) (.req (ju n len) (match r with
    | .M [.arr k z N]=>.req (rF off (jg n sz) 0 N) (.ok (.M [.arr k (nQ z off) (jg n sz)]))
    | .I k l=>cond (uZ (.I k l) off (Nat.mul n sz)) (.ok (Bu d (Row.I k (iD (lQ l off) (Nat.mul n sz))))) .bad
    | .G l=>cond (uZ (.G l) off (Nat.mul n sz)) (.ok (Bu d (Row.G (iD (lQ l off) (Nat.mul n sz))))) .bad
    | .F f N=>.req (rF off (jg n sz) 0 N) (.ok (.F (fun j=>f (ak off j)) (jg n sz)))
    | _=>.bad)) .bad
 | .slcT s r sz' len _=>cond (Nat.beq sz' sz) (.req (ju n len) ((CP r none sz (jg n sz)).bind fun q=>.ok (match s with | none=>q | some k=>Bu k q))) .bad
 | _=>.bad
theorem NA (d:Nat) (k:IntKind) (z:Nat→Int) (n:Nat):Bu d (.M [.arr k z n])=.M [.arr k z n]:=by cases d<;>rfl
theorem Nz (d:Nat) (f:Nat→AV) (n:Nat):Bu d (.F f n)=.F f n:=by cases d<;>rfl
theorem qp {H:aa} {sz n:Nat} {x:AV} {q:Row} (h:(sS H sz n x).run=some q):eT H sz n x=some q:=by
 unfold sS at h
 split at h
 · rename_i d i v off sz' len cap
   obtain ⟨r,h1,h⟩:=Tr.bind_some h
   obtain ⟨hz,h⟩:=Tr.aW h
   have hz:sz'=sz:=by simpa using hz
   obtain ⟨hc,h⟩:=Tr.aR h
   rw[lu,decide_eq_true_eq] at hc
   unfold eT
   dsimp only
   rw[lF h1]
   dsimp only
   split at h
   · rename_i k z N
     obtain ⟨hc2,h⟩:=Tr.aR h
     rw[jV,decide_eq_true_eq,cu] at hc2
     rw[if_pos ⟨hz,hc,by simp only[Row.len,aD,aN];omega⟩,← Tr.ab h]
     simp only[Row.sub,NA,jq,cu]
   · rename_i k l
     obtain ⟨hc2,h⟩:=Tr.aW h
     rw[lh,decide_eq_true_eq] at hc2
     rw[if_pos ⟨hz,hc,hc2⟩,← Tr.ab h,gz,hY]
     rfl
   · rename_i l
     obtain ⟨hc2,h⟩:=Tr.aW h
     rw[lh,decide_eq_true_eq] at hc2
     rw[if_pos ⟨hz,hc,hc2⟩,← Tr.ab h,gz,hY]
     rfl
   · rename_i f N
     obtain ⟨hc2,h⟩:=Tr.aR h
     rw[jV,decide_eq_true_eq,cu] at hc2
     rw[if_pos ⟨hz,hc,by simp only[Row.len];omega⟩,← Tr.ab h]
     simp only[Row.sub,Nz,a7,cu]
   · exact (Tr.ae h).elim
 · rename_i s r sz' len full
   obtain ⟨hz,h⟩:=Tr.aW h
   have hz:sz'=sz:=by simpa using hz
   obtain ⟨hc,h⟩:=Tr.aR h
   rw[lu,decide_eq_true_eq] at hc
   obtain ⟨q',h1,h⟩:=Tr.bind_some h
   obtain ⟨k1,k2⟩:=Am h1
   rw[cu] at k1 k2
   simp only[Cm,Nat.zero_mul,Nat.zero_add] at k1 k2
   unfold eT
   dsimp only
   rw[if_pos ⟨hz,hc,k1⟩,← Tr.ab h,k2]
   cases s<;>rfl
 · exact (Tr.ae h).elim

end
end Go.Eng
end
section
namespace Go.Eng
noncomputable section

theorem Tr.kr {α:Type} {c:Bool} {t:Tr α} {x:α} (h:(cond c .bad t).run=some x):c=false∧t.run=some x:=by
 cases c with
 | false=>exact ⟨rfl,h⟩
 | true=>exact (Tr.ae h).elim

def zG:AV→AV
 | .slcT none (.I k l) sz m _=>.slcT none (.M [.arr k (bn l) (iG l)]) sz m false
 | .slcT none (.M [.arr k z n]) sz m _=>.slcT none (.M [.arr k z n]) sz m false
 | v=>v
theorem zH (v:AV):zG v=nJ v:=by
 unfold zG nJ
 split
 · simp only[ly,dx]
 · rfl
 · rename_i h1 h2
   split
   · exact absurd rfl (h1 _ _ _ _ _)
   · exact absurd rfl (h2 _ _ _ _ _ _)
   · rfl
def ET (r:Row):Row :=
 match r with
 | .I k l=>.M [.arr k (bn l) (iG l)]
 | .G [v]=>cond (rI v) (.F (fun _=>zG v) 1) (.G [v])
 | r=>r
theorem xm (r:Row):ET r=rY true r:=by
 cases r with
 | I k l=>simp only[ET,rY,if_true,ly,dx]
 | F f n=>rfl
 | M l=>rfl
 | G l =>
   match l with
   | []=>rfl
   | [v] =>
     show cond (rI v) (Row.F (fun _=>zG v) 1) (Row.G [v])=if (true && rI v)=true then Row.F (fun _=>nJ v) 1 else Row.G [v]
     rw[zH]
     cases rI v<;>rfl
   | a::b::r=>rfl
def UA:AV→Nat→Int
 | .slcT _ (.M [.arr _ z _]) _ _ _=>z
 | _=>fun _=>0
def TS:AV→Nat
 | .slcT _ (.M [.arr _ _ n]) _ _ _=>n
 | _=>0
def TR:AV→Nat
 | .slcT _ _ _ m _=>m
 | _=>0
def GL (r s:Row):Tr Row :=
 match r with
 | .M [.arr k z n]=>match yZ s with
   | some (k',z')=>cond (gE k' k) (.ok (.M [.arr k (uR z n z') (ak n (iC s))])) .bad
   | none=>.bad
 | .I k l=>match s with
   | .I k' l'=>cond (gE k' k) (.ok (.I k (ny l l'))) .bad
   | .M [.arr k' z' n']=>cond (gE k' k) (.ok (.M [.arr k (uR (bn l) (iG l) z') (ak (iG l) n')])) .bad
   | _=>.bad
 | .G l=>match s with
   | .G l'=>.ok (.G (ny l l'))
   | _=>.bad
 | .F f n=>match s with
   | .G [v]=>cond (rI v) (match zG v with
     | .slcT none (.M [.arr k z N]) sz m full=>.reqP (Jo f k sz full)
       (.ok (.F (fun j=>.slcT none (.M [.arr k (KG (bB j n) (UA (f j)) z) (Ij (bB j n) (TS (f j)) N)]) sz (Ij (bB j n) (TR (f j)) m) full) (ak n 1)))
     | _=>.bad) .bad
   | _=>.bad
 | _=>.bad
theorem BG {r s q:Row} (h:(GL r s).run=some q):r.app s=q:=by
 unfold GL at h
 split at h
 · rename_i k z n
   rw[tD] at h
   split at h
   · rename_i k' z' hi
     obtain ⟨hk,h⟩:=Tr.aW h
     rw[eY,decide_eq_true_eq] at hk
     have e:Row.app (.M [.arr k z n]) s=(match (Row.M [.arr k z n]).uQ s with | some q=>q | none=>.G ((Row.M [.arr k z n]).toList++s.toList)):=by
      cases s<;>rfl
     rw[e]
     unfold Row.uQ
     rw[hi]
     dsimp only[Row.ints]
     rw[if_pos hk,← Tr.ab h,oX,a7,fE]
     rfl
   · exact (Tr.ae h).elim
 · rename_i k l
   split at h
   · rename_i k' l'
     obtain ⟨hk,h⟩:=Tr.aW h
     rw[eY,decide_eq_true_eq] at hk
     simp only[Row.app]
     rw[if_pos hk,← Tr.ab h,kV]
   · rename_i k' z' n'
     obtain ⟨hk,h⟩:=Tr.aW h
     rw[eY,decide_eq_true_eq] at hk
     simp only[Row.app]
     unfold Row.uQ
     dsimp only[Row.ints]
     rw[if_pos hk,← Tr.ab h,oX,a7,dx,ly]
     rfl
   · exact (Tr.ae h).elim
 · split at h
   · rw[← Tr.ab h,kV];rfl
   · exact (Tr.ae h).elim
 · rename_i f n
   split at h
   · rename_i v
     obtain ⟨hv,h⟩:=Tr.aW h
     split at h
     · rename_i k z N sz m full hn
       obtain ⟨hf,h⟩:=Tr.cW h
       rw[zH] at hn
       rw[← Tr.ab h,a7]
       show Row.F _ _=Row.F _ _
       congr 1
       funext j
       simp only[Im,Ik,iw]
       by_cases e:j<n
       · have hb:Nat.blt j n=true:=by rw[Nat.blt_eq];exact e
         rw[hb,if_pos rfl,decide_eq_true e]
         rw[GG] at hf
         obtain ⟨z',n',m',e'⟩:=hf j
         rw[e'];rfl
       · have hb:Nat.blt j n=false:=by
          cases hb:Nat.blt j n with
          | false=>rfl
          | true=>rw[Nat.blt_eq] at hb;exact absurd hb e
         rw[hb,if_neg (by simp),decide_eq_false e]
         show (if ig v=true then nJ v else .undef)=_
         rw[if_pos (tF hv),hn]
         rfl
     · exact (Tr.ae h).elim
   · exact (Tr.ae h).elim
 · exact (Tr.ae h).elim
def LZ (x:AV):Bool :=
 match x with
 | .slc _ _ _ _ _ _ (some _)=>true
 | _=>false
def LP (s:AV):Bool :=
 match s with
 | .nils | .slc .. | .slcT ..=>true
 | _=>false
def sD (P:Program) (e:TypeId) (n:Nat):Bool :=
 match (cO P e).bind AV.row with
 | some z=>Nat.beq (iC z) n
 | none=>false
theorem uI {P:Program} {e:TypeId} {n:Nat} (h:sD P e n=true):((cO P e).bind AV.row).map Row.len=some n:=by
 unfold sD at h
 split at h
 · rename_i z hz
   rw[fE] at h
   have h:=Nat.eq_of_beq_eq_true h
   rw[hz,Option.map_some,h]
 · simp at h
def B8 (H:aa) (nx sz m n:Nat) (s:AV) (new:Row):Tr (AV×Delta) :=
 (sS H sz m s).bind fun old=>(GL old new).bind fun r=>.ok (.slc 0 nx 0 0 sz (ak m n) none,.push (.row (ET r)))
def x9 (r:Row) (off n:Nat):Tr Row :=
 match r with
 | .M [.arr k z N]=>.req (dS (ak off n) N) (.ok (.M [.arr k (nQ z off) n]))
 | .G l=>cond (Nat.beq (Nat.add off n) (iG l)) (.ok (.G (iD (lQ l off) n))) .bad
 | .F f N=>.req (dS (ak off n) N) (.ok (.F (fun j=>f (ak off j)) n))
 | _=>.bad
theorem Bs {r q:Row} {off n:Nat} (h:(x9 r off n).run=some q):off+n=r.len∧r.sub off n=q:=by
 unfold x9 at h
 split at h
 · rename_i k z N
   obtain ⟨hc,h⟩:=Tr.aR h
   rw[gK,decide_eq_true_eq,a7] at hc
   refine ⟨by simp only[Row.len,aD,aN];omega,?_⟩
   rw[← Tr.ab h,jq];rfl
 · rename_i l
   obtain ⟨hc,h⟩:=Tr.aW h
   rw[dx] at hc
   have hc:=Nat.eq_of_beq_eq_true hc
   exact ⟨hc,by rw[← Tr.ab h,gz,hY];rfl⟩
 · rename_i f N
   obtain ⟨hc,h⟩:=Tr.aR h
   rw[gK,decide_eq_true_eq,a7] at hc
   refine ⟨hc,?_⟩
   rw[← Tr.ab h]
   simp only[a7]
   rfl
 · exact (Tr.ae h).elim
def Er (P:Program) (nx:Nat) (e:TypeId) (s x:AV):Tr (AV×Delta) :=
 match P.info? e with
 | some inf=>match s with
   | .nils=>match x with
     | .int _ k=>cond (Nat.blt 0 inf.size) (cond (sD P e inf.size) (.req (I1 k k inf.bytes) (.ite (c5 k (Int.ofNat 0)) (.ok (.nils,.bf)) (.ok (.slc 0 nx 0 0 inf.size (fc k) none,.push (.row (ET (.I .i64 []))))))) .bad) .bad
     | _=>.bad
   | _=>.bad
 | none=>.bad
theorem Es {P:Program} {nx:Nat} {e:TypeId} {s x:AV} {y:AV×Delta} (h:(Er P nx e s x).run=some y):Ep P true nx e s x=some y:=by
 unfold Er at h
 unfold Ep
 split at h
 · rename_i inf hi
   rw[hi]
   split at h
   · split at h
     · rename_i kk k
       obtain ⟨hb,h⟩:=Tr.aW h
       obtain ⟨hz,h⟩:=Tr.aW h
       obtain ⟨hm,h⟩:=Tr.aR h
       rw[A1,decide_eq_true_eq] at hm
       dsimp only
       rw[if_pos ⟨hm.1,hm.2.2.2,hm.2.2.1,BM hb,uI hz⟩]
       rcases Tr.gu h with ⟨hc,h⟩ | ⟨hc,h⟩
       · rw[b8,beq_iff_eq] at hc
         rw[if_pos (show k=0 from hc),Tr.ab h]
       · rw[b8,beq_eq_false_iff_ne] at hc
         rw[if_neg (show ¬ k=0 from hc),← Tr.ab h,xm,iA]
     · exact (Tr.ae h).elim
   · exact (Tr.ae h).elim
 · exact (Tr.ae h).elim
def o5 (P:Program) (H:aa) (nx:Nat) (t u:TypeId) (s x:AV):Tr (AV×Delta) :=
 match P.underlying t with
 | some (.slice e)=>match P.underlying u with
   | some (.slice _)=>match P.info? e with
     | some inf=>match oh s with
       | some m=>match oh x with
         | some n=>cond (LP s) (match LZ x,n with
           | true,0=>.ok (s,.bf)
           | true,_=>main P H nx e inf s x m n
           | false,_=>.ite (dS n 0) (.ok (s,.bf)) (main P H nx e inf s x m n)) .bad
         | none=>.bad
       | none=>.bad
     | none=>.bad
   | some (.int _)=>Er P nx e s x
   | _=>.bad
 | _=>.bad
where
 main (P : Program) (H:aa) (nx:Nat) (e:TypeId) (inf:TypeInfo) (s x:AV) (m n:Nat):Tr (AV×Delta) :=
  .req (jk m n inf.bytes) (cond (Nat.blt 0 inf.bytes) (cond (sD P e inf.size) ((sS H inf.size n x).bind fun new =>
   match s with
   | .nils=>.ok (.slc 0 nx 0 0 inf.size n none,.push (.row (ET new)))
   | .slcT _ _ _ _ full=>.req full (B8 H nx inf.size m n s new)
   | .slc d i v off sz _ (some c)=>.ite (bB c (ak m n)) (B8 H nx inf.size m n s new)
     (cond (fO H d) .bad ((xR H d i v (some 0)).bind fun r=>cond (Nat.beq sz inf.size) (match r with
       | .M l=>match lK (jG d new) with
         | []=>.bad
         | y::ys=>(Ai (ak off (jg m sz)) (some 0) (y::ys) 0 l).bind fun l'=>.ok (.slc d i v off sz (ak m n) (some c),.set d i (v,.row (.M l')))
       | _=>.bad) .bad))
   | .slc d i v off sz _ none=>cond (fO H d) .bad ((xR H d i v (some 0)).bind fun r=>cond (Nat.beq sz inf.size)
     ((x9 r off (jg m sz)).bind fun old=>(GL old (jG d new)).bind fun r'=>.ok (.slc d i (Nat.succ v) 0 sz (ak m n) none,.set d i (Nat.succ v,.row r'))) .bad)
   | _=>.bad) .bad) .bad)
theorem sU {H:aa} {sz n:Nat} {x:AV} {q:Row} (h:eT H sz n x=some q):q.len=n*sz:=by
 unfold eT at h
 split at h
 · split at h
   · rename_i hn
     simp only[Option.some.injEq] at h
     rw[← h,hn];simp[Row.len]
   · simp at h
 · split at h
   · split at h
     · rename_i hf
       simp only[Option.some.injEq] at h
       rw[← h,qe,Row.dH _ _ _ hf.2.2]
     · simp at h
   · simp at h
 · split at h
   · rename_i hf
     simp only[Option.some.injEq] at h
     rw[← h]
     split
     · exact Row.dH _ _ _ (by omega)
     · rw[qe,Row.dH _ _ _ (by omega)]
   · simp at h
 · simp at h
theorem yO {H:aa} {nx sz m n:Nat} {s:AV} {new:Row} {y:AV×Delta} (h:(B8 H nx sz m n s new).run=some y):∃ old,eT H sz m s=some old∧y=(.slc 0 nx 0 0 sz (m+n) none,.push (.row (rY true (old.app new)))):=by
 unfold B8 at h
 obtain ⟨old,h1,h⟩:=Tr.bind_some h
 obtain ⟨r,h2,h⟩:=Tr.bind_some h
 refine ⟨old,qp h1,?_⟩
 rw[← Tr.ab h,a7,xm,BG h2]
theorem AD         {P : Program} {H:aa} {nx:Nat} {t u:TypeId} {s x:AV} {y:AV×Delta} (h:(o5 P H nx t u s x).run=some y):o6 P true H nx t u s x=some y:=by
 unfold o5 at h
 unfold o6
 split at h
 · rename_i e ht
   split at h
   · rename_i e' hu
     split at h
     · rename_i inf hi
       split at h
       · rename_i m hm
         split at h
         · rename_i n hn
           obtain ⟨hsl,h⟩:=Tr.aW h
           rw[ht,hu]
           dsimp only
           rw[hi,hm,hn]
           dsimp only
           have hcase:(n=0∧(s,Delta.bf)=y)∨(n≠0∧(o5.main P H nx e inf s x m n).run=some y):=by
            cases hx:LZ x with
            | true =>
              rw[hx] at h
              cases n with
              | zero=>exact .inl ⟨rfl,Tr.ab h⟩
              | succ n=>exact .inr ⟨by omega,h⟩
            | false =>
              rw[hx] at h
              rcases Tr.gu h with ⟨hc,h⟩ | ⟨hc,h⟩
              · rw[gK,decide_eq_true_eq] at hc
                exact .inl ⟨hc,Tr.ab h⟩
              · rw[gK,decide_eq_false_iff_not] at hc
                exact .inr ⟨hc,h⟩
           clear h
           rcases hcase with ⟨h0,h⟩ | ⟨h0,h⟩
           · rw[if_pos h0]
             cases s<;>simp[LP] at hsl<;>exact congrArg some h
           rw[if_neg h0]
           unfold o5.main at h
           obtain ⟨hr,h⟩:=Tr.aR h
           rw[Ac,decide_eq_true_eq] at hr
           obtain ⟨hb,h⟩:=Tr.aW h
           obtain ⟨hz,h⟩:=Tr.aW h
           obtain ⟨new,h1,h⟩:=Tr.bind_some h
           have hcv:=qp h1
           rw[if_pos ⟨hr.1,hr.2,BM hb,uI hz⟩,hcv]
           dsimp only
           split at h
           · rw[← Tr.ab h,xm]
           · rename_i sT r szT Hm full
             obtain ⟨hf,h⟩:=Tr.aR h
             obtain ⟨old,h2,rfl⟩:=yO h
             subst hf
             dsimp only
             rw[h2]
           · rename_i d i v off sz len c _ _ _ _ _
             rcases Tr.gu h with ⟨hc,h⟩ | ⟨hc,h⟩
             · rw[iw,decide_eq_true_eq,a7] at hc
               obtain ⟨old,h2,rfl⟩:=yO h
               dsimp only
               rw[if_pos hc,h2]
             · rw[iw,decide_eq_false_iff_not,a7] at hc
               dsimp only
               rw[if_neg hc]
               rw[eE] at h
               obtain ⟨hl,h⟩:=Tr.kr h
               obtain ⟨r,h2,h⟩:=Tr.bind_some h
               obtain ⟨hs,h⟩:=Tr.aW h
               have hs:=Nat.eq_of_beq_eq_true hs
               rw[hl,if_neg (by simp),lF h2]
               dsimp only
               split at h
               · rename_i l _
                 rw[oL] at h
                 have hcl:=sU hcv
                 split at h
                 · exact (Tr.ae h).elim
                 · rename_i y0 ys hy
                   obtain ⟨l',h3,h⟩:=Tr.bind_some h
                   obtain ⟨k1,k2⟩:=uv _ _ _ _ h3
                   rw[a7,cu,Nat.add_zero] at k1 k2
                   have hlen:=Row.bp (jG d new)
                   rw[hy,fH,hcl] at hlen
                   have hfit:off+(m+n)*sz≤(Row.M l).len:=by
                    rcases k1 with k1 | k1
                    · simp at k1
                    · rw[hlen,← hs] at k1
                      rw[Nat.add_mul]
                      show _≤aD l
                      omega
                   rw[if_pos ⟨hs,hfit⟩,hy,k2,← Tr.ab h,a7]
               · exact (Tr.ae h).elim
           · rename_i d i v off sz len _ _ _ _ _
             dsimp only
             rw[eE] at h
             obtain ⟨hl,h⟩:=Tr.kr h
             obtain ⟨r,h2,h⟩:=Tr.bind_some h
             obtain ⟨hs,h⟩:=Tr.aW h
             have hs:=Nat.eq_of_beq_eq_true hs
             obtain ⟨old,h3,h⟩:=Tr.bind_some h
             obtain ⟨r',h4,h⟩:=Tr.bind_some h
             obtain ⟨k1,k2⟩:=Bs h3
             rw[cu] at k1 k2
             rw[hl,if_neg (by simp),lF h2]
             dsimp only
             rw[if_pos ⟨hs,k1⟩,k2,BG h4,← Tr.ab h,a7]
           · exact (Tr.ae h).elim
         · exact (Tr.ae h).elim
       · exact (Tr.ae h).elim
     · exact (Tr.ae h).elim
   · rename_i k' hu
     rw[ht,hu]
     exact Es h
   · exact (Tr.ae h).elim
 · exact (Tr.ae h).elim

end
end Go.Eng
end
