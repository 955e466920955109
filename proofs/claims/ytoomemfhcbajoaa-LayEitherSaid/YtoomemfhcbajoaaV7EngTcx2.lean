/- The engine as a tree: slices, numbers, operations. -/
import Derived.Test.YtoomemfhcbajoaaV7EngTb
set_option linter.unusedVariables false
set_option linter.unusedSimpArgs false
section
namespace Go.Eng
noncomputable section

theorem Tr.aR {α:Type} {c:Bool} {t:Tr α} {x:α} (h:(cond c t .bad).run=some x):c=true∧t.run=some x:=by
 cases c with
 | true=>exact ⟨rfl,h⟩
 | false=>exact (Tr.ae h).elim
def J4 (op:BinOp) (k:IntKind) (x y:Int):Tr AV :=
 match op with
 | .add=>.ok (.int k (bG k x y))
 | .sub=>.ok (.int k (bC k x y))
 | .mul=>.ok (.int k (rE k x y))
 | .quo=>.req (aY (cI y 0)) (.ok (.int k (Ky k x y)))
 | .rem=>.req (aY (cI y 0)) (.ok (.int k (qA k x y)))
 | .and=>.ok (.int k (JA k x y))
 | .or=>.ok (.int k (Pn k x y))
 | .xor=>.ok (.int k (K3 k x y))
 | .andNot=>.ok (.int k (NJ k x y))
 | .eql=>.ok (.bool (cI x y))
 | .neq=>.ok (.bool (aY (cI x y)))
 | .lss=>.ok (.bool (bQ x y))
 | .leq=>.ok (.bool (lM x y))
 | .gtr=>.ok (.bool (bQ y x))
 | .geq=>.ok (.bool (lM y x))
 | _=>.bad
theorem Ho {op:BinOp} {k:IntKind} {x y:Int} {v:AV} (h:(J4 op k x y).run=some v):iD op k x y=some v:=by
 unfold J4 at h
 unfold iD
 cases op<;>dsimp only at h ⊢<;>try exact (Tr.ae h).elim
 case quo =>
  obtain ⟨hc,h⟩:=Tr.aP h
  rw[g9,iC] at hc
  have:¬ y=0:=by simpa using hc
  rw[if_neg this,← Tr.ab h,H7]
 case rem =>
  obtain ⟨hc,h⟩:=Tr.aP h
  rw[g9,iC] at hc
  have:¬ y=0:=by simpa using hc
  rw[if_neg this,← Tr.ab h,xz]
 all_goals
  have h:=Tr.ab h
  subst h
  first
   | rfl
   | (simp only[gt_iff_lt,ge_iff_le,ju,m7,lh,wq,Bf,xS,Aw,iC,g9,dg,mj,bne];done)
   | (simp only[ju,m7,lh,wq,Bf,xS,Aw,iC,g9,dg,mj];done)
   | (simp only[ju,m7,lh,wq,Bf,xS,Aw,iC,g9,dg,mj];rfl)
def iQ:List Int→List Int→Bool
 | [],[]=>true
 | [x],[y]=>cI x y
 | x::x'::a,y::y'::b=>jW (cI x y) (iQ (x'::a) (y'::b))
 | _,_=>false
theorem s4:∀ (l m:List Int),iQ l m=fm l m
 | [],[]=>rfl
 | [],_::_=>by simp[iQ,fm]
 | _::_,[]=>by simp[iQ,fm]
 | [x],[y]=>by simp[iQ,fm,iC]
 | [x],y::y'::b=>by simp[iQ,fm]
 | x::x'::a,[y]=>by simp[iQ,fm]
 | x::x'::a,y::y'::b=>by
   simp only[iQ]
   rw[oA,iC,s4 (x'::a) (y'::b)];rfl
def yM (r:Row):Option (IntKind×(Nat→Int)) :=
 match r with
 | .I k l=>some (k,aA l)
 | .M [.arr k z _]=>some (k,z)
 | _=>none
theorem sW (r:Row):yM r=r.ints:=by
 match r with
 | .I k l=>simp only[yM,Row.ints,iR]
 | .G l=>rfl
 | .F f n=>rfl
 | .M []=>rfl
 | .M [.arr k z n]=>rfl
 | .M (.one v::r)=>rfl
 | .M (.arr k z n::s::r)=>rfl
def K5 (P:Program) (t:TypeId) (x y:AV):Tr Bool :=
 match x,y with
 | .bool a,.bool b=>match P.underlying t with
   | some .bool=>.ok (N7 a b)
   | _=>.bad
 | .nils,.slcT s r sz n f=>match P.underlying t with
   | some (.slice _)=>.req (cw 0 n) (.ok false)
   | _=>.bad
 | .slcT s r sz n f,.nils=>match P.underlying t with
   | some (.slice _)=>.req (cw 0 n) (.ok false)
   | _=>.bad
 | .agg (.I k a),.agg (.I k' b)=>cond (gG k k') (match bZ P 20 t with
   | some n=>match fq P t with
     | some true=>cond (Nat.beq n (iP a)) (cond (Nat.beq (iP a) (iP b)) (.ok (iQ a b)) .bad) .bad
     | _=>.bad
   | none=>.bad) .bad
 | .agg (.M l),.agg s=>eqMT P t (.M l) s
 | .agg (.I k a),.agg (.M l)=>eqMT P t (.I k a) (.M l)
 | x,y=>vU (Ap P t x y)
where
 eqMT (P:Program) (t:TypeId) (r s:Row):Tr Bool :=
  match yM r,yM s with
  | some (k,z),some (k',z')=>cond (gG k k') (match bZ P 20 t with
    | some n=>match fq P t with
      | some true=>cond (Nat.beq n (iJ r)) (cond (Nat.beq (iJ r) (iJ s)) (.ok (nE z z' (iJ r))) .bad) .bad
      | _=>.bad
    | none=>.bad) .bad
  | _,_=>.bad
theorem BN {P:Program} {t:TypeId} {r s:Row} {b:Bool} (h:(K5.eqMT P t r s).run=some b):K4 P t r s=some b:=by
 unfold K5.eqMT at h
 rw[sW,sW] at h
 unfold K4
 split at h
 · rename_i k z k' z' h1 h2
   rw[h1,h2]
   obtain ⟨hk,h⟩:=Tr.aR h
   rw[eS,decide_eq_true_eq] at hk
   split at h
   · rename_i n hn
     split at h
     · rename_i ha
       obtain ⟨e1,h⟩:=Tr.aR h
       obtain ⟨e2,h⟩:=Tr.aR h
       rw[fz] at e1 e2 h
       rw[fz] at e2
       have e1:n=r.len:=by simpa using e1
       have e2:r.len=s.len:=by simpa using e2
       dsimp only
       rw[if_pos ⟨hk,by rw[hn,e1],ha,e2⟩,← Tr.ab h,uY]
     · exact (Tr.ae h).elim
   · exact (Tr.ae h).elim
 · exact (Tr.ae h).elim
theorem Fa {P:Program} {t:TypeId} {x y:AV} {b:Bool} (h:(K5 P t x y).run=some b):Ap P t x y=some b:=by
 unfold K5 at h
 split at h
 · split at h
   · rename_i hu
     unfold Ap
     dsimp only
     rw[hu,← Tr.ab h,JR]
   · exact (Tr.ae h).elim
 · split at h
   · rename_i hu
     obtain ⟨hc,h⟩:=Tr.aP h
     rw[gw,decide_eq_true_eq] at hc
     unfold Ap
     dsimp only
     rw[hu]
     dsimp only
     rw[if_pos hc,Tr.ab h]
   · exact (Tr.ae h).elim
 · split at h
   · rename_i hu
     obtain ⟨hc,h⟩:=Tr.aP h
     rw[gw,decide_eq_true_eq] at hc
     unfold Ap
     dsimp only
     rw[hu]
     dsimp only
     rw[if_pos hc,Tr.ab h]
   · exact (Tr.ae h).elim
 · obtain ⟨hk,h⟩:=Tr.aR h
   rw[eS,decide_eq_true_eq] at hk
   split at h
   · rename_i n hn
     split at h
     · rename_i ha
       obtain ⟨e1,h⟩:=Tr.aR h
       obtain ⟨e2,h⟩:=Tr.aR h
       rw[dk] at e1 e2
       rw[dk] at e2
       have e1:=Nat.eq_of_beq_eq_true e1
       have e2:=Nat.eq_of_beq_eq_true e2
       unfold Ap
       dsimp only
       rw[if_pos ⟨hk,by rw[hn,e1],ha,e2⟩,← Tr.ab h,s4]
     · exact (Tr.ae h).elim
   · exact (Tr.ae h).elim
 · unfold Ap;exact BN h
 · unfold Ap;exact BN h
 · rw[cU] at h;exact h
def EC (P:Program) (op:BinOp) (t:TypeId) (x y:AV):Tr AV :=
 match x,y with
 | .int k a,.int k' b=>match op with
   | .shl=>.req (lM 0 b) (.ok (.int k (KJ k a b)))
   | .shr=>.req (lM 0 b) (.ok (.int k (KL k a b)))
   | op=>cond (gG k k') (J4 op k a b) .bad
 | x,y=>match op with
   | .eql=>(K5 P t x y).bind fun b=>.ok (.bool b)
   | .neq=>(K5 P t x y).bind fun b=>.ok (.bool (aY b))
   | _=>.bad
theorem GY {P:Program} {op:BinOp} {t:TypeId} {x y v:AV} (h:(EC P op t x y).run=some v):jX P op t x y=some v:=by
 unfold EC at h
 split at h
 · rename_i k a k' b
   split at h
   · obtain ⟨hc,h⟩:=Tr.aP h
     rw[mj,decide_eq_true_eq] at hc
     unfold jX
     dsimp only
     rw[if_neg (by omega),← Tr.ab h,Ik]
   · obtain ⟨hc,h⟩:=Tr.aP h
     rw[mj,decide_eq_true_eq] at hc
     unfold jX
     dsimp only
     rw[if_neg (by omega),← Tr.ab h,Im]
   · rename_i h1 h2
     obtain ⟨hk,h⟩:=Tr.aR h
     rw[eS,decide_eq_true_eq] at hk
     have:jX P op t (.int k a) (.int k' b)=if k=k' then iD op k a b else none:=by
      unfold jX
      cases op<;>first | rfl | exact (h1 rfl).elim | exact (h2 rfl).elim
     rw[this,if_pos hk]
     exact Ho h
 · rename_i hn
   split at h
   · obtain ⟨b,h1,h⟩:=Tr.bind_some h
     have h2:=Fa h1
     have:jX P .eql t x y=(Ap P t x y).map .bool:=by
      unfold jX
      cases x<;>cases y<;>first | rfl | exact (hn _ _ _ _ rfl rfl).elim
     rw[this,h2,← Tr.ab h];rfl
   · obtain ⟨b,h1,h⟩:=Tr.bind_some h
     have h2:=Fa h1
     have:jX P .neq t x y=(Ap P t x y).map fun b=>.bool (!b):=by
      unfold jX
      cases x<;>cases y<;>first | rfl | exact (hn _ _ _ _ rfl rfl).elim
     rw[this,h2,← Tr.ab h,g9];rfl
   · exact (Tr.ae h).elim
def Qi (op:UnOp) (x:AV):Tr AV :=
 match op,x with
 | .not,.bool b=>.ok (.bool (aY b))
 | .neg,.int k n=>.ok (.int k (Kl k n))
 | _,_=>.bad
theorem KZ {op:UnOp} {x v:AV} (h:(Qi op x).run=some v):Nr op x=some v:=by
 unfold Qi at h
 split at h
 · rw[← Tr.ab h,g9];rfl
 · rw[← Tr.ab h,HQ];rfl
 · exact (Tr.ae h).elim
def pq (mx:Bool) (k:IntKind) (x:Int):List AV→Tr AV
 | []=>.ok (.int k x)
 | v::r=>match v with
   | .int k' y=>cond (gG k k') (pq mx k (cond mx (FL x y) (uO x y)) r) .bad
   | _=>.bad
theorem n8 {mx:Bool} {k:IntKind}:∀ (l:List AV) (x:Int) (v:AV),(pq mx k x l).run=some v→eT mx k x l=some v
 | [],x,v,h=>by rw[← Tr.ab h];rfl
 | u :: r,x,v,h=>by
   simp only[pq] at h
   split at h
   · rename_i k' y
     obtain ⟨hk,h⟩:=Tr.aR h
     rw[eS,decide_eq_true_eq] at hk
     simp only[eT]
     rw[if_pos hk,← n8 r _ v h,Cp,Cq]
     cases mx<;>rfl
   · exact (Tr.ae h).elim

def jk (a sz:Nat):Nat :=
 match sz with
 | 1=>a
 | s=>HL a s
theorem cr (a sz:Nat):jk a sz=a*sz:=by
 unfold jk
 split
 · rw[Nat.mul_one]
 · rw[Ct]
abbrev Ql:=Option Nat×Nat×Option Nat
def mO (lo hi mx:Option AV) (len:Nat):Tr Ql :=
 match mx with
 | none=>(match hi with
    | none=>.ok len
    | some (.int _ i)=>.req (ng i len) (.ok (dw i))
    | some _=>.bad:Tr Nat).bind fun h=>(match lo with
    | none=>.ok (none,h,none)
    | some (.int _ i)=>.req (ng i h) (.ok (some (dw i),h,none))
    | some _=>.bad)
 | some (.int _ m)=>.req (ng m len) (match hi with
    | some (.int _ i)=>.req (ng i (dw m)) (match lo with
      | none=>.ok (none,dw i,some (dw m))
      | some (.int _ j)=>.req (ng j (dw i)) (.ok (some (dw j),dw i,some (dw m)))
      | some _=>.bad)
    | _=>.bad)
 | some _=>.bad
def Ci (l:Option Nat):Nat :=
 match l with
 | none=>0
 | some l=>l
theorem ia {i:Int} {k:IntKind} {d top:Nat} (h:ng i top=true):bound (some (.int k i)) d top=some (dw i):=by
 rw[BJ,decide_eq_true_eq] at h
 simp only[bound]
 rw[if_pos h,mJ]
theorem kL {lo hi mx:Option AV} {len:Nat} {b:Ql} (h:(mO lo hi mx len).run=some b):eF lo hi mx len=some (Ci b.1,b.2.1,b.2.2):=by
 unfold mO at h
 unfold eF
 split at h
 · obtain ⟨h',h1,h⟩:=Tr.bind_some h
   have e1:bound hi len len=some h':=by
    split at h1
    · rw[← Tr.ab h1];rfl
    · obtain ⟨hc,h1⟩:=Tr.aP h1
      rw[ia hc,Tr.ab h1]
    · exact (Tr.ae h1).elim
   dsimp only
   rw[e1]
   dsimp only
   split at h
   · rw[← Tr.ab h];rfl
   · obtain ⟨hc,h⟩:=Tr.aP h
     rw[ia hc,← Tr.ab h];rfl
   · exact (Tr.ae h).elim
 · rename_i k m
   obtain ⟨hm,h⟩:=Tr.aP h
   dsimp only
   rw[ia hm]
   dsimp only
   split at h
   · rename_i k' i
     obtain ⟨hi,h⟩:=Tr.aP h
     simp only[Option.isSome_some,if_true]
     rw[ia hi]
     dsimp only
     split at h
     · rw[← Tr.ab h];rfl
     · obtain ⟨hc,h⟩:=Tr.aP h
       rw[ia hc,← Tr.ab h];rfl
     · exact (Tr.ae h).elim
   · exact (Tr.ae h).elim
 · exact (Tr.ae h).elim
def xN (a:Nat) (l:Option Nat):Nat :=
 match l with
 | none=>a
 | some l=>tZ a l
theorem m8 (a:Nat) (l:Option Nat):xN a l=a-Ci l:=by
 cases l with
 | none=>rfl
 | some l=>exact lA a l
def Em (off:Nat) (l:Option Nat) (sz:Nat):Nat :=
 match l with
 | none=>off
 | some l=>b9 off (jk l sz)
theorem BB (off:Nat) (l:Option Nat) (sz:Nat):Em off l sz=off+Ci l*sz:=by
 cases l with
 | none=>simp[Em,Ci]
 | some l=>simp only[Em,Ci,bJ,cr]
def CO (r:Row) (l:Option Nat) (sz n:Nat):Tr Row :=
 match r with
 | .M [.arr k z N]=>.req (iO (b9 (jk (Ci l) sz) n) N) (.ok (.M [.arr k (match l with | none=>z | some l=>dW z (jk l sz)) n]))
 | .F f N=>.req (iO (b9 (jk (Ci l) sz) n) N) (.ok (.F (match l with | none=>f | some l=>fun j=>f (b9 (jk l sz) j)) n))
 | _=>.bad
theorem z8 {r q:Row} {l:Option Nat} {sz n:Nat} (h:(CO r l sz n).run=some q):Ci l*sz+n≤r.len∧r.sub (Ci l*sz) n=q:=by
 unfold CO at h
 split at h
 · rename_i k z N
   obtain ⟨hc,h⟩:=Tr.aP h
   rw[ld,decide_eq_true_eq,bJ,cr] at hc
   refine ⟨by simp only[Row.len,ay,aO];omega,?_⟩
   rw[← Tr.ab h]
   cases l with
   | none=>simp only[Row.sub,Ci,Nat.zero_mul,Nat.zero_add]
   | some l=>simp only[Row.sub,Ci,mI,cr]
 · rename_i f N
   obtain ⟨hc,h⟩:=Tr.aP h
   rw[ld,decide_eq_true_eq,bJ,cr] at hc
   refine ⟨by simp only[Row.len];omega,?_⟩
   rw[← Tr.ab h]
   cases l with
   | none=>simp only[Row.sub,Ci,Nat.zero_mul,Nat.zero_add]
   | some l=>simp only[Row.sub,Ci,bJ,cr]
 · exact (Tr.ae h).elim
def Od (o:Option AV):Bool :=
 match o with
 | none=>true
 | some _=>false
def Fl (mm:Option Nat) (full hiN:Bool) (h len:Nat):Bool :=
 match mm with
 | none=>cond hiN full (jW full (cL h len))
 | some m=>cL h m
def Bo (P:Program) (t:TypeId) (x:AV) (lo hi mx:Option AV):Tr AV :=
 match P.underlying t with
 | some (.slice e)=>match bk P e with
   | some z=>match x with
     | .slc d j v off sz len cap=>cond (Nat.beq z sz) ((mO lo hi mx len).bind fun b=>.ok (.slc d j v (Em off b.1 sz) sz (xN b.2.1 b.1) (match b.2.2 with
       | none=>match cap with | none=>none | some c=>some (xN c b.1)
       | some m=>some (xN m b.1)))) .bad
     | .slcT s r sz len full=>cond (Nat.beq z sz) ((mO lo hi mx len).bind fun b=>(CO r b.1 sz (jk (xN b.2.1 b.1) sz)).bind fun q=>.ok (.slcT s q sz (xN b.2.1 b.1) (Fl b.2.2 full (Od hi) b.2.1 len))) .bad
     | .nils=>(mO lo hi mx 0).bind fun _=>.ok .nils
     | _=>.bad
   | none=>.bad
 | some (.array n e)=>match bk P e with
   | some sz=>match x with
     | .ptr d j v off=>(mO lo hi mx n).bind fun b=>.ok (.slc d j v (Em off b.1 sz) sz (xN b.2.1 b.1) (match b.2.2 with
       | none=>some (xN n b.1)
       | some m=>some (xN m b.1)))
     | _=>.bad
   | none=>.bad
 | _=>.bad
theorem D7 {P:Program} {t:TypeId} {x v:AV} {lo hi mx:Option AV} (h:(Bo P t x lo hi mx).run=some v):qE P t x lo hi mx=some v:=by
 unfold Bo at h
 unfold qE
 split at h
 · rename_i e hu
   split at h
   · rename_i z hs
     split at h
     · rename_i d j ver off sz len cap
       obtain ⟨hz,h⟩:=Tr.aR h
       have hz:z=sz:=by simpa using hz
       subst hz
       obtain ⟨b,h1,h⟩:=Tr.bind_some h
       rw[hu]
       dsimp only
       rw[kL h1]
       dsimp only
       rw[if_pos hs,← Tr.ab h,BB,m8]
       obtain ⟨b1,b2,b3⟩:=b
       cases b3<;>cases cap<;>simp only[m8,Option.map_some,Option.map_none]
     · rename_i s r sz len full
       obtain ⟨hz,h⟩:=Tr.aR h
       have hz:z=sz:=by simpa using hz
       subst hz
       obtain ⟨b,h1,h⟩:=Tr.bind_some h
       obtain ⟨q,h2,h⟩:=Tr.bind_some h
       rw[hu]
       dsimp only
       have hb:=kL h1
       rw[hb]
       dsimp only
       obtain ⟨k1,k2⟩:=z8 h2
       rw[cr,m8] at k1 k2
       rw[if_pos ⟨hs,k1⟩,k2,← Tr.ab h,m8]
       congr 2
       obtain ⟨b1,b2,b3⟩:=b
       dsimp only at hb ⊢
       cases b3 with
       | some m=>simp only[Fl,gm];rw[Bool.eq_iff_iff];simp
       | none =>
         simp only[Fl]
         cases hi with
         | some a =>
           simp only[Od,cond_false,oA,gm]
           congr 1
           rw[Bool.eq_iff_iff];simp
         | none =>
           simp only[Od,cond_true]
           have:b2=len:=by
            unfold eF at hb
            cases mx with
            | none =>
              dsimp only[bound] at hb
              split at hb
              · simp only[nP] at hb;exact hb.2.1.symm
              · simp at hb
            | some a =>
              dsimp only at hb
              split at hb
              · simp at hb
              · simp at hb
           rw[this];simp
     · obtain ⟨b,h1,h⟩:=Tr.bind_some h
       rw[hu]
       dsimp only
       rw[kL h1,hs,← Tr.ab h]
     · exact (Tr.ae h).elim
   · exact (Tr.ae h).elim
 · rename_i n e hu
   split at h
   · rename_i sz hs
     split at h
     · rename_i d j ver off
       obtain ⟨b,h1,h⟩:=Tr.bind_some h
       rw[hu]
       dsimp only
       rw[kL h1]
       dsimp only
       rw[hs,← Tr.ab h,BB,m8]
       obtain ⟨b1,b2,b3⟩:=b
       cases b3<;>simp only[m8]
     · exact (Tr.ae h).elim
   · exact (Tr.ae h).elim
 · exact (Tr.ae h).elim

def sn (H:aa) (sz n:Nat) (x:AV):Tr Row :=
 match x with
 | .slc d i v off sz' len cap=>(xE H d i v (some 0)).bind fun r=>cond (Nat.beq sz' sz) (.req (iO n len) (match r with
    | .M [.arr k z N]=>.req (gF off (jk n sz) 0 N) (.ok (.M [.arr k (dW z off) (jk n sz)]))
    | .I k l=>cond (uB (.I k l) off (Nat.mul n sz)) (.ok (Bt d (Row.I k (iK (lJ l off) (Nat.mul n sz))))) .bad
    | .G l=>cond (uB (.G l) off (Nat.mul n sz)) (.ok (Bt d (Row.G (iK (lJ l off) (Nat.mul n sz))))) .bad
    | .F f N=>.req (gF off (jk n sz) 0 N) (.ok (.F (fun j=>f (b9 off j)) (jk n sz)))
    | _=>.bad)) .bad
 | .slcT s r sz' len _=>cond (Nat.beq sz' sz) (.req (iO n len) ((CO r none sz (jk n sz)).bind fun q=>.ok (match s with | none=>q | some k=>Bt k q))) .bad
 | _=>.bad
theorem Nt (d:Nat) (k:IntKind) (z:Nat→Int) (n:Nat):Bt d (.M [.arr k z n])=.M [.arr k z n]:=by cases d<;>rfl
theorem Ns (d:Nat) (f:Nat→AV) (n:Nat):Bt d (.F f n)=.F f n:=by cases d<;>rfl
theorem pT {H:aa} {sz n:Nat} {x:AV} {q:Row} (h:(sn H sz n x).run=some q):eN H sz n x=some q:=by
 unfold sn at h
 split at h
 · rename_i d i v off sz' len cap
   obtain ⟨r,h1,h⟩:=Tr.bind_some h
   obtain ⟨hz,h⟩:=Tr.aR h
   have hz:sz'=sz:=by simpa using hz
   obtain ⟨hc,h⟩:=Tr.aP h
   rw[ld,decide_eq_true_eq] at hc
   unfold eN
   dsimp only
   rw[lx h1]
   dsimp only
   split at h
   · rename_i k z N
     obtain ⟨hc2,h⟩:=Tr.aP h
     rw[gQ,decide_eq_true_eq,cr] at hc2
     rw[if_pos ⟨hz,hc,by simp only[Row.len,ay,aO];omega⟩,← Tr.ab h]
     simp only[Row.sub,Nt,mI,cr]
   · rename_i k l
     obtain ⟨hc2,h⟩:=Tr.aR h
     rw[kS,decide_eq_true_eq] at hc2
     rw[if_pos ⟨hz,hc,hc2⟩,← Tr.ab h,gB,ie]
     rfl
   · rename_i l
     obtain ⟨hc2,h⟩:=Tr.aR h
     rw[kS,decide_eq_true_eq] at hc2
     rw[if_pos ⟨hz,hc,hc2⟩,← Tr.ab h,gB,ie]
     rfl
   · rename_i f N
     obtain ⟨hc2,h⟩:=Tr.aP h
     rw[gQ,decide_eq_true_eq,cr] at hc2
     rw[if_pos ⟨hz,hc,by simp only[Row.len];omega⟩,← Tr.ab h]
     simp only[Row.sub,Ns,bJ,cr]
   · exact (Tr.ae h).elim
 · rename_i s r sz' len full
   obtain ⟨hz,h⟩:=Tr.aR h
   have hz:sz'=sz:=by simpa using hz
   obtain ⟨hc,h⟩:=Tr.aP h
   rw[ld,decide_eq_true_eq] at hc
   obtain ⟨q',h1,h⟩:=Tr.bind_some h
   obtain ⟨k1,k2⟩:=z8 h1
   rw[cr] at k1 k2
   simp only[Ci,Nat.zero_mul,Nat.zero_add] at k1 k2
   unfold eN
   dsimp only
   rw[if_pos ⟨hz,hc,k1⟩,← Tr.ab h,k2]
   cases s<;>rfl
 · exact (Tr.ae h).elim

end
end Go.Eng
end
section
namespace Go.Eng
noncomputable section

theorem Tr.jZ {α:Type} {c:Bool} {t:Tr α} {x:α} (h:(cond c .bad t).run=some x):c=false∧t.run=some x:=by
 cases c with
 | false=>exact ⟨rfl,h⟩
 | true=>exact (Tr.ae h).elim

def zp:AV→AV
 | .slcT none (.I k l) sz m _=>.slcT none (.M [.arr k (aA l) (iP l)]) sz m false
 | .slcT none (.M [.arr k z n]) sz m _=>.slcT none (.M [.arr k z n]) sz m false
 | v=>v
theorem zq (v:AV):zp v=nw v:=by
 unfold zp nw
 split
 · simp only[iR,dk]
 · rfl
 · rename_i h1 h2
   split
   · exact absurd rfl (h1 _ _ _ _ _)
   · exact absurd rfl (h2 _ _ _ _ _ _)
   · rfl
def Fc (r:Row):Row :=
 match r with
 | .I k l=>.M [.arr k (aA l) (iP l)]
 | .G [v]=>cond (q8 v) (.F (fun _=>zp v) 1) (.G [v])
 | r=>r
theorem wM (r:Row):Fc r=rA true r:=by
 cases r with
 | I k l=>simp only[Fc,rA,if_true,iR,dk]
 | F f n=>rfl
 | M l=>rfl
 | G l =>
   match l with
   | []=>rfl
   | [v] =>
     show cond (q8 v) (Row.F (fun _=>zp v) 1) (Row.G [v])=if (true && q8 v)=true then Row.F (fun _=>nw v) 1 else Row.G [v]
     rw[zq]
     cases q8 v<;>rfl
   | a::b::r=>rfl
def Uo:AV→Nat→Int
 | .slcT _ (.M [.arr _ z _]) _ _ _=>z
 | _=>fun _=>0
def Tp:AV→Nat
 | .slcT _ (.M [.arr _ _ n]) _ _ _=>n
 | _=>0
def To:AV→Nat
 | .slcT _ _ _ m _=>m
 | _=>0
def GR (r s:Row):Tr Row :=
 match r with
 | .M [.arr k z n]=>match yM s with
   | some (k',z')=>cond (gG k' k) (.ok (.M [.arr k (oD z n z') (b9 n (iJ s))])) .bad
   | none=>.bad
 | .I k l=>match s with
   | .I k' l'=>cond (gG k' k) (.ok (.I k (nf l l'))) .bad
   | .M [.arr k' z' n']=>cond (gG k' k) (.ok (.M [.arr k (oD (aA l) (iP l) z') (b9 (iP l) n')])) .bad
   | _=>.bad
 | .G l=>match s with
   | .G l'=>.ok (.G (nf l l'))
   | _=>.bad
 | .F f n=>match s with
   | .G [v]=>cond (q8 v) (match zp v with
     | .slcT none (.M [.arr k z N]) sz m full=>.reqP (Ep f k sz full)
       (.ok (.F (fun j=>.slcT none (.M [.arr k (Ih (cw j n) (Uo (f j)) z) (D6 (cw j n) (Tp (f j)) N)]) sz (D6 (cw j n) (To (f j)) m) full) (b9 n 1)))
     | _=>.bad) .bad
   | _=>.bad
 | _=>.bad
theorem BE {r s q:Row} (h:(GR r s).run=some q):r.app s=q:=by
 unfold GR at h
 split at h
 · rename_i k z n
   rw[sW] at h
   split at h
   · rename_i k' z' hi
     obtain ⟨hk,h⟩:=Tr.aR h
     rw[eS,decide_eq_true_eq] at hk
     have e:Row.app (.M [.arr k z n]) s=(match (Row.M [.arr k z n]).uv s with | some q=>q | none=>.G ((Row.M [.arr k z n]).toList++s.toList)):=by
      cases s<;>rfl
     rw[e]
     unfold Row.uv
     rw[hi]
     dsimp only[Row.ints]
     rw[if_pos hk,← Tr.ab h,rJ,bJ,fz]
     rfl
   · exact (Tr.ae h).elim
 · rename_i k l
   split at h
   · rename_i k' l'
     obtain ⟨hk,h⟩:=Tr.aR h
     rw[eS,decide_eq_true_eq] at hk
     simp only[Row.app]
     rw[if_pos hk,← Tr.ab h,kH]
   · rename_i k' z' n'
     obtain ⟨hk,h⟩:=Tr.aR h
     rw[eS,decide_eq_true_eq] at hk
     simp only[Row.app]
     unfold Row.uv
     dsimp only[Row.ints]
     rw[if_pos hk,← Tr.ab h,rJ,bJ,dk,iR]
     rfl
   · exact (Tr.ae h).elim
 · split at h
   · rw[← Tr.ab h,kH];rfl
   · exact (Tr.ae h).elim
 · rename_i f n
   split at h
   · rename_i v
     obtain ⟨hv,h⟩:=Tr.aR h
     split at h
     · rename_i k z N sz m full hn
       obtain ⟨hf,h⟩:=Tr.di h
       rw[zq] at hn
       rw[← Tr.ab h,bJ]
       show Row.F _ _=Row.F _ _
       congr 1
       funext j
       simp only[xL,xK,gw]
       by_cases e:j<n
       · have hb:Nat.blt j n=true:=by rw[Nat.blt_eq];exact e
         rw[hb,if_pos rfl,decide_eq_true e]
         rw[BD] at hf
         obtain ⟨z',n',m',e'⟩:=hf j
         rw[e'];rfl
       · have hb:Nat.blt j n=false:=by
          cases hb:Nat.blt j n with
          | false=>rfl
          | true=>rw[Nat.blt_eq] at hb;exact absurd hb e
         rw[hb,if_neg (by simp),decide_eq_false e]
         show (if iu v=true then nw v else .undef)=_
         rw[if_pos (sX hv),hn]
         rfl
     · exact (Tr.ae h).elim
   · exact (Tr.ae h).elim
 · exact (Tr.ae h).elim
def Ma (x:AV):Bool :=
 match x with
 | .slc _ _ _ _ _ _ (some _)=>true
 | _=>false
def LW (s:AV):Bool :=
 match s with
 | .nils | .slc .. | .slcT ..=>true
 | _=>false
def r9 (P:Program) (e:TypeId) (n:Nat):Bool :=
 match (cE P e).bind AV.row with
 | some z=>Nat.beq (iJ z) n
 | none=>false
theorem uj {P:Program} {e:TypeId} {n:Nat} (h:r9 P e n=true):((cE P e).bind AV.row).map Row.len=some n:=by
 unfold r9 at h
 split at h
 · rename_i z hz
   rw[fz] at h
   have h:=Nat.eq_of_beq_eq_true h
   rw[hz,Option.map_some,h]
 · simp at h
def BW (H:aa) (nx sz m n:Nat) (s:AV) (new:Row):Tr (AV×Delta) :=
 (sn H sz m s).bind fun old=>(GR old new).bind fun r=>.ok (.slc 0 nx 0 0 sz (b9 m n) none,.push (.row (Fc r)))
def xO (r:Row) (off n:Nat):Tr Row :=
 match r with
 | .M [.arr k z N]=>.req (cL (b9 off n) N) (.ok (.M [.arr k (dW z off) n]))
 | .G l=>cond (Nat.beq (Nat.add off n) (iP l)) (.ok (.G (iK (lJ l off) n))) .bad
 | .F f N=>.req (cL (b9 off n) N) (.ok (.F (fun j=>f (b9 off j)) n))
 | _=>.bad
theorem Br {r q:Row} {off n:Nat} (h:(xO r off n).run=some q):off+n=r.len∧r.sub off n=q:=by
 unfold xO at h
 split at h
 · rename_i k z N
   obtain ⟨hc,h⟩:=Tr.aP h
   rw[gm,decide_eq_true_eq,bJ] at hc
   refine ⟨by simp only[Row.len,ay,aO];omega,?_⟩
   rw[← Tr.ab h,mI];rfl
 · rename_i l
   obtain ⟨hc,h⟩:=Tr.aR h
   rw[dk] at hc
   have hc:=Nat.eq_of_beq_eq_true hc
   exact ⟨hc,by rw[← Tr.ab h,gB,ie];rfl⟩
 · rename_i f N
   obtain ⟨hc,h⟩:=Tr.aP h
   rw[gm,decide_eq_true_eq,bJ] at hc
   refine ⟨hc,?_⟩
   rw[← Tr.ab h]
   simp only[bJ]
   rfl
 · exact (Tr.ae h).elim
def Et (P:Program) (nx:Nat) (e:TypeId) (s x:AV):Tr (AV×Delta) :=
 match P.info? e with
 | some inf=>match s with
   | .nils=>match x with
     | .int _ k=>cond (Nat.blt 0 inf.size) (cond (r9 P e inf.size) (.req (DN k k inf.bytes) (.ite (cI k (Int.ofNat 0)) (.ok (.nils,.bc)) (.ok (.slc 0 nx 0 0 inf.size (dw k) none,.push (.row (Fc (.I .i64 []))))))) .bad) .bad
     | _=>.bad
   | _=>.bad
 | none=>.bad
theorem Eu {P:Program} {nx:Nat} {e:TypeId} {s x:AV} {y:AV×Delta} (h:(Et P nx e s x).run=some y):Es P true nx e s x=some y:=by
 unfold Et at h
 unfold Es
 split at h
 · rename_i inf hi
   rw[hi]
   split at h
   · split at h
     · rename_i kk k
       obtain ⟨hb,h⟩:=Tr.aR h
       obtain ⟨hz,h⟩:=Tr.aR h
       obtain ⟨hm,h⟩:=Tr.aP h
       rw[w9,decide_eq_true_eq] at hm
       dsimp only
       rw[if_pos ⟨hm.1,hm.2.2.2,hm.2.2.1,BI hb,uj hz⟩]
       rcases Tr.im h with ⟨hc,h⟩ | ⟨hc,h⟩
       · rw[iC,beq_iff_eq] at hc
         rw[if_pos (show k=0 from hc),Tr.ab h]
       · rw[iC,beq_eq_false_iff_ne] at hc
         rw[if_neg (show ¬ k=0 from hc),← Tr.ab h,wM,mJ]
     · exact (Tr.ae h).elim
   · exact (Tr.ae h).elim
 · exact (Tr.ae h).elim
def oE (P:Program) (H:aa) (nx:Nat) (t u:TypeId) (s x:AV):Tr (AV×Delta) :=
 match P.underlying t with
 | some (.slice e)=>match P.underlying u with
   | some (.slice _)=>match P.info? e with
     | some inf=>match nR s with
       | some m=>match nR x with
         | some n=>cond (LW s) (match Ma x,n with
           | true,0=>.ok (s,.bc)
           | true,_=>main P H nx e inf s x m n
           | false,_=>.ite (cL n 0) (.ok (s,.bc)) (main P H nx e inf s x m n)) .bad
         | none=>.bad
       | none=>.bad
     | none=>.bad
   | some (.int _)=>Et P nx e s x
   | _=>.bad
 | _=>.bad
where
 main (P : Program) (H:aa) (nx:Nat) (e:TypeId) (inf:TypeInfo) (s x:AV) (m n:Nat):Tr (AV×Delta) :=
  .req (iv m n inf.bytes) (cond (Nat.blt 0 inf.bytes) (cond (r9 P e inf.size) ((sn H inf.size n x).bind fun new =>
   match s with
   | .nils=>.ok (.slc 0 nx 0 0 inf.size n none,.push (.row (Fc new)))
   | .slcT _ _ _ _ full=>.req full (BW H nx inf.size m n s new)
   | .slc d i v off sz _ (some c)=>.ite (cw c (b9 m n)) (BW H nx inf.size m n s new)
     (cond (fH H d) .bad ((xE H d i v (some 0)).bind fun r=>cond (Nat.beq sz inf.size) (match r with
       | .M l=>match lD (lI d new) with
         | []=>.bad
         | y::ys=>(zZ (b9 off (jk m sz)) (some 0) (y::ys) 0 l).bind fun l'=>.ok (.slc d i v off sz (b9 m n) (some c),.set d i (v,.row (.M l')))
       | _=>.bad) .bad))
   | .slc d i v off sz _ none=>cond (fH H d) .bad ((xE H d i v (some 0)).bind fun r=>cond (Nat.beq sz inf.size)
     ((xO r off (jk m sz)).bind fun old=>(GR old (lI d new)).bind fun r'=>.ok (.slc d i (Nat.succ v) 0 sz (b9 m n) none,.set d i (Nat.succ v,.row r'))) .bad)
   | _=>.bad) .bad) .bad)
theorem so {H:aa} {sz n:Nat} {x:AV} {q:Row} (h:eN H sz n x=some q):q.len=n*sz:=by
 unfold eN at h
 split at h
 · split at h
   · rename_i hn
     simp only[Option.some.injEq] at h
     rw[← h,hn];simp[Row.len]
   · simp at h
 · split at h
   · split at h
     · rename_i hf
       simp only[Option.some.injEq] at h
       rw[← h,pI,Row.dB _ _ _ hf.2.2]
     · simp at h
   · simp at h
 · split at h
   · rename_i hf
     simp only[Option.some.injEq] at h
     rw[← h]
     split
     · exact Row.dB _ _ _ (by omega)
     · rw[pI,Row.dB _ _ _ (by omega)]
   · simp at h
 · simp at h
theorem yB {H:aa} {nx sz m n:Nat} {s:AV} {new:Row} {y:AV×Delta} (h:(BW H nx sz m n s new).run=some y):∃ old,eN H sz m s=some old∧y=(.slc 0 nx 0 0 sz (m+n) none,.push (.row (rA true (old.app new)))):=by
 unfold BW at h
 obtain ⟨old,h1,h⟩:=Tr.bind_some h
 obtain ⟨r,h2,h⟩:=Tr.bind_some h
 refine ⟨old,pT h1,?_⟩
 rw[← Tr.ab h,bJ,wM,BE h2]
theorem Ay         {P : Program} {H:aa} {nx:Nat} {t u:TypeId} {s x:AV} {y:AV×Delta} (h:(oE P H nx t u s x).run=some y):oF P true H nx t u s x=some y:=by
 unfold oE at h
 unfold oF
 split at h
 · rename_i e ht
   split at h
   · rename_i e' hu
     split at h
     · rename_i inf hi
       split at h
       · rename_i m hm
         split at h
         · rename_i n hn
           obtain ⟨hsl,h⟩:=Tr.aR h
           rw[ht,hu]
           dsimp only
           rw[hi,hm,hn]
           dsimp only
           have hcase:(n=0∧(s,Delta.bc)=y)∨(n≠0∧(oE.main P H nx e inf s x m n).run=some y):=by
            cases hx:Ma x with
            | true =>
              rw[hx] at h
              cases n with
              | zero=>exact .inl ⟨rfl,Tr.ab h⟩
              | succ n=>exact .inr ⟨by omega,h⟩
            | false =>
              rw[hx] at h
              rcases Tr.im h with ⟨hc,h⟩ | ⟨hc,h⟩
              · rw[gm,decide_eq_true_eq] at hc
                exact .inl ⟨hc,Tr.ab h⟩
              · rw[gm,decide_eq_false_iff_not] at hc
                exact .inr ⟨hc,h⟩
           clear h
           rcases hcase with ⟨h0,h⟩ | ⟨h0,h⟩
           · rw[if_pos h0]
             cases s<;>simp[LW] at hsl<;>exact congrArg some h
           rw[if_neg h0]
           unfold oE.main at h
           obtain ⟨hr,h⟩:=Tr.aP h
           rw[zT,decide_eq_true_eq] at hr
           obtain ⟨hb,h⟩:=Tr.aR h
           obtain ⟨hz,h⟩:=Tr.aR h
           obtain ⟨new,h1,h⟩:=Tr.bind_some h
           have hcv:=pT h1
           rw[if_pos ⟨hr.1,hr.2,BI hb,uj hz⟩,hcv]
           dsimp only
           split at h
           · rw[← Tr.ab h,wM]
           · rename_i sT r szT Hw full
             obtain ⟨hf,h⟩:=Tr.aP h
             obtain ⟨old,h2,rfl⟩:=yB h
             subst hf
             dsimp only
             rw[h2]
           · rename_i d i v off sz len c _ _ _ _ _
             rcases Tr.im h with ⟨hc,h⟩ | ⟨hc,h⟩
             · rw[gw,decide_eq_true_eq,bJ] at hc
               obtain ⟨old,h2,rfl⟩:=yB h
               dsimp only
               rw[if_pos hc,h2]
             · rw[gw,decide_eq_false_iff_not,bJ] at hc
               dsimp only
               rw[if_neg hc]
               rw[ep] at h
               obtain ⟨hl,h⟩:=Tr.jZ h
               obtain ⟨r,h2,h⟩:=Tr.bind_some h
               obtain ⟨hs,h⟩:=Tr.aR h
               have hs:=Nat.eq_of_beq_eq_true hs
               rw[hl,if_neg (by simp),lx h2]
               dsimp only
               split at h
               · rename_i l _
                 rw[om] at h
                 have hcl:=so hcv
                 split at h
                 · exact (Tr.ae h).elim
                 · rename_i y0 ys hy
                   obtain ⟨l',h3,h⟩:=Tr.bind_some h
                   obtain ⟨k1,k2⟩:=tR _ _ _ _ h3
                   rw[bJ,cr,Nat.add_zero] at k1 k2
                   have hlen:=Row.bj (lI d new)
                   rw[hy,fA,hcl] at hlen
                   have hfit:off+(m+n)*sz≤(Row.M l).len:=by
                    rcases k1 with k1 | k1
                    · simp at k1
                    · rw[hlen,← hs] at k1
                      rw[Nat.add_mul]
                      show _≤ay l
                      omega
                   rw[if_pos ⟨hs,hfit⟩,hy,k2,← Tr.ab h,bJ]
               · exact (Tr.ae h).elim
           · rename_i d i v off sz len _ _ _ _ _
             dsimp only
             rw[ep] at h
             obtain ⟨hl,h⟩:=Tr.jZ h
             obtain ⟨r,h2,h⟩:=Tr.bind_some h
             obtain ⟨hs,h⟩:=Tr.aR h
             have hs:=Nat.eq_of_beq_eq_true hs
             obtain ⟨old,h3,h⟩:=Tr.bind_some h
             obtain ⟨r',h4,h⟩:=Tr.bind_some h
             obtain ⟨k1,k2⟩:=Br h3
             rw[cr] at k1 k2
             rw[hl,if_neg (by simp),lx h2]
             dsimp only
             rw[if_pos ⟨hs,k1⟩,k2,BE h4,← Tr.ab h,bJ]
           · exact (Tr.ae h).elim
         · exact (Tr.ae h).elim
       · exact (Tr.ae h).elim
     · exact (Tr.ae h).elim
   · rename_i k' hu
     rw[ht,hu]
     exact Eu h
   · exact (Tr.ae h).elim
 · exact (Tr.ae h).elim

end
end Go.Eng
end
