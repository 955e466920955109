/- The engine as a tree: slices, numbers, operations. -/
import Derived.Test.YtoomemfhcbajoaaV3EngTb
set_option linter.unusedVariables false
set_option linter.unusedSimpArgs false
section
namespace Go.Eng
noncomputable section

theorem Tr.aR {α:Type} {c:Bool} {t:Tr α} {x:α} (h:(cond c t .bad).run=some x):c=true∧t.run=some x:=by
 cases c with
 | true=>exact ⟨rfl,h⟩
 | false=>exact (Tr.ae h).elim
def Jo (op:BinOp) (k:IntKind) (x y:Int):Tr AV :=
 match op with
 | .add=>.ok (.int k (bE k x y))
 | .sub=>.ok (.int k (bB k x y))
 | .mul=>.ok (.int k (Df k x y))
 | .quo=>.req (ay (bJ y 0)) (.ok (.int k (FA k x y)))
 | .rem=>.req (ay (bJ y 0)) (.ok (.int k (ur k x y)))
 | .and=>.ok (.int k (IU k x y))
 | .or=>.ok (.int k (Ow k x y))
 | .xor=>.ok (.int k (Kf k x y))
 | .andNot=>.ok (.int k (MO k x y))
 | .eql=>.ok (.bool (bJ x y))
 | .neq=>.ok (.bool (ay (bJ x y)))
 | .lss=>.ok (.bool (bV x y))
 | .leq=>.ok (.bool (jF x y))
 | .gtr=>.ok (.bool (bV y x))
 | .geq=>.ok (.bool (jF y x))
 | _=>.bad
theorem GL {op:BinOp} {k:IntKind} {x y:Int} {v:AV} (h:(Jo op k x y).run=some v):ij op k x y=some v:=by
 unfold Jo at h
 unfold ij
 cases op<;>dsimp only at h ⊢<;>try exact (Tr.ae h).elim
 case quo =>
  obtain ⟨hc,h⟩:=Tr.aP h
  rw[fx,dH] at hc
  have:¬ y=0:=by simpa using hc
  rw[if_neg this,← Tr.ab h,B8]
 case rem =>
  obtain ⟨hc,h⟩:=Tr.aP h
  rw[fx,dH] at hc
  have:¬ y=0:=by simpa using hc
  rw[if_neg this,← Tr.ab h,Cb]
 all_goals
  have h:=Tr.ab h
  subst h
  first
   | rfl
   | (simp only[gt_iff_lt,ge_iff_le,jg,mP,o7,vO,AI,xo,zZ,dH,fx,eL,iR,bne];done)
   | (simp only[jg,mP,o7,vO,AI,xo,zZ,dH,fx,eL,iR];done)
   | (simp only[jg,mP,o7,vO,AI,xo,zZ,dH,fx,eL,iR];rfl)
def iB:List Int→List Int→Bool
 | [],[]=>true
 | [x],[y]=>bJ x y
 | x::x'::a,y::y'::b=>jP (bJ x y) (iB (x'::a) (y'::b))
 | _,_=>false
theorem sD:∀ (l m:List Int),iB l m=fc l m
 | [],[]=>rfl
 | [],_::_=>by simp[iB,fc]
 | _::_,[]=>by simp[iB,fc]
 | [x],[y]=>by simp[iB,fc,dH]
 | [x],y::y'::b=>by simp[iB,fc]
 | x::x'::a,[y]=>by simp[iB,fc]
 | x::x'::a,y::y'::b=>by
   simp only[iB]
   rw[n7,dH,sD (x'::a) (y'::b)];rfl
def yj (r:Row):Option (IntKind×(Nat→Int)) :=
 match r with
 | .I k l=>some (k,aA l)
 | .M [.arr k z _]=>some (k,z)
 | _=>none
theorem sx (r:Row):yj r=r.ints:=by
 match r with
 | .I k l=>simp only[yj,Row.ints,gO]
 | .G l=>rfl
 | .F f n=>rfl
 | .M []=>rfl
 | .M [.arr k z n]=>rfl
 | .M (.one v::r)=>rfl
 | .M (.arr k z n::s::r)=>rfl
def Ki (P:Program) (t:TypeId) (x y:AV):Tr Bool :=
 match x,y with
 | .bool a,.bool b=>match P.underlying t with
   | some .bool=>.ok (jV a b)
   | _=>.bad
 | .nils,.slcT s r sz n f=>match P.underlying t with
   | some (.slice _)=>.req (cJ 0 n) (.ok false)
   | _=>.bad
 | .slcT s r sz n f,.nils=>match P.underlying t with
   | some (.slice _)=>.req (cJ 0 n) (.ok false)
   | _=>.bad
 | .agg (.I k a),.agg (.I k' b)=>cond (gw k k') (match b5 P 20 t with
   | some n=>match ff P t with
     | some true=>cond (Nat.beq n (iA a)) (cond (Nat.beq (iA a) (iA b)) (.ok (iB a b)) .bad) .bad
     | _=>.bad
   | none=>.bad) .bad
 | .agg (.M l),.agg s=>eqMT P t (.M l) s
 | .agg (.I k a),.agg (.M l)=>eqMT P t (.I k a) (.M l)
 | x,y=>vr (zU P t x y)
where
 eqMT (P:Program) (t:TypeId) (r s:Row):Tr Bool :=
  match yj r,yj s with
  | some (k,z),some (k',z')=>cond (gw k k') (match b5 P 20 t with
    | some n=>match ff P t with
      | some true=>cond (Nat.beq n (iu r)) (cond (Nat.beq (iu r) (iu s)) (.ok (nj z z' (iu r))) .bad) .bad
      | _=>.bad
    | none=>.bad) .bad
  | _,_=>.bad
theorem Bj {P:Program} {t:TypeId} {r s:Row} {b:Bool} (h:(Ki.eqMT P t r s).run=some b):Kh P t r s=some b:=by
 unfold Ki.eqMT at h
 rw[sx,sx] at h
 unfold Kh
 split at h
 · rename_i k z k' z' h1 h2
   rw[h1,h2]
   obtain ⟨hk,h⟩:=Tr.aR h
   rw[eK,decide_eq_true_eq] at hk
   split at h
   · rename_i n hn
     split at h
     · rename_i ha
       obtain ⟨e1,h⟩:=Tr.aR h
       obtain ⟨e2,h⟩:=Tr.aR h
       rw[fm] at e1 e2 h
       rw[fm] at e2
       have e1:n=r.len:=by simpa using e1
       have e2:r.len=s.len:=by simpa using e2
       dsimp only
       rw[if_pos ⟨hk,by rw[hn,e1],ha,e2⟩,← Tr.ab h,uy]
     · exact (Tr.ae h).elim
   · exact (Tr.ae h).elim
 · exact (Tr.ae h).elim
theorem Eu {P:Program} {t:TypeId} {x y:AV} {b:Bool} (h:(Ki P t x y).run=some b):zU P t x y=some b:=by
 unfold Ki at h
 split at h
 · split at h
   · rename_i hu
     unfold zU
     dsimp only
     rw[hu,← Tr.ab h,jC]
   · exact (Tr.ae h).elim
 · split at h
   · rename_i hu
     obtain ⟨hc,h⟩:=Tr.aP h
     rw[gm,decide_eq_true_eq] at hc
     unfold zU
     dsimp only
     rw[hu]
     dsimp only
     rw[if_pos hc,Tr.ab h]
   · exact (Tr.ae h).elim
 · split at h
   · rename_i hu
     obtain ⟨hc,h⟩:=Tr.aP h
     rw[gm,decide_eq_true_eq] at hc
     unfold zU
     dsimp only
     rw[hu]
     dsimp only
     rw[if_pos hc,Tr.ab h]
   · exact (Tr.ae h).elim
 · obtain ⟨hk,h⟩:=Tr.aR h
   rw[eK,decide_eq_true_eq] at hk
   split at h
   · rename_i n hn
     split at h
     · rename_i ha
       obtain ⟨e1,h⟩:=Tr.aR h
       obtain ⟨e2,h⟩:=Tr.aR h
       rw[dc] at e1 e2
       rw[dc] at e2
       have e1:=Nat.eq_of_beq_eq_true e1
       have e2:=Nat.eq_of_beq_eq_true e2
       unfold zU
       dsimp only
       rw[if_pos ⟨hk,by rw[hn,e1],ha,e2⟩,← Tr.ab h,sD]
     · exact (Tr.ae h).elim
   · exact (Tr.ae h).elim
 · unfold zU;exact Bj h
 · unfold zU;exact Bj h
 · rw[cQ] at h;exact h
def D7 (P:Program) (op:BinOp) (t:TypeId) (x y:AV):Tr AV :=
 match x,y with
 | .int k a,.int k' b=>match op with
   | .shl=>.req (jF 0 b) (.ok (.int k (JX k a b)))
   | .shr=>.req (jF 0 b) (.ok (.int k (JY k a b)))
   | op=>cond (gw k k') (Jo op k a b) .bad
 | x,y=>match op with
   | .eql=>(Ki P t x y).bind fun b=>.ok (.bool b)
   | .neq=>(Ki P t x y).bind fun b=>.ok (.bool (ay b))
   | _=>.bad
theorem Gi {P:Program} {op:BinOp} {t:TypeId} {x y v:AV} (h:(D7 P op t x y).run=some v):jQ P op t x y=some v:=by
 unfold D7 at h
 split at h
 · rename_i k a k' b
   split at h
   · obtain ⟨hc,h⟩:=Tr.aP h
     rw[iR,decide_eq_true_eq] at hc
     unfold jQ
     dsimp only
     rw[if_neg (by omega),← Tr.ab h,Hz]
   · obtain ⟨hc,h⟩:=Tr.aP h
     rw[iR,decide_eq_true_eq] at hc
     unfold jQ
     dsimp only
     rw[if_neg (by omega),← Tr.ab h,HF]
   · rename_i h1 h2
     obtain ⟨hk,h⟩:=Tr.aR h
     rw[eK,decide_eq_true_eq] at hk
     have:jQ P op t (.int k a) (.int k' b)=if k=k' then ij op k a b else none:=by
      unfold jQ
      cases op<;>first | rfl | exact (h1 rfl).elim | exact (h2 rfl).elim
     rw[this,if_pos hk]
     exact GL h
 · rename_i hn
   split at h
   · obtain ⟨b,h1,h⟩:=Tr.bind_some h
     have h2:=Eu h1
     have:jQ P .eql t x y=(zU P t x y).map .bool:=by
      unfold jQ
      cases x<;>cases y<;>first | rfl | exact (hn _ _ _ _ rfl rfl).elim
     rw[this,h2,← Tr.ab h];rfl
   · obtain ⟨b,h1,h⟩:=Tr.bind_some h
     have h2:=Eu h1
     have:jQ P .neq t x y=(zU P t x y).map fun b=>.bool (!b):=by
      unfold jQ
      cases x<;>cases y<;>first | rfl | exact (hn _ _ _ _ rfl rfl).elim
     rw[this,h2,← Tr.ab h,fx];rfl
   · exact (Tr.ae h).elim
def Ps (op:UnOp) (x:AV):Tr AV :=
 match op,x with
 | .not,.bool b=>.ok (.bool (ay b))
 | .neg,.int k n=>.ok (.int k (JG k n))
 | _,_=>.bad
theorem Ka {op:UnOp} {x v:AV} (h:(Ps op x).run=some v):Mt op x=some v:=by
 unfold Ps at h
 split at h
 · rw[← Tr.ab h,fx];rfl
 · rw[← Tr.ab h,Hc];rfl
 · exact (Tr.ae h).elim
def o6 (mx:Bool) (k:IntKind) (x:Int):List AV→Tr AV
 | []=>.ok (.int k x)
 | v::r=>match v with
   | .int k' y=>cond (gw k k') (o6 mx k (cond mx (Dd x y) (yM x y)) r) .bad
   | _=>.bad
theorem nH {mx:Bool} {k:IntKind}:∀ (l:List AV) (x:Int) (v:AV),(o6 mx k x l).run=some v→eM mx k x l=some v
 | [],x,v,h=>by rw[← Tr.ab h];rfl
 | u :: r,x,v,h=>by
   simp only[o6] at h
   split at h
   · rename_i k' y
     obtain ⟨hk,h⟩:=Tr.aR h
     rw[eK,decide_eq_true_eq] at hk
     simp only[eM]
     rw[if_pos hk,← nH r _ v h,BN,BO]
     cases mx<;>rfl
   · exact (Tr.ae h).elim

def iU (a sz:Nat):Nat :=
 match sz with
 | 1=>a
 | s=>G6 a s
theorem cr (a sz:Nat):iU a sz=a*sz:=by
 unfold iU
 split
 · rw[Nat.mul_one]
 · rw[BR]
abbrev Pv:=Option Nat×Nat×Option Nat
def mA (lo hi mx:Option AV) (len:Nat):Tr Pv :=
 match mx with
 | none=>(match hi with
    | none=>.ok len
    | some (.int _ i)=>.req (lQ i len) (.ok (dg i))
    | some _=>.bad:Tr Nat).bind fun h=>(match lo with
    | none=>.ok (none,h,none)
    | some (.int _ i)=>.req (lQ i h) (.ok (some (dg i),h,none))
    | some _=>.bad)
 | some (.int _ m)=>.req (lQ m len) (match hi with
    | some (.int _ i)=>.req (lQ i (dg m)) (match lo with
      | none=>.ok (none,dg i,some (dg m))
      | some (.int _ j)=>.req (lQ j (dg i)) (.ok (some (dg j),dg i,some (dg m)))
      | some _=>.bad)
    | _=>.bad)
 | some _=>.bad
def BH (l:Option Nat):Nat :=
 match l with
 | none=>0
 | some l=>l
theorem gS {i:Int} {k:IntKind} {d top:Nat} (h:lQ i top=true):bound (some (.int k i)) d top=some (dg i):=by
 rw[Bg,decide_eq_true_eq] at h
 simp only[bound]
 rw[if_pos h,lu]
theorem kC {lo hi mx:Option AV} {len:Nat} {b:Pv} (h:(mA lo hi mx len).run=some b):ep lo hi mx len=some (BH b.1,b.2.1,b.2.2):=by
 unfold mA at h
 unfold ep
 split at h
 · obtain ⟨h',h1,h⟩:=Tr.bind_some h
   have e1:bound hi len len=some h':=by
    split at h1
    · rw[← Tr.ab h1];rfl
    · obtain ⟨hc,h1⟩:=Tr.aP h1
      rw[gS hc,Tr.ab h1]
    · exact (Tr.ae h1).elim
   dsimp only
   rw[e1]
   dsimp only
   split at h
   · rw[← Tr.ab h];rfl
   · obtain ⟨hc,h⟩:=Tr.aP h
     rw[gS hc,← Tr.ab h];rfl
   · exact (Tr.ae h).elim
 · rename_i k m
   obtain ⟨hm,h⟩:=Tr.aP h
   dsimp only
   rw[gS hm]
   dsimp only
   split at h
   · rename_i k' i
     obtain ⟨hi,h⟩:=Tr.aP h
     simp only[Option.isSome_some,if_true]
     rw[gS hi]
     dsimp only
     split at h
     · rw[← Tr.ab h];rfl
     · obtain ⟨hc,h⟩:=Tr.aP h
       rw[gS hc,← Tr.ab h];rfl
     · exact (Tr.ae h).elim
   · exact (Tr.ae h).elim
 · exact (Tr.ae h).elim
def xk (a:Nat) (l:Option Nat):Nat :=
 match l with
 | none=>a
 | some l=>tB a l
theorem mQ (a:Nat) (l:Option Nat):xk a l=a-BH l:=by
 cases l with
 | none=>rfl
 | some l=>exact ll a l
def DS (off:Nat) (l:Option Nat) (sz:Nat):Nat :=
 match l with
 | none=>off
 | some l=>bY off (iU l sz)
theorem A7 (off:Nat) (l:Option Nat) (sz:Nat):DS off l sz=off+BH l*sz:=by
 cases l with
 | none=>simp[DS,BH]
 | some l=>simp only[DS,BH,bH,cr]
def Cf (r:Row) (l:Option Nat) (sz n:Nat):Tr Row :=
 match r with
 | .M [.arr k z N]=>.req (ik (bY (iU (BH l) sz) n) N) (.ok (.M [.arr k (match l with | none=>z | some l=>dE z (iU l sz)) n]))
 | .F f N=>.req (ik (bY (iU (BH l) sz) n) N) (.ok (.F (match l with | none=>f | some l=>fun j=>f (bY (iU l sz) j)) n))
 | _=>.bad
theorem zC {r q:Row} {l:Option Nat} {sz n:Nat} (h:(Cf r l sz n).run=some q):BH l*sz+n≤r.len∧r.sub (BH l*sz) n=q:=by
 unfold Cf at h
 split at h
 · rename_i k z N
   obtain ⟨hc,h⟩:=Tr.aP h
   rw[kS,decide_eq_true_eq,bH,cr] at hc
   refine ⟨by simp only[Row.len,aw,aM];omega,?_⟩
   rw[← Tr.ab h]
   cases l with
   | none=>simp only[Row.sub,BH,Nat.zero_mul,Nat.zero_add]
   | some l=>simp only[Row.sub,BH,mr,cr]
 · rename_i f N
   obtain ⟨hc,h⟩:=Tr.aP h
   rw[kS,decide_eq_true_eq,bH,cr] at hc
   refine ⟨by simp only[Row.len];omega,?_⟩
   rw[← Tr.ab h]
   cases l with
   | none=>simp only[Row.sub,BH,Nat.zero_mul,Nat.zero_add]
   | some l=>simp only[Row.sub,BH,bH,cr]
 · exact (Tr.ae h).elim
def Nl (o:Option AV):Bool :=
 match o with
 | none=>true
 | some _=>false
def EG (mm:Option Nat) (full hiN:Bool) (h len:Nat):Bool :=
 match mm with
 | none=>cond hiN full (jP full (cu h len))
 | some m=>cu h m
def AQ (P:Program) (t:TypeId) (x:AV) (lo hi mx:Option AV):Tr AV :=
 match P.underlying t with
 | some (.slice e)=>match bh P e with
   | some z=>match x with
     | .slc d j v off sz len cap=>cond (Nat.beq z sz) ((mA lo hi mx len).bind fun b=>.ok (.slc d j v (DS off b.1 sz) sz (xk b.2.1 b.1) (match b.2.2 with
       | none=>match cap with | none=>none | some c=>some (xk c b.1)
       | some m=>some (xk m b.1)))) .bad
     | .slcT s r sz len full=>cond (Nat.beq z sz) ((mA lo hi mx len).bind fun b=>(Cf r b.1 sz (iU (xk b.2.1 b.1) sz)).bind fun q=>.ok (.slcT s q sz (xk b.2.1 b.1) (EG b.2.2 full (Nl hi) b.2.1 len))) .bad
     | .nils=>(mA lo hi mx 0).bind fun _=>.ok .nils
     | _=>.bad
   | none=>.bad
 | some (.array n e)=>match bh P e with
   | some sz=>match x with
     | .ptr d j v off=>(mA lo hi mx n).bind fun b=>.ok (.slc d j v (DS off b.1 sz) sz (xk b.2.1 b.1) (match b.2.2 with
       | none=>some (xk n b.1)
       | some m=>some (xk m b.1)))
     | _=>.bad
   | none=>.bad
 | _=>.bad
theorem DA {P:Program} {t:TypeId} {x v:AV} {lo hi mx:Option AV} (h:(AQ P t x lo hi mx).run=some v):qv P t x lo hi mx=some v:=by
 unfold AQ at h
 unfold qv
 split at h
 · rename_i e hu
   split at h
   · rename_i z hs
     split at h
     · rename_i d j ver off sz len cap
       obtain ⟨hz,h⟩:=Tr.aR h
       have hz:z=sz:=by simpa using hz
       subst hz
       obtain ⟨b,h1,h⟩:=Tr.bind_some h
       rw[hu]
       dsimp only
       rw[kC h1]
       dsimp only
       rw[if_pos hs,← Tr.ab h,A7,mQ]
       obtain ⟨b1,b2,b3⟩:=b
       cases b3<;>cases cap<;>simp only[mQ,Option.map_some,Option.map_none]
     · rename_i s r sz len full
       obtain ⟨hz,h⟩:=Tr.aR h
       have hz:z=sz:=by simpa using hz
       subst hz
       obtain ⟨b,h1,h⟩:=Tr.bind_some h
       obtain ⟨q,h2,h⟩:=Tr.bind_some h
       rw[hu]
       dsimp only
       have hb:=kC h1
       rw[hb]
       dsimp only
       obtain ⟨k1,k2⟩:=zC h2
       rw[cr,mQ] at k1 k2
       rw[if_pos ⟨hs,k1⟩,k2,← Tr.ab h,mQ]
       congr 2
       obtain ⟨b1,b2,b3⟩:=b
       dsimp only at hb ⊢
       cases b3 with
       | some m=>simp only[EG,gb];rw[Bool.eq_iff_iff];simp
       | none =>
         simp only[EG]
         cases hi with
         | some a =>
           simp only[Nl,cond_false,n7,gb]
           congr 1
           rw[Bool.eq_iff_iff];simp
         | none =>
           simp only[Nl,cond_true]
           have:b2=len:=by
            unfold ep at hb
            cases mx with
            | none =>
              dsimp only[bound] at hb
              split at hb
              · simp only[nP] at hb;exact hb.2.1.symm
              · simp at hb
            | some a =>
              dsimp only at hb
              split at hb
              · simp at hb
              · simp at hb
           rw[this];simp
     · obtain ⟨b,h1,h⟩:=Tr.bind_some h
       rw[hu]
       dsimp only
       rw[kC h1,hs,← Tr.ab h]
     · exact (Tr.ae h).elim
   · exact (Tr.ae h).elim
 · rename_i n e hu
   split at h
   · rename_i sz hs
     split at h
     · rename_i d j ver off
       obtain ⟨b,h1,h⟩:=Tr.bind_some h
       rw[hu]
       dsimp only
       rw[kC h1]
       dsimp only
       rw[hs,← Tr.ab h,A7,mQ]
       obtain ⟨b1,b2,b3⟩:=b
       cases b3<;>simp only[mQ]
     · exact (Tr.ae h).elim
   · exact (Tr.ae h).elim
 · exact (Tr.ae h).elim

def r4 (H:aa) (sz n:Nat) (x:AV):Tr Row :=
 match x with
 | .slc d i v off sz' len cap=>(w7 H d i v (some 0)).bind fun r=>cond (Nat.beq sz' sz) (.req (ik n len) (match r with
    | .M [.arr k z N]=>.req (fW off (iU n sz) 0 N) (.ok (.M [.arr k (dE z off) (iU n sz)]))
    | .I k l=>cond (tZ (.I k l) off (Nat.mul n sz)) (.ok (AW d (Row.I k (iv (lz l off) (Nat.mul n sz))))) .bad
    | .G l=>cond (tZ (.G l) off (Nat.mul n sz)) (.ok (AW d (Row.G (iv (lz l off) (Nat.mul n sz))))) .bad
    | .F f N=>.req (fW off (iU n sz) 0 N) (.ok (.F (fun j=>f (bY off j)) (iU n sz)))
    | _=>.bad)) .bad
 | .slcT s r sz' len _=>cond (Nat.beq sz' sz) (.req (ik n len) ((Cf r none sz (iU n sz)).bind fun q=>.ok (match s with | none=>q | some k=>AW k q))) .bad
 | _=>.bad
theorem Mw (d:Nat) (k:IntKind) (z:Nat→Int) (n:Nat):AW d (.M [.arr k z n])=.M [.arr k z n]:=by cases d<;>rfl
theorem Mv (d:Nat) (f:Nat→AV) (n:Nat):AW d (.F f n)=.F f n:=by cases d<;>rfl
theorem pI {H:aa} {sz n:Nat} {x:AV} {q:Row} (h:(r4 H sz n x).run=some q):eE H sz n x=some q:=by
 unfold r4 at h
 split at h
 · rename_i d i v off sz' len cap
   obtain ⟨r,h1,h⟩:=Tr.bind_some h
   obtain ⟨hz,h⟩:=Tr.aR h
   have hz:sz'=sz:=by simpa using hz
   obtain ⟨hc,h⟩:=Tr.aP h
   rw[kS,decide_eq_true_eq] at hc
   unfold eE
   dsimp only
   rw[lg h1]
   dsimp only
   split at h
   · rename_i k z N
     obtain ⟨hc2,h⟩:=Tr.aP h
     rw[gF,decide_eq_true_eq,cr] at hc2
     rw[if_pos ⟨hz,hc,by simp only[Row.len,aw,aM];omega⟩,← Tr.ab h]
     simp only[Row.sub,Mw,mr,cr]
   · rename_i k l
     obtain ⟨hc2,h⟩:=Tr.aR h
     rw[kK,decide_eq_true_eq] at hc2
     rw[if_pos ⟨hz,hc,hc2⟩,← Tr.ab h,gr,gV]
     rfl
   · rename_i l
     obtain ⟨hc2,h⟩:=Tr.aR h
     rw[kK,decide_eq_true_eq] at hc2
     rw[if_pos ⟨hz,hc,hc2⟩,← Tr.ab h,gr,gV]
     rfl
   · rename_i f N
     obtain ⟨hc2,h⟩:=Tr.aP h
     rw[gF,decide_eq_true_eq,cr] at hc2
     rw[if_pos ⟨hz,hc,by simp only[Row.len];omega⟩,← Tr.ab h]
     simp only[Row.sub,Mv,bH,cr]
   · exact (Tr.ae h).elim
 · rename_i s r sz' len full
   obtain ⟨hz,h⟩:=Tr.aR h
   have hz:sz'=sz:=by simpa using hz
   obtain ⟨hc,h⟩:=Tr.aP h
   rw[kS,decide_eq_true_eq] at hc
   obtain ⟨q',h1,h⟩:=Tr.bind_some h
   obtain ⟨k1,k2⟩:=zC h1
   rw[cr] at k1 k2
   simp only[BH,Nat.zero_mul,Nat.zero_add] at k1 k2
   unfold eE
   dsimp only
   rw[if_pos ⟨hz,hc,k1⟩,← Tr.ab h,k2]
   cases s<;>rfl
 · exact (Tr.ae h).elim

end
end Go.Eng
end
section
namespace Go.Eng
noncomputable section

theorem Tr.jS {α:Type} {c:Bool} {t:Tr α} {x:α} (h:(cond c .bad t).run=some x):c=false∧t.run=some x:=by
 cases c with
 | false=>exact ⟨rfl,h⟩
 | true=>exact (Tr.ae h).elim

def yS:AV→AV
 | .slcT none (.I k l) sz m _=>.slcT none (.M [.arr k (aA l) (iA l)]) sz m false
 | .slcT none (.M [.arr k z n]) sz m _=>.slcT none (.M [.arr k z n]) sz m false
 | v=>v
theorem yT (v:AV):yS v=m9 v:=by
 unfold yS m9
 split
 · simp only[gO,dc]
 · rfl
 · rename_i h1 h2
   split
   · exact absurd rfl (h1 _ _ _ _ _)
   · exact absurd rfl (h2 _ _ _ _ _ _)
   · rfl
def Ew (r:Row):Row :=
 match r with
 | .I k l=>.M [.arr k (aA l) (iA l)]
 | .G [v]=>cond (qS v) (.F (fun _=>yS v) 1) (.G [v])
 | r=>r
theorem v7 (r:Row):Ew r=rj true r:=by
 cases r with
 | I k l=>simp only[Ew,rj,if_true,gO,dc]
 | F f n=>rfl
 | M l=>rfl
 | G l =>
   match l with
   | []=>rfl
   | [v] =>
     show cond (qS v) (Row.F (fun _=>yS v) 1) (Row.G [v])=if (true && qS v)=true then Row.F (fun _=>m9 v) 1 else Row.G [v]
     rw[yT]
     cases qS v<;>rfl
   | a::b::r=>rfl
def Tn:AV→Nat→Int
 | .slcT _ (.M [.arr _ z _]) _ _ _=>z
 | _=>fun _=>0
def Sv:AV→Nat
 | .slcT _ (.M [.arr _ _ n]) _ _ _=>n
 | _=>0
def Su:AV→Nat
 | .slcT _ _ _ m _=>m
 | _=>0
def Gc (r s:Row):Tr Row :=
 match r with
 | .M [.arr k z n]=>match yj s with
   | some (k',z')=>cond (gw k' k) (.ok (.M [.arr k (lO z n z') (bY n (iu s))])) .bad
   | none=>.bad
 | .I k l=>match s with
   | .I k' l'=>cond (gw k' k) (.ok (.I k (mU l l'))) .bad
   | .M [.arr k' z' n']=>cond (gw k' k) (.ok (.M [.arr k (lO (aA l) (iA l) z') (bY (iA l) n')])) .bad
   | _=>.bad
 | .G l=>match s with
   | .G l'=>.ok (.G (mU l l'))
   | _=>.bad
 | .F f n=>match s with
   | .G [v]=>cond (qS v) (match yS v with
     | .slcT none (.M [.arr k z N]) sz m full=>.reqP (DV f k sz full)
       (.ok (.F (fun j=>.slcT none (.M [.arr k (Hv (cJ j n) (Tn (f j)) z) (Dz (cJ j n) (Sv (f j)) N)]) sz (Dz (cJ j n) (Su (f j)) m) full) (bY n 1)))
     | _=>.bad) .bad
   | _=>.bad
 | _=>.bad
theorem Ba {r s q:Row} (h:(Gc r s).run=some q):r.app s=q:=by
 unfold Gc at h
 split at h
 · rename_i k z n
   rw[sx] at h
   split at h
   · rename_i k' z' hi
     obtain ⟨hk,h⟩:=Tr.aR h
     rw[eK,decide_eq_true_eq] at hk
     have e:Row.app (.M [.arr k z n]) s=(match (Row.M [.arr k z n]).tT s with | some q=>q | none=>.G ((Row.M [.arr k z n]).toList++s.toList)):=by
      cases s<;>rfl
     rw[e]
     unfold Row.tT
     rw[hi]
     dsimp only[Row.ints]
     rw[if_pos hk,← Tr.ab h,oa,bH,fm]
     rfl
   · exact (Tr.ae h).elim
 · rename_i k l
   split at h
   · rename_i k' l'
     obtain ⟨hk,h⟩:=Tr.aR h
     rw[eK,decide_eq_true_eq] at hk
     simp only[Row.app]
     rw[if_pos hk,← Tr.ab h,kz]
   · rename_i k' z' n'
     obtain ⟨hk,h⟩:=Tr.aR h
     rw[eK,decide_eq_true_eq] at hk
     simp only[Row.app]
     unfold Row.tT
     dsimp only[Row.ints]
     rw[if_pos hk,← Tr.ab h,oa,bH,dc,gO]
     rfl
   · exact (Tr.ae h).elim
 · split at h
   · rw[← Tr.ab h,kz];rfl
   · exact (Tr.ae h).elim
 · rename_i f n
   split at h
   · rename_i v
     obtain ⟨hv,h⟩:=Tr.aR h
     split at h
     · rename_i k z N sz m full hn
       obtain ⟨hf,h⟩:=Tr.db h
       rw[yT] at hn
       rw[← Tr.ab h,bH]
       show Row.F _ _=Row.F _ _
       congr 1
       funext j
       simp only[xi,xh,gm]
       by_cases e:j<n
       · have hb:Nat.blt j n=true:=by rw[Nat.blt_eq];exact e
         rw[hb,if_pos rfl,decide_eq_true e]
         rw[A9] at hf
         obtain ⟨z',n',m',e'⟩:=hf j
         rw[e'];rfl
       · have hb:Nat.blt j n=false:=by
          cases hb:Nat.blt j n with
          | false=>rfl
          | true=>rw[Nat.blt_eq] at hb;exact absurd hb e
         rw[hb,if_neg (by simp),decide_eq_false e]
         show (if g9 v=true then m9 v else .undef)=_
         rw[if_pos (sA hv),hn]
         rfl
     · exact (Tr.ae h).elim
   · exact (Tr.ae h).elim
 · exact (Tr.ae h).elim
def Lm (x:AV):Bool :=
 match x with
 | .slc _ _ _ _ _ _ (some _)=>true
 | _=>false
def Lb (s:AV):Bool :=
 match s with
 | .nils | .slc .. | .slcT ..=>true
 | _=>false
def rN (P:Program) (e:TypeId) (n:Nat):Bool :=
 match (cD P e).bind AV.row with
 | some z=>Nat.beq (iu z) n
 | none=>false
theorem tL {P:Program} {e:TypeId} {n:Nat} (h:rN P e n=true):((cD P e).bind AV.row).map Row.len=some n:=by
 unfold rN at h
 split at h
 · rename_i z hz
   rw[fm] at h
   have h:=Nat.eq_of_beq_eq_true h
   rw[hz,Option.map_some,h]
 · simp at h
def Br (H:aa) (nx sz m n:Nat) (s:AV) (new:Row):Tr (AV×Delta) :=
 (r4 H sz m s).bind fun old=>(Gc old new).bind fun r=>.ok (.slc 0 nx 0 0 sz (bY m n) none,.push (.row (Ew r)))
def xl (r:Row) (off n:Nat):Tr Row :=
 match r with
 | .M [.arr k z N]=>.req (cu (bY off n) N) (.ok (.M [.arr k (dE z off) n]))
 | .G l=>cond (Nat.beq (Nat.add off n) (iA l)) (.ok (.G (iv (lz l off) n))) .bad
 | .F f N=>.req (cu (bY off n) N) (.ok (.F (fun j=>f (bY off j)) n))
 | _=>.bad
theorem AT {r q:Row} {off n:Nat} (h:(xl r off n).run=some q):off+n=r.len∧r.sub off n=q:=by
 unfold xl at h
 split at h
 · rename_i k z N
   obtain ⟨hc,h⟩:=Tr.aP h
   rw[gb,decide_eq_true_eq,bH] at hc
   refine ⟨by simp only[Row.len,aw,aM];omega,?_⟩
   rw[← Tr.ab h,mr];rfl
 · rename_i l
   obtain ⟨hc,h⟩:=Tr.aR h
   rw[dc] at hc
   have hc:=Nat.eq_of_beq_eq_true hc
   exact ⟨hc,by rw[← Tr.ab h,gr,gV];rfl⟩
 · rename_i f N
   obtain ⟨hc,h⟩:=Tr.aP h
   rw[gb,decide_eq_true_eq,bH] at hc
   refine ⟨hc,?_⟩
   rw[← Tr.ab h]
   simp only[bH]
   rfl
 · exact (Tr.ae h).elim
def DY (P:Program) (nx:Nat) (e:TypeId) (s x:AV):Tr (AV×Delta) :=
 match P.info? e with
 | some inf=>match s with
   | .nils=>match x with
     | .int _ k=>cond (Nat.blt 0 inf.size) (cond (rN P e inf.size) (.req (De k k inf.bytes) (.ite (bJ k (Int.ofNat 0)) (.ok (.nils,.ba)) (.ok (.slc 0 nx 0 0 inf.size (dg k) none,.push (.row (Ew (.I .i64 []))))))) .bad) .bad
     | _=>.bad
   | _=>.bad
 | none=>.bad
theorem DZ {P:Program} {nx:Nat} {e:TypeId} {s x:AV} {y:AV×Delta} (h:(DY P nx e s x).run=some y):DX P true nx e s x=some y:=by
 unfold DY at h
 unfold DX
 split at h
 · rename_i inf hi
   rw[hi]
   split at h
   · split at h
     · rename_i kk k
       obtain ⟨hb,h⟩:=Tr.aR h
       obtain ⟨hz,h⟩:=Tr.aR h
       obtain ⟨hm,h⟩:=Tr.aP h
       rw[wC,decide_eq_true_eq] at hm
       dsimp only
       rw[if_pos ⟨hm.1,hm.2.2.2,hm.2.2.1,Bf hb,tL hz⟩]
       rcases Tr.g5 h with ⟨hc,h⟩ | ⟨hc,h⟩
       · rw[dH,beq_iff_eq] at hc
         rw[if_pos (show k=0 from hc),Tr.ab h]
       · rw[dH,beq_eq_false_iff_ne] at hc
         rw[if_neg (show ¬ k=0 from hc),← Tr.ab h,v7,lu]
     · exact (Tr.ae h).elim
   · exact (Tr.ae h).elim
 · exact (Tr.ae h).elim
def ob (P:Program) (H:aa) (nx:Nat) (t u:TypeId) (s x:AV):Tr (AV×Delta) :=
 match P.underlying t with
 | some (.slice e)=>match P.underlying u with
   | some (.slice _)=>match P.info? e with
     | some inf=>match ny s with
       | some m=>match ny x with
         | some n=>cond (Lb s) (match Lm x,n with
           | true,0=>.ok (s,.ba)
           | true,_=>main P H nx e inf s x m n
           | false,_=>.ite (cu n 0) (.ok (s,.ba)) (main P H nx e inf s x m n)) .bad
         | none=>.bad
       | none=>.bad
     | none=>.bad
   | some (.int _)=>DY P nx e s x
   | _=>.bad
 | _=>.bad
where
 main (P : Program) (H:aa) (nx:Nat) (e:TypeId) (inf:TypeInfo) (s x:AV) (m n:Nat):Tr (AV×Delta) :=
  .req (gx m n inf.bytes) (cond (Nat.blt 0 inf.bytes) (cond (rN P e inf.size) ((r4 H inf.size n x).bind fun new =>
   match s with
   | .nils=>.ok (.slc 0 nx 0 0 inf.size n none,.push (.row (Ew new)))
   | .slcT _ _ _ _ full=>.req full (Br H nx inf.size m n s new)
   | .slc d i v off sz _ (some c)=>.ite (cJ c (bY m n)) (Br H nx inf.size m n s new)
     (cond (fA H d) .bad ((w7 H d i v (some 0)).bind fun r=>cond (Nat.beq sz inf.size) (match r with
       | .M l=>match lr (kn d new) with
         | []=>.bad
         | y::ys=>(zw (bY off (iU m sz)) (some 0) (y::ys) 0 l).bind fun l'=>.ok (.slc d i v off sz (bY m n) (some c),.set d i (v,.row (.M l')))
       | _=>.bad) .bad))
   | .slc d i v off sz _ none=>cond (fA H d) .bad ((w7 H d i v (some 0)).bind fun r=>cond (Nat.beq sz inf.size)
     ((xl r off (iU m sz)).bind fun old=>(Gc old (kn d new)).bind fun r'=>.ok (.slc d i (Nat.succ v) 0 sz (bY m n) none,.set d i (Nat.succ v,.row r'))) .bad)
   | _=>.bad) .bad) .bad)
theorem r5 {H:aa} {sz n:Nat} {x:AV} {q:Row} (h:eE H sz n x=some q):q.len=n*sz:=by
 unfold eE at h
 split at h
 · split at h
   · rename_i hn
     simp only[Option.some.injEq] at h
     rw[← h,hn];simp[Row.len]
   · simp at h
 · split at h
   · split at h
     · rename_i hf
       simp only[Option.some.injEq] at h
       rw[← h,pt,Row.dr _ _ _ hf.2.2]
     · simp at h
   · simp at h
 · split at h
   · rename_i hf
     simp only[Option.some.injEq] at h
     rw[← h]
     split
     · exact Row.dr _ _ _ (by omega)
     · rw[pt,Row.dr _ _ _ (by omega)]
   · simp at h
 · simp at h
theorem x0 {H:aa} {nx sz m n:Nat} {s:AV} {new:Row} {y:AV×Delta} (h:(Br H nx sz m n s new).run=some y):∃ old,eE H sz m s=some old∧y=(.slc 0 nx 0 0 sz (m+n) none,.push (.row (rj true (old.app new)))):=by
 unfold Br at h
 obtain ⟨old,h1,h⟩:=Tr.bind_some h
 obtain ⟨r,h2,h⟩:=Tr.bind_some h
 refine ⟨old,pI h1,?_⟩
 rw[← Tr.ab h,bH,v7,Ba h2]
theorem z4         {P : Program} {H:aa} {nx:Nat} {t u:TypeId} {s x:AV} {y:AV×Delta} (h:(ob P H nx t u s x).run=some y):oc P true H nx t u s x=some y:=by
 unfold ob at h
 unfold oc
 split at h
 · rename_i e ht
   split at h
   · rename_i e' hu
     split at h
     · rename_i inf hi
       split at h
       · rename_i m hm
         split at h
         · rename_i n hn
           obtain ⟨hsl,h⟩:=Tr.aR h
           rw[ht,hu]
           dsimp only
           rw[hi,hm,hn]
           dsimp only
           have hcase:(n=0∧(s,Delta.ba)=y)∨(n≠0∧(ob.main P H nx e inf s x m n).run=some y):=by
            cases hx:Lm x with
            | true =>
              rw[hx] at h
              cases n with
              | zero=>exact .inl ⟨rfl,Tr.ab h⟩
              | succ n=>exact .inr ⟨by omega,h⟩
            | false =>
              rw[hx] at h
              rcases Tr.g5 h with ⟨hc,h⟩ | ⟨hc,h⟩
              · rw[gb,decide_eq_true_eq] at hc
                exact .inl ⟨hc,Tr.ab h⟩
              · rw[gb,decide_eq_false_iff_not] at hc
                exact .inr ⟨hc,h⟩
           clear h
           rcases hcase with ⟨h0,h⟩ | ⟨h0,h⟩
           · rw[if_pos h0]
             cases s<;>simp[Lb] at hsl<;>exact congrArg some h
           rw[if_neg h0]
           unfold ob.main at h
           obtain ⟨hr,h⟩:=Tr.aP h
           rw[zn,decide_eq_true_eq] at hr
           obtain ⟨hb,h⟩:=Tr.aR h
           obtain ⟨hz,h⟩:=Tr.aR h
           obtain ⟨new,h1,h⟩:=Tr.bind_some h
           have hcv:=pI h1
           rw[if_pos ⟨hr.1,hr.2,Bf hb,tL hz⟩,hcv]
           dsimp only
           split at h
           · rw[← Tr.ab h,v7]
           · rename_i sT r szT GV full
             obtain ⟨hf,h⟩:=Tr.aP h
             obtain ⟨old,h2,rfl⟩:=x0 h
             subst hf
             dsimp only
             rw[h2]
           · rename_i d i v off sz len c _ _ _ _ _
             rcases Tr.g5 h with ⟨hc,h⟩ | ⟨hc,h⟩
             · rw[gm,decide_eq_true_eq,bH] at hc
               obtain ⟨old,h2,rfl⟩:=x0 h
               dsimp only
               rw[if_pos hc,h2]
             · rw[gm,decide_eq_false_iff_not,bH] at hc
               dsimp only
               rw[if_neg hc]
               rw[dX] at h
               obtain ⟨hl,h⟩:=Tr.jS h
               obtain ⟨r,h2,h⟩:=Tr.bind_some h
               obtain ⟨hs,h⟩:=Tr.aR h
               have hs:=Nat.eq_of_beq_eq_true hs
               rw[hl,if_neg (by simp),lg h2]
               dsimp only
               split at h
               · rename_i l _
                 rw[nT] at h
                 have hcl:=r5 hcv
                 split at h
                 · exact (Tr.ae h).elim
                 · rename_i y0 ys hy
                   obtain ⟨l',h3,h⟩:=Tr.bind_some h
                   obtain ⟨k1,k2⟩:=tp _ _ _ _ h3
                   rw[bH,cr,Nat.add_zero] at k1 k2
                   have hlen:=Row.bg (kn d new)
                   rw[hy,fq,hcl] at hlen
                   have hfit:off+(m+n)*sz≤(Row.M l).len:=by
                    rcases k1 with k1 | k1
                    · simp at k1
                    · rw[hlen,← hs] at k1
                      rw[Nat.add_mul]
                      show _≤aw l
                      omega
                   rw[if_pos ⟨hs,hfit⟩,hy,k2,← Tr.ab h,bH]
               · exact (Tr.ae h).elim
           · rename_i d i v off sz len _ _ _ _ _
             dsimp only
             rw[dX] at h
             obtain ⟨hl,h⟩:=Tr.jS h
             obtain ⟨r,h2,h⟩:=Tr.bind_some h
             obtain ⟨hs,h⟩:=Tr.aR h
             have hs:=Nat.eq_of_beq_eq_true hs
             obtain ⟨old,h3,h⟩:=Tr.bind_some h
             obtain ⟨r',h4,h⟩:=Tr.bind_some h
             obtain ⟨k1,k2⟩:=AT h3
             rw[cr] at k1 k2
             rw[hl,if_neg (by simp),lg h2]
             dsimp only
             rw[if_pos ⟨hs,k1⟩,k2,Ba h4,← Tr.ab h,bH]
           · exact (Tr.ae h).elim
         · exact (Tr.ae h).elim
       · exact (Tr.ae h).elim
     · exact (Tr.ae h).elim
   · rename_i k' hu
     rw[ht,hu]
     exact DZ h
   · exact (Tr.ae h).elim
 · exact (Tr.ae h).elim

end
end Go.Eng
end
