/- The engine as a tree: slices, numbers, operations. -/
import Derived.Test.YtoomemfhcbajoaaV7EngTb
section
namespace Go.Eng
set_option linter.unusedVariables false
set_option linter.unusedSimpArgs false
noncomputable section

theorem Tr.cond_bad {α:Type} {c:Bool} {t:Tr α} {x:α} (h:(cond c t .bad).run=some x):c=true∧t.run=some x:=by
 cases c with
 | true=>exact ⟨rfl,h⟩
 | false=>exact (Tr.bad_some h).elim
def intT (op:BinOp) (k:IntKind) (x y:Int):Tr AV :=
 match op with
 | .add=>.ok (.int k (addI k x y))
 | .sub=>.ok (.int k (subI k x y))
 | .mul=>.ok (.int k (mulI k x y))
 | .quo=>.req (notB (eqI y 0)) (.ok (.int k (quoI k x y)))
 | .rem=>.req (notB (eqI y 0)) (.ok (.int k (remI k x y)))
 | .and=>.ok (.int k (andI k x y))
 | .or=>.ok (.int k (orI k x y))
 | .xor=>.ok (.int k (xorI k x y))
 | .andNot=>.ok (.int k (anI k x y))
 | .eql=>.ok (.bool (eqI x y))
 | .neq=>.ok (.bool (notB (eqI x y)))
 | .lss=>.ok (.bool (ltI x y))
 | .leq=>.ok (.bool (leI x y))
 | .gtr=>.ok (.bool (ltI y x))
 | .geq=>.ok (.bool (leI y x))
 | _=>.bad
theorem intT_ok {op:BinOp} {k:IntKind} {x y:Int} {v:AV} (h:(intT op k x y).run=some v):intBin op k x y=some v:=by
 unfold intT at h
 unfold intBin
 cases op<;>dsimp only at h ⊢<;>try exact (Tr.bad_some h).elim
 case quo =>
  obtain ⟨hc,h⟩:=Tr.req_some h
  rw[notB_eq,eqI_eq] at hc
  have:¬ y=0:=by simpa using hc
  rw[if_neg this,← Tr.ok_some h,quoI_eq]
 case rem =>
  obtain ⟨hc,h⟩:=Tr.req_some h
  rw[notB_eq,eqI_eq] at hc
  have:¬ y=0:=by simpa using hc
  rw[if_neg this,← Tr.ok_some h,remI_eq]
 all_goals
  have h:=Tr.ok_some h
  subst h
  first
   | rfl
   | (simp only[gt_iff_lt,ge_iff_le,addI_eq,subI_eq,mulI_eq,andI_eq,orI_eq,xorI_eq,anI_eq,eqI_eq,notB_eq,ltI_eq,leI_eq,bne];done)
   | (simp only[addI_eq,subI_eq,mulI_eq,andI_eq,orI_eq,xorI_eq,anI_eq,eqI_eq,notB_eq,ltI_eq,leI_eq];done)
   | (simp only[addI_eq,subI_eq,mulI_eq,andI_eq,orI_eq,xorI_eq,anI_eq,eqI_eq,notB_eq,ltI_eq,leI_eq];rfl)
def listEqT:List Int→List Int→Bool
 | [],[]=>true
 | [x],[y]=>eqI x y
 | x::x'::a,y::y'::b=>andB (eqI x y) (listEqT (x'::a) (y'::b))
 | _,_=>false
theorem listEqT_eq:∀ (l m:List Int),listEqT l m=listEq l m
 | [],[]=>rfl
 | [],_::_=>by simp[listEqT,listEq]
 | _::_,[]=>by simp[listEqT,listEq]
 | [x],[y]=>by simp[listEqT,listEq,eqI_eq]
 | [x],y::y'::b=>by simp[listEqT,listEq]
 | x::x'::a,[y]=>by simp[listEqT,listEq]
 | x::x'::a,y::y'::b=>by
   simp only[listEqT]
   rw[andB_eq,eqI_eq,listEqT_eq (x'::a) (y'::b)];rfl
def intsT (r:Row):Option (IntKind×(Nat→Int)) :=
 match r with
 | .I k l=>some (k,lstO l)
 | .M [.arr k z _]=>some (k,z)
 | _=>none
theorem intsT_eq (r:Row):intsT r=r.ints:=by
 match r with
 | .I k l=>simp only[intsT,Row.ints,lstO_fn]
 | .G l=>rfl
 | .F f n=>rfl
 | .M []=>rfl
 | .M [.arr k z n]=>rfl
 | .M (.one v::r)=>rfl
 | .M (.arr k z n::s::r)=>rfl
def eqT (P:Program) (t:TypeId) (x y:AV):Tr Bool :=
 match x,y with
 | .bool a,.bool b=>match P.underlying t with
   | some .bool=>.ok (eqB a b)
   | _=>.bad
 | .nils,.slcT s r sz n f=>match P.underlying t with
   | some (.slice _)=>.req (ltN 0 n) (.ok false)
   | _=>.bad
 | .slcT s r sz n f,.nils=>match P.underlying t with
   | some (.slice _)=>.req (ltN 0 n) (.ok false)
   | _=>.bad
 | .agg (.I k a),.agg (.I k' b)=>cond (kindX k k') (match flatN P 20 t with
   | some n=>match aggT P t with
     | some true=>cond (Nat.beq n (lenX a)) (cond (Nat.beq (lenX a) (lenX b)) (.ok (listEqT a b)) .bad) .bad
     | _=>.bad
   | none=>.bad) .bad
 | .agg (.M l),.agg s=>eqMT P t (.M l) s
 | .agg (.I k a),.agg (.M l)=>eqMT P t (.I k a) (.M l)
 | x,y=>ofO (eqV P t x y)
where
 eqMT (P:Program) (t:TypeId) (r s:Row):Tr Bool :=
  match intsT r,intsT s with
  | some (k,z),some (k',z')=>cond (kindX k k') (match flatN P 20 t with
    | some n=>match aggT P t with
      | some true=>cond (Nat.beq n (rlenX r)) (cond (Nat.beq (rlenX r) (rlenX s)) (.ok (alleqO z z' (rlenX r))) .bad) .bad
      | _=>.bad
    | none=>.bad) .bad
  | _,_=>.bad
theorem eqMT_ok {P:Program} {t:TypeId} {r s:Row} {b:Bool} (h:(eqT.eqMT P t r s).run=some b):eqM P t r s=some b:=by
 unfold eqT.eqMT at h
 rw[intsT_eq,intsT_eq] at h
 unfold eqM
 split at h
 · rename_i k z k' z' h1 h2
   rw[h1,h2]
   obtain ⟨hk,h⟩:=Tr.cond_bad h
   rw[kindX_eq,decide_eq_true_eq] at hk
   split at h
   · rename_i n hn
     split at h
     · rename_i ha
       obtain ⟨e1,h⟩:=Tr.cond_bad h
       obtain ⟨e2,h⟩:=Tr.cond_bad h
       rw[rlenX_eq] at e1 e2 h
       rw[rlenX_eq] at e2
       have e1:n=r.len:=by simpa using e1
       have e2:r.len=s.len:=by simpa using e2
       dsimp only
       rw[if_pos ⟨hk,by rw[hn,e1],ha,e2⟩,← Tr.ok_some h,alleqO_eq]
     · exact (Tr.bad_some h).elim
   · exact (Tr.bad_some h).elim
 · exact (Tr.bad_some h).elim
theorem eqT_ok {P:Program} {t:TypeId} {x y:AV} {b:Bool} (h:(eqT P t x y).run=some b):eqV P t x y=some b:=by
 unfold eqT at h
 split at h
 · split at h
   · rename_i hu
     unfold eqV
     dsimp only
     rw[hu,← Tr.ok_some h,eqB_eq]
   · exact (Tr.bad_some h).elim
 · split at h
   · rename_i hu
     obtain ⟨hc,h⟩:=Tr.req_some h
     rw[ltN_eq,decide_eq_true_eq] at hc
     unfold eqV
     dsimp only
     rw[hu]
     dsimp only
     rw[if_pos hc,Tr.ok_some h]
   · exact (Tr.bad_some h).elim
 · split at h
   · rename_i hu
     obtain ⟨hc,h⟩:=Tr.req_some h
     rw[ltN_eq,decide_eq_true_eq] at hc
     unfold eqV
     dsimp only
     rw[hu]
     dsimp only
     rw[if_pos hc,Tr.ok_some h]
   · exact (Tr.bad_some h).elim
 · obtain ⟨hk,h⟩:=Tr.cond_bad h
   rw[kindX_eq,decide_eq_true_eq] at hk
   split at h
   · rename_i n hn
     split at h
     · rename_i ha
       obtain ⟨e1,h⟩:=Tr.cond_bad h
       obtain ⟨e2,h⟩:=Tr.cond_bad h
       rw[lenX_eq] at e1 e2
       rw[lenX_eq] at e2
       have e1:=Nat.eq_of_beq_eq_true e1
       have e2:=Nat.eq_of_beq_eq_true e2
       unfold eqV
       dsimp only
       rw[if_pos ⟨hk,by rw[hn,e1],ha,e2⟩,← Tr.ok_some h,listEqT_eq]
     · exact (Tr.bad_some h).elim
   · exact (Tr.bad_some h).elim
 · unfold eqV;exact eqMT_ok h
 · unfold eqV;exact eqMT_ok h
 · rw[ofO_run] at h;exact h
def binT (P:Program) (op:BinOp) (t:TypeId) (x y:AV):Tr AV :=
 match x,y with
 | .int k a,.int k' b=>match op with
   | .shl=>.req (leI 0 b) (.ok (.int k (shlI k a b)))
   | .shr=>.req (leI 0 b) (.ok (.int k (shrI k a b)))
   | op=>cond (kindX k k') (intT op k a b) .bad
 | x,y=>match op with
   | .eql=>(eqT P t x y).bind fun b=>.ok (.bool b)
   | .neq=>(eqT P t x y).bind fun b=>.ok (.bool (notB b))
   | _=>.bad
theorem binT_ok {P:Program} {op:BinOp} {t:TypeId} {x y v:AV} (h:(binT P op t x y).run=some v):binV P op t x y=some v:=by
 unfold binT at h
 split at h
 · rename_i k a k' b
   split at h
   · obtain ⟨hc,h⟩:=Tr.req_some h
     rw[leI_eq,decide_eq_true_eq] at hc
     unfold binV
     dsimp only
     rw[if_neg (by omega),← Tr.ok_some h,shlI_eq]
   · obtain ⟨hc,h⟩:=Tr.req_some h
     rw[leI_eq,decide_eq_true_eq] at hc
     unfold binV
     dsimp only
     rw[if_neg (by omega),← Tr.ok_some h,shrI_eq]
   · rename_i h1 h2
     obtain ⟨hk,h⟩:=Tr.cond_bad h
     rw[kindX_eq,decide_eq_true_eq] at hk
     have:binV P op t (.int k a) (.int k' b)=if k=k' then intBin op k a b else none:=by
      unfold binV
      cases op<;>first | rfl | exact (h1 rfl).elim | exact (h2 rfl).elim
     rw[this,if_pos hk]
     exact intT_ok h
 · rename_i hn
   split at h
   · obtain ⟨b,h1,h⟩:=Tr.bind_some h
     have h2:=eqT_ok h1
     have:binV P .eql t x y=(eqV P t x y).map .bool:=by
      unfold binV
      cases x<;>cases y<;>first | rfl | exact (hn _ _ _ _ rfl rfl).elim
     rw[this,h2,← Tr.ok_some h];rfl
   · obtain ⟨b,h1,h⟩:=Tr.bind_some h
     have h2:=eqT_ok h1
     have:binV P .neq t x y=(eqV P t x y).map fun b=>.bool (!b):=by
      unfold binV
      cases x<;>cases y<;>first | rfl | exact (hn _ _ _ _ rfl rfl).elim
     rw[this,h2,← Tr.ok_some h,notB_eq];rfl
   · exact (Tr.bad_some h).elim
def unT (op:UnOp) (x:AV):Tr AV :=
 match op,x with
 | .not,.bool b=>.ok (.bool (notB b))
 | .neg,.int k n=>.ok (.int k (negI k n))
 | _,_=>.bad
theorem unT_ok {op:UnOp} {x v:AV} (h:(unT op x).run=some v):unV op x=some v:=by
 unfold unT at h
 split at h
 · rw[← Tr.ok_some h,notB_eq];rfl
 · rw[← Tr.ok_some h,negI_eq];rfl
 · exact (Tr.bad_some h).elim
def minmaxT (mx:Bool) (k:IntKind) (x:Int):List AV→Tr AV
 | []=>.ok (.int k x)
 | v::r=>match v with
   | .int k' y=>cond (kindX k k') (minmaxT mx k (cond mx (maxO x y) (minO x y)) r) .bad
   | _=>.bad
theorem minmaxT_ok {mx:Bool} {k:IntKind}:∀ (l:List AV) (x:Int) (v:AV),(minmaxT mx k x l).run=some v→minmaxFrom mx k x l=some v
 | [],x,v,h=>by rw[← Tr.ok_some h];rfl
 | u :: r,x,v,h=>by
   simp only[minmaxT] at h
   split at h
   · rename_i k' y
     obtain ⟨hk,h⟩:=Tr.cond_bad h
     rw[kindX_eq,decide_eq_true_eq] at hk
     simp only[minmaxFrom]
     rw[if_pos hk,← minmaxT_ok r _ v h,maxO_eq,minO_eq]
     cases mx<;>rfl
   · exact (Tr.bad_some h).elim

def mulS (a sz:Nat):Nat :=
 match sz with
 | 1=>a
 | s=>mulO a s
theorem mulS_eq (a sz:Nat):mulS a sz=a*sz:=by
 unfold mulS
 split
 · rw[Nat.mul_one]
 · rw[mulO_eq]
abbrev Bnd:=Option Nat×Nat×Option Nat
def boundsT (lo hi mx:Option AV) (len:Nat):Tr Bnd :=
 match mx with
 | none=>(match hi with
    | none=>.ok len
    | some (.int _ i)=>.req (bndI i len) (.ok (toN i))
    | some _=>.bad:Tr Nat).bind fun h=>(match lo with
    | none=>.ok (none,h,none)
    | some (.int _ i)=>.req (bndI i h) (.ok (some (toN i),h,none))
    | some _=>.bad)
 | some (.int _ m)=>.req (bndI m len) (match hi with
    | some (.int _ i)=>.req (bndI i (toN m)) (match lo with
      | none=>.ok (none,toN i,some (toN m))
      | some (.int _ j)=>.req (bndI j (toN i)) (.ok (some (toN j),toN i,some (toN m)))
      | some _=>.bad)
    | _=>.bad)
 | some _=>.bad
def loN (l:Option Nat):Nat :=
 match l with
 | none=>0
 | some l=>l
theorem boundT_some {i:Int} {k:IntKind} {d top:Nat} (h:bndI i top=true):bound (some (.int k i)) d top=some (toN i):=by
 rw[bndI_eq,decide_eq_true_eq] at h
 simp only[bound]
 rw[if_pos h,toN_eq]
theorem boundsT_ok {lo hi mx:Option AV} {len:Nat} {b:Bnd} (h:(boundsT lo hi mx len).run=some b):boundsV lo hi mx len=some (loN b.1,b.2.1,b.2.2):=by
 unfold boundsT at h
 unfold boundsV
 split at h
 · obtain ⟨h',h1,h⟩:=Tr.bind_some h
   have e1:bound hi len len=some h':=by
    split at h1
    · rw[← Tr.ok_some h1];rfl
    · obtain ⟨hc,h1⟩:=Tr.req_some h1
      rw[boundT_some hc,Tr.ok_some h1]
    · exact (Tr.bad_some h1).elim
   dsimp only
   rw[e1]
   dsimp only
   split at h
   · rw[← Tr.ok_some h];rfl
   · obtain ⟨hc,h⟩:=Tr.req_some h
     rw[boundT_some hc,← Tr.ok_some h];rfl
   · exact (Tr.bad_some h).elim
 · rename_i k m
   obtain ⟨hm,h⟩:=Tr.req_some h
   dsimp only
   rw[boundT_some hm]
   dsimp only
   split at h
   · rename_i k' i
     obtain ⟨hi,h⟩:=Tr.req_some h
     simp only[Option.isSome_some,if_true]
     rw[boundT_some hi]
     dsimp only
     split at h
     · rw[← Tr.ok_some h];rfl
     · obtain ⟨hc,h⟩:=Tr.req_some h
       rw[boundT_some hc,← Tr.ok_some h];rfl
     · exact (Tr.bad_some h).elim
   · exact (Tr.bad_some h).elim
 · exact (Tr.bad_some h).elim
def subL (a:Nat) (l:Option Nat):Nat :=
 match l with
 | none=>a
 | some l=>subO a l
theorem subL_eq (a:Nat) (l:Option Nat):subL a l=a-loN l:=by
 cases l with
 | none=>rfl
 | some l=>exact subO_eq a l
def addL (off:Nat) (l:Option Nat) (sz:Nat):Nat :=
 match l with
 | none=>off
 | some l=>addO off (mulS l sz)
theorem addL_eq (off:Nat) (l:Option Nat) (sz:Nat):addL off l sz=off+loN l*sz:=by
 cases l with
 | none=>simp[addL,loN]
 | some l=>simp only[addL,loN,addO_eq,mulS_eq]
def subRT (r:Row) (l:Option Nat) (sz n:Nat):Tr Row :=
 match r with
 | .M [.arr k z N]=>.req (leN (addO (mulS (loN l) sz) n) N) (.ok (.M [.arr k (match l with | none=>z | some l=>shO z (mulS l sz)) n]))
 | .F f N=>.req (leN (addO (mulS (loN l) sz) n) N) (.ok (.F (match l with | none=>f | some l=>fun j=>f (addO (mulS l sz) j)) n))
 | _=>.bad
theorem subRT_ok {r q:Row} {l:Option Nat} {sz n:Nat} (h:(subRT r l sz n).run=some q):loN l*sz+n≤r.len∧r.sub (loN l*sz) n=q:=by
 unfold subRT at h
 split at h
 · rename_i k z N
   obtain ⟨hc,h⟩:=Tr.req_some h
   rw[leN_eq,decide_eq_true_eq,addO_eq,mulS_eq] at hc
   refine ⟨by simp only[Row.len,lenM,segLen];omega,?_⟩
   rw[← Tr.ok_some h]
   cases l with
   | none=>simp only[Row.sub,loN,Nat.zero_mul,Nat.zero_add]
   | some l=>simp only[Row.sub,loN,shO_fn,mulS_eq]
 · rename_i f N
   obtain ⟨hc,h⟩:=Tr.req_some h
   rw[leN_eq,decide_eq_true_eq,addO_eq,mulS_eq] at hc
   refine ⟨by simp only[Row.len];omega,?_⟩
   rw[← Tr.ok_some h]
   cases l with
   | none=>simp only[Row.sub,loN,Nat.zero_mul,Nat.zero_add]
   | some l=>simp only[Row.sub,loN,addO_eq,mulS_eq]
 · exact (Tr.bad_some h).elim
def isN (o:Option AV):Bool :=
 match o with
 | none=>true
 | some _=>false
def fullT (mm:Option Nat) (full hiN:Bool) (h len:Nat):Bool :=
 match mm with
 | none=>cond hiN full (andB full (eqN h len))
 | some m=>eqN h m
def sliceT (P:Program) (t:TypeId) (x:AV) (lo hi mx:Option AV):Tr AV :=
 match P.underlying t with
 | some (.slice e)=>match sizeT P e with
   | some z=>match x with
     | .slc d j v off sz len cap=>cond (Nat.beq z sz) ((boundsT lo hi mx len).bind fun b=>.ok (.slc d j v (addL off b.1 sz) sz (subL b.2.1 b.1) (match b.2.2 with
       | none=>match cap with | none=>none | some c=>some (subL c b.1)
       | some m=>some (subL m b.1)))) .bad
     | .slcT s r sz len full=>cond (Nat.beq z sz) ((boundsT lo hi mx len).bind fun b=>(subRT r b.1 sz (mulS (subL b.2.1 b.1) sz)).bind fun q=>.ok (.slcT s q sz (subL b.2.1 b.1) (fullT b.2.2 full (isN hi) b.2.1 len))) .bad
     | .nils=>(boundsT lo hi mx 0).bind fun _=>.ok .nils
     | _=>.bad
   | none=>.bad
 | some (.array n e)=>match sizeT P e with
   | some sz=>match x with
     | .ptr d j v off=>(boundsT lo hi mx n).bind fun b=>.ok (.slc d j v (addL off b.1 sz) sz (subL b.2.1 b.1) (match b.2.2 with
       | none=>some (subL n b.1)
       | some m=>some (subL m b.1)))
     | _=>.bad
   | none=>.bad
 | _=>.bad
theorem sliceT_ok {P:Program} {t:TypeId} {x v:AV} {lo hi mx:Option AV} (h:(sliceT P t x lo hi mx).run=some v):sliceV P t x lo hi mx=some v:=by
 unfold sliceT at h
 unfold sliceV
 split at h
 · rename_i e hu
   split at h
   · rename_i z hs
     split at h
     · rename_i d j ver off sz len cap
       obtain ⟨hz,h⟩:=Tr.cond_bad h
       have hz:z=sz:=by simpa using hz
       subst hz
       obtain ⟨b,h1,h⟩:=Tr.bind_some h
       rw[hu]
       dsimp only
       rw[boundsT_ok h1]
       dsimp only
       rw[if_pos hs,← Tr.ok_some h,addL_eq,subL_eq]
       obtain ⟨b1,b2,b3⟩:=b
       cases b3<;>cases cap<;>simp only[subL_eq,Option.map_some,Option.map_none]
     · rename_i s r sz len full
       obtain ⟨hz,h⟩:=Tr.cond_bad h
       have hz:z=sz:=by simpa using hz
       subst hz
       obtain ⟨b,h1,h⟩:=Tr.bind_some h
       obtain ⟨q,h2,h⟩:=Tr.bind_some h
       rw[hu]
       dsimp only
       have hb:=boundsT_ok h1
       rw[hb]
       dsimp only
       obtain ⟨k1,k2⟩:=subRT_ok h2
       rw[mulS_eq,subL_eq] at k1 k2
       rw[if_pos ⟨hs,k1⟩,k2,← Tr.ok_some h,subL_eq]
       congr 2
       obtain ⟨b1,b2,b3⟩:=b
       dsimp only at hb ⊢
       cases b3 with
       | some m=>simp only[fullT,eqN_eq];rw[Bool.eq_iff_iff];simp
       | none =>
         simp only[fullT]
         cases hi with
         | some a =>
           simp only[isN,cond_false,andB_eq,eqN_eq]
           congr 1
           rw[Bool.eq_iff_iff];simp
         | none =>
           simp only[isN,cond_true]
           have:b2=len:=by
            unfold boundsV at hb
            cases mx with
            | none =>
              dsimp only[bound] at hb
              split at hb
              · simp only[nP] at hb;exact hb.2.1.symm
              · simp at hb
            | some a =>
              dsimp only at hb
              split at hb
              · simp at hb
              · simp at hb
           rw[this];simp
     · obtain ⟨b,h1,h⟩:=Tr.bind_some h
       rw[hu]
       dsimp only
       rw[boundsT_ok h1,hs,← Tr.ok_some h]
     · exact (Tr.bad_some h).elim
   · exact (Tr.bad_some h).elim
 · rename_i n e hu
   split at h
   · rename_i sz hs
     split at h
     · rename_i d j ver off
       obtain ⟨b,h1,h⟩:=Tr.bind_some h
       rw[hu]
       dsimp only
       rw[boundsT_ok h1]
       dsimp only
       rw[hs,← Tr.ok_some h,addL_eq,subL_eq]
       obtain ⟨b1,b2,b3⟩:=b
       cases b3<;>simp only[subL_eq]
     · exact (Tr.bad_some h).elim
   · exact (Tr.bad_some h).elim
 · exact (Tr.bad_some h).elim

def cellsT (H:Heap) (sz n:Nat) (x:AV):Tr Row :=
 match x with
 | .slc d i v off sz' len cap=>(rowT H d i v (some 0)).bind fun r=>cond (Nat.beq sz' sz) (.req (leN n len) (match r with
    | .M [.arr k z N]=>.req (inO off (mulS n sz) 0 N) (.ok (.M [.arr k (shO z off) (mulS n sz)]))
    | .I k l=>cond (fitX (.I k l) off (Nat.mul n sz)) (.ok (upR d (Row.I k (takeX (dropX l off) (Nat.mul n sz))))) .bad
    | .G l=>cond (fitX (.G l) off (Nat.mul n sz)) (.ok (upR d (Row.G (takeX (dropX l off) (Nat.mul n sz))))) .bad
    | .F f N=>.req (inO off (mulS n sz) 0 N) (.ok (.F (fun j=>f (addO off j)) (mulS n sz)))
    | _=>.bad)) .bad
 | .slcT s r sz' len _=>cond (Nat.beq sz' sz) (.req (leN n len) ((subRT r none sz (mulS n sz)).bind fun q=>.ok (match s with | none=>q | some k=>upR k q))) .bad
 | _=>.bad
theorem upR_M (d:Nat) (k:IntKind) (z:Nat→Int) (n:Nat):upR d (.M [.arr k z n])=.M [.arr k z n]:=by cases d<;>rfl
theorem upR_F (d:Nat) (f:Nat→AV) (n:Nat):upR d (.F f n)=.F f n:=by cases d<;>rfl
theorem cellsT_ok {H:Heap} {sz n:Nat} {x:AV} {q:Row} (h:(cellsT H sz n x).run=some q):cellsV H sz n x=some q:=by
 unfold cellsT at h
 split at h
 · rename_i d i v off sz' len cap
   obtain ⟨r,h1,h⟩:=Tr.bind_some h
   obtain ⟨hz,h⟩:=Tr.cond_bad h
   have hz:sz'=sz:=by simpa using hz
   obtain ⟨hc,h⟩:=Tr.req_some h
   rw[leN_eq,decide_eq_true_eq] at hc
   unfold cellsV
   dsimp only
   rw[rowT_ok h1]
   dsimp only
   split at h
   · rename_i k z N
     obtain ⟨hc2,h⟩:=Tr.req_some h
     rw[inO_eq,decide_eq_true_eq,mulS_eq] at hc2
     rw[if_pos ⟨hz,hc,by simp only[Row.len,lenM,segLen];omega⟩,← Tr.ok_some h]
     simp only[Row.sub,upR_M,shO_fn,mulS_eq]
   · rename_i k l
     obtain ⟨hc2,h⟩:=Tr.cond_bad h
     rw[fitX_eq,decide_eq_true_eq] at hc2
     rw[if_pos ⟨hz,hc,hc2⟩,← Tr.ok_some h,takeX_eq,dropX_eq]
     rfl
   · rename_i l
     obtain ⟨hc2,h⟩:=Tr.cond_bad h
     rw[fitX_eq,decide_eq_true_eq] at hc2
     rw[if_pos ⟨hz,hc,hc2⟩,← Tr.ok_some h,takeX_eq,dropX_eq]
     rfl
   · rename_i f N
     obtain ⟨hc2,h⟩:=Tr.req_some h
     rw[inO_eq,decide_eq_true_eq,mulS_eq] at hc2
     rw[if_pos ⟨hz,hc,by simp only[Row.len];omega⟩,← Tr.ok_some h]
     simp only[Row.sub,upR_F,addO_eq,mulS_eq]
   · exact (Tr.bad_some h).elim
 · rename_i s r sz' len full
   obtain ⟨hz,h⟩:=Tr.cond_bad h
   have hz:sz'=sz:=by simpa using hz
   obtain ⟨hc,h⟩:=Tr.req_some h
   rw[leN_eq,decide_eq_true_eq] at hc
   obtain ⟨q',h1,h⟩:=Tr.bind_some h
   obtain ⟨k1,k2⟩:=subRT_ok h1
   rw[mulS_eq] at k1 k2
   simp only[loN,Nat.zero_mul,Nat.zero_add] at k1 k2
   unfold cellsV
   dsimp only
   rw[if_pos ⟨hz,hc,k1⟩,← Tr.ok_some h,k2]
   cases s<;>rfl
 · exact (Tr.bad_some h).elim

end
end Go.Eng
end
section
namespace Go.Eng
set_option linter.unusedVariables false
set_option linter.unusedSimpArgs false
noncomputable section

theorem Tr.cond_bad' {α:Type} {c:Bool} {t:Tr α} {x:α} (h:(cond c .bad t).run=some x):c=false∧t.run=some x:=by
 cases c with
 | false=>exact ⟨rfl,h⟩
 | true=>exact (Tr.bad_some h).elim

def normT:AV→AV
 | .slcT none (.I k l) sz m _=>.slcT none (.M [.arr k (lstO l) (lenX l)]) sz m false
 | .slcT none (.M [.arr k z n]) sz m _=>.slcT none (.M [.arr k z n]) sz m false
 | v=>v
theorem normT_eq (v:AV):normT v=normS v:=by
 unfold normT normS
 split
 · simp only[lstO_fn,lenX_eq]
 · rfl
 · rename_i h1 h2
   split
   · exact absurd rfl (h1 _ _ _ _ _)
   · exact absurd rfl (h2 _ _ _ _ _ _)
   · rfl
def finT (r:Row):Row :=
 match r with
 | .I k l=>.M [.arr k (lstO l) (lenX l)]
 | .G [v]=>cond (isSl1 v) (.F (fun _=>normT v) 1) (.G [v])
 | r=>r
theorem finT_eq (r:Row):finT r=finR true r:=by
 cases r with
 | I k l=>simp only[finT,finR,if_true,lstO_fn,lenX_eq]
 | F f n=>rfl
 | M l=>rfl
 | G l =>
   match l with
   | []=>rfl
   | [v] =>
     show cond (isSl1 v) (Row.F (fun _=>normT v) 1) (Row.G [v])=if (true && isSl1 v)=true then Row.F (fun _=>normS v) 1 else Row.G [v]
     rw[normT_eq]
     cases isSl1 v<;>rfl
   | a::b::r=>rfl
def zOf:AV→Nat→Int
 | .slcT _ (.M [.arr _ z _]) _ _ _=>z
 | _=>fun _=>0
def nOf:AV→Nat
 | .slcT _ (.M [.arr _ _ n]) _ _ _=>n
 | _=>0
def mOf:AV→Nat
 | .slcT _ _ _ m _=>m
 | _=>0
def appT (r s:Row):Tr Row :=
 match r with
 | .M [.arr k z n]=>match intsT s with
   | some (k',z')=>cond (kindX k' k) (.ok (.M [.arr k (appO z n z') (addO n (rlenX s))])) .bad
   | none=>.bad
 | .I k l=>match s with
   | .I k' l'=>cond (kindX k' k) (.ok (.I k (appX l l'))) .bad
   | .M [.arr k' z' n']=>cond (kindX k' k) (.ok (.M [.arr k (appO (lstO l) (lenX l) z') (addO (lenX l) n')])) .bad
   | _=>.bad
 | .G l=>match s with
   | .G l'=>.ok (.G (appX l l'))
   | _=>.bad
 | .F f n=>match s with
   | .G [v]=>cond (isSl1 v) (match normT v with
     | .slcT none (.M [.arr k z N]) sz m full=>.reqP (allS f k sz full)
       (.ok (.F (fun j=>.slcT none (.M [.arr k (selZ (ltN j n) (zOf (f j)) z) (selN (ltN j n) (nOf (f j)) N)]) sz (selN (ltN j n) (mOf (f j)) m) full) (addO n 1)))
     | _=>.bad) .bad
   | _=>.bad
 | _=>.bad
theorem appT_ok {r s q:Row} (h:(appT r s).run=some q):r.app s=q:=by
 unfold appT at h
 split at h
 · rename_i k z n
   rw[intsT_eq] at h
   split at h
   · rename_i k' z' hi
     obtain ⟨hk,h⟩:=Tr.cond_bad h
     rw[kindX_eq,decide_eq_true_eq] at hk
     have e:Row.app (.M [.arr k z n]) s=(match (Row.M [.arr k z n]).appI s with | some q=>q | none=>.G ((Row.M [.arr k z n]).toList++s.toList)):=by
      cases s<;>rfl
     rw[e]
     unfold Row.appI
     rw[hi]
     dsimp only[Row.ints]
     rw[if_pos hk,← Tr.ok_some h,appO_fn,addO_eq,rlenX_eq]
     rfl
   · exact (Tr.bad_some h).elim
 · rename_i k l
   split at h
   · rename_i k' l'
     obtain ⟨hk,h⟩:=Tr.cond_bad h
     rw[kindX_eq,decide_eq_true_eq] at hk
     simp only[Row.app]
     rw[if_pos hk,← Tr.ok_some h,appX_eq]
   · rename_i k' z' n'
     obtain ⟨hk,h⟩:=Tr.cond_bad h
     rw[kindX_eq,decide_eq_true_eq] at hk
     simp only[Row.app]
     unfold Row.appI
     dsimp only[Row.ints]
     rw[if_pos hk,← Tr.ok_some h,appO_fn,addO_eq,lenX_eq,lstO_fn]
     rfl
   · exact (Tr.bad_some h).elim
 · split at h
   · rw[← Tr.ok_some h,appX_eq];rfl
   · exact (Tr.bad_some h).elim
 · rename_i f n
   split at h
   · rename_i v
     obtain ⟨hv,h⟩:=Tr.cond_bad h
     split at h
     · rename_i k z N sz m full hn
       obtain ⟨hf,h⟩:=Tr.reqP_some h
       rw[normT_eq] at hn
       rw[← Tr.ok_some h,addO_eq]
       show Row.F _ _=Row.F _ _
       congr 1
       funext j
       simp only[selZ_eq,selN_eq,ltN_eq]
       by_cases e:j<n
       · have hb:Nat.blt j n=true:=by rw[Nat.blt_eq];exact e
         rw[hb,if_pos rfl,decide_eq_true e]
         rw[allS_eq] at hf
         obtain ⟨z',n',m',e'⟩:=hf j
         rw[e'];rfl
       · have hb:Nat.blt j n=false:=by
          cases hb:Nat.blt j n with
          | false=>rfl
          | true=>rw[Nat.blt_eq] at hb;exact absurd hb e
         rw[hb,if_neg (by simp),decide_eq_false e]
         show (if pureV v=true then normS v else .undef)=_
         rw[if_pos (isSl1_pure hv),hn]
         rfl
     · exact (Tr.bad_some h).elim
   · exact (Tr.bad_some h).elim
 · exact (Tr.bad_some h).elim
def litX (x:AV):Bool :=
 match x with
 | .slc _ _ _ _ _ _ (some _)=>true
 | _=>false
def isSl (s:AV):Bool :=
 match s with
 | .nils | .slc .. | .slcT ..=>true
 | _=>false
def zeroFit (P:Program) (e:TypeId) (n:Nat):Bool :=
 match (zeroT P e).bind AV.row with
 | some z=>Nat.beq (rlenX z) n
 | none=>false
theorem zeroFit_ok {P:Program} {e:TypeId} {n:Nat} (h:zeroFit P e n=true):((zeroT P e).bind AV.row).map Row.len=some n:=by
 unfold zeroFit at h
 split at h
 · rename_i z hz
   rw[rlenX_eq] at h
   have h:=Nat.eq_of_beq_eq_true h
   rw[hz,Option.map_some,h]
 · simp at h
def growT (H:Heap) (nx sz m n:Nat) (s:AV) (new:Row):Tr (AV×Delta) :=
 (cellsT H sz m s).bind fun old=>(appT old new).bind fun r=>.ok (.slc 0 nx 0 0 sz (addO m n) none,.push (.row (finT r)))
def subOffT (r:Row) (off n:Nat):Tr Row :=
 match r with
 | .M [.arr k z N]=>.req (eqN (addO off n) N) (.ok (.M [.arr k (shO z off) n]))
 | .G l=>cond (Nat.beq (Nat.add off n) (lenX l)) (.ok (.G (takeX (dropX l off) n))) .bad
 | .F f N=>.req (eqN (addO off n) N) (.ok (.F (fun j=>f (addO off j)) n))
 | _=>.bad
theorem subOffT_ok {r q:Row} {off n:Nat} (h:(subOffT r off n).run=some q):off+n=r.len∧r.sub off n=q:=by
 unfold subOffT at h
 split at h
 · rename_i k z N
   obtain ⟨hc,h⟩:=Tr.req_some h
   rw[eqN_eq,decide_eq_true_eq,addO_eq] at hc
   refine ⟨by simp only[Row.len,lenM,segLen];omega,?_⟩
   rw[← Tr.ok_some h,shO_fn];rfl
 · rename_i l
   obtain ⟨hc,h⟩:=Tr.cond_bad h
   rw[lenX_eq] at hc
   have hc:=Nat.eq_of_beq_eq_true hc
   exact ⟨hc,by rw[← Tr.ok_some h,takeX_eq,dropX_eq];rfl⟩
 · rename_i f N
   obtain ⟨hc,h⟩:=Tr.req_some h
   rw[eqN_eq,decide_eq_true_eq,addO_eq] at hc
   refine ⟨hc,?_⟩
   rw[← Tr.ok_some h]
   simp only[addO_eq]
   rfl
 · exact (Tr.bad_some h).elim
def appendT (P:Program) (H:Heap) (nx:Nat) (t u:TypeId) (s x:AV):Tr (AV×Delta) :=
 match P.underlying t with
 | some (.slice e)=>match P.underlying u with
   | some (.slice _)=>match P.info? e with
     | some inf=>match lenS s with
       | some m=>match lenS x with
         | some n=>cond (isSl s) (match litX x,n with
           | true,0=>.ok (s,.keep)
           | true,_=>main P H nx e inf s x m n
           | false,_=>.ite (eqN n 0) (.ok (s,.keep)) (main P H nx e inf s x m n)) .bad
         | none=>.bad
       | none=>.bad
     | none=>.bad
   | _=>.bad
 | _=>.bad
where
 main (P : Program) (H:Heap) (nx:Nat) (e:TypeId) (inf:TypeInfo) (s x:AV) (m n:Nat):Tr (AV×Delta) :=
  .req (roomO m n inf.bytes) (cond (Nat.blt 0 inf.bytes) (cond (zeroFit P e inf.size) ((cellsT H inf.size n x).bind fun new =>
   match s with
   | .nils=>.ok (.slc 0 nx 0 0 inf.size n none,.push (.row (finT new)))
   | .slcT _ _ _ _ full=>.req full (growT H nx inf.size m n s new)
   | .slc d i v off sz _ (some c)=>.ite (ltN c (addO m n)) (growT H nx inf.size m n s new)
     (cond (hLockX H d) .bad ((rowT H d i v (some 0)).bind fun r=>cond (Nat.beq sz inf.size) (match r with
       | .M l=>match toListX (dnR d new) with
         | []=>.bad
         | y::ys=>(setLT (addO off (mulS m sz)) (some 0) (y::ys) 0 l).bind fun l'=>.ok (.slc d i v off sz (addO m n) (some c),.set d i (v,.row (.M l')))
       | _=>.bad) .bad))
   | .slc d i v off sz _ none=>cond (hLockX H d) .bad ((rowT H d i v (some 0)).bind fun r=>cond (Nat.beq sz inf.size)
     ((subOffT r off (mulS m sz)).bind fun old=>(appT old (dnR d new)).bind fun r'=>.ok (.slc d i (Nat.succ v) 0 sz (addO m n) none,.set d i (Nat.succ v,.row r'))) .bad)
   | _=>.bad) .bad) .bad)
theorem cellsV_len {H:Heap} {sz n:Nat} {x:AV} {q:Row} (h:cellsV H sz n x=some q):q.len=n*sz:=by
 unfold cellsV at h
 split at h
 · split at h
   · rename_i hn
     simp only[Option.some.injEq] at h
     rw[← h,hn];simp[Row.len]
   · simp at h
 · split at h
   · split at h
     · rename_i hf
       simp only[Option.some.injEq] at h
       rw[← h,upR_len,Row.sub_len _ _ _ hf.2.2]
     · simp at h
   · simp at h
 · split at h
   · rename_i hf
     simp only[Option.some.injEq] at h
     rw[← h]
     split
     · exact Row.sub_len _ _ _ (by omega)
     · rw[upR_len,Row.sub_len _ _ _ (by omega)]
   · simp at h
 · simp at h
theorem growT_ok {H:Heap} {nx sz m n:Nat} {s:AV} {new:Row} {y:AV×Delta} (h:(growT H nx sz m n s new).run=some y):∃ old,cellsV H sz m s=some old∧y=(.slc 0 nx 0 0 sz (m+n) none,.push (.row (finR true (old.app new)))):=by
 unfold growT at h
 obtain ⟨old,h1,h⟩:=Tr.bind_some h
 obtain ⟨r,h2,h⟩:=Tr.bind_some h
 refine ⟨old,cellsT_ok h1,?_⟩
 rw[← Tr.ok_some h,addO_eq,finT_eq,appT_ok h2]
theorem appendT_ok {P : Program} {H:Heap} {nx:Nat} {t u:TypeId} {s x:AV} {y:AV×Delta} (h:(appendT P H nx t u s x).run=some y):appendV P true H nx t u s x=some y:=by
 unfold appendT at h
 unfold appendV
 split at h
 · rename_i e ht
   split at h
   · rename_i e' hu
     split at h
     · rename_i inf hi
       split at h
       · rename_i m hm
         split at h
         · rename_i n hn
           obtain ⟨hsl,h⟩:=Tr.cond_bad h
           rw[ht,hu]
           dsimp only
           rw[hi,hm,hn]
           dsimp only
           have hcase:(n=0∧(s,Delta.keep)=y)∨(n≠0∧(appendT.main P H nx e inf s x m n).run=some y):=by
            cases hx:litX x with
            | true =>
              rw[hx] at h
              cases n with
              | zero=>exact .inl ⟨rfl,Tr.ok_some h⟩
              | succ n=>exact .inr ⟨by omega,h⟩
            | false =>
              rw[hx] at h
              rcases Tr.ite_some h with ⟨hc,h⟩ | ⟨hc,h⟩
              · rw[eqN_eq,decide_eq_true_eq] at hc
                exact .inl ⟨hc,Tr.ok_some h⟩
              · rw[eqN_eq,decide_eq_false_iff_not] at hc
                exact .inr ⟨hc,h⟩
           clear h
           rcases hcase with ⟨h0,h⟩ | ⟨h0,h⟩
           · rw[if_pos h0]
             cases s<;>simp[isSl] at hsl<;>exact congrArg some h
           rw[if_neg h0]
           unfold appendT.main at h
           obtain ⟨hr,h⟩:=Tr.req_some h
           rw[roomO_eq,decide_eq_true_eq] at hr
           obtain ⟨hb,h⟩:=Tr.cond_bad h
           obtain ⟨hz,h⟩:=Tr.cond_bad h
           obtain ⟨new,h1,h⟩:=Tr.bind_some h
           have hcv:=cellsT_ok h1
           rw[if_pos ⟨hr.1,hr.2,blt_t hb,zeroFit_ok hz⟩,hcv]
           dsimp only
           split at h
           · rw[← Tr.ok_some h,finT_eq]
           · rename_i sT r szT lenT full
             obtain ⟨hf,h⟩:=Tr.req_some h
             obtain ⟨old,h2,rfl⟩:=growT_ok h
             subst hf
             dsimp only
             rw[h2]
           · rename_i d i v off sz len c _ _ _ _ _
             rcases Tr.ite_some h with ⟨hc,h⟩ | ⟨hc,h⟩
             · rw[ltN_eq,decide_eq_true_eq,addO_eq] at hc
               obtain ⟨old,h2,rfl⟩:=growT_ok h
               dsimp only
               rw[if_pos hc,h2]
             · rw[ltN_eq,decide_eq_false_iff_not,addO_eq] at hc
               dsimp only
               rw[if_neg hc]
               rw[hLockX_eq] at h
               obtain ⟨hl,h⟩:=Tr.cond_bad' h
               obtain ⟨r,h2,h⟩:=Tr.bind_some h
               obtain ⟨hs,h⟩:=Tr.cond_bad h
               have hs:=Nat.eq_of_beq_eq_true hs
               rw[hl,if_neg (by simp),rowT_ok h2]
               dsimp only
               split at h
               · rename_i l _
                 rw[toListX_eq] at h
                 have hcl:=cellsV_len hcv
                 split at h
                 · exact (Tr.bad_some h).elim
                 · rename_i y0 ys hy
                   obtain ⟨l',h3,h⟩:=Tr.bind_some h
                   obtain ⟨k1,k2⟩:=setLT_ok _ _ _ _ h3
                   rw[addO_eq,mulS_eq,Nat.add_zero] at k1 k2
                   have hlen:=Row.toList_length (dnR d new)
                   rw[hy,dnR_len,hcl] at hlen
                   have hfit:off+(m+n)*sz≤(Row.M l).len:=by
                    rcases k1 with k1 | k1
                    · simp at k1
                    · rw[hlen,← hs] at k1
                      rw[Nat.add_mul]
                      show _≤lenM l
                      omega
                   rw[if_pos ⟨hs,hfit⟩,hy,k2,← Tr.ok_some h,addO_eq]
               · exact (Tr.bad_some h).elim
           · rename_i d i v off sz len _ _ _ _ _
             dsimp only
             rw[hLockX_eq] at h
             obtain ⟨hl,h⟩:=Tr.cond_bad' h
             obtain ⟨r,h2,h⟩:=Tr.bind_some h
             obtain ⟨hs,h⟩:=Tr.cond_bad h
             have hs:=Nat.eq_of_beq_eq_true hs
             obtain ⟨old,h3,h⟩:=Tr.bind_some h
             obtain ⟨r',h4,h⟩:=Tr.bind_some h
             obtain ⟨k1,k2⟩:=subOffT_ok h3
             rw[mulS_eq] at k1 k2
             rw[hl,if_neg (by simp),rowT_ok h2]
             dsimp only
             rw[if_pos ⟨hs,k1⟩,k2,appT_ok h4,← Tr.ok_some h,addO_eq]
           · exact (Tr.bad_some h).elim
         · exact (Tr.bad_some h).elim
       · exact (Tr.bad_some h).elim
     · exact (Tr.bad_some h).elim
   · exact (Tr.bad_some h).elim
 · exact (Tr.bad_some h).elim

end
end Go.Eng
end
