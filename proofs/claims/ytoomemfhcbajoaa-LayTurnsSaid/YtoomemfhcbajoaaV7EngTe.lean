/- The engine as a tree: the other builtins; operations. -/
import Derived.Test.YtoomemfhcbajoaaV7EngTcx2
namespace Go.Eng
set_option linter.unusedVariables false
set_option linter.unusedSimpArgs false
noncomputable section

abbrev CallTr:=Tgt→List HV→Heap→Tr (HV×Heap)
def avs (l:List HV):List AV:=mapX (fun x=>x.1) l
def CallTr.Ok (c:CallTr) (call:CallT):Prop:=(∃ x,call .mode [] []=some x)∧∀ tgt args H x,(c tgt args H).run=some x→call tgt (avs args) H=some (x.1.1,x.2)
theorem symB_ok {α:Type} {call:CallT} (h:∃ x,call .mode [] []=some x) (a b:α):symB call a b=a:=by
 obtain ⟨x,h⟩:=h
 unfold symB
 rw[h]

def lenT (P:Program) (H:Heap) (t:TypeId) (x:HV):Tr HV :=
 match P.underlying t with
 | some (.slice _)=>match x.1 with
   | .nils=>.ok (.int .i64 (Int.ofNat 0),some 1)
   | .slc _ _ _ _ _ len _=>.ok (.int .i64 (Int.ofNat len),x.2)
   | .slcT _ _ _ len _=>.ok (.int .i64 (Int.ofNat len),x.2)
   | _=>.bad
 | some (.array n _)=>.ok (.int .i64 (Int.ofNat n),some 1)
 | _=>(ofO ((lenV P H t x.1).map fun n=>AV.int .i64 n)).bind fun v=>.ok (v,none)
theorem lenT_ok {P:Program} {H:Heap} {t:TypeId} {x v:HV} (h:(lenT P H t x).run=some v):(lenV P H t x.1).map (AV.int .i64)=some v.1:=by
 unfold lenT at h
 split at h
 · rename_i e hu
   unfold lenV
   rw[hu]
   split at h
   · rename_i hx;rw[hx,← Tr.ok_some h];rfl
   · rename_i hx;rw[hx,← Tr.ok_some h];rfl
   · rename_i hx;rw[hx,← Tr.ok_some h];rfl
   · exact (Tr.bad_some h).elim
 · rename_i hu
   unfold lenV
   rw[hu,← Tr.ok_some h];rfl
 · obtain ⟨u,h1,h⟩:=Tr.bind_some h
   rw[ofO_run] at h1
   rw[h1,← Tr.ok_some h]
def copyT (P:Program) (H:Heap) (t:TypeId) (s x:AV):Tr (AV×Delta) :=
 match P.underlying t with
 | some (.slice e)=>match sizeT P e with
   | some z=>match lenS x with
     | some n=>match s with
       | .slc d i v off sz m cap=>(cellsT H z (minN n m) x).bind fun new=>cond (hLockX H d) .bad ((rowT H d i v (some 0)).bind fun r=>cond (Nat.beq sz z) (match r with
          | .M l=>(putT l off none (dnR d new)).bind fun r'=>.ok (.int .i64 (Int.ofNat (minN n m)),.set d i (v,.row r'))
          | _=>.bad) .bad)
       | _=>.bad
     | none=>.bad
   | none=>.bad
 | _=>.bad
theorem copyT_ok {P:Program} {H:Heap} {t:TypeId} {s x:AV} {y:AV×Delta} (h:(copyT P H t s x).run=some y):copyV P H t s x=some y:=by
 unfold copyT at h
 unfold copyV
 split at h
 · rename_i e hu
   split at h
   · rename_i z hs
     split at h
     · rename_i n hn
       split at h
       · rename_i d i v off sz m cap _ _
         obtain ⟨new,h1,h⟩:=Tr.bind_some h
         rw[hLockX_eq] at h
         obtain ⟨hl,h⟩:=Tr.cond_bad' h
         obtain ⟨r,h2,h⟩:=Tr.bind_some h
         obtain ⟨hz,h⟩:=Tr.cond_bad h
         have hz:=Nat.eq_of_beq_eq_true hz
         have hcv:=cellsT_ok h1
         rw[minN_eq] at hcv
         have hcl:=cellsV_len hcv
         rw[hu]
         dsimp only
         rw[hs,hn]
         dsimp only[lenS]
         rw[hcv]
         dsimp only
         rw[hl,if_neg (by simp),rowT_ok h2]
         dsimp only
         split at h
         · rename_i l _
           obtain ⟨r',h3,h⟩:=Tr.bind_some h
           obtain ⟨k1,k2⟩:=putT_ok h3
           rw[dnR_len,hcl] at k1
           rw[if_pos ⟨hz,by rw[hz];exact k1⟩,k2,← Tr.ok_some h,minN_eq]
           rfl
         · exact (Tr.bad_some h).elim
       · exact (Tr.bad_some h).elim
     · exact (Tr.bad_some h).elim
   · exact (Tr.bad_some h).elim
 · exact (Tr.bad_some h).elim
def zerosT (z:Row) (n:Nat):Row :=
 match z with
 | .I k l=>cond (allZ l) (.M [.arr k (fun _=>0) (mulS n (lenX l))]) (zerosS z n)
 | z=>zerosS z n
theorem zerosT_eq (z:Row) (n:Nat):zerosT z n=zerosS z n:=by
 cases z with
 | I k l =>
   simp only[zerosT]
   cases h:allZ l with
   | true=>simp only[cond_true,zerosS,h,if_true,mulS_eq,lenX_eq]
   | false=>rfl
 | _=>rfl
def clearT (P:Program) (H:Heap) (t:TypeId) (s:AV):Tr (AV×Delta) :=
 match P.underlying t with
 | some (.slice e)=>match s with
   | .slc d i v off sz len _=>cond (hLockX H d) .bad (match (zeroT P e).bind AV.row with
     | some z=>match sizeT P e with
       | some n=>cond (Nat.beq n sz) (cond (Nat.beq (rlenX z) sz) (.req (ltN 0 len) ((rowT H d i v (some 0)).bind fun r=>match r with
          | .M l=>(putT l off none (zerosT z len)).bind fun r'=>.ok (.tup [],.set d i (v,.row r'))
          | _=>.bad)) .bad) .bad
       | none=>.bad
     | none=>.bad)
   | _=>.bad
 | _=>.bad
theorem zerosS_len (z:Row) (n:Nat):(zerosS z n).len=n*z.len:=by
 have fn:∀ l:List AV,(fnOf l n).len=n*l.length:=by
  intro l
  unfold fnOf
  split
  · split<;>simp[Row.len,reps_length]
  · simp[Row.len,reps_length]
 cases z with
 | I k l=>simp only[zerosS];split<;>simp[Row.len,lenM,segLen,reps_length]
 | _=>simp only[zerosS,fn,Row.toList_length]
theorem clearT_ok {P:Program} {H:Heap} {t:TypeId} {s:AV} {y:AV×Delta} (h:(clearT P H t s).run=some y):clearV P H t s=some y:=by
 unfold clearT at h
 unfold clearV
 split at h
 · rename_i e hu
   split at h
   · rename_i d i v off sz len cap
     rw[hLockX_eq] at h
     obtain ⟨hl,h⟩:=Tr.cond_bad' h
     split at h
     · rename_i z hz
       split at h
       · rename_i n hs
         obtain ⟨hn,h⟩:=Tr.cond_bad h
         obtain ⟨hzl,h⟩:=Tr.cond_bad h
         have hn:=Nat.eq_of_beq_eq_true hn
         rw[rlenX_eq] at hzl
         have hzl:=Nat.eq_of_beq_eq_true hzl
         obtain ⟨h0,h⟩:=Tr.req_some h
         rw[ltN_eq,decide_eq_true_eq] at h0
         obtain ⟨r,h2,h⟩:=Tr.bind_some h
         rw[hu]
         dsimp only
         rw[hl,if_neg (by simp),hz,rowT_ok h2]
         dsimp only
         split at h
         · rename_i l _
           obtain ⟨r',h3,h⟩:=Tr.bind_some h
           obtain ⟨k1,k2⟩:=putT_ok h3
           rw[zerosT_eq] at k1 k2
           rw[zerosS_len,hzl] at k1
           rw[if_pos ⟨hzl,by rw[hs,hn],k1⟩,← Tr.ok_some h]
           rw[if_neg (by omega)]
           simp only[isM,if_true]
           rw[← k2]
         · exact (Tr.bad_some h).elim
       · exact (Tr.bad_some h).elim
     · exact (Tr.bad_some h).elim
   · exact (Tr.bad_some h).elim
 · exact (Tr.bad_some h).elim
def makeSliceT (P:Program) (nx:Nat) (t:TypeId) (l c:AV):Tr (AV×Delta) :=
 match P.underlying t with
 | some (.slice e)=>match l with
   | .int _ l=>match c with
     | .int _ c=>match P.info? e with
       | some inf=>match (zeroT P e).bind AV.row with
         | some z=>.req (mkO l c inf.bytes) (cond (Nat.beq (rlenX z) inf.size) (.ok (.slc 0 nx 0 0 inf.size (toN l) (some (toN c)),.push (.row (zerosT z (toN c))))) .bad)
         | none=>.bad
       | none=>.bad
     | _=>.bad
   | _=>.bad
 | _=>.bad
theorem makeSliceT_ok {P:Program} {nx:Nat} {t:TypeId} {l c:AV} {y:AV×Delta} (h:(makeSliceT P nx t l c).run=some y):makeSliceV P true nx t l c=some y:=by
 unfold makeSliceT at h
 unfold makeSliceV
 split at h
 · rename_i e hu
   split at h
   · split at h
     · split at h
       · rename_i inf hi
         split at h
         · rename_i z hz
           obtain ⟨hc,h⟩:=Tr.req_some h
           obtain ⟨hl,h⟩:=Tr.cond_bad h
           rw[mkO_eq,decide_eq_true_eq] at hc
           rw[rlenX_eq] at hl
           have hl:=Nat.eq_of_beq_eq_true hl
           rw[hu]
           dsimp only
           rw[hi,hz]
           dsimp only
           rw[if_pos ⟨hc.1,hc.2.1,hc.2.2.1,hc.2.2.2,hl⟩,← Tr.ok_some h,zerosT_eq,toN_eq,toN_eq]
           rfl
         · exact (Tr.bad_some h).elim
       · exact (Tr.bad_some h).elim
     · exact (Tr.bad_some h).elim
   · exact (Tr.bad_some h).elim
 · exact (Tr.bad_some h).elim

def hv (x:AV×Delta):Tr (HV×Delta):=.ok ((x.1,none),x.2)
theorem hv_some {x:AV×Delta} {y:HV×Delta} (h:(hv x).run=some y):y.1.1=x.1∧y.2=x.2:=by
 have:=Tr.ok_some h
 rw[← this]
 exact ⟨rfl,rfl⟩
def nohint (l:List AV):List HV:=mapX (fun x=>(x,none)) l
theorem avs_nohint:∀ l:List AV,avs (nohint l)=l
 | []=>rfl
 | x::l=>by
   have e:avs (nohint (x::l))=x::avs (nohint l):=rfl
   rw[e,avs_nohint l]
theorem avs_app:∀ a b:List HV,avs (appX a b)=avs a++avs b
 | [],b=>rfl
 | x::a,b=>by
   have e:avs (appX (x::a) b)=x.1::avs (appX a b):=rfl
   rw[e,avs_app a b];rfl
def opdsH (fr:HFrm) (l:List Operand):List HV:=mapX (fun x=>opdT fr x) l
theorem opdsH_eq (fr:HFrm):∀ l,avs (opdsH fr l)=opds (strip fr) l
 | []=>rfl
 | x::l=>by
   have e:avs (opdsH fr (x::l))=(opdT fr x).1::avs (opdsH fr l):=rfl
   rw[e,opdsH_eq fr l,opdT_eq];rfl
def updT (P:Program) (H:Heap) (t:TypeId) (m key x:AV):Tr Delta :=
 match P.underlying t with
 | some (.map kt _)=>match m with
   | .map d i=>cond (hLock H d) .bad (cond (keyFit P kt key) (match hGet H d i with
     | (0,.fmap q h g c)=>match keyN q key with
       | some n=>match numV x with
         | some y=>.ok (.set d i (0,.fmap q (setBO h n true) (setIO g n y) (cntAO (h n) c)))
         | none=>.bad
       | none=>.bad
     | _=>.bad) .bad)
   | _=>.bad
 | _=>.bad
def delT (P:Program) (H:Heap) (t:TypeId) (m key:AV):Tr Delta :=
 match P.underlying t with
 | some (.map kt _)=>match m with
   | .map d i=>cond (hLock H d) .bad (cond (keyFit P kt key) (match hGet H d i with
     | (0,.fmap q h g c)=>match keyN q key with
       | some n=>.ok (.set d i (0,.fmap q (setBO h n false) (setIO g n 0) (cntDO (h n) c)))
       | none=>.bad
     | _=>.bad) .bad)
   | _=>.bad
 | _=>.bad
def litO (fr:HFrm):Option Operand→Bool
 | none=>true
 | some y=>isLit (opdT fr y)
theorem cond_run {α:Type} {b:Bool} {s t:Tr α} {x:α} (h:(cond b s t).run=some x):b=true∧s.run=some x∨b=false∧t.run=some x:=by
 cases b
 · exact .inr ⟨rfl,h⟩
 · exact .inl ⟨rfl,h⟩
theorem updT_ok {P:Program} {H:Heap} {t:TypeId} {m key x:AV} {δ:Delta} (h:(updT P H t m key x).run=some δ):updateV P H t m key x=some δ:=by
 unfold updT at h
 unfold updateV
 split at h
 · rename_i kt et hu
   rw[hu]
   split at h
   · rename_i d i
     dsimp only
     rcases cond_run h with ⟨_,h⟩ | ⟨h1,h⟩
     · exact (Tr.bad_some h).elim
     · rcases cond_run h with ⟨h2,h⟩ | ⟨_,h⟩
       · rw[if_neg (by rw[h1];simp),if_pos h2]
         split at h
         · rename_i q f g c hg
           rw[hg]
           try dsimp only
           split at h
           · rename_i n hn
             split at h
             · rename_i y hy
               simp only[hn,hy,← Tr.ok_some h,setBO_eq,setIO_eq,cntAO_eq]
             · exact (Tr.bad_some h).elim
           · exact (Tr.bad_some h).elim
         · exact (Tr.bad_some h).elim
       · exact (Tr.bad_some h).elim
   · exact (Tr.bad_some h).elim
 · exact (Tr.bad_some h).elim
theorem delT_ok {P:Program} {H:Heap} {t:TypeId} {m key:AV} {δ:Delta} (h:(delT P H t m key).run=some δ):deleteV P H t m key=some (.tup [],δ):=by
 unfold delT at h
 unfold deleteV
 split at h
 · rename_i kt et hu
   rw[hu]
   split at h
   · rename_i d i
     dsimp only
     rcases cond_run h with ⟨_,h⟩ | ⟨h1,h⟩
     · exact (Tr.bad_some h).elim
     · rcases cond_run h with ⟨h2,h⟩ | ⟨_,h⟩
       · rw[if_neg (by rw[h1];simp),if_pos h2]
         split at h
         · rename_i q f g c hg
           rw[hg]
           try dsimp only
           split at h
           · rename_i n hn
             simp only[hn,← Tr.ok_some h,setBO_eq,setIO_eq,cntDO_eq]
           · exact (Tr.bad_some h).elim
         · exact (Tr.bad_some h).elim
       · exact (Tr.bad_some h).elim
   · exact (Tr.bad_some h).elim
 · exact (Tr.bad_some h).elim
def callVT (P:Program) (call:CallT) (callR:CallTr) (fr:HFrm) (H:Heap) (nx:Nat) (c:Call):Tr (HV×Delta) :=
 match c.callee with
 | .value f=>match (opdT fr f).1 with
   | .fn (.func g) a b=>(callR (.fn g) (appX (nohint a) (appX (opdsH fr c.args.toList) (nohint b))) H).bind fun x=>.ok (x.1,.heap x.2)
   | .yld d i=>(callR (.round d i) (opdsH fr c.args.toList) H).bind fun x=>.ok (x.1,.heap x.2)
   | _=>.bad
 | .builtin .len=>match c.args.toList,c.argTypes.toList with
   | x::_,t::_=>(lenT P H t (opdT fr x)).bind fun v=>.ok (v,.keep)
   | _,_=>.bad
 | .builtin .append=>match c.args.toList,c.argTypes.toList with
   | s::x::_,t::u::_=>(appendT P H nx t u (opdT fr s).1 (opdT fr x).1).bind hv
   | _,_=>.bad
 | .builtin .copy=>match c.args.toList,c.argTypes.toList with
   | s::x::_,t::_=>(copyT P H t (opdT fr s).1 (opdT fr x).1).bind hv
   | _,_=>.bad
 | .builtin .clear=>match c.args.toList,c.argTypes.toList with
   | s::_,t::_=>(clearT P H t (opdT fr s).1).bind hv
   | _,_=>.bad
 | .builtin .min=>match opdsT fr c.args.toList with
   | .int k x::r=>(minmaxT false k x r).bind fun v=>.ok ((v,none),.keep)
   | _=>.bad
 | .builtin .max=>match opdsT fr c.args.toList with
   | .int k x::r=>(minmaxT true k x r).bind fun v=>.ok ((v,none),.keep)
   | _=>.bad
 | .builtin .delete=>match c.args.toList,c.argTypes.toList with
   | m::k::_,t::_=>(delT P H t (opdT fr m).1 (opdT fr k).1).bind fun δ=>.ok ((.tup [],none),δ)
   | _,_=>.bad
 | _=>(ofO (callV P call (strip fr) H nx c)).bind hv
theorem callVT_ok {P:Program} {call:CallT} {callR:CallTr} (hC:callR.Ok call) {fr:HFrm} {H:Heap} {nx:Nat} {c:Call} {y:HV×Delta} (h:(callVT P call callR fr H nx c).run=some y):callV P call (strip fr) H nx c=some (y.1.1,y.2):=by
 have dflt:∀ (t:Tr (AV×Delta)),(t.bind hv).run=some y→t.run=some (y.1.1,y.2):=by
  intro t ht
  obtain ⟨x,h1,h2⟩:=Tr.bind_some ht
  obtain ⟨e1,e2⟩:=hv_some h2
  rw[h1,e1,e2]
 unfold callVT at h
 split at h
 · rename_i f hf
   unfold callV
   rw[hf]
   dsimp only
   rw[opdT_eq] at h
   split at h
   · rename_i g a b ho
     obtain ⟨x,h1,h⟩:=Tr.bind_some h
     rw[ho]
     dsimp only
     have:=hC.2 _ _ _ _ h1
     rw[avs_app,avs_app,avs_nohint,avs_nohint,opdsH_eq] at this
     rw[this,← Tr.ok_some h];rfl
   · rename_i d i ho
     obtain ⟨x,h1,h⟩:=Tr.bind_some h
     rw[ho]
     dsimp only
     have:=hC.2 _ _ _ _ h1
     rw[opdsH_eq] at this
     rw[this,← Tr.ok_some h];rfl
   · exact (Tr.bad_some h).elim
 · rename_i hf
   unfold callV
   rw[hf]
   dsimp only
   split at h
   · rename_i x _ t _ hx ht
     obtain ⟨v,h1,h⟩:=Tr.bind_some h
     rw[hx,ht]
     dsimp only
     have:=lenT_ok h1
     rw[opdT_eq] at this
     obtain ⟨n,k1,k2⟩:=Option.map_eq_some_iff.1 this
     rw[k1,← Tr.ok_some h,← k2];rfl
   · exact (Tr.bad_some h).elim
 · rename_i hf
   unfold callV
   rw[hf]
   dsimp only
   split at h
   · rename_i s x _ t u _ hx ht
     rw[hx,ht]
     dsimp only
     have h:=appendT_ok (dflt _ h)
     rw[opdT_eq,opdT_eq] at h
     rw[symB_ok hC.1]
     exact h
   · exact (Tr.bad_some h).elim
 · rename_i hf
   unfold callV
   rw[hf]
   dsimp only
   split at h
   · rename_i s x _ t _ hx ht
     rw[hx,ht]
     dsimp only
     have h:=copyT_ok (dflt _ h)
     rw[opdT_eq,opdT_eq] at h
     exact h
   · exact (Tr.bad_some h).elim
 · rename_i hf
   unfold callV
   rw[hf]
   dsimp only
   split at h
   · rename_i s _ t _ hx ht
     rw[hx,ht]
     dsimp only
     have h:=clearT_ok (dflt _ h)
     rw[opdT_eq] at h
     exact h
   · exact (Tr.bad_some h).elim
 · rename_i hf
   unfold callV
   rw[hf]
   dsimp only
   rw[opdsT_eq] at h
   split at h
   · rename_i k x r hx
     obtain ⟨v,h1,h⟩:=Tr.bind_some h
     rw[hx]
     dsimp only[minmax]
     rw[minmaxT_ok _ _ _ h1,← Tr.ok_some h];rfl
   · exact (Tr.bad_some h).elim
 · rename_i hf
   unfold callV
   rw[hf]
   dsimp only
   rw[opdsT_eq] at h
   split at h
   · rename_i k x r hx
     obtain ⟨v,h1,h⟩:=Tr.bind_some h
     rw[hx]
     dsimp only[minmax]
     rw[minmaxT_ok _ _ _ h1,← Tr.ok_some h];rfl
   · exact (Tr.bad_some h).elim
 · rename_i hf
   unfold callV
   rw[hf]
   dsimp only
   split at h
   · rename_i m k _ t _ hx ht
     rw[hx,ht]
     dsimp only
     obtain ⟨δ,h1,h⟩:=Tr.bind_some h
     have h1:=delT_ok h1
     rw[opdT_eq,opdT_eq] at h1
     rw[h1,← Tr.ok_some h]
   · exact (Tr.bad_some h).elim
 · have h:=dflt _ h
   rw[ofO_run] at h;exact h

def binH (P:Program) (op:BinOp) (t:TypeId) (x y:HV):Tr HV :=
 cond (isLit x && isLit y) (match x.1,y.1 with
  | .int k a,.int k' b=>(ofO (binVX P op t (.int k a) (.int k' b))).bind fun v=>.ok (v,some 1)
  | a,b=>(binT P op t a b).bind fun v=>.ok (v,none))
 ((binT P op t x.1 y.1).bind fun v=>.ok (v,none))
theorem binH_ok {P:Program} {op:BinOp} {t:TypeId} {x y v:HV} (h:(binH P op t x y).run=some v):binV P op t x.1 y.1=some v.1:=by
 have gen:∀ a b,((binT P op t a b).bind fun v=>Tr.ok ((v,none):HV)).run=some v→binV P op t a b=some v.1:=by
  intro a b h
  obtain ⟨u,h1,h⟩:=Tr.bind_some h
  rw[binT_ok h1,← Tr.ok_some h]
 unfold binH at h
 cases hb:isLit x && isLit y with
 | false=>rw[hb,cond_false] at h;exact gen _ _ h
 | true =>
   rw[hb,cond_true] at h
   split at h
   · rename_i k a k' b hx hy
     obtain ⟨u,h1,h⟩:=Tr.bind_some h
     rw[ofO_run,binVX_eq] at h1
     rw[hx,hy,h1,← Tr.ok_some h]
   · exact gen _ _ h

def mapOpdT (fr:HFrm) (l:List (Nat×Operand)):List (Nat×AV):=mapX (fun p=>(p.1,(opdT fr p.2).1)) l
theorem mapOpdT_eq (fr:HFrm):∀ l,mapOpdT fr l=mapOpd (strip fr) l
 | []=>rfl
 | (i,x)::l=>by
   have e:mapOpdT fr ((i,x)::l)=(i,(opdT fr x).1)::mapOpdT fr l:=rfl
   rw[e,mapOpdT_eq fr l,opdT_eq];rfl
def opT (op:Op):Oper→Program→CallT→CallTr→HFrm→Heap→Nat→Tr (HV×Delta) :=
 match op with
 | .move x=>fun _ _ _ _ fr _ _=>.ok (opdT fr x,.keep)
 | .assign x=>fun _ _ _ _ fr _ _=>.ok (opdT fr x,.keep)
 | .pick c a b=>fun _ _ _ _ fr _ _=>match opdT fr c with
   | (.bool t,none)=>.ite t (.ok (opdT fr a,.keep)) (.ok (opdT fr b,.keep))
   | (.bool t,some _)=>cond t (.ok (opdT fr a,.keep)) (.ok (opdT fr b,.keep))
   | _=>.bad
 | .alloc t=>fun _ P _ _ _ _ nx=>match (zeroT P t).bind AV.row with
   | some z=>.ok ((.ptr 0 nx 0 0,none),.push (.row (segR z)))
   | none=>.bad
 | .box _ x=>fun _ _ _ _ fr _ nx=>match (opdT fr x).1.row with
   | some r=>.ok ((.ptr 0 nx 0 0,none),.push (.row (segR r)))
   | none=>.bad
 | .build t parts=>fun _ P _ _ fr _ _=>(ofO (buildV P true t (mapOpdT fr parts.toList))).bind fun v=>.ok ((v,none),.keep)
 | .buildSlice t len parts=>fun _ P _ _ fr _ nx=>(ofO (buildSliceV P nx t len (mapOpdT fr parts.toList))).bind fun x=>.ok ((x.1,some 1),x.2)
 | .load t a=>fun _ P _ _ fr H _=>(loadT P H t (opdT fr a)).bind fun v=>.ok ((v,none),.keep)
 | .store t a x=>fun _ P _ _ fr H _=>(storeT P H t (opdT fr a) (opdT fr x).1).bind fun δ=>.ok ((.tup [],none),δ)
 | .nilCheck x=>fun _ _ _ _ fr _ _=>match (opdT fr x).1 with
   | .ptr d i v off=>.ok (opdT fr x,.keep)
   | .ptrT s r off=>.ok (opdT fr x,.keep)
   | _=>.bad
 | .binOp op t x y _=>fun _ P _ _ fr _ _=>(binH P op t (opdT fr x) (opdT fr y)).bind fun v=>.ok (v,.keep)
 | .unOp op _ x=>fun _ _ _ _ fr _ _=>match op,opdT fr x with
   | .not,(.bool b,some _)=>.ok ((.bool (cond b false true),some 1),.keep)
   | op,x=>(unT op x.1).bind fun v=>.ok ((v,none),.keep)
 | .convert src dst x=>fun _ P _ _ fr _ _=>match P.underlying src with
   | some _=>match P.underlying dst with
     | some (.int k)=>match opdT fr x with
       | (.int _ n,none)=>.ok ((.int k (wrI k n),none),.keep)
       | (.int _ n,some _)=>.ok ((.int k (wrapX k n),some 1),.keep)
       | _=>.bad
     | _=>.bad
   | none=>.bad
 | .makeSlice t l c=>fun _ P _ _ fr _ nx=>(makeSliceT P nx t (opdT fr l).1 (opdT fr c).1).bind hv
 | .slice t x lo hi mx=>fun _ P _ _ fr _ _=>cond (isLit (opdT fr x) && (litO fr lo && (litO fr hi && litO fr mx)))
   ((ofO (sliceV P t (opdT fr x).1 (lo.map fun y=>(opdT fr y).1) (hi.map fun y=>(opdT fr y).1) (mx.map fun y=>(opdT fr y).1))).bind fun v=>.ok ((v,some 1),.keep))
   ((sliceT P t (opdT fr x).1 (lo.map fun y=>(opdT fr y).1) (hi.map fun y=>(opdT fr y).1) (mx.map fun y=>(opdT fr y).1)).bind fun v=>.ok ((v,none),.keep))
 | .fieldAddr t x f=>fun _ P _ _ fr _ _=>(fieldAddrT P t (opdT fr x) f).bind fun v=>.ok (v,.keep)
 | .field t x f=>fun _ P _ _ fr _ _=>(ofO (fieldV P t (opdT fr x).1 f)).bind fun v=>.ok ((v,none),.keep)
 | .indexAddr t x i=>fun _ P _ _ fr _ _=>match (opdT fr i).1 with
   | .int _ n=>(idxT P t (opdT fr x) (isLit (opdT fr i)) n).bind fun v=>.ok (v,.keep)
   | _=>.bad
 | .index t x i=>fun _ P _ _ fr _ _=>match (opdT fr i).1 with
   | .int _ n=>(ixT P t (opdT fr x).1 (isLit (opdT fr i)) n).bind fun v=>.ok ((v,none),.keep)
   | _=>.bad
 | .extract t ix=>fun _ _ _ _ fr _ _=>match (opdT fr t).1 with
   | .tup l=>match getO l ix with
     | some v=>.ok ((v,none),.keep)
     | none=>.bad
   | _=>.bad
 | .call c=>fun _ P call callR fr H nx=>callVT P call callR fr H nx c
 | .makeMap t r=>fun _ P _ _ _ _ nx=>match r with
   | none=>.ok ((.map 0 nx,none),.push (newMap P t))
   | some _=>.bad
 | .mapUpdate t m k x=>fun _ P _ _ fr H _=>(updT P H t (opdT fr m).1 (opdT fr k).1 (opdT fr x).1).bind fun δ=>.ok ((.tup [],none),δ)
 | .insert t m k x=>fun _ P _ _ fr H _=>(updT P H t (opdT fr m).1 (opdT fr k).1 (opdT fr x).1).bind fun δ=>.ok ((.tup [],none),δ)
 | _=>fun o P call _ fr H nx=>(ofO (evalOp P call (strip fr) H nx o)).bind hv
theorem opT_ok {o:Oper} {P:Program} {call:CallT} {callR:CallTr} (hC:callR.Ok call) {fr:HFrm} {H:Heap} {nx:Nat} {y:HV×Delta} (h:(opT o.op o P call callR fr H nx).run=some y):evalOp P call (strip fr) H nx o=some (y.1.1,y.2):=by
 have dflt:∀ (t:Tr (AV×Delta)),(t.bind hv).run=some y→t.run=some (y.1.1,y.2):=by
  intro t ht
  obtain ⟨x,h1,h2⟩:=Tr.bind_some ht
  obtain ⟨e1,e2⟩:=hv_some h2
  rw[h1,e1,e2]
 have dkp:∀ (t:Tr AV),(t.bind fun v=>Tr.ok (((v,none),.keep):HV×Delta)).run=some y→t.run=some y.1.1∧y.2=.keep:=by
  intro t ht
  obtain ⟨x,h1,h2⟩:=Tr.bind_some ht
  rw[h1,← Tr.ok_some h2];exact ⟨rfl,rfl⟩
 have kpe:∀ {o:Option AV} {v:AV},o=some v→kp o=some (v,.keep):=by rintro o v rfl;rfl
 cases ho:o.op<;>rw[ho] at h<;>simp only[opT] at h
 case move x =>
  unfold evalOp;rw[ho];dsimp only
  rw[← Tr.ok_some h,← opdT_eq]
 case assign x =>
  unfold evalOp;rw[ho];dsimp only
  rw[← Tr.ok_some h,← opdT_eq]
 case pick c a b =>
  unfold evalOp;rw[ho];dsimp only
  have hc':=opdT_eq fr c
  split at h
  · rename_i t hc
    rw[hc] at hc'
    rw[← hc']
    dsimp only
    rcases Tr.ite_some h with ⟨rfl,h⟩ | ⟨rfl,h⟩<;>rw[← Tr.ok_some h,← opdT_eq,← opdT_eq]<;>rfl
  · rename_i t n hc
    rw[hc] at hc'
    rw[← hc']
    dsimp only
    cases t with
    | true=>rw[cond_true] at h;rw[← Tr.ok_some h,← opdT_eq,← opdT_eq];rfl
    | false=>rw[cond_false] at h;rw[← Tr.ok_some h,← opdT_eq,← opdT_eq];rfl
  · exact (Tr.bad_some h).elim
 case alloc t =>
  unfold evalOp;rw[ho];dsimp only
  split at h
  · rename_i z hz
    rw[hz,← Tr.ok_some h,Option.map_some,symB_ok hC.1]
  · exact (Tr.bad_some h).elim
 case box t x =>
  unfold evalOp;rw[ho];dsimp only
  rw[opdT_eq] at h
  split at h
  · rename_i z hz
    rw[hz,← Tr.ok_some h,Option.map_some,symB_ok hC.1]
  · exact (Tr.bad_some h).elim
 case build t parts =>
  unfold evalOp;rw[ho];dsimp only
  obtain ⟨h1,h2⟩:=dkp _ h
  rw[ofO_run,mapOpdT_eq] at h1
  rw[symB_ok hC.1,kpe h1,h2]
 case buildSlice t len parts =>
  unfold evalOp;rw[ho];dsimp only
  obtain ⟨x,h1,h⟩:=Tr.bind_some h
  rw[ofO_run,mapOpdT_eq] at h1
  rw[h1,← Tr.ok_some h]
 case load t a =>
  unfold evalOp;rw[ho];dsimp only
  obtain ⟨h1,h2⟩:=dkp _ h
  have h1:=loadT_ok h1
  rw[opdT_eq] at h1
  rw[kpe h1,h2]
 case store t a x =>
  unfold evalOp;rw[ho];dsimp only
  obtain ⟨δ,h1,h⟩:=Tr.bind_some h
  have h1:=storeT_ok h1
  rw[opdT_eq,opdT_eq] at h1
  rw[h1,← Tr.ok_some h];rfl
 case nilCheck x =>
  unfold evalOp;rw[ho];dsimp only
  rw[← opdT_eq]
  split at h
  · rename_i d i v off hx
    rw[hx,← Tr.ok_some h,hx]
  · rename_i s r off hx
    rw[hx,← Tr.ok_some h,hx]
  · exact (Tr.bad_some h).elim
 case binOp op t x y' g =>
  unfold evalOp;rw[ho];dsimp only
  obtain ⟨v,h1,h⟩:=Tr.bind_some h
  have h1:=binH_ok h1
  rw[opdT_eq,opdT_eq] at h1
  rw[kpe h1,← Tr.ok_some h]
 case unOp op t x =>
  unfold evalOp;rw[ho];dsimp only
  split at h
  · rename_i b n hx
    have:opd (strip fr) x=.bool b:=by rw[← opdT_eq,hx]
    rw[this,← Tr.ok_some h]
    cases b<;>rfl
  · obtain ⟨h1,h2⟩:=dkp _ h
    have h1:=unT_ok h1
    rw[opdT_eq] at h1
    rw[kpe h1,h2]
 case convert s d x =>
  unfold evalOp;rw[ho];dsimp only
  split at h
  · rename_i u hu
    split at h
    · rename_i k hk
      have hx:=opdT_eq fr x
      split at h
      · rename_i n hn
        rw[hn] at hx
        rw[hu,hk,← hx]
        dsimp only
        rw[← Tr.ok_some h,wrI_eq]
      · rename_i n _ hn
        rw[hn] at hx
        rw[hu,hk,← hx]
        dsimp only
        rw[← Tr.ok_some h,wrapX_eq]
      · exact (Tr.bad_some h).elim
    · exact (Tr.bad_some h).elim
  · exact (Tr.bad_some h).elim
 case makeSlice t l c =>
  unfold evalOp;rw[ho];dsimp only
  have h1:=makeSliceT_ok (dflt _ h)
  rw[opdT_eq,opdT_eq] at h1
  rw[symB_ok hC.1]
  exact h1
 case slice t x lo hi mx =>
  unfold evalOp;rw[ho];dsimp only
  have e:∀ z:Option Operand,(z.map fun y=>(opdT fr y).1)=z.map (opd (strip fr)):=by
   intro z;cases z<;>simp[opdT_eq]
  rcases cond_run h with ⟨_,h⟩ | ⟨_,h⟩
  · obtain ⟨v,h1,h2⟩:=Tr.bind_some h
    rw[ofO_run,opdT_eq,e,e,e] at h1
    rw[kpe h1,← Tr.ok_some h2]
  · obtain ⟨h1,h2⟩:=dkp _ h
    have h1:=sliceT_ok h1
    rw[opdT_eq] at h1
    rw[e,e,e] at h1
    rw[kpe h1,h2]
 case fieldAddr t x f =>
  unfold evalOp;rw[ho];dsimp only
  obtain ⟨v,h1,h⟩:=Tr.bind_some h
  have h1:=fieldAddrT_ok h1
  rw[opdT_eq] at h1
  rw[kpe h1,← Tr.ok_some h]
 case field t x f =>
  unfold evalOp;rw[ho];dsimp only
  obtain ⟨h1,h2⟩:=dkp _ h
  rw[ofO_run,opdT_eq] at h1
  rw[kpe h1,h2]
 case index t x i =>
  unfold evalOp;rw[ho];dsimp only
  rw[opdT_eq] at h
  split at h
  · rename_i k n hn
    obtain ⟨v,h1,h⟩:=Tr.bind_some h
    have h1:=ixT_ok h1
    rw[opdT_eq] at h1
    rw[hn]
    dsimp only
    rw[kpe h1,← Tr.ok_some h]
  · exact (Tr.bad_some h).elim
 case indexAddr t x i =>
  unfold evalOp;rw[ho];dsimp only
  rw[opdT_eq] at h
  split at h
  · rename_i k n hn
    obtain ⟨v,h1,h⟩:=Tr.bind_some h
    have h1:=idxT_ok h1
    rw[opdT_eq] at h1
    rw[hn]
    dsimp only
    rw[kpe h1,← Tr.ok_some h]
  · exact (Tr.bad_some h).elim
 case extract t ix =>
  unfold evalOp;rw[ho];dsimp only
  rw[opdT_eq] at h
  split at h
  · rename_i l hl
    rw[hl]
    dsimp only
    rw[getO_eq] at h
    split at h
    · rename_i v hv'
      rw[hv',← Tr.ok_some h]
    · exact (Tr.bad_some h).elim
  · exact (Tr.bad_some h).elim
 case call c =>
  unfold evalOp;rw[ho];dsimp only
  exact callVT_ok hC h
 case makeMap t r =>
  unfold evalOp;rw[ho];try dsimp only
  cases r with
  | none =>
    dsimp only at h ⊢
    rw[symB_ok hC.1,← Tr.ok_some h]
  | some r=>exact (Tr.bad_some h).elim
 case mapUpdate t m k x =>
  unfold evalOp;rw[ho];dsimp only
  obtain ⟨δ,h1,h⟩:=Tr.bind_some h
  have h1:=updT_ok h1
  rw[opdT_eq,opdT_eq,opdT_eq] at h1
  rw[h1,← Tr.ok_some h];rfl
 case insert t m k x =>
  unfold evalOp;rw[ho];dsimp only
  obtain ⟨δ,h1,h⟩:=Tr.bind_some h
  have h1:=updT_ok h1
  rw[opdT_eq,opdT_eq,opdT_eq] at h1
  rw[h1,← Tr.ok_some h];rfl
 all_goals
  have h1:=dflt _ h
  rw[ofO_run] at h1
  exact h1

end
end Go.Eng
