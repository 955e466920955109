/- The engine as a tree: the other builtins; operations. -/
import Derived.Test.YtigmfpmabgekoaaGreatV6EngTcx2
set_option linter.unusedVariables false
set_option linter.unusedSimpArgs false
namespace Go.Eng
noncomputable section

abbrev bz:=K4→List HV→aa→Tr (HV×aa)
def qV (l:List HV):List AV:=ni (fun x=>x.1) l
def bz.Ok (c:bz) (call:aJ):Prop:=(∃ x,call .mode [] []=some x)∧∀ tgt args H x,(c tgt args H).run=some x→call tgt (qV args) H=some (x.1.1,x.2)
theorem mA {α:Type} {call:aJ} (h:∃ x,call .mode [] []=some x) (a b:α):lf call a b=a:=by
 obtain ⟨x,h⟩:=h
 unfold lf
 rw[h]

def FJ (P:Program) (H:aa) (t:TypeId) (x:HV):Tr HV :=
 match P.underlying t with
 | some (.slice _)=>match x.1 with
   | .nils=>.ok (.int .i64 (Int.ofNat 0),some 1)
   | .slc _ _ _ _ _ len _=>.ok (.int .i64 (Int.ofNat len),x.2)
   | .slcT _ _ _ len _=>.ok (.int .i64 (Int.ofNat len),x.2)
   | _=>.bad
 | some (.array n _)=>.ok (.int .i64 (Int.ofNat n),some 1)
 | _=>(uN ((tJ P H t x.1).map fun n=>AV.int .i64 n)).bind fun v=>.ok (v,none)
theorem FK {P:Program} {H:aa} {t:TypeId} {x v:HV} (h:(FJ P H t x).run=some v):(tJ P H t x.1).map (AV.int .i64)=some v.1:=by
 unfold FJ at h
 split at h
 · rename_i e hu
   unfold tJ
   rw[hu]
   split at h
   · rename_i hx;rw[hx,← Tr.ab h];rfl
   · rename_i hx;rw[hx,← Tr.ab h];rfl
   · rename_i hx;rw[hx,← Tr.ab h];rfl
   · exact (Tr.ae h).elim
 · rename_i hu
   unfold tJ
   rw[hu,← Tr.ab h];rfl
 · obtain ⟨u,h1,h⟩:=Tr.bind_some h
   rw[cN] at h1
   rw[h1,← Tr.ab h]
def C0    (P:Program) (H:aa) (t:TypeId) (s x:AV):Tr (AV×Delta) :=
 match P.underlying t with
 | some (.slice e)=>match bf P e with
   | some z=>match na x with
     | some n=>match s with
       | .slc d i v off sz m cap=>(rN H z (FO n m) x).bind fun new=>cond (ff H d) .bad ((wb H d i v (some 0)).bind fun r=>cond (Nat.beq sz z) (match r with
          | .M l=>(Eb l off none (iY d new)).bind fun r'=>.ok (.int .i64 (Int.ofNat (FO n m)),.set d i (v,.row r'))
          | _=>.bad) .bad)
       | _=>.bad
     | none=>.bad
   | none=>.bad
 | _=>.bad
theorem C3 {P:Program} {H:aa} {t:TypeId} {s x:AV} {y:AV×Delta} (h:(C0 P H t s x).run=some y):copyV P H t s x=some y:=by
 unfold C0 at h
 unfold copyV
 split at h
 · rename_i e hu
   split at h
   · rename_i z hs
     split at h
     · rename_i n hn
       split at h
       · rename_i d i v off sz m cap _ _
         obtain ⟨new,h1,h⟩:=Tr.bind_some h
         rw[dL] at h
         obtain ⟨hl,h⟩:=Tr.jF h
         obtain ⟨r,h2,h⟩:=Tr.bind_some h
         obtain ⟨hz,h⟩:=Tr.aM h
         have hz:=Nat.eq_of_beq_eq_true hz
         have hcv:=pj h1
         rw[AP] at hcv
         have hcl:=rO hcv
         rw[hu]
         dsimp only
         rw[hs,hn]
         dsimp only[na]
         rw[hcv]
         dsimp only
         rw[hl,if_neg (by simp),kJ h2]
         dsimp only
         split at h
         · rename_i l _
           obtain ⟨r',h3,h⟩:=Tr.bind_some h
           obtain ⟨k1,k2⟩:=vY h3
           rw[fa,hcl] at k1
           rw[if_pos ⟨hz,by rw[hz];exact k1⟩,k2,← Tr.ab h,AP]
           rfl
         · exact (Tr.ae h).elim
       · exact (Tr.ae h).elim
     · exact (Tr.ae h).elim
   · exact (Tr.ae h).elim
 · exact (Tr.ae h).elim
def wA (z:Row) (n:Nat):Row :=
 match z with
 | .I k l=>cond (wG l) (.M [.arr k (fun _=>0) (iE n (g6 l))]) (dw z n)
 | z=>dw z n
theorem vh (z:Row) (n:Nat):wA z n=dw z n:=by
 cases z with
 | I k l =>
   simp only[wA]
   cases h:wG l with
   | true=>simp only[cond_true,dw,h,if_true,b7,c8]
   | false=>rfl
 | _=>rfl
def za (P:Program) (H:aa) (t:TypeId) (s:AV):Tr (AV×Delta) :=
 match P.underlying t with
 | some (.slice e)=>match s with
   | .slc d i v off sz len _=>cond (ff H d) .bad (match (ct P e).bind AV.row with
     | some z=>match bf P e with
       | some n=>cond (Nat.beq n sz) (cond (Nat.beq (gV z) sz) (.req (bX 0 len) ((wb H d i v (some 0)).bind fun r=>match r with
          | .M l=>(Eb l off none (wA z len)).bind fun r'=>.ok (.tup [],.set d i (v,.row r'))
          | _=>.bad)) .bad) .bad
       | none=>.bad
     | none=>.bad)
   | _=>.bad
 | _=>.bad
theorem Ab (z:Row) (n:Nat):(dw z n).len=n*z.len:=by
 have fn:∀ l:List AV,(Dh l n).len=n*l.length:=by
  intro l
  unfold Dh
  split
  · split<;>simp[Row.len,dy]
  · simp[Row.len,dy]
 cases z with
 | I k l=>simp only[dw];split<;>simp[Row.len,ay,aG,dy]
 | _=>simp only[dw,fn,Row.bc]
theorem BC {P:Program} {H:aa} {t:TypeId} {s:AV} {y:AV×Delta} (h:(za P H t s).run=some y):rR P H t s=some y:=by
 unfold za at h
 unfold rR
 split at h
 · rename_i e hu
   split at h
   · rename_i d i v off sz len cap
     rw[dL] at h
     obtain ⟨hl,h⟩:=Tr.jF h
     split at h
     · rename_i z hz
       split at h
       · rename_i n hs
         obtain ⟨hn,h⟩:=Tr.aM h
         obtain ⟨hzl,h⟩:=Tr.aM h
         have hn:=Nat.eq_of_beq_eq_true hn
         rw[eY] at hzl
         have hzl:=Nat.eq_of_beq_eq_true hzl
         obtain ⟨h0,h⟩:=Tr.aI h
         rw[gQ,decide_eq_true_eq] at h0
         obtain ⟨r,h2,h⟩:=Tr.bind_some h
         rw[hu]
         dsimp only
         rw[hl,if_neg (by simp),hz,kJ h2]
         dsimp only
         split at h
         · rename_i l _
           obtain ⟨r',h3,h⟩:=Tr.bind_some h
           obtain ⟨k1,k2⟩:=vY h3
           rw[vh] at k1 k2
           rw[Ab,hzl] at k1
           rw[if_pos ⟨hzl,by rw[hs,hn],k1⟩,← Tr.ab h]
           rw[if_neg (by omega)]
           simp only[xy,if_true]
           rw[← k2]
         · exact (Tr.ae h).elim
       · exact (Tr.ae h).elim
     · exact (Tr.ae h).elim
   · exact (Tr.ae h).elim
 · exact (Tr.ae h).elim
def nf (P:Program) (nx:Nat) (t:TypeId) (l c:AV):Tr (AV×Delta) :=
 match P.underlying t with
 | some (.slice e)=>match l with
   | .int _ l=>match c with
     | .int _ c=>match P.info? e with
       | some inf=>match (ct P e).bind AV.row with
         | some z=>.req (Is l c inf.bytes) (cond (Nat.beq (gV z) inf.size) (.ok (.slc 0 nx 0 0 inf.size (gI l) (some (gI c)),.push (.row (wA z (gI c))))) .bad)
         | none=>.bad
       | none=>.bad
     | _=>.bad
   | _=>.bad
 | _=>.bad
theorem tK {P:Program} {nx:Nat} {t:TypeId} {l c:AV} {y:AV×Delta} (h:(nf P nx t l c).run=some y):iB P true nx t l c=some y:=by
 unfold nf at h
 unfold iB
 split at h
 · rename_i e hu
   split at h
   · split at h
     · split at h
       · rename_i inf hi
         split at h
         · rename_i z hz
           obtain ⟨hc,h⟩:=Tr.aI h
           obtain ⟨hl,h⟩:=Tr.aM h
           rw[zx,decide_eq_true_eq] at hc
           rw[eY] at hl
           have hl:=Nat.eq_of_beq_eq_true hl
           rw[hu]
           dsimp only
           rw[hi,hz]
           dsimp only
           rw[if_pos ⟨hc.1,hc.2.1,hc.2.2.1,hc.2.2.2,hl⟩,← Tr.ab h,vh,iN,iN]
           rfl
         · exact (Tr.ae h).elim
       · exact (Tr.ae h).elim
     · exact (Tr.ae h).elim
   · exact (Tr.ae h).elim
 · exact (Tr.ae h).elim

def hv (x:AV×Delta):Tr (HV×Delta):=.ok ((x.1,none),x.2)
theorem AG {x:AV×Delta} {y:HV×Delta} (h:(hv x).run=some y):y.1.1=x.1∧y.2=x.2:=by
 have:=Tr.ab h
 rw[← this]
 exact ⟨rfl,rfl⟩
def sF (l:List AV):List HV:=ni (fun x=>(x,none)) l
theorem mW:∀ l:List AV,qV (sF l)=l
 | []=>rfl
 | x::l=>by
   have e:qV (sF (x::l))=x::qV (sF l):=rfl
   rw[e,mW l]
theorem vk:∀ a b:List HV,qV (mC a b)=qV a++qV b
 | [],b=>rfl
 | x::a,b=>by
   have e:qV (mC (x::a) b)=x.1::qV (mC a b):=rfl
   rw[e,vk a b];rfl
def yb (fr:aK) (l:List Operand):List HV:=ni (fun x=>bP fr x) l
theorem sK (fr:aK):∀ l,qV (yb fr l)=jr (strip fr) l
 | []=>rfl
 | x::l=>by
   have e:qV (yb fr (x::l))=(bP fr x).1::qV (yb fr l):=rfl
   rw[e,sK fr l,aQ];rfl
def GU   (P:Program) (H:aa) (t:TypeId) (m key x:AV):Tr Delta :=
 match P.underlying t with
 | some (.map kt _)=>match m with
   | .map d i=>cond (aw H d) .bad (cond (jm P kt key) (match ao H d i with
     | (0,.fmap q h g c)=>match tI q key with
       | some n=>match x8 x with
         | some y=>.ok (.set d i (0,.fmap q (l7 h n true) (mR g n y) (qd (h n) c)))
         | none=>.bad
       | none=>.bad
     | _=>.bad) .bad)
   | _=>.bad
 | _=>.bad
def HN (P:Program) (H:aa) (t:TypeId) (m key:AV):Tr Delta :=
 match P.underlying t with
 | some (.map kt _)=>match m with
   | .map d i=>cond (aw H d) .bad (cond (jm P kt key) (match ao H d i with
     | (0,.fmap q h g c)=>match tI q key with
       | some n=>.ok (.set d i (0,.fmap q (l7 h n false) (mR g n 0) (Aq (h n) c)))
       | none=>.bad
     | _=>.bad) .bad)
   | _=>.bad
 | _=>.bad
def Im (fr:aK):Option Operand→Bool
 | none=>true
 | some y=>isLit (bP fr y)
theorem lu {α:Type} {b:Bool} {s t:Tr α} {x:α} (h:(cond b s t).run=some x):b=true∧s.run=some x∨b=false∧t.run=some x:=by
 cases b
 · exact .inr ⟨rfl,h⟩
 · exact .inl ⟨rfl,h⟩
theorem Bt {P:Program} {H:aa} {t:TypeId} {m key x:AV} {δ:Delta} (h:(GU P H t m key x).run=some δ):jg P H t m key x=some δ:=by
 unfold GU at h
 unfold jg
 split at h
 · rename_i kt et hu
   rw[hu]
   split at h
   · rename_i d i
     dsimp only
     rcases lu h with ⟨_,h⟩ | ⟨h1,h⟩
     · exact (Tr.ae h).elim
     · rcases lu h with ⟨h2,h⟩ | ⟨_,h⟩
       · rw[if_neg (by rw[h1];simp),if_pos h2]
         split at h
         · rename_i q f g c hg
           rw[hg]
           try dsimp only
           split at h
           · rename_i n hn
             split at h
             · rename_i y hy
               simp only[hn,hy,← Tr.ab h,oT,oU,rS]
             · exact (Tr.ae h).elim
           · exact (Tr.ae h).elim
         · exact (Tr.ae h).elim
       · exact (Tr.ae h).elim
   · exact (Tr.ae h).elim
 · exact (Tr.ae h).elim
theorem Ft {P:Program} {H:aa} {t:TypeId} {m key:AV} {δ:Delta} (h:(HN P H t m key).run=some δ):oa P H t m key=some (.tup [],δ):=by
 unfold HN at h
 unfold oa
 split at h
 · rename_i kt et hu
   rw[hu]
   split at h
   · rename_i d i
     dsimp only
     rcases lu h with ⟨_,h⟩ | ⟨h1,h⟩
     · exact (Tr.ae h).elim
     · rcases lu h with ⟨h2,h⟩ | ⟨_,h⟩
       · rw[if_neg (by rw[h1];simp),if_pos h2]
         split at h
         · rename_i q f g c hg
           rw[hg]
           try dsimp only
           split at h
           · rename_i n hn
             simp only[hn,← Tr.ab h,oT,oU,wL]
           · exact (Tr.ae h).elim
         · exact (Tr.ae h).elim
       · exact (Tr.ae h).elim
   · exact (Tr.ae h).elim
 · exact (Tr.ae h).elim
def y8 (P:Program) (call:aJ) (callR:bz) (fr:aK) (H:aa) (nx:Nat) (c:Call):Tr (HV×Delta) :=
 match c.callee with
 | .value f=>match (bP fr f).1 with
   | .fn (.func g) a b=>(callR (.fn g) (mC (sF a) (mC (yb fr c.args.toList) (sF b))) H).bind fun x=>.ok (x.1,.heap x.2)
   | .yld d i=>(callR (.round d i) (yb fr c.args.toList) H).bind fun x=>.ok (x.1,.heap x.2)
   | _=>.bad
 | .builtin .len=>match c.args.toList,c.argTypes.toList with
   | x::_,t::_=>(FJ P H t (bP fr x)).bind fun v=>.ok (v,.aX)
   | _,_=>.bad
 | .builtin .append=>match c.args.toList,c.argTypes.toList with
   | s::x::_,t::u::_=>(nO P H nx t u (bP fr s).1 (bP fr x).1).bind hv
   | _,_=>.bad
 | .builtin .copy=>match c.args.toList,c.argTypes.toList with
   | s::x::_,t::_=>(C0 P H t (bP fr s).1 (bP fr x).1).bind hv
   | _,_=>.bad
 | .builtin .clear=>match c.args.toList,c.argTypes.toList with
   | s::_,t::_=>(za P H t (bP fr s).1).bind hv
   | _,_=>.bad
 | .builtin .min=>match yc fr c.args.toList with
   | .int k x::r=>(oK false k x r).bind fun v=>.ok ((v,none),.aX)
   | _=>.bad
 | .builtin .max=>match yc fr c.args.toList with
   | .int k x::r=>(oK true k x r).bind fun v=>.ok ((v,none),.aX)
   | _=>.bad
 | .builtin .delete=>match c.args.toList,c.argTypes.toList with
   | m::k::_,t::_=>(HN P H t (bP fr m).1 (bP fr k).1).bind fun δ=>.ok ((.tup [],none),δ)
   | _,_=>.bad
 | _=>(uN (fk P call (strip fr) H nx c)).bind hv
theorem BA {P:Program} {call:aJ} {callR:bz} (hC:callR.Ok call) {fr:aK} {H:aa} {nx:Nat} {c:Call} {y:HV×Delta} (h:(y8 P call callR fr H nx c).run=some y):fk P call (strip fr) H nx c=some (y.1.1,y.2):=by
 have dflt:∀ (t:Tr (AV×Delta)),(t.bind hv).run=some y→t.run=some (y.1.1,y.2):=by
  intro t ht
  obtain ⟨x,h1,h2⟩:=Tr.bind_some ht
  obtain ⟨e1,e2⟩:=AG h2
  rw[h1,e1,e2]
 unfold y8 at h
 split at h
 · rename_i f hf
   unfold fk
   rw[hf]
   dsimp only
   rw[aQ] at h
   split at h
   · rename_i g a b ho
     obtain ⟨x,h1,h⟩:=Tr.bind_some h
     rw[ho]
     dsimp only
     have:=hC.2 _ _ _ _ h1
     rw[vk,vk,mW,mW,sK] at this
     rw[this,← Tr.ab h];rfl
   · rename_i d i ho
     obtain ⟨x,h1,h⟩:=Tr.bind_some h
     rw[ho]
     dsimp only
     have:=hC.2 _ _ _ _ h1
     rw[sK] at this
     rw[this,← Tr.ab h];rfl
   · exact (Tr.ae h).elim
 · rename_i hf
   unfold fk
   rw[hf]
   dsimp only
   split at h
   · rename_i x _ t _ hx ht
     obtain ⟨v,h1,h⟩:=Tr.bind_some h
     rw[hx,ht]
     dsimp only
     have:=FK h1
     rw[aQ] at this
     obtain ⟨n,k1,k2⟩:=Option.map_eq_some_iff.1 this
     rw[k1,← Tr.ab h,← k2];rfl
   · exact (Tr.ae h).elim
 · rename_i hf
   unfold fk
   rw[hf]
   dsimp only
   split at h
   · rename_i s x _ t u _ hx ht
     rw[hx,ht]
     dsimp only
     have h:=yX (dflt _ h)
     rw[aQ,aQ] at h
     rw[mA hC.1]
     exact h
   · exact (Tr.ae h).elim
 · rename_i hf
   unfold fk
   rw[hf]
   dsimp only
   split at h
   · rename_i s x _ t _ hx ht
     rw[hx,ht]
     dsimp only
     have h:=C3 (dflt _ h)
     rw[aQ,aQ] at h
     exact h
   · exact (Tr.ae h).elim
 · rename_i hf
   unfold fk
   rw[hf]
   dsimp only
   split at h
   · rename_i s _ t _ hx ht
     rw[hx,ht]
     dsimp only
     have h:=BC (dflt _ h)
     rw[aQ] at h
     exact h
   · exact (Tr.ae h).elim
 · rename_i hf
   unfold fk
   rw[hf]
   dsimp only
   rw[sL] at h
   split at h
   · rename_i k x r hx
     obtain ⟨v,h1,h⟩:=Tr.bind_some h
     rw[hx]
     dsimp only[nk]
     rw[nm _ _ _ h1,← Tr.ab h];rfl
   · exact (Tr.ae h).elim
 · rename_i hf
   unfold fk
   rw[hf]
   dsimp only
   rw[sL] at h
   split at h
   · rename_i k x r hx
     obtain ⟨v,h1,h⟩:=Tr.bind_some h
     rw[hx]
     dsimp only[nk]
     rw[nm _ _ _ h1,← Tr.ab h];rfl
   · exact (Tr.ae h).elim
 · rename_i hf
   unfold fk
   rw[hf]
   dsimp only
   split at h
   · rename_i m k _ t _ hx ht
     rw[hx,ht]
     dsimp only
     obtain ⟨δ,h1,h⟩:=Tr.bind_some h
     have h1:=Ft h1
     rw[aQ,aQ] at h1
     rw[h1,← Tr.ab h]
   · exact (Tr.ae h).elim
 · have h:=dflt _ h
   rw[cN] at h;exact h

def HG (P:Program) (op:BinOp) (t:TypeId) (x y:HV):Tr HV :=
 cond (isLit x && isLit y) (match x.1,y.1 with
  | .int k a,.int k' b=>(uN (Al P op t (.int k a) (.int k' b))).bind fun v=>.ok (v,some 1)
  | a,b=>(CP P op t a b).bind fun v=>.ok (v,none))
 ((CP P op t x.1 y.1).bind fun v=>.ok (v,none))
theorem Fe {P:Program} {op:BinOp} {t:TypeId} {x y v:HV} (h:(HG P op t x y).run=some v):jD P op t x.1 y.1=some v.1:=by
 have gen:∀ a b,((CP P op t a b).bind fun v=>Tr.ok ((v,none):HV)).run=some v→jD P op t a b=some v.1:=by
  intro a b h
  obtain ⟨u,h1,h⟩:=Tr.bind_some h
  rw[Ff h1,← Tr.ab h]
 unfold HG at h
 cases hb:isLit x && isLit y with
 | false=>rw[hb,cond_false] at h;exact gen _ _ h
 | true =>
   rw[hb,cond_true] at h
   split at h
   · rename_i k a k' b hx hy
     obtain ⟨u,h1,h⟩:=Tr.bind_some h
     rw[cN,rJ] at h1
     rw[hx,hy,h1,← Tr.ab h]
   · exact gen _ _ h

def oI (fr:aK) (l:List (Nat×Operand)):List (Nat×AV):=ni (fun p=>(p.1,(bP fr p.2).1)) l
theorem ng (fr:aK):∀ l,oI fr l=dF (strip fr) l
 | []=>rfl
 | (i,x)::l=>by
   have e:oI fr ((i,x)::l)=(i,(bP fr x).1)::oI fr l:=rfl
   rw[e,ng fr l,aQ];rfl
def JZ (op:Op):Oper→Program→aJ→bz→aK→aa→Nat→Tr (HV×Delta) :=
 match op with
 | .move x=>fun _ _ _ _ fr _ _=>.ok (bP fr x,.aX)
 | .assign x=>fun _ _ _ _ fr _ _=>.ok (bP fr x,.aX)
 | .pick c a b=>fun _ _ _ _ fr _ _=>match bP fr c with
   | (.bool t,none)=>.ite t (.ok (bP fr a,.aX)) (.ok (bP fr b,.aX))
   | (.bool t,some _)=>cond t (.ok (bP fr a,.aX)) (.ok (bP fr b,.aX))
   | _=>.bad
 | .alloc t=>fun _ P _ _ _ _ nx=>match (ct P t).bind AV.row with
   | some z=>.ok ((.ptr 0 nx 0 0,none),.push (.row (iT z)))
   | none=>.bad
 | .box _ x=>fun _ _ _ _ fr _ nx=>match (bP fr x).1.row with
   | some r=>.ok ((.ptr 0 nx 0 0,none),.push (.row (iT r)))
   | none=>.bad
 | .build t parts=>fun _ P _ _ fr _ _=>(uN (vl P true t (oI fr parts.toList))).bind fun v=>.ok ((v,none),.aX)
 | .buildSlice t len parts=>fun _ P _ _ fr _ nx=>(uN (iX P nx t len (oI fr parts.toList))).bind fun x=>.ok ((x.1,some 1),x.2)
 | .load t a=>fun _ P _ _ fr H _=>(loadT P H t (bP fr a)).bind fun v=>.ok ((v,none),.aX)
 | .store t a x=>fun _ P _ _ fr H _=>(storeT P H t (bP fr a) (bP fr x).1).bind fun δ=>.ok ((.tup [],none),δ)
 | .nilCheck x=>fun _ _ _ _ fr _ _=>match (bP fr x).1 with
   | .ptr d i v off=>.ok (bP fr x,.aX)
   | .ptrT s r off=>.ok (bP fr x,.aX)
   | _=>.bad
 | .binOp op t x y _=>fun _ P _ _ fr _ _=>(HG P op t (bP fr x) (bP fr y)).bind fun v=>.ok (v,.aX)
 | .unOp op _ x=>fun _ _ _ _ fr _ _=>match op,bP fr x with
   | .not,(.bool b,some _)=>.ok ((.bool (cond b false true),some 1),.aX)
   | op,x=>(NS op x.1).bind fun v=>.ok ((v,none),.aX)
 | .convert src dst x=>fun _ P _ _ fr _ _=>match P.underlying src with
   | some _=>match P.underlying dst with
     | some (.int k)=>match bP fr x with
       | (.int _ n,none)=>.ok ((.int k (NW k n),none),.aX)
       | (.int _ n,some _)=>.ok ((.int k (vg k n),some 1),.aX)
       | _=>.bad
     | _=>.bad
   | none=>.bad
 | .makeSlice t l c=>fun _ P _ _ fr _ nx=>(nf P nx t (bP fr l).1 (bP fr c).1).bind hv
 | .slice t x lo hi mx=>fun _ P _ _ fr _ _=>cond (isLit (bP fr x) && (Im fr lo && (Im fr hi && Im fr mx)))
   ((uN (p7 P t (bP fr x).1 (lo.map fun y=>(bP fr y).1) (hi.map fun y=>(bP fr y).1) (mx.map fun y=>(bP fr y).1))).bind fun v=>.ok ((v,some 1),.aX))
   ((zR P t (bP fr x).1 (lo.map fun y=>(bP fr y).1) (hi.map fun y=>(bP fr y).1) (mx.map fun y=>(bP fr y).1)).bind fun v=>.ok ((v,none),.aX))
 | .fieldAddr t x f=>fun _ P _ _ fr _ _=>(m5 P t (bP fr x) f).bind fun v=>.ok (v,.aX)
 | .field t x f=>fun _ P _ _ fr _ _=>(uN (r6 P t (bP fr x).1 f)).bind fun v=>.ok ((v,none),.aX)
 | .indexAddr t x i=>fun _ P _ _ fr _ _=>match (bP fr i).1 with
   | .int _ n=>(Ia P t (bP fr x) (isLit (bP fr i)) n).bind fun v=>.ok (v,.aX)
   | _=>.bad
 | .index t x i=>fun _ P _ _ fr _ _=>match (bP fr i).1 with
   | .int _ n=>(LN P t (bP fr x).1 (isLit (bP fr i)) n).bind fun v=>.ok ((v,none),.aX)
   | _=>.bad
 | .extract t ix=>fun _ _ _ _ fr _ _=>match (bP fr t).1 with
   | .tup l=>match xg l ix with
     | some v=>.ok ((v,none),.aX)
     | none=>.bad
   | _=>.bad
 | .call c=>fun _ P call callR fr H nx=>y8 P call callR fr H nx c
 | .makeMap t r=>fun _ P _ _ _ _ nx=>match r with
   | none=>.ok ((.map 0 nx,none),.push (sE P t))
   | some _=>.bad
 | .mapUpdate t m k x=>fun _ P _ _ fr H _=>(GU P H t (bP fr m).1 (bP fr k).1 (bP fr x).1).bind fun δ=>.ok ((.tup [],none),δ)
 | .insert t m k x=>fun _ P _ _ fr H _=>(GU P H t (bP fr m).1 (bP fr k).1 (bP fr x).1).bind fun δ=>.ok ((.tup [],none),δ)
 | _=>fun o P call _ fr H nx=>(uN (evalOp P call (strip fr) H nx o)).bind hv
theorem zF {o:Oper} {P:Program} {call:aJ} {callR:bz} (hC:callR.Ok call) {fr:aK} {H:aa} {nx:Nat} {y:HV×Delta} (h:(JZ o.op o P call callR fr H nx).run=some y):evalOp P call (strip fr) H nx o=some (y.1.1,y.2):=by
 have dflt:∀ (t:Tr (AV×Delta)),(t.bind hv).run=some y→t.run=some (y.1.1,y.2):=by
  intro t ht
  obtain ⟨x,h1,h2⟩:=Tr.bind_some ht
  obtain ⟨e1,e2⟩:=AG h2
  rw[h1,e1,e2]
 have dkp:∀ (t:Tr AV),(t.bind fun v=>Tr.ok (((v,none),.aX):HV×Delta)).run=some y→t.run=some y.1.1∧y.2=.aX:=by
  intro t ht
  obtain ⟨x,h1,h2⟩:=Tr.bind_some ht
  rw[h1,← Tr.ab h2];exact ⟨rfl,rfl⟩
 have kpe:∀ {o:Option AV} {v:AV},o=some v→kp o=some (v,.aX):=by rintro o v rfl;rfl
 cases ho:o.op<;>rw[ho] at h<;>simp only[JZ] at h
 case move x =>
  unfold evalOp;rw[ho];dsimp only
  rw[← Tr.ab h,← aQ]
 case assign x =>
  unfold evalOp;rw[ho];dsimp only
  rw[← Tr.ab h,← aQ]
 case pick c a b =>
  unfold evalOp;rw[ho];dsimp only
  have hc':=aQ fr c
  split at h
  · rename_i t hc
    rw[hc] at hc'
    rw[← hc']
    dsimp only
    rcases Tr.fK h with ⟨rfl,h⟩ | ⟨rfl,h⟩<;>rw[← Tr.ab h,← aQ,← aQ]<;>rfl
  · rename_i t n hc
    rw[hc] at hc'
    rw[← hc']
    dsimp only
    cases t with
    | true=>rw[cond_true] at h;rw[← Tr.ab h,← aQ,← aQ];rfl
    | false=>rw[cond_false] at h;rw[← Tr.ab h,← aQ,← aQ];rfl
  · exact (Tr.ae h).elim
 case alloc t =>
  unfold evalOp;rw[ho];dsimp only
  split at h
  · rename_i z hz
    rw[hz,← Tr.ab h,Option.map_some,mA hC.1]
  · exact (Tr.ae h).elim
 case box t x =>
  unfold evalOp;rw[ho];dsimp only
  rw[aQ] at h
  split at h
  · rename_i z hz
    rw[hz,← Tr.ab h,Option.map_some,mA hC.1]
  · exact (Tr.ae h).elim
 case build t parts =>
  unfold evalOp;rw[ho];dsimp only
  obtain ⟨h1,h2⟩:=dkp _ h
  rw[cN,ng] at h1
  rw[mA hC.1,kpe h1,h2]
 case buildSlice t len parts =>
  unfold evalOp;rw[ho];dsimp only
  obtain ⟨x,h1,h⟩:=Tr.bind_some h
  rw[cN,ng] at h1
  rw[h1,← Tr.ab h]
 case load t a =>
  unfold evalOp;rw[ho];dsimp only
  obtain ⟨h1,h2⟩:=dkp _ h
  have h1:=xJ h1
  rw[aQ] at h1
  rw[kpe h1,h2]
 case store t a x =>
  unfold evalOp;rw[ho];dsimp only
  obtain ⟨δ,h1,h⟩:=Tr.bind_some h
  have h1:=Cv h1
  rw[aQ,aQ] at h1
  rw[h1,← Tr.ab h];rfl
 case nilCheck x =>
  unfold evalOp;rw[ho];dsimp only
  rw[← aQ]
  split at h
  · rename_i d i v off hx
    rw[hx,← Tr.ab h,hx]
  · rename_i s r off hx
    rw[hx,← Tr.ab h,hx]
  · exact (Tr.ae h).elim
 case binOp op t x y' g =>
  unfold evalOp;rw[ho];dsimp only
  obtain ⟨v,h1,h⟩:=Tr.bind_some h
  have h1:=Fe h1
  rw[aQ,aQ] at h1
  rw[kpe h1,← Tr.ab h]
 case unOp op t x =>
  unfold evalOp;rw[ho];dsimp only
  split at h
  · rename_i b n hx
    have:bB (strip fr) x=.bool b:=by rw[← aQ,hx]
    rw[this,← Tr.ab h]
    cases b<;>rfl
  · obtain ⟨h1,h2⟩:=dkp _ h
    have h1:=I2 h1
    rw[aQ] at h1
    rw[kpe h1,h2]
 case convert s d x =>
  unfold evalOp;rw[ho];dsimp only
  split at h
  · rename_i u hu
    split at h
    · rename_i k hk
      have hx:=aQ fr x
      split at h
      · rename_i n hn
        rw[hn] at hx
        rw[hu,hk,← hx]
        dsimp only
        rw[← Tr.ab h,I3]
      · rename_i n _ hn
        rw[hn] at hx
        rw[hu,hk,← hx]
        dsimp only
        rw[← Tr.ab h,th]
      · exact (Tr.ae h).elim
    · exact (Tr.ae h).elim
  · exact (Tr.ae h).elim
 case makeSlice t l c =>
  unfold evalOp;rw[ho];dsimp only
  have h1:=tK (dflt _ h)
  rw[aQ,aQ] at h1
  rw[mA hC.1]
  exact h1
 case slice t x lo hi mx =>
  unfold evalOp;rw[ho];dsimp only
  have e:∀ z:Option Operand,(z.map fun y=>(bP fr y).1)=z.map (bB (strip fr)):=by
   intro z;cases z<;>simp[aQ]
  rcases lu h with ⟨_,h⟩ | ⟨_,h⟩
  · obtain ⟨v,h1,h2⟩:=Tr.bind_some h
    rw[cN,aQ,e,e,e] at h1
    rw[kpe h1,← Tr.ab h2]
  · obtain ⟨h1,h2⟩:=dkp _ h
    have h1:=Cp h1
    rw[aQ] at h1
    rw[e,e,e] at h1
    rw[kpe h1,h2]
 case fieldAddr t x f =>
  unfold evalOp;rw[ho];dsimp only
  obtain ⟨v,h1,h⟩:=Tr.bind_some h
  have h1:=tC h1
  rw[aQ] at h1
  rw[kpe h1,← Tr.ab h]
 case field t x f =>
  unfold evalOp;rw[ho];dsimp only
  obtain ⟨h1,h2⟩:=dkp _ h
  rw[cN,aQ] at h1
  rw[kpe h1,h2]
 case index t x i =>
  unfold evalOp;rw[ho];dsimp only
  rw[aQ] at h
  split at h
  · rename_i k n hn
    obtain ⟨v,h1,h⟩:=Tr.bind_some h
    have h1:=Ii h1
    rw[aQ] at h1
    rw[hn]
    dsimp only
    rw[kpe h1,← Tr.ab h]
  · exact (Tr.ae h).elim
 case indexAddr t x i =>
  unfold evalOp;rw[ho];dsimp only
  rw[aQ] at h
  split at h
  · rename_i k n hn
    obtain ⟨v,h1,h⟩:=Tr.bind_some h
    have h1:=FD h1
    rw[aQ] at h1
    rw[hn]
    dsimp only
    rw[kpe h1,← Tr.ab h]
  · exact (Tr.ae h).elim
 case extract t ix =>
  unfold evalOp;rw[ho];dsimp only
  rw[aQ] at h
  split at h
  · rename_i l hl
    rw[hl]
    dsimp only
    rw[ky] at h
    split at h
    · rename_i v hv'
      rw[hv',← Tr.ab h]
    · exact (Tr.ae h).elim
  · exact (Tr.ae h).elim
 case call c =>
  unfold evalOp;rw[ho];dsimp only
  exact BA hC h
 case makeMap t r =>
  unfold evalOp;rw[ho];try dsimp only
  cases r with
  | none =>
    dsimp only at h ⊢
    rw[mA hC.1,← Tr.ab h]
  | some r=>exact (Tr.ae h).elim
 case mapUpdate t m k x =>
  unfold evalOp;rw[ho];dsimp only
  obtain ⟨δ,h1,h⟩:=Tr.bind_some h
  have h1:=Bt h1
  rw[aQ,aQ,aQ] at h1
  rw[h1,← Tr.ab h];rfl
 case insert t m k x =>
  unfold evalOp;rw[ho];dsimp only
  obtain ⟨δ,h1,h⟩:=Tr.bind_some h
  have h1:=Bt h1
  rw[aQ,aQ,aQ] at h1
  rw[h1,← Tr.ab h];rfl
 all_goals
  have h1:=dflt _ h
  rw[cN] at h1
  exact h1

end
end Go.Eng
