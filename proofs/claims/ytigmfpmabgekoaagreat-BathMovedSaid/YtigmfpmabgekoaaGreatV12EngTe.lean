/- The engine as a tree: the other builtins; operations. -/
import Derived.Test.YtigmfpmabgekoaaGreatV12EngTcx2
set_option linter.unusedVariables false
set_option linter.unusedSimpArgs false
namespace Go.Eng
noncomputable section

abbrev bF:=N7→List HV→aa→Tr (HV×aa)
def rU (l:List HV):List AV:=oB (fun x=>x.1) l
def bF.Ok (c:bF) (call:aS):Prop:=(∃ x,call .mode [] []=some x)∧∀ tgt args H x,(c tgt args H).run=some x→call tgt (rU args) H=some (x.1.1,x.2)
theorem nH {α:Type} {call:aS} (h:∃ x,call .mode [] []=some x) (a b:α):mi call a b=a:=by
 obtain ⟨x,h⟩:=h
 unfold mi
 rw[h]

def Hz (P:Program) (H:aa) (t:TypeId) (x:HV):Tr HV :=
 match P.underlying t with
 | some (.slice _)=>match x.1 with
   | .nils=>.ok (.int .i64 (Int.ofNat 0),some 1)
   | .slc _ _ _ _ _ len _=>.ok (.int .i64 (Int.ofNat len),x.2)
   | .slcT _ _ _ len _=>.ok (.int .i64 (Int.ofNat len),x.2)
   | _=>.bad
 | some (.array n _)=>.ok (.int .i64 (Int.ofNat n),some 1)
 | _=>(wc ((uZ P H t x.1).map fun n=>AV.int .i64 n)).bind fun v=>.ok (v,none)
theorem HD {P:Program} {H:aa} {t:TypeId} {x v:HV} (h:(Hz P H t x).run=some v):(uZ P H t x.1).map (AV.int .i64)=some v.1:=by
 unfold Hz at h
 split at h
 · rename_i e hu
   unfold uZ
   rw[hu]
   split at h
   · rename_i hx;rw[hx,← Tr.ab h];rfl
   · rename_i hx;rw[hx,← Tr.ab h];rfl
   · rename_i hx;rw[hx,← Tr.ab h];rfl
   · exact (Tr.ae h).elim
 · rename_i hu
   unfold uZ
   rw[hu,← Tr.ab h];rfl
 · obtain ⟨u,h1,h⟩:=Tr.bind_some h
   rw[cW] at h1
   rw[h1,← Tr.ab h]
def EM    (P:Program) (H:aa) (t:TypeId) (s x:AV):Tr (AV×Delta) :=
 match P.underlying t with
 | some (.slice e)=>match bo P e with
   | some z=>match ov x with
     | some n=>match s with
       | .slc d i v off sz m cap=>(sU H z (xB n m) x).bind fun new=>cond (fL H d) .bad ((xS H d i v (some 0)).bind fun r=>cond (Nat.beq sz z) (match r with
          | .M l=>(Gb l off none (jH d new)).bind fun r'=>.ok (.int .i64 (Int.ofNat (xB n m)),.set d i (v,.row r'))
          | _=>.bad) .bad)
       | _=>.bad
     | none=>.bad
   | none=>.bad
 | _=>.bad
theorem EN {P:Program} {H:aa} {t:TypeId} {s x:AV} {y:AV×Delta} (h:(EM P H t s x).run=some y):copyV P H t s x=some y:=by
 unfold EM at h
 unfold copyV
 split at h
 · rename_i e hu
   split at h
   · rename_i z hs
     split at h
     · rename_i n hn
       split at h
       · rename_i d i v off sz m cap _ _
         obtain ⟨new,h1,h⟩:=Tr.bind_some h
         rw[ev] at h
         obtain ⟨hl,h⟩:=Tr.kE h
         obtain ⟨r,h2,h⟩:=Tr.bind_some h
         obtain ⟨hz,h⟩:=Tr.aV h
         have hz:=Nat.eq_of_beq_eq_true hz
         have hcv:=qj h1
         rw[xC] at hcv
         have hcl:=sV hcv
         rw[hu]
         dsimp only
         rw[hs,hn]
         dsimp only[ov]
         rw[hcv]
         dsimp only
         rw[hl,if_neg (by simp),lS h2]
         dsimp only
         split at h
         · rename_i l _
           obtain ⟨r',h3,h⟩:=Tr.bind_some h
           obtain ⟨k1,k2⟩:=xL h3
           rw[fF,hcl] at k1
           rw[if_pos ⟨hz,by rw[hz];exact k1⟩,k2,← Tr.ab h,xC]
           rfl
         · exact (Tr.ae h).elim
       · exact (Tr.ae h).elim
     · exact (Tr.ae h).elim
   · exact (Tr.ae h).elim
 · exact (Tr.ae h).elim
def ye (z:Row) (n:Nat):Row :=
 match z with
 | .I k l=>cond (yk l) (.M [.arr k (fun _=>0) (jx n (iH l))]) (dL z n)
 | z=>dL z n
theorem wK (z:Row) (n:Nat):ye z n=dL z n:=by
 cases z with
 | I k l =>
   simp only[ye]
   cases h:yk l with
   | true=>simp only[cond_true,dL,h,if_true,cj,db]
   | false=>rfl
 | _=>rfl
def AN (P:Program) (H:aa) (t:TypeId) (s:AV):Tr (AV×Delta) :=
 match P.underlying t with
 | some (.slice e)=>match s with
   | .slc d i v off sz len _=>cond (fL H d) .bad (match (cI P e).bind AV.row with
     | some z=>match bo P e with
       | some n=>cond (Nat.beq n sz) (cond (Nat.beq (iM z) sz) (.req (bx 0 len) ((xS H d i v (some 0)).bind fun r=>match r with
          | .M l=>(Gb l off none (ye z len)).bind fun r'=>.ok (.tup [],.set d i (v,.row r'))
          | _=>.bad)) .bad) .bad
       | none=>.bad
     | none=>.bad)
   | _=>.bad
 | _=>.bad
theorem BF (z:Row) (n:Nat):(dL z n).len=n*z.len:=by
 have fn:∀ l:List AV,(Ff l n).len=n*l.length:=by
  intro l
  unfold Ff
  split
  · split<;>simp[Row.len,dP]
  · simp[Row.len,dP]
 cases z with
 | I k l=>simp only[dL];split<;>simp[Row.len,aE,aM,dP]
 | _=>simp only[dL,fn,Row.bn]
theorem Dr {P:Program} {H:aa} {t:TypeId} {s:AV} {y:AV×Delta} (h:(AN P H t s).run=some y):sY P H t s=some y:=by
 unfold AN at h
 unfold sY
 split at h
 · rename_i e hu
   split at h
   · rename_i d i v off sz len cap
     rw[ev] at h
     obtain ⟨hl,h⟩:=Tr.kE h
     split at h
     · rename_i z hz
       split at h
       · rename_i n hs
         obtain ⟨hn,h⟩:=Tr.aV h
         obtain ⟨hzl,h⟩:=Tr.aV h
         have hn:=Nat.eq_of_beq_eq_true hn
         rw[fC] at hzl
         have hzl:=Nat.eq_of_beq_eq_true hzl
         obtain ⟨h0,h⟩:=Tr.aQ h
         rw[iI,decide_eq_true_eq] at h0
         obtain ⟨r,h2,h⟩:=Tr.bind_some h
         rw[hu]
         dsimp only
         rw[hl,if_neg (by simp),hz,lS h2]
         dsimp only
         split at h
         · rename_i l _
           obtain ⟨r',h3,h⟩:=Tr.bind_some h
           obtain ⟨k1,k2⟩:=xL h3
           rw[wK] at k1 k2
           rw[BF,hzl] at k1
           rw[if_pos ⟨hzl,by rw[hs,hn],k1⟩,← Tr.ab h]
           rw[if_neg (by omega)]
           simp only[yX,if_true]
           rw[← k2]
         · exact (Tr.ae h).elim
       · exact (Tr.ae h).elim
     · exact (Tr.ae h).elim
   · exact (Tr.ae h).elim
 · exact (Tr.ae h).elim
def ow (P:Program) (nx:Nat) (t:TypeId) (l c:AV):Tr (AV×Delta) :=
 match P.underlying t with
 | some (.slice e)=>match l with
   | .int _ l=>match c with
     | .int _ c=>match P.info? e with
       | some inf=>match (cI P e).bind AV.row with
         | some z=>.req (Kz l c inf.bytes) (cond (Nat.beq (iM z) inf.size) (.ok (.slc 0 nx 0 0 inf.size (dB l) (some (dB c)),.push (.row (ye z (dB c))))) .bad)
         | none=>.bad
       | none=>.bad
     | _=>.bad
   | _=>.bad
 | _=>.bad
theorem u9 {P:Program} {nx:Nat} {t:TypeId} {l c:AV} {y:AV×Delta} (h:(ow P nx t l c).run=some y):jt P true nx t l c=some y:=by
 unfold ow at h
 unfold jt
 split at h
 · rename_i e hu
   split at h
   · split at h
     · split at h
       · rename_i inf hi
         split at h
         · rename_i z hz
           obtain ⟨hc,h⟩:=Tr.aQ h
           obtain ⟨hl,h⟩:=Tr.aV h
           rw[A8,decide_eq_true_eq] at hc
           rw[fC] at hl
           have hl:=Nat.eq_of_beq_eq_true hl
           rw[hu]
           dsimp only
           rw[hi,hz]
           dsimp only
           rw[if_pos ⟨hc.1,hc.2.1,hc.2.2.1,hc.2.2.2,hl⟩,← Tr.ab h,wK,fR,fR]
           rfl
         · exact (Tr.ae h).elim
       · exact (Tr.ae h).elim
     · exact (Tr.ae h).elim
   · exact (Tr.ae h).elim
 · exact (Tr.ae h).elim

def hv (x:AV×Delta):Tr (HV×Delta):=.ok ((x.1,none),x.2)
theorem Ch {x:AV×Delta} {y:HV×Delta} (h:(hv x).run=some y):y.1.1=x.1∧y.2=x.2:=by
 have:=Tr.ab h
 rw[← this]
 exact ⟨rfl,rfl⟩
def tT (l:List AV):List HV:=oB (fun x=>(x,none)) l
theorem od:∀ l:List AV,rU (tT l)=l
 | []=>rfl
 | x::l=>by
   have e:rU (tT (x::l))=x::rU (tT l):=rfl
   rw[e,od l]
theorem wO:∀ a b:List HV,rU (nJ a b)=rU a++rU b
 | [],b=>rfl
 | x::a,b=>by
   have e:rU (nJ (x::a) b)=x.1::rU (nJ a b):=rfl
   rw[e,wO a b];rfl
def zI (fr:aT) (l:List Operand):List HV:=oB (fun x=>bY fr x) l
theorem tZ (fr:aT):∀ l,rU (zI fr l)=kj (strip fr) l
 | []=>rfl
 | x::l=>by
   have e:rU (zI fr (x::l))=(bY fr x).1::rU (zI fr l):=rfl
   rw[e,tZ fr l,aY];rfl
def IT   (P:Program) (H:aa) (t:TypeId) (m key x:AV):Tr Delta :=
 match P.underlying t with
 | some (.map kt _)=>match m with
   | .map d i=>cond (aA H d) .bad (cond (kg P kt key) (match ar H d i with
     | (0,.fmap q h g c)=>match uX q key with
       | some n=>match zF x with
         | some y=>.ok (.set d i (0,.fmap q (ni h n true) (oa g n y) (re (h n) c)))
         | none=>.bad
       | none=>.bad
     | _=>.bad) .bad)
   | _=>.bad
 | _=>.bad
def J4 (P:Program) (H:aa) (t:TypeId) (m key:AV):Tr Delta :=
 match P.underlying t with
 | some (.map kt _)=>match m with
   | .map d i=>cond (aA H d) .bad (cond (kg P kt key) (match ar H d i with
     | (0,.fmap q h g c)=>match uX q key with
       | some n=>.ok (.set d i (0,.fmap q (ni h n false) (oa g n 0) (BW (h n) c)))
       | none=>.bad
     | _=>.bad) .bad)
   | _=>.bad
 | _=>.bad
def Kv (fr:aT):Option Operand→Bool
 | none=>true
 | some y=>isLit (bY fr y)
theorem mA {α:Type} {b:Bool} {s t:Tr α} {x:α} (h:(cond b s t).run=some x):b=true∧s.run=some x∨b=false∧t.run=some x:=by
 cases b
 · exact .inr ⟨rfl,h⟩
 · exact .inl ⟨rfl,h⟩
theorem Db {P:Program} {H:aa} {t:TypeId} {m key x:AV} {δ:Delta} (h:(IT P H t m key x).run=some δ):j6 P H t m key x=some δ:=by
 unfold IT at h
 unfold j6
 split at h
 · rename_i kt et hu
   rw[hu]
   split at h
   · rename_i d i
     dsimp only
     rcases mA h with ⟨_,h⟩ | ⟨h1,h⟩
     · exact (Tr.ae h).elim
     · rcases mA h with ⟨h2,h⟩ | ⟨_,h⟩
       · rw[if_neg (by rw[h1];simp),if_pos h2]
         split at h
         · rename_i q f g c hg
           rw[hg]
           try dsimp only
           split at h
           · rename_i n hn
             split at h
             · rename_i y hy
               simp only[hn,hy,← Tr.ab h,pW,pX,sZ]
             · exact (Tr.ae h).elim
           · exact (Tr.ae h).elim
         · exact (Tr.ae h).elim
       · exact (Tr.ae h).elim
   · exact (Tr.ae h).elim
 · exact (Tr.ae h).elim
theorem Hi {P:Program} {H:aa} {t:TypeId} {m key:AV} {δ:Delta} (h:(J4 P H t m key).run=some δ):ph P H t m key=some (.tup [],δ):=by
 unfold J4 at h
 unfold ph
 split at h
 · rename_i kt et hu
   rw[hu]
   split at h
   · rename_i d i
     dsimp only
     rcases mA h with ⟨_,h⟩ | ⟨h1,h⟩
     · exact (Tr.ae h).elim
     · rcases mA h with ⟨h2,h⟩ | ⟨_,h⟩
       · rw[if_neg (by rw[h1];simp),if_pos h2]
         split at h
         · rename_i q f g c hg
           rw[hg]
           try dsimp only
           split at h
           · rename_i n hn
             simp only[hn,← Tr.ab h,pW,pX,yq]
           · exact (Tr.ae h).elim
         · exact (Tr.ae h).elim
       · exact (Tr.ae h).elim
   · exact (Tr.ae h).elim
 · exact (Tr.ae h).elim
def AK (P:Program) (call:aS) (callR:bF) (fr:aT) (H:aa) (nx:Nat) (c:Call):Tr (HV×Delta) :=
 match c.callee with
 | .value f=>match (bY fr f).1 with
   | .fn (.func g) a b=>(callR (.fn g) (nJ (tT a) (nJ (zI fr c.args.toList) (tT b))) H).bind fun x=>.ok (x.1,.heap x.2)
   | .yld d i=>(callR (.round d i) (zI fr c.args.toList) H).bind fun x=>.ok (x.1,.heap x.2)
   | _=>.bad
 | .builtin .len=>match c.args.toList,c.argTypes.toList with
   | x::_,t::_=>(Hz P H t (bY fr x)).bind fun v=>.ok (v,.bf)
   | _,_=>.bad
 | .builtin .append=>match c.args.toList,c.argTypes.toList with
   | s::x::_,t::u::_=>(o7 P H nx t u (bY fr s).1 (bY fr x).1).bind hv
   | _,_=>.bad
 | .builtin .copy=>match c.args.toList,c.argTypes.toList with
   | s::x::_,t::_=>(EM P H t (bY fr s).1 (bY fr x).1).bind hv
   | _,_=>.bad
 | .builtin .clear=>match c.args.toList,c.argTypes.toList with
   | s::_,t::_=>(AN P H t (bY fr s).1).bind hv
   | _,_=>.bad
 | .builtin .min=>match zJ fr c.args.toList with
   | .int k x::r=>(pP false k x r).bind fun v=>.ok ((v,none),.bf)
   | _=>.bad
 | .builtin .max=>match zJ fr c.args.toList with
   | .int k x::r=>(pP true k x r).bind fun v=>.ok ((v,none),.bf)
   | _=>.bad
 | .builtin .delete=>match c.args.toList,c.argTypes.toList with
   | m::k::_,t::_=>(J4 P H t (bY fr m).1 (bY fr k).1).bind fun δ=>.ok ((.tup [],none),δ)
   | _,_=>.bad
 | _=>(wc (fT P call (strip fr) H nx c)).bind hv
theorem Dp {P:Program} {call:aS} {callR:bF} (hC:callR.Ok call) {fr:aT} {H:aa} {nx:Nat} {c:Call} {y:HV×Delta} (h:(AK P call callR fr H nx c).run=some y):fT P call (strip fr) H nx c=some (y.1.1,y.2):=by
 have dflt:∀ (t:Tr (AV×Delta)),(t.bind hv).run=some y→t.run=some (y.1.1,y.2):=by
  intro t ht
  obtain ⟨x,h1,h2⟩:=Tr.bind_some ht
  obtain ⟨e1,e2⟩:=Ch h2
  rw[h1,e1,e2]
 unfold AK at h
 split at h
 · rename_i f hf
   unfold fT
   rw[hf]
   dsimp only
   rw[aY] at h
   split at h
   · rename_i g a b ho
     obtain ⟨x,h1,h⟩:=Tr.bind_some h
     rw[ho]
     dsimp only
     have:=hC.2 _ _ _ _ h1
     rw[wO,wO,od,od,tZ] at this
     rw[this,← Tr.ab h];rfl
   · rename_i d i ho
     obtain ⟨x,h1,h⟩:=Tr.bind_some h
     rw[ho]
     dsimp only
     have:=hC.2 _ _ _ _ h1
     rw[tZ] at this
     rw[this,← Tr.ab h];rfl
   · exact (Tr.ae h).elim
 · rename_i hf
   unfold fT
   rw[hf]
   dsimp only
   split at h
   · rename_i x _ t _ hx ht
     obtain ⟨v,h1,h⟩:=Tr.bind_some h
     rw[hx,ht]
     dsimp only
     have:=HD h1
     rw[aY] at this
     obtain ⟨n,k1,k2⟩:=Option.map_eq_some_iff.1 this
     rw[k1,← Tr.ab h,← k2];rfl
   · exact (Tr.ae h).elim
 · rename_i hf
   unfold fT
   rw[hf]
   dsimp only
   split at h
   · rename_i s x _ t u _ hx ht
     rw[hx,ht]
     dsimp only
     have h:=AH (dflt _ h)
     rw[aY,aY] at h
     rw[nH hC.1]
     exact h
   · exact (Tr.ae h).elim
 · rename_i hf
   unfold fT
   rw[hf]
   dsimp only
   split at h
   · rename_i s x _ t _ hx ht
     rw[hx,ht]
     dsimp only
     have h:=EN (dflt _ h)
     rw[aY,aY] at h
     exact h
   · exact (Tr.ae h).elim
 · rename_i hf
   unfold fT
   rw[hf]
   dsimp only
   split at h
   · rename_i s _ t _ hx ht
     rw[hx,ht]
     dsimp only
     have h:=Dr (dflt _ h)
     rw[aY] at h
     exact h
   · exact (Tr.ae h).elim
 · rename_i hf
   unfold fT
   rw[hf]
   dsimp only
   rw[ua] at h
   split at h
   · rename_i k x r hx
     obtain ⟨v,h1,h⟩:=Tr.bind_some h
     rw[hx]
     dsimp only[oD]
     rw[oE _ _ _ h1,← Tr.ab h];rfl
   · exact (Tr.ae h).elim
 · rename_i hf
   unfold fT
   rw[hf]
   dsimp only
   rw[ua] at h
   split at h
   · rename_i k x r hx
     obtain ⟨v,h1,h⟩:=Tr.bind_some h
     rw[hx]
     dsimp only[oD]
     rw[oE _ _ _ h1,← Tr.ab h];rfl
   · exact (Tr.ae h).elim
 · rename_i hf
   unfold fT
   rw[hf]
   dsimp only
   split at h
   · rename_i m k _ t _ hx ht
     rw[hx,ht]
     dsimp only
     obtain ⟨δ,h1,h⟩:=Tr.bind_some h
     have h1:=Hi h1
     rw[aY,aY] at h1
     rw[h1,← Tr.ab h]
   · exact (Tr.ae h).elim
 · have h:=dflt _ h
   rw[cW] at h;exact h

def JS (P:Program) (op:BinOp) (t:TypeId) (x y:HV):Tr HV :=
 cond (isLit x && isLit y) (match x.1,y.1 with
  | .int k a,.int k' b=>(wc (BP P op t (.int k a) (.int k' b))).bind fun v=>.ok (v,some 1)
  | a,b=>(EB P op t a b).bind fun v=>.ok (v,none))
 ((EB P op t x.1 y.1).bind fun v=>.ok (v,none))
theorem G6 {P:Program} {op:BinOp} {t:TypeId} {x y v:HV} (h:(JS P op t x y).run=some v):kC P op t x.1 y.1=some v.1:=by
 have gen:∀ a b,((EB P op t a b).bind fun v=>Tr.ok ((v,none):HV)).run=some v→kC P op t a b=some v.1:=by
  intro a b h
  obtain ⟨u,h1,h⟩:=Tr.bind_some h
  rw[G7 h1,← Tr.ab h]
 unfold JS at h
 cases hb:isLit x && isLit y with
 | false=>rw[hb,cond_false] at h;exact gen _ _ h
 | true =>
   rw[hb,cond_true] at h
   split at h
   · rename_i k a k' b hx hy
     obtain ⟨u,h1,h⟩:=Tr.bind_some h
     rw[cW,sP] at h1
     rw[hx,hy,h1,← Tr.ab h]
   · exact gen _ _ h

def pN (fr:aT) (l:List (Nat×Operand)):List (Nat×AV):=oB (fun p=>(p.1,(bY fr p.2).1)) l
theorem oz (fr:aT):∀ l,pN fr l=dU (strip fr) l
 | []=>rfl
 | (i,x)::l=>by
   have e:pN fr ((i,x)::l)=(i,(bY fr x).1)::pN fr l:=rfl
   rw[e,oz fr l,aY];rfl
def Mz (op:Op):Oper→Program→aS→bF→aT→aa→Nat→Tr (HV×Delta) :=
 match op with
 | .move x=>fun _ _ _ _ fr _ _=>.ok (bY fr x,.bf)
 | .assign x=>fun _ _ _ _ fr _ _=>.ok (bY fr x,.bf)
 | .pick c a b=>fun _ _ _ _ fr _ _=>match bY fr c with
   | (.bool t,none)=>.ite t (.ok (bY fr a,.bf)) (.ok (bY fr b,.bf))
   | (.bool t,some _)=>cond t (.ok (bY fr a,.bf)) (.ok (bY fr b,.bf))
   | _=>.bad
 | .alloc t=>fun _ P _ _ _ _ nx=>match (cI P t).bind AV.row with
   | some z=>.ok ((.ptr 0 nx 0 0,none),.push (.row (jM z)))
   | none=>.bad
 | .box _ x=>fun _ _ _ _ fr _ nx=>match (bY fr x).1.row with
   | some r=>.ok ((.ptr 0 nx 0 0,none),.push (.row (jM r)))
   | none=>.bad
 | .build t parts=>fun _ P _ _ fr _ _=>(wc (wQ P true t (pN fr parts.toList))).bind fun v=>.ok ((v,none),.bf)
 | .buildSlice t len parts=>fun _ P _ _ fr _ nx=>(wc (jQ P nx t len (pN fr parts.toList))).bind fun x=>.ok ((x.1,some 1),x.2)
 | .load t a=>fun _ P _ _ fr H _=>(loadT P H t (bY fr a)).bind fun v=>.ok ((v,none),.bf)
 | .store t a x=>fun _ P _ _ fr H _=>(storeT P H t (bY fr a) (bY fr x).1).bind fun δ=>.ok ((.tup [],none),δ)
 | .nilCheck x=>fun _ _ _ _ fr _ _=>match (bY fr x).1 with
   | .ptr d i v off=>.ok (bY fr x,.bf)
   | .ptrT s r off=>.ok (bY fr x,.bf)
   | _=>.bad
 | .binOp op t x y _=>fun _ P _ _ fr _ _=>(JS P op t (bY fr x) (bY fr y)).bind fun v=>.ok (v,.bf)
 | .unOp op _ x=>fun _ _ _ _ fr _ _=>match op,bY fr x with
   | .not,(.bool b,some _)=>.ok ((.bool (cond b false true),some 1),.bf)
   | op,x=>(Rq op x.1).bind fun v=>.ok ((v,none),.bf)
 | .convert src dst x=>fun _ P _ _ fr _ _=>match P.underlying src with
   | some _=>match P.underlying dst with
     | some (.int k)=>match bY fr x with
       | (.int _ n,none)=>.ok ((.int k (iZ k n),none),.bf)
       | (.int _ n,some _)=>.ok ((.int k (wJ k n),some 1),.bf)
       | _=>.bad
     | _=>.bad
   | none=>.bad
 | .makeSlice t l c=>fun _ P _ _ fr _ nx=>(ow P nx t (bY fr l).1 (bY fr c).1).bind hv
 | .slice t x lo hi mx=>fun _ P _ _ fr _ _=>cond (isLit (bY fr x) && (Kv fr lo && (Kv fr hi && Kv fr mx)))
   ((wc (qZ P t (bY fr x).1 (lo.map fun y=>(bY fr y).1) (hi.map fun y=>(bY fr y).1) (mx.map fun y=>(bY fr y).1))).bind fun v=>.ok ((v,some 1),.bf))
   ((Br P t (bY fr x).1 (lo.map fun y=>(bY fr y).1) (hi.map fun y=>(bY fr y).1) (mx.map fun y=>(bY fr y).1)).bind fun v=>.ok ((v,none),.bf))
 | .fieldAddr t x f=>fun _ P _ _ fr _ _=>(oi P t (bY fr x) f).bind fun v=>.ok (v,.bf)
 | .field t x f=>fun _ P _ _ fr _ _=>(wc (ti P t (bY fr x).1 f)).bind fun v=>.ok ((v,none),.bf)
 | .indexAddr t x i=>fun _ P _ _ fr _ _=>match (bY fr i).1 with
   | .int _ n=>(Kl P t (bY fr x) (isLit (bY fr i)) n).bind fun v=>.ok (v,.bf)
   | _=>.bad
 | .index t x i=>fun _ P _ _ fr _ _=>match (bY fr i).1 with
   | .int _ n=>(OZ P t (bY fr x).1 (isLit (bY fr i)) n).bind fun v=>.ok ((v,none),.bf)
   | _=>.bad
 | .extract t ix=>fun _ _ _ _ fr _ _=>match (bY fr t).1 with
   | .tup l=>match yJ l ix with
     | some v=>.ok ((v,none),.bf)
     | none=>.bad
   | _=>.bad
 | .call c=>fun _ P call callR fr H nx=>AK P call callR fr H nx c
 | .makeMap t r=>fun _ P _ _ _ _ nx=>match r with
   | none=>.ok ((.map 0 nx,none),.push (tS P t))
   | some _=>.bad
 | .mapUpdate t m k x=>fun _ P _ _ fr H _=>(IT P H t (bY fr m).1 (bY fr k).1 (bY fr x).1).bind fun δ=>.ok ((.tup [],none),δ)
 | .insert t m k x=>fun _ P _ _ fr H _=>(IT P H t (bY fr m).1 (bY fr k).1 (bY fr x).1).bind fun δ=>.ok ((.tup [],none),δ)
 | _=>fun o P call _ fr H nx=>(wc (evalOp P call (strip fr) H nx o)).bind hv
theorem Be {o:Oper} {P:Program} {call:aS} {callR:bF} (hC:callR.Ok call) {fr:aT} {H:aa} {nx:Nat} {y:HV×Delta} (h:(Mz o.op o P call callR fr H nx).run=some y):evalOp P call (strip fr) H nx o=some (y.1.1,y.2):=by
 have dflt:∀ (t:Tr (AV×Delta)),(t.bind hv).run=some y→t.run=some (y.1.1,y.2):=by
  intro t ht
  obtain ⟨x,h1,h2⟩:=Tr.bind_some ht
  obtain ⟨e1,e2⟩:=Ch h2
  rw[h1,e1,e2]
 have dkp:∀ (t:Tr AV),(t.bind fun v=>Tr.ok (((v,none),.bf):HV×Delta)).run=some y→t.run=some y.1.1∧y.2=.bf:=by
  intro t ht
  obtain ⟨x,h1,h2⟩:=Tr.bind_some ht
  rw[h1,← Tr.ab h2];exact ⟨rfl,rfl⟩
 have kpe:∀ {o:Option AV} {v:AV},o=some v→kp o=some (v,.bf):=by rintro o v rfl;rfl
 cases ho:o.op<;>rw[ho] at h<;>simp only[Mz] at h
 case move x =>
  unfold evalOp;rw[ho];dsimp only
  rw[← Tr.ab h,← aY]
 case assign x =>
  unfold evalOp;rw[ho];dsimp only
  rw[← Tr.ab h,← aY]
 case pick c a b =>
  unfold evalOp;rw[ho];dsimp only
  have hc':=aY fr c
  split at h
  · rename_i t hc
    rw[hc] at hc'
    rw[← hc']
    dsimp only
    rcases Tr.gz h with ⟨rfl,h⟩ | ⟨rfl,h⟩<;>rw[← Tr.ab h,← aY,← aY]<;>rfl
  · rename_i t n hc
    rw[hc] at hc'
    rw[← hc']
    dsimp only
    cases t with
    | true=>rw[cond_true] at h;rw[← Tr.ab h,← aY,← aY];rfl
    | false=>rw[cond_false] at h;rw[← Tr.ab h,← aY,← aY];rfl
  · exact (Tr.ae h).elim
 case alloc t =>
  unfold evalOp;rw[ho];dsimp only
  split at h
  · rename_i z hz
    rw[hz,← Tr.ab h,Option.map_some,nH hC.1]
  · exact (Tr.ae h).elim
 case box t x =>
  unfold evalOp;rw[ho];dsimp only
  rw[aY] at h
  split at h
  · rename_i z hz
    rw[hz,← Tr.ab h,Option.map_some,nH hC.1]
  · exact (Tr.ae h).elim
 case build t parts =>
  unfold evalOp;rw[ho];dsimp only
  obtain ⟨h1,h2⟩:=dkp _ h
  rw[cW,oz] at h1
  rw[nH hC.1,kpe h1,h2]
 case buildSlice t len parts =>
  unfold evalOp;rw[ho];dsimp only
  obtain ⟨x,h1,h⟩:=Tr.bind_some h
  rw[cW,oz] at h1
  rw[h1,← Tr.ab h]
 case load t a =>
  unfold evalOp;rw[ho];dsimp only
  obtain ⟨h1,h2⟩:=dkp _ h
  have h1:=zj h1
  rw[aY] at h1
  rw[kpe h1,h2]
 case store t a x =>
  unfold evalOp;rw[ho];dsimp only
  obtain ⟨δ,h1,h⟩:=Tr.bind_some h
  have h1:=Ef h1
  rw[aY,aY] at h1
  rw[h1,← Tr.ab h];rfl
 case nilCheck x =>
  unfold evalOp;rw[ho];dsimp only
  rw[← aY]
  split at h
  · rename_i d i v off hx
    rw[hx,← Tr.ab h,hx]
  · rename_i s r off hx
    rw[hx,← Tr.ab h,hx]
  · exact (Tr.ae h).elim
 case binOp op t x y' g =>
  unfold evalOp;rw[ho];dsimp only
  obtain ⟨v,h1,h⟩:=Tr.bind_some h
  have h1:=G6 h1
  rw[aY,aY] at h1
  rw[kpe h1,← Tr.ab h]
 case unOp op t x =>
  unfold evalOp;rw[ho];dsimp only
  split at h
  · rename_i b n hx
    have:bJ (strip fr) x=.bool b:=by rw[← aY,hx]
    rw[this,← Tr.ab h]
    cases b<;>rfl
  · obtain ⟨h1,h2⟩:=dkp _ h
    have h1:=K9 h1
    rw[aY] at h1
    rw[kpe h1,h2]
 case convert s d x =>
  unfold evalOp;rw[ho];dsimp only
  split at h
  · rename_i u hu
    split at h
    · rename_i k hk
      have hx:=aY fr x
      split at h
      · rename_i n hn
        rw[hn] at hx
        rw[hu,hk,← hx]
        dsimp only
        rw[← Tr.ab h,GL]
      · rename_i n _ hn
        rw[hn] at hx
        rw[hu,hk,← hx]
        dsimp only
        rw[← Tr.ab h,uD]
      · exact (Tr.ae h).elim
    · exact (Tr.ae h).elim
  · exact (Tr.ae h).elim
 case makeSlice t l c =>
  unfold evalOp;rw[ho];dsimp only
  have h1:=u9 (dflt _ h)
  rw[aY,aY] at h1
  rw[nH hC.1]
  exact h1
 case slice t x lo hi mx =>
  unfold evalOp;rw[ho];dsimp only
  have e:∀ z:Option Operand,(z.map fun y=>(bY fr y).1)=z.map (bJ (strip fr)):=by
   intro z;cases z<;>simp[aY]
  rcases mA h with ⟨_,h⟩ | ⟨_,h⟩
  · obtain ⟨v,h1,h2⟩:=Tr.bind_some h
    rw[cW,aY,e,e,e] at h1
    rw[kpe h1,← Tr.ab h2]
  · obtain ⟨h1,h2⟩:=dkp _ h
    have h1:=D8 h1
    rw[aY] at h1
    rw[e,e,e] at h1
    rw[kpe h1,h2]
 case fieldAddr t x f =>
  unfold evalOp;rw[ho];dsimp only
  obtain ⟨v,h1,h⟩:=Tr.bind_some h
  have h1:=uR h1
  rw[aY] at h1
  rw[kpe h1,← Tr.ab h]
 case field t x f =>
  unfold evalOp;rw[ho];dsimp only
  obtain ⟨h1,h2⟩:=dkp _ h
  rw[cW,aY] at h1
  rw[kpe h1,h2]
 case index t x i =>
  unfold evalOp;rw[ho];dsimp only
  rw[aY] at h
  split at h
  · rename_i k n hn
    obtain ⟨v,h1,h⟩:=Tr.bind_some h
    have h1:=Kr h1
    rw[aY] at h1
    rw[hn]
    dsimp only
    rw[kpe h1,← Tr.ab h]
  · exact (Tr.ae h).elim
 case indexAddr t x i =>
  unfold evalOp;rw[ho];dsimp only
  rw[aY] at h
  split at h
  · rename_i k n hn
    obtain ⟨v,h1,h⟩:=Tr.bind_some h
    have h1:=Hs h1
    rw[aY] at h1
    rw[hn]
    dsimp only
    rw[kpe h1,← Tr.ab h]
  · exact (Tr.ae h).elim
 case extract t ix =>
  unfold evalOp;rw[ho];dsimp only
  rw[aY] at h
  split at h
  · rename_i l hl
    rw[hl]
    dsimp only
    rw[lF] at h
    split at h
    · rename_i v hv'
      rw[hv',← Tr.ab h]
    · exact (Tr.ae h).elim
  · exact (Tr.ae h).elim
 case call c =>
  unfold evalOp;rw[ho];dsimp only
  exact Dp hC h
 case makeMap t r =>
  unfold evalOp;rw[ho];try dsimp only
  cases r with
  | none =>
    dsimp only at h ⊢
    rw[nH hC.1,← Tr.ab h]
  | some r=>exact (Tr.ae h).elim
 case mapUpdate t m k x =>
  unfold evalOp;rw[ho];dsimp only
  obtain ⟨δ,h1,h⟩:=Tr.bind_some h
  have h1:=Db h1
  rw[aY,aY,aY] at h1
  rw[h1,← Tr.ab h];rfl
 case insert t m k x =>
  unfold evalOp;rw[ho];dsimp only
  obtain ⟨δ,h1,h⟩:=Tr.bind_some h
  have h1:=Db h1
  rw[aY,aY,aY] at h1
  rw[h1,← Tr.ab h];rfl
 all_goals
  have h1:=dflt _ h
  rw[cW] at h1
  exact h1

end
end Go.Eng
