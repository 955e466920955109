/- The engine as a tree: the other builtins; operations. -/
import Derived.Test.YtoomemfhcbajoaaV6EngTcx2
set_option linter.unusedVariables false
set_option linter.unusedSimpArgs false
namespace Go.Eng
noncomputable section

abbrev bJ:=Oq→List HV→aa→Tr (HV×aa)
def p6 (l:List HV):List AV:=oc (fun x=>x.1) l
def bJ.Ok (c:bJ) (call:aW):Prop:=(∃ x,call .mode [] []=some x)∧∀ tgt args H x,(c tgt args H).run=some x→call tgt (p6 args) H=some (x.1.1,x.2)
theorem nj {α:Type} {call:aW} (h:∃ x,call .mode [] []=some x) (a b:α):l6 call a b=a:=by
 obtain ⟨x,h⟩:=h
 unfold l6
 rw[h]

def Ia (P:Program) (H:aa) (t:TypeId) (x:HV):Tr HV :=
 match P.underlying t with
 | some (.slice _)=>match x.1 with
   | .nils=>.ok (.int .i64 (Int.ofNat 0),some 1)
   | .slc _ _ _ _ _ len _=>.ok (.int .i64 (Int.ofNat len),x.2)
   | .slcT _ _ _ len _=>.ok (.int .i64 (Int.ofNat len),x.2)
   | _=>.bad
 | some (.array n _)=>.ok (.int .i64 (Int.ofNat n),some 1)
 | _=>(wh ((uY P H t x.1).map fun n=>AV.int .i64 n)).bind fun v=>.ok (v,none)
theorem Ib {P:Program} {H:aa} {t:TypeId} {x v:HV} (h:(Ia P H t x).run=some v):(uY P H t x.1).map (AV.int .i64)=some v.1:=by
 unfold Ia at h
 split at h
 · rename_i e hu
   unfold uY
   rw[hu]
   split at h
   · rename_i hx;rw[hx,← Tr.ab h];rfl
   · rename_i hx;rw[hx,← Tr.ab h];rfl
   · rename_i hx;rw[hx,← Tr.ab h];rfl
   · exact (Tr.ae h).elim
 · rename_i hu
   unfold uY
   rw[hu,← Tr.ab h];rfl
 · obtain ⟨u,h1,h⟩:=Tr.bind_some h
   rw[cZ] at h1
   rw[h1,← Tr.ab h]
def Fp    (P:Program) (H:aa) (t:TypeId) (s x:AV):Tr (AV×Delta) :=
 match P.underlying t with
 | some (.slice e)=>match bk P e with
   | some z=>match n6 x with
     | some n=>match s with
       | .slc d i v off sz m cap=>(sA H z (qF n m) x).bind fun new=>cond (fQ H d) .bad ((xT H d i v (some 0)).bind fun r=>cond (Nat.beq sz z) (match r with
          | .M l=>(GC l off none (kI d new)).bind fun r'=>.ok (.int .i64 (Int.ofNat (qF n m)),.set d i (v,.row r'))
          | _=>.bad) .bad)
       | _=>.bad
     | none=>.bad
   | none=>.bad
 | _=>.bad
theorem Fq {P:Program} {H:aa} {t:TypeId} {s x:AV} {y:AV×Delta} (h:(Fp P H t s x).run=some y):copyV P H t s x=some y:=by
 unfold Fp at h
 unfold copyV
 split at h
 · rename_i e hu
   split at h
   · rename_i z hs
     split at h
     · rename_i n hn
       split at h
       · rename_i d i v off sz m cap _ _
         obtain ⟨new,h1,h⟩:=Tr.bind_some h
         rw[eC] at h
         obtain ⟨hl,h⟩:=Tr.ka h
         obtain ⟨r,h2,h⟩:=Tr.bind_some h
         obtain ⟨hz,h⟩:=Tr.aS h
         have hz:=Nat.eq_of_beq_eq_true hz
         have hcv:=p8 h1
         rw[pA] at hcv
         have hcl:=sB hcv
         rw[hu]
         dsimp only
         rw[hs,hn]
         dsimp only[n6]
         rw[hcv]
         dsimp only
         rw[hl,if_neg (by simp),lH h2]
         dsimp only
         split at h
         · rename_i l _
           obtain ⟨r',h3,h⟩:=Tr.bind_some h
           obtain ⟨k1,k2⟩:=xM h3
           rw[fI,hcl] at k1
           rw[if_pos ⟨hz,by rw[hz];exact k1⟩,k2,← Tr.ab h,pA]
           rfl
         · exact (Tr.ae h).elim
       · exact (Tr.ae h).elim
     · exact (Tr.ae h).elim
   · exact (Tr.ae h).elim
 · exact (Tr.ae h).elim
def ye (z:Row) (n:Nat):Row :=
 match z with
 | .I k l=>cond (yo l) (.M [.arr k (fun _=>0) (jr n (iT l))]) (dJ z n)
 | z=>dJ z n
theorem wH (z:Row) (n:Nat):ye z n=dJ z n:=by
 cases z with
 | I k l =>
   simp only[ye]
   cases h:yo l with
   | true=>simp only[cond_true,dJ,h,if_true,cC,dp]
   | false=>rfl
 | _=>rfl
def A6 (P:Program) (H:aa) (t:TypeId) (s:AV):Tr (AV×Delta) :=
 match P.underlying t with
 | some (.slice e)=>match s with
   | .slc d i v off sz len _=>cond (fQ H d) .bad (match (cI P e).bind AV.row with
     | some z=>match bk P e with
       | some n=>cond (Nat.beq n sz) (cond (Nat.beq (iM z) sz) (.req (cr 0 len) ((xT H d i v (some 0)).bind fun r=>match r with
          | .M l=>(GC l off none (ye z len)).bind fun r'=>.ok (.tup [],.set d i (v,.row r'))
          | _=>.bad)) .bad) .bad
       | none=>.bad
     | none=>.bad)
   | _=>.bad
 | _=>.bad
theorem BR (z:Row) (n:Nat):(dJ z n).len=n*z.len:=by
 have fn:∀ l:List AV,(FK l n).len=n*l.length:=by
  intro l
  unfold FK
  split
  · split<;>simp[Row.len,dO]
  · simp[Row.len,dO]
 cases z with
 | I k l=>simp only[dJ];split<;>simp[Row.len,az,aQ,dO]
 | _=>simp only[dJ,fn,Row.bh]
theorem DE {P:Program} {H:aa} {t:TypeId} {s:AV} {y:AV×Delta} (h:(A6 P H t s).run=some y):sE P H t s=some y:=by
 unfold A6 at h
 unfold sE
 split at h
 · rename_i e hu
   split at h
   · rename_i d i v off sz len cap
     rw[eC] at h
     obtain ⟨hl,h⟩:=Tr.ka h
     split at h
     · rename_i z hz
       split at h
       · rename_i n hs
         obtain ⟨hn,h⟩:=Tr.aS h
         obtain ⟨hzl,h⟩:=Tr.aS h
         have hn:=Nat.eq_of_beq_eq_true hn
         rw[fH] at hzl
         have hzl:=Nat.eq_of_beq_eq_true hzl
         obtain ⟨h0,h⟩:=Tr.aR h
         rw[gG,decide_eq_true_eq] at h0
         obtain ⟨r,h2,h⟩:=Tr.bind_some h
         rw[hu]
         dsimp only
         rw[hl,if_neg (by simp),hz,lH h2]
         dsimp only
         split at h
         · rename_i l _
           obtain ⟨r',h3,h⟩:=Tr.bind_some h
           obtain ⟨k1,k2⟩:=xM h3
           rw[wH] at k1 k2
           rw[BR,hzl] at k1
           rw[if_pos ⟨hzl,by rw[hs,hn],k1⟩,← Tr.ab h]
           rw[if_neg (by omega)]
           simp only[zd,if_true]
           rw[← k2]
         · exact (Tr.ae h).elim
       · exact (Tr.ae h).elim
     · exact (Tr.ae h).elim
   · exact (Tr.ae h).elim
 · exact (Tr.ae h).elim
def n9 (P:Program) (nx:Nat) (t:TypeId) (l c:AV):Tr (AV×Delta) :=
 match P.underlying t with
 | some (.slice e)=>match l with
   | .int _ l=>match c with
     | .int _ c=>match P.info? e with
       | some inf=>match (cI P e).bind AV.row with
         | some z=>.req (D7 l c inf.bytes) (cond (Nat.beq (iM z) inf.size) (.ok (.slc 0 nx 0 0 inf.size (dr l) (some (dr c)),.push (.row (ye z (dr c))))) .bad)
         | none=>.bad
       | none=>.bad
     | _=>.bad
   | _=>.bad
 | _=>.bad
theorem ve {P:Program} {nx:Nat} {t:TypeId} {l c:AV} {y:AV×Delta} (h:(n9 P nx t l c).run=some y):jn P true nx t l c=some y:=by
 unfold n9 at h
 unfold jn
 split at h
 · rename_i e hu
   split at h
   · split at h
     · split at h
       · rename_i inf hi
         split at h
         · rename_i z hz
           obtain ⟨hc,h⟩:=Tr.aR h
           obtain ⟨hl,h⟩:=Tr.aS h
           rw[xr,decide_eq_true_eq] at hc
           rw[fH] at hl
           have hl:=Nat.eq_of_beq_eq_true hl
           rw[hu]
           dsimp only
           rw[hi,hz]
           dsimp only
           rw[if_pos ⟨hc.1,hc.2.1,hc.2.2.1,hc.2.2.2,hl⟩,← Tr.ab h,wH,lP,lP]
           rfl
         · exact (Tr.ae h).elim
       · exact (Tr.ae h).elim
     · exact (Tr.ae h).elim
   · exact (Tr.ae h).elim
 · exact (Tr.ae h).elim

def hv (x:AV×Delta):Tr (HV×Delta):=.ok ((x.1,none),x.2)
theorem Cn {x:AV×Delta} {y:HV×Delta} (h:(hv x).run=some y):y.1.1=x.1∧y.2=x.2:=by
 have:=Tr.ab h
 rw[← this]
 exact ⟨rfl,rfl⟩
def tF (l:List AV):List HV:=oc (fun x=>(x,none)) l
theorem nN:∀ l:List AV,p6 (tF l)=l
 | []=>rfl
 | x::l=>by
   have e:p6 (tF (x::l))=x::p6 (tF l):=rfl
   rw[e,nN l]
theorem wL:∀ a b:List HV,p6 (np a b)=p6 a++p6 b
 | [],b=>rfl
 | x::a,b=>by
   have e:p6 (np (x::a) b)=x.1::p6 (np a b):=rfl
   rw[e,wL a b];rfl
def zT (fr:aN) (l:List Operand):List HV:=oc (fun x=>bZ fr x) l
theorem tL (fr:aN):∀ l,p6 (zT fr l)=jW (strip fr) l
 | []=>rfl
 | x::l=>by
   have e:p6 (zT fr (x::l))=(bZ fr x).1::p6 (zT fr l):=rfl
   rw[e,tL fr l,aU];rfl
def I6   (P:Program) (H:aa) (t:TypeId) (m key x:AV):Tr Delta :=
 match P.underlying t with
 | some (.map kt _)=>match m with
   | .map d i=>cond (aw H d) .bad (cond (jU P kt key) (match ar H d i with
     | (0,.fmap q h g c)=>match uW q key with
       | some n=>match zR x with
         | some y=>.ok (.set d i (0,.fmap q (mN h n true) (mP g n y) (sF (h n) c)))
         | none=>.bad
       | none=>.bad
     | _=>.bad) .bad)
   | _=>.bad
 | _=>.bad
def Kn (P:Program) (H:aa) (t:TypeId) (m key:AV):Tr Delta :=
 match P.underlying t with
 | some (.map kt _)=>match m with
   | .map d i=>cond (aw H d) .bad (cond (jU P kt key) (match ar H d i with
     | (0,.fmap q h g c)=>match uW q key with
       | some n=>.ok (.set d i (0,.fmap q (mN h n false) (mP g n 0) (vD (h n) c)))
       | none=>.bad
     | _=>.bad) .bad)
   | _=>.bad
 | _=>.bad
def KP (fr:aN):Option Operand→Bool
 | none=>true
 | some y=>isLit (bZ fr y)
theorem me {α:Type} {b:Bool} {s t:Tr α} {x:α} (h:(cond b s t).run=some x):b=true∧s.run=some x∨b=false∧t.run=some x:=by
 cases b
 · exact .inr ⟨rfl,h⟩
 · exact .inl ⟨rfl,h⟩
theorem Dn {P:Program} {H:aa} {t:TypeId} {m key x:AV} {δ:Delta} (h:(I6 P H t m key x).run=some δ):jP P H t m key x=some δ:=by
 unfold I6 at h
 unfold jP
 split at h
 · rename_i kt et hu
   rw[hu]
   split at h
   · rename_i d i
     dsimp only
     rcases me h with ⟨_,h⟩ | ⟨h1,h⟩
     · exact (Tr.ae h).elim
     · rcases me h with ⟨h2,h⟩ | ⟨_,h⟩
       · rw[if_neg (by rw[h1];simp),if_pos h2]
         split at h
         · rename_i q f g c hg
           rw[hg]
           try dsimp only
           split at h
           · rename_i n hn
             split at h
             · rename_i y hy
               simp only[hn,hy,← Tr.ab h,Ai,Am,yu]
             · exact (Tr.ae h).elim
           · exact (Tr.ae h).elim
         · exact (Tr.ae h).elim
       · exact (Tr.ae h).elim
   · exact (Tr.ae h).elim
 · exact (Tr.ae h).elim
theorem HK {P:Program} {H:aa} {t:TypeId} {m key:AV} {δ:Delta} (h:(Kn P H t m key).run=some δ):oR P H t m key=some (.tup [],δ):=by
 unfold Kn at h
 unfold oR
 split at h
 · rename_i kt et hu
   rw[hu]
   split at h
   · rename_i d i
     dsimp only
     rcases me h with ⟨_,h⟩ | ⟨h1,h⟩
     · exact (Tr.ae h).elim
     · rcases me h with ⟨h2,h⟩ | ⟨_,h⟩
       · rw[if_neg (by rw[h1];simp),if_pos h2]
         split at h
         · rename_i q f g c hg
           rw[hg]
           try dsimp only
           split at h
           · rename_i n hn
             simp only[hn,← Tr.ab h,Ai,Am,yv]
           · exact (Tr.ae h).elim
         · exact (Tr.ae h).elim
       · exact (Tr.ae h).elim
   · exact (Tr.ae h).elim
 · exact (Tr.ae h).elim
def A0 (P:Program) (call:aW) (callR:bJ) (fr:aN) (H:aa) (nx:Nat) (c:Call):Tr (HV×Delta) :=
 match c.callee with
 | .value f=>match (bZ fr f).1 with
   | .fn (.func g) a b=>(callR (.fn g) (np (tF a) (np (zT fr c.args.toList) (tF b))) H).bind fun x=>.ok (x.1,.heap x.2)
   | .yld d i=>(callR (.round d i) (zT fr c.args.toList) H).bind fun x=>.ok (x.1,.heap x.2)
   | _=>.bad
 | .builtin .len=>match c.args.toList,c.argTypes.toList with
   | x::_,t::_=>(Ia P H t (bZ fr x)).bind fun v=>.ok (v,.bc)
   | _,_=>.bad
 | .builtin .append=>match c.args.toList,c.argTypes.toList with
   | s::x::_,t::u::_=>(oJ P H nx t u (bZ fr s).1 (bZ fr x).1).bind hv
   | _,_=>.bad
 | .builtin .copy=>match c.args.toList,c.argTypes.toList with
   | s::x::_,t::_=>(Fp P H t (bZ fr s).1 (bZ fr x).1).bind hv
   | _,_=>.bad
 | .builtin .clear=>match c.args.toList,c.argTypes.toList with
   | s::_,t::_=>(A6 P H t (bZ fr s).1).bind hv
   | _,_=>.bad
 | .builtin .min=>match zU fr c.args.toList with
   | .int k x::r=>(pB false k x r).bind fun v=>.ok ((v,none),.bc)
   | _=>.bad
 | .builtin .max=>match zU fr c.args.toList with
   | .int k x::r=>(pB true k x r).bind fun v=>.ok ((v,none),.bc)
   | _=>.bad
 | .builtin .delete=>match c.args.toList,c.argTypes.toList with
   | m::k::_,t::_=>(Kn P H t (bZ fr m).1 (bZ fr k).1).bind fun δ=>.ok ((.tup [],none),δ)
   | _,_=>.bad
 | _=>(wh (fY P call (strip fr) H nx c)).bind hv
theorem DC {P:Program} {call:aW} {callR:bJ} (hC:callR.Ok call) {fr:aN} {H:aa} {nx:Nat} {c:Call} {y:HV×Delta} (h:(A0 P call callR fr H nx c).run=some y):fY P call (strip fr) H nx c=some (y.1.1,y.2):=by
 have dflt:∀ (t:Tr (AV×Delta)),(t.bind hv).run=some y→t.run=some (y.1.1,y.2):=by
  intro t ht
  obtain ⟨x,h1,h2⟩:=Tr.bind_some ht
  obtain ⟨e1,e2⟩:=Cn h2
  rw[h1,e1,e2]
 unfold A0 at h
 split at h
 · rename_i f hf
   unfold fY
   rw[hf]
   dsimp only
   rw[aU] at h
   split at h
   · rename_i g a b ho
     obtain ⟨x,h1,h⟩:=Tr.bind_some h
     rw[ho]
     dsimp only
     have:=hC.2 _ _ _ _ h1
     rw[wL,wL,nN,nN,tL] at this
     rw[this,← Tr.ab h];rfl
   · rename_i d i ho
     obtain ⟨x,h1,h⟩:=Tr.bind_some h
     rw[ho]
     dsimp only
     have:=hC.2 _ _ _ _ h1
     rw[tL] at this
     rw[this,← Tr.ab h];rfl
   · exact (Tr.ae h).elim
 · rename_i hf
   unfold fY
   rw[hf]
   dsimp only
   split at h
   · rename_i x _ t _ hx ht
     obtain ⟨v,h1,h⟩:=Tr.bind_some h
     rw[hx,ht]
     dsimp only
     have:=Ib h1
     rw[aU] at this
     obtain ⟨n,k1,k2⟩:=Option.map_eq_some_iff.1 this
     rw[k1,← Tr.ab h,← k2];rfl
   · exact (Tr.ae h).elim
 · rename_i hf
   unfold fY
   rw[hf]
   dsimp only
   split at h
   · rename_i s x _ t u _ hx ht
     rw[hx,ht]
     dsimp only
     have h:=AT (dflt _ h)
     rw[aU,aU] at h
     rw[nj hC.1]
     exact h
   · exact (Tr.ae h).elim
 · rename_i hf
   unfold fY
   rw[hf]
   dsimp only
   split at h
   · rename_i s x _ t _ hx ht
     rw[hx,ht]
     dsimp only
     have h:=Fq (dflt _ h)
     rw[aU,aU] at h
     exact h
   · exact (Tr.ae h).elim
 · rename_i hf
   unfold fY
   rw[hf]
   dsimp only
   split at h
   · rename_i s _ t _ hx ht
     rw[hx,ht]
     dsimp only
     have h:=DE (dflt _ h)
     rw[aU] at h
     exact h
   · exact (Tr.ae h).elim
 · rename_i hf
   unfold fY
   rw[hf]
   dsimp only
   rw[tM] at h
   split at h
   · rename_i k x r hx
     obtain ⟨v,h1,h⟩:=Tr.bind_some h
     rw[hx]
     dsimp only[oe]
     rw[og _ _ _ h1,← Tr.ab h];rfl
   · exact (Tr.ae h).elim
 · rename_i hf
   unfold fY
   rw[hf]
   dsimp only
   rw[tM] at h
   split at h
   · rename_i k x r hx
     obtain ⟨v,h1,h⟩:=Tr.bind_some h
     rw[hx]
     dsimp only[oe]
     rw[og _ _ _ h1,← Tr.ab h];rfl
   · exact (Tr.ae h).elim
 · rename_i hf
   unfold fY
   rw[hf]
   dsimp only
   split at h
   · rename_i m k _ t _ hx ht
     rw[hx,ht]
     dsimp only
     obtain ⟨δ,h1,h⟩:=Tr.bind_some h
     have h1:=HK h1
     rw[aU,aU] at h1
     rw[h1,← Tr.ab h]
   · exact (Tr.ae h).elim
 · have h:=dflt _ h
   rw[cZ] at h;exact h

def Kc (P:Program) (op:BinOp) (t:TypeId) (x y:HV):Tr HV :=
 cond (isLit x && isLit y) (match x.1,y.1 with
  | .int k a,.int k' b=>(wh (B4 P op t (.int k a) (.int k' b))).bind fun v=>.ok (v,some 1)
  | a,b=>(Fa P op t a b).bind fun v=>.ok (v,none))
 ((Fa P op t x.1 y.1).bind fun v=>.ok (v,none))
theorem Hv {P:Program} {op:BinOp} {t:TypeId} {x y v:HV} (h:(Kc P op t x y).run=some v):j7 P op t x.1 y.1=some v.1:=by
 have gen:∀ a b,((Fa P op t a b).bind fun v=>Tr.ok ((v,none):HV)).run=some v→j7 P op t a b=some v.1:=by
  intro a b h
  obtain ⟨u,h1,h⟩:=Tr.bind_some h
  rw[Hw h1,← Tr.ab h]
 unfold Kc at h
 cases hb:isLit x && isLit y with
 | false=>rw[hb,cond_false] at h;exact gen _ _ h
 | true =>
   rw[hb,cond_true] at h
   split at h
   · rename_i k a k' b hx hy
     obtain ⟨u,h1,h⟩:=Tr.bind_some h
     rw[cZ,su] at h1
     rw[hx,hy,h1,← Tr.ab h]
   · exact gen _ _ h

def py (fr:aN) (l:List (Nat×Operand)):List (Nat×AV):=oc (fun p=>(p.1,(bZ fr p.2).1)) l
theorem oa (fr:aN):∀ l,py fr l=dV (strip fr) l
 | []=>rfl
 | (i,x)::l=>by
   have e:py fr ((i,x)::l)=(i,(bZ fr x).1)::py fr l:=rfl
   rw[e,oa fr l,aU];rfl
def Ng (op:Op):Oper→Program→aW→bJ→aN→aa→Nat→Tr (HV×Delta) :=
 match op with
 | .move x=>fun _ _ _ _ fr _ _=>.ok (bZ fr x,.bc)
 | .assign x=>fun _ _ _ _ fr _ _=>.ok (bZ fr x,.bc)
 | .pick c a b=>fun _ _ _ _ fr _ _=>match bZ fr c with
   | (.bool t,none)=>.ite t (.ok (bZ fr a,.bc)) (.ok (bZ fr b,.bc))
   | (.bool t,some _)=>cond t (.ok (bZ fr a,.bc)) (.ok (bZ fr b,.bc))
   | _=>.bad
 | .alloc t=>fun _ P _ _ _ _ nx=>match (cI P t).bind AV.row with
   | some z=>.ok ((.ptr 0 nx 0 0,none),.push (.row (jz z)))
   | none=>.bad
 | .box _ x=>fun _ _ _ _ fr _ nx=>match (bZ fr x).1.row with
   | some r=>.ok ((.ptr 0 nx 0 0,none),.push (.row (jz r)))
   | none=>.bad
 | .build t parts=>fun _ P _ _ fr _ _=>(wh (wM P true t (py fr parts.toList))).bind fun v=>.ok ((v,none),.bc)
 | .buildSlice t len parts=>fun _ P _ _ fr _ nx=>(wh (jE P nx t len (py fr parts.toList))).bind fun x=>.ok ((x.1,some 1),x.2)
 | .load t a=>fun _ P _ _ fr H _=>(loadT P H t (bZ fr a)).bind fun v=>.ok ((v,none),.bc)
 | .store t a x=>fun _ P _ _ fr H _=>(storeT P H t (bZ fr a) (bZ fr x).1).bind fun δ=>.ok ((.tup [],none),δ)
 | .nilCheck x=>fun _ _ _ _ fr _ _=>match (bZ fr x).1 with
   | .ptr d i v off=>.ok (bZ fr x,.bc)
   | .ptrT s r off=>.ok (bZ fr x,.bc)
   | _=>.bad
 | .binOp op t x y _=>fun _ P _ _ fr _ _=>(Kc P op t (bZ fr x) (bZ fr y)).bind fun v=>.ok (v,.bc)
 | .unOp op _ x=>fun _ _ _ _ fr _ _=>match op,bZ fr x with
   | .not,(.bool b,some _)=>.ok ((.bool (cond b false true),some 1),.bc)
   | op,x=>(Rs op x.1).bind fun v=>.ok ((v,none),.bc)
 | .convert src dst x=>fun _ P _ _ fr _ _=>match P.underlying src with
   | some _=>match P.underlying dst with
     | some (.int k)=>match bZ fr x with
       | (.int _ n,none)=>.ok ((.int k (nn k n),none),.bc)
       | (.int _ n,some _)=>.ok ((.int k (wG k n),some 1),.bc)
       | _=>.bad
     | _=>.bad
   | none=>.bad
 | .makeSlice t l c=>fun _ P _ _ fr _ nx=>(n9 P nx t (bZ fr l).1 (bZ fr c).1).bind hv
 | .slice t x lo hi mx=>fun _ P _ _ fr _ _=>cond (isLit (bZ fr x) && (KP fr lo && (KP fr hi && KP fr mx)))
   ((wh (qO P t (bZ fr x).1 (lo.map fun y=>(bZ fr y).1) (hi.map fun y=>(bZ fr y).1) (mx.map fun y=>(bZ fr y).1))).bind fun v=>.ok ((v,some 1),.bc))
   ((BH P t (bZ fr x).1 (lo.map fun y=>(bZ fr y).1) (hi.map fun y=>(bZ fr y).1) (mx.map fun y=>(bZ fr y).1)).bind fun v=>.ok ((v,none),.bc))
 | .fieldAddr t x f=>fun _ P _ _ fr _ _=>(nT P t (bZ fr x) f).bind fun v=>.ok (v,.bc)
 | .field t x f=>fun _ P _ _ fr _ _=>(wh (sO P t (bZ fr x).1 f)).bind fun v=>.ok ((v,none),.bc)
 | .indexAddr t x i=>fun _ P _ _ fr _ _=>match (bZ fr i).1 with
   | .int _ n=>(KB P t (bZ fr x) (isLit (bZ fr i)) n).bind fun v=>.ok (v,.bc)
   | _=>.bad
 | .index t x i=>fun _ P _ _ fr _ _=>match (bZ fr i).1 with
   | .int _ n=>(Pd P t (bZ fr x).1 (isLit (bZ fr i)) n).bind fun v=>.ok ((v,none),.bc)
   | _=>.bad
 | .extract t ix=>fun _ _ _ _ fr _ _=>match (bZ fr t).1 with
   | .tup l=>match yQ l ix with
     | some v=>.ok ((v,none),.bc)
     | none=>.bad
   | _=>.bad
 | .call c=>fun _ P call callR fr H nx=>A0 P call callR fr H nx c
 | .makeMap t r=>fun _ P _ _ _ _ nx=>match r with
   | none=>.ok ((.map 0 nx,none),.push (tE P t))
   | some _=>.bad
 | .mapUpdate t m k x=>fun _ P _ _ fr H _=>(I6 P H t (bZ fr m).1 (bZ fr k).1 (bZ fr x).1).bind fun δ=>.ok ((.tup [],none),δ)
 | .insert t m k x=>fun _ P _ _ fr H _=>(I6 P H t (bZ fr m).1 (bZ fr k).1 (bZ fr x).1).bind fun δ=>.ok ((.tup [],none),δ)
 | _=>fun o P call _ fr H nx=>(wh (evalOp P call (strip fr) H nx o)).bind hv
theorem Bw {o:Oper} {P:Program} {call:aW} {callR:bJ} (hC:callR.Ok call) {fr:aN} {H:aa} {nx:Nat} {y:HV×Delta} (h:(Ng o.op o P call callR fr H nx).run=some y):evalOp P call (strip fr) H nx o=some (y.1.1,y.2):=by
 have dflt:∀ (t:Tr (AV×Delta)),(t.bind hv).run=some y→t.run=some (y.1.1,y.2):=by
  intro t ht
  obtain ⟨x,h1,h2⟩:=Tr.bind_some ht
  obtain ⟨e1,e2⟩:=Cn h2
  rw[h1,e1,e2]
 have dkp:∀ (t:Tr AV),(t.bind fun v=>Tr.ok (((v,none),.bc):HV×Delta)).run=some y→t.run=some y.1.1∧y.2=.bc:=by
  intro t ht
  obtain ⟨x,h1,h2⟩:=Tr.bind_some ht
  rw[h1,← Tr.ab h2];exact ⟨rfl,rfl⟩
 have kpe:∀ {o:Option AV} {v:AV},o=some v→kp o=some (v,.bc):=by rintro o v rfl;rfl
 cases ho:o.op<;>rw[ho] at h<;>simp only[Ng] at h
 case move x =>
  unfold evalOp;rw[ho];dsimp only
  rw[← Tr.ab h,← aU]
 case assign x =>
  unfold evalOp;rw[ho];dsimp only
  rw[← Tr.ab h,← aU]
 case pick c a b =>
  unfold evalOp;rw[ho];dsimp only
  have hc':=aU fr c
  split at h
  · rename_i t hc
    rw[hc] at hc'
    rw[← hc']
    dsimp only
    rcases Tr.eY h with ⟨rfl,h⟩ | ⟨rfl,h⟩<;>rw[← Tr.ab h,← aU,← aU]<;>rfl
  · rename_i t n hc
    rw[hc] at hc'
    rw[← hc']
    dsimp only
    cases t with
    | true=>rw[cond_true] at h;rw[← Tr.ab h,← aU,← aU];rfl
    | false=>rw[cond_false] at h;rw[← Tr.ab h,← aU,← aU];rfl
  · exact (Tr.ae h).elim
 case alloc t =>
  unfold evalOp;rw[ho];dsimp only
  split at h
  · rename_i z hz
    rw[hz,← Tr.ab h,Option.map_some,nj hC.1]
  · exact (Tr.ae h).elim
 case box t x =>
  unfold evalOp;rw[ho];dsimp only
  rw[aU] at h
  split at h
  · rename_i z hz
    rw[hz,← Tr.ab h,Option.map_some,nj hC.1]
  · exact (Tr.ae h).elim
 case build t parts =>
  unfold evalOp;rw[ho];dsimp only
  obtain ⟨h1,h2⟩:=dkp _ h
  rw[cZ,oa] at h1
  rw[nj hC.1,kpe h1,h2]
 case buildSlice t len parts =>
  unfold evalOp;rw[ho];dsimp only
  obtain ⟨x,h1,h⟩:=Tr.bind_some h
  rw[cZ,oa] at h1
  rw[h1,← Tr.ab h]
 case load t a =>
  unfold evalOp;rw[ho];dsimp only
  obtain ⟨h1,h2⟩:=dkp _ h
  have h1:=zt h1
  rw[aU] at h1
  rw[kpe h1,h2]
 case store t a x =>
  unfold evalOp;rw[ho];dsimp only
  obtain ⟨δ,h1,h⟩:=Tr.bind_some h
  have h1:=Ey h1
  rw[aU,aU] at h1
  rw[h1,← Tr.ab h];rfl
 case nilCheck x =>
  unfold evalOp;rw[ho];dsimp only
  rw[← aU]
  split at h
  · rename_i d i v off hx
    rw[hx,← Tr.ab h,hx]
  · rename_i s r off hx
    rw[hx,← Tr.ab h,hx]
  · exact (Tr.ae h).elim
 case binOp op t x y' g =>
  unfold evalOp;rw[ho];dsimp only
  obtain ⟨v,h1,h⟩:=Tr.bind_some h
  have h1:=Hv h1
  rw[aU,aU] at h1
  rw[kpe h1,← Tr.ab h]
 case unOp op t x =>
  unfold evalOp;rw[ho];dsimp only
  split at h
  · rename_i b n hx
    have:bL (strip fr) x=.bool b:=by rw[← aU,hx]
    rw[this,← Tr.ab h]
    cases b<;>rfl
  · obtain ⟨h1,h2⟩:=dkp _ h
    have h1:=Ly h1
    rw[aU] at h1
    rw[kpe h1,h2]
 case convert s d x =>
  unfold evalOp;rw[ho];dsimp only
  split at h
  · rename_i u hu
    split at h
    · rename_i k hk
      have hx:=aU fr x
      split at h
      · rename_i n hn
        rw[hn] at hx
        rw[hu,hk,← hx]
        dsimp only
        rw[← Tr.ab h,BQ]
      · rename_i n _ hn
        rw[hn] at hx
        rw[hu,hk,← hx]
        dsimp only
        rw[← Tr.ab h,uC]
      · exact (Tr.ae h).elim
    · exact (Tr.ae h).elim
  · exact (Tr.ae h).elim
 case makeSlice t l c =>
  unfold evalOp;rw[ho];dsimp only
  have h1:=ve (dflt _ h)
  rw[aU,aU] at h1
  rw[nj hC.1]
  exact h1
 case slice t x lo hi mx =>
  unfold evalOp;rw[ho];dsimp only
  have e:∀ z:Option Operand,(z.map fun y=>(bZ fr y).1)=z.map (bL (strip fr)):=by
   intro z;cases z<;>simp[aU]
  rcases me h with ⟨_,h⟩ | ⟨_,h⟩
  · obtain ⟨v,h1,h2⟩:=Tr.bind_some h
    rw[cZ,aU,e,e,e] at h1
    rw[kpe h1,← Tr.ab h2]
  · obtain ⟨h1,h2⟩:=dkp _ h
    have h1:=Et h1
    rw[aU] at h1
    rw[e,e,e] at h1
    rw[kpe h1,h2]
 case fieldAddr t x f =>
  unfold evalOp;rw[ho];dsimp only
  obtain ⟨v,h1,h⟩:=Tr.bind_some h
  have h1:=uQ h1
  rw[aU] at h1
  rw[kpe h1,← Tr.ab h]
 case field t x f =>
  unfold evalOp;rw[ho];dsimp only
  obtain ⟨h1,h2⟩:=dkp _ h
  rw[cZ,aU] at h1
  rw[kpe h1,h2]
 case index t x i =>
  unfold evalOp;rw[ho];dsimp only
  rw[aU] at h
  split at h
  · rename_i k n hn
    obtain ⟨v,h1,h⟩:=Tr.bind_some h
    have h1:=KH h1
    rw[aU] at h1
    rw[hn]
    dsimp only
    rw[kpe h1,← Tr.ab h]
  · exact (Tr.ae h).elim
 case indexAddr t x i =>
  unfold evalOp;rw[ho];dsimp only
  rw[aU] at h
  split at h
  · rename_i k n hn
    obtain ⟨v,h1,h⟩:=Tr.bind_some h
    have h1:=HY h1
    rw[aU] at h1
    rw[hn]
    dsimp only
    rw[kpe h1,← Tr.ab h]
  · exact (Tr.ae h).elim
 case extract t ix =>
  unfold evalOp;rw[ho];dsimp only
  rw[aU] at h
  split at h
  · rename_i l hl
    rw[hl]
    dsimp only
    rw[lh] at h
    split at h
    · rename_i v hv'
      rw[hv',← Tr.ab h]
    · exact (Tr.ae h).elim
  · exact (Tr.ae h).elim
 case call c =>
  unfold evalOp;rw[ho];dsimp only
  exact DC hC h
 case makeMap t r =>
  unfold evalOp;rw[ho];try dsimp only
  cases r with
  | none =>
    dsimp only at h ⊢
    rw[nj hC.1,← Tr.ab h]
  | some r=>exact (Tr.ae h).elim
 case mapUpdate t m k x =>
  unfold evalOp;rw[ho];dsimp only
  obtain ⟨δ,h1,h⟩:=Tr.bind_some h
  have h1:=Dn h1
  rw[aU,aU,aU] at h1
  rw[h1,← Tr.ab h];rfl
 case insert t m k x =>
  unfold evalOp;rw[ho];dsimp only
  obtain ⟨δ,h1,h⟩:=Tr.bind_some h
  have h1:=Dn h1
  rw[aU,aU,aU] at h1
  rw[h1,← Tr.ab h];rfl
 all_goals
  have h1:=dflt _ h
  rw[cZ] at h1
  exact h1

end
end Go.Eng
