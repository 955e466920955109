/- The engine as a tree: the other builtins; operations. -/
import Derived.Test.YtoomemfhcbajoaaV4EngTcx2
set_option linter.unusedVariables false
set_option linter.unusedSimpArgs false
namespace Go.Eng
noncomputable section

abbrev bH:=NS→List HV→aa→Tr (HV×aa)
def pO (l:List HV):List AV:=nY (fun x=>x.1) l
def bH.Ok (c:bH) (call:aY):Prop:=(∃ x,call .mode [] []=some x)∧∀ tgt args H x,(c tgt args H).run=some x→call tgt (pO args) H=some (x.1.1,x.2)
theorem na {α:Type} {call:aY} (h:∃ x,call .mode [] []=some x) (a b:α):lT call a b=a:=by
 obtain ⟨x,h⟩:=h
 unfold lT
 rw[h]

def HK (P:Program) (H:aa) (t:TypeId) (x:HV):Tr HV :=
 match P.underlying t with
 | some (.slice _)=>match x.1 with
   | .nils=>.ok (.int .i64 (Int.ofNat 0),some 1)
   | .slc _ _ _ _ _ len _=>.ok (.int .i64 (Int.ofNat len),x.2)
   | .slcT _ _ _ len _=>.ok (.int .i64 (Int.ofNat len),x.2)
   | _=>.bad
 | some (.array n _)=>.ok (.int .i64 (Int.ofNat n),some 1)
 | _=>(vV ((uL P H t x.1).map fun n=>AV.int .i64 n)).bind fun v=>.ok (v,none)
theorem HL {P:Program} {H:aa} {t:TypeId} {x v:HV} (h:(HK P H t x).run=some v):(uL P H t x.1).map (AV.int .i64)=some v.1:=by
 unfold HK at h
 split at h
 · rename_i e hu
   unfold uL
   rw[hu]
   split at h
   · rename_i hx;rw[hx,← Tr.ab h];rfl
   · rename_i hx;rw[hx,← Tr.ab h];rfl
   · rename_i hx;rw[hx,← Tr.ab h];rfl
   · exact (Tr.ae h).elim
 · rename_i hu
   unfold uL
   rw[hu,← Tr.ab h];rfl
 · obtain ⟨u,h1,h⟩:=Tr.bind_some h
   rw[c6] at h1
   rw[h1,← Tr.ab h]
def EZ    (P:Program) (H:aa) (t:TypeId) (s x:AV):Tr (AV×Delta) :=
 match P.underlying t with
 | some (.slice e)=>match bn P e with
   | some z=>match nQ x with
     | some n=>match s with
       | .slc d i v off sz m cap=>(sn H z (qu n m) x).bind fun new=>cond (fL H d) .bad ((xH H d i v (some 0)).bind fun r=>cond (Nat.beq sz z) (match r with
          | .M l=>(Gh l off none (lG d new)).bind fun r'=>.ok (.int .i64 (Int.ofNat (qu n m)),.set d i (v,.row r'))
          | _=>.bad) .bad)
       | _=>.bad
     | none=>.bad
   | none=>.bad
 | _=>.bad
theorem E0 {P:Program} {H:aa} {t:TypeId} {s x:AV} {y:AV×Delta} (h:(EZ P H t s x).run=some y):copyV P H t s x=some y:=by
 unfold EZ at h
 unfold copyV
 split at h
 · rename_i e hu
   split at h
   · rename_i z hs
     split at h
     · rename_i n hn
       split at h
       · rename_i d i v off sz m cap _ _
         obtain ⟨new,h1,h⟩:=Tr.bind_some h
         rw[eE] at h
         obtain ⟨hl,h⟩:=Tr.j6 h
         obtain ⟨r,h2,h⟩:=Tr.bind_some h
         obtain ⟨hz,h⟩:=Tr.aU h
         have hz:=Nat.eq_of_beq_eq_true hz
         have hcv:=pR h1
         rw[pj] at hcv
         have hcl:=so hcv
         rw[hu]
         dsimp only
         rw[hs,hn]
         dsimp only[nQ]
         rw[hcv]
         dsimp only
         rw[hl,if_neg (by simp),lr h2]
         dsimp only
         split at h
         · rename_i l _
           obtain ⟨r',h3,h⟩:=Tr.bind_some h
           obtain ⟨k1,k2⟩:=xC h3
           rw[fF,hcl] at k1
           rw[if_pos ⟨hz,by rw[hz];exact k1⟩,k2,← Tr.ab h,pj]
           rfl
         · exact (Tr.ae h).elim
       · exact (Tr.ae h).elim
     · exact (Tr.ae h).elim
   · exact (Tr.ae h).elim
 · exact (Tr.ae h).elim
def xY (z:Row) (n:Nat):Row :=
 match z with
 | .I k l=>cond (yc l) (.M [.arr k (fun _=>0) (jn n (iQ l))]) (dL z n)
 | z=>dL z n
theorem wm (z:Row) (n:Nat):xY z n=dL z n:=by
 cases z with
 | I k l =>
   simp only[xY]
   cases h:yc l with
   | true=>simp only[cond_true,dL,h,if_true,cE,dq]
   | false=>rfl
 | _=>rfl
def AU (P:Program) (H:aa) (t:TypeId) (s:AV):Tr (AV×Delta) :=
 match P.underlying t with
 | some (.slice e)=>match s with
   | .slc d i v off sz len _=>cond (fL H d) .bad (match (cJ P e).bind AV.row with
     | some z=>match bn P e with
       | some n=>cond (Nat.beq n sz) (cond (Nat.beq (iJ z) sz) (.req (bV 0 len) ((xH H d i v (some 0)).bind fun r=>match r with
          | .M l=>(Gh l off none (xY z len)).bind fun r'=>.ok (.tup [],.set d i (v,.row r'))
          | _=>.bad)) .bad) .bad
       | none=>.bad
     | none=>.bad)
   | _=>.bad
 | _=>.bad
theorem BH (z:Row) (n:Nat):(dL z n).len=n*z.len:=by
 have fn:∀ l:List AV,(Fq l n).len=n*l.length:=by
  intro l
  unfold Fq
  split
  · split<;>simp[Row.len,dR]
  · simp[Row.len,dR]
 cases z with
 | I k l=>simp only[dL];split<;>simp[Row.len,aA,aR,dR]
 | _=>simp only[dL,fn,Row.bm]
theorem Dt {P:Program} {H:aa} {t:TypeId} {s:AV} {y:AV×Delta} (h:(AU P H t s).run=some y):ss P H t s=some y:=by
 unfold AU at h
 unfold ss
 split at h
 · rename_i e hu
   split at h
   · rename_i d i v off sz len cap
     rw[eE] at h
     obtain ⟨hl,h⟩:=Tr.j6 h
     split at h
     · rename_i z hz
       split at h
       · rename_i n hs
         obtain ⟨hn,h⟩:=Tr.aU h
         obtain ⟨hzl,h⟩:=Tr.aU h
         have hn:=Nat.eq_of_beq_eq_true hn
         rw[fE] at hzl
         have hzl:=Nat.eq_of_beq_eq_true hzl
         obtain ⟨h0,h⟩:=Tr.aS h
         rw[gz,decide_eq_true_eq] at h0
         obtain ⟨r,h2,h⟩:=Tr.bind_some h
         rw[hu]
         dsimp only
         rw[hl,if_neg (by simp),hz,lr h2]
         dsimp only
         split at h
         · rename_i l _
           obtain ⟨r',h3,h⟩:=Tr.bind_some h
           obtain ⟨k1,k2⟩:=xC h3
           rw[wm] at k1 k2
           rw[BH,hzl] at k1
           rw[if_pos ⟨hzl,by rw[hs,hn],k1⟩,← Tr.ab h]
           rw[if_neg (by omega)]
           simp only[yX,if_true]
           rw[← k2]
         · exact (Tr.ae h).elim
       · exact (Tr.ae h).elim
     · exact (Tr.ae h).elim
   · exact (Tr.ae h).elim
 · exact (Tr.ae h).elim
def nT (P:Program) (nx:Nat) (t:TypeId) (l c:AV):Tr (AV×Delta) :=
 match P.underlying t with
 | some (.slice e)=>match l with
   | .int _ l=>match c with
     | .int _ c=>match P.info? e with
       | some inf=>match (cJ P e).bind AV.row with
         | some z=>.req (DW l c inf.bytes) (cond (Nat.beq (iJ z) inf.size) (.ok (.slc 0 nx 0 0 inf.size (dD l) (some (dD c)),.push (.row (xY z (dD c))))) .bad)
         | none=>.bad
       | none=>.bad
     | _=>.bad
   | _=>.bad
 | _=>.bad
theorem uP {P:Program} {nx:Nat} {t:TypeId} {l c:AV} {y:AV×Delta} (h:(nT P nx t l c).run=some y):jl P true nx t l c=some y:=by
 unfold nT at h
 unfold jl
 split at h
 · rename_i e hu
   split at h
   · split at h
     · split at h
       · rename_i inf hi
         split at h
         · rename_i z hz
           obtain ⟨hc,h⟩:=Tr.aS h
           obtain ⟨hl,h⟩:=Tr.aU h
           rw[xh,decide_eq_true_eq] at hc
           rw[fE] at hl
           have hl:=Nat.eq_of_beq_eq_true hl
           rw[hu]
           dsimp only
           rw[hi,hz]
           dsimp only
           rw[if_pos ⟨hc.1,hc.2.1,hc.2.2.1,hc.2.2.2,hl⟩,← Tr.ab h,wm,mK,mK]
           rfl
         · exact (Tr.ae h).elim
       · exact (Tr.ae h).elim
     · exact (Tr.ae h).elim
   · exact (Tr.ae h).elim
 · exact (Tr.ae h).elim

def hv (x:AV×Delta):Tr (HV×Delta):=.ok ((x.1,none),x.2)
theorem Ce {x:AV×Delta} {y:HV×Delta} (h:(hv x).run=some y):y.1.1=x.1∧y.2=x.2:=by
 have:=Tr.ab h
 rw[← this]
 exact ⟨rfl,rfl⟩
def tr (l:List AV):List HV:=nY (fun x=>(x,none)) l
theorem nG:∀ l:List AV,pO (tr l)=l
 | []=>rfl
 | x::l=>by
   have e:pO (tr (x::l))=x::pO (tr l):=rfl
   rw[e,nG l]
theorem wv:∀ a b:List HV,pO (ng a b)=pO a++pO b
 | [],b=>rfl
 | x::a,b=>by
   have e:pO (ng (x::a) b)=x.1::pO (ng a b):=rfl
   rw[e,wv a b];rfl
def zJ (fr:aO) (l:List Operand):List HV:=nY (fun x=>b7 fr x) l
theorem tA (fr:aO):∀ l,pO (zJ fr l)=jS (strip fr) l
 | []=>rfl
 | x::l=>by
   have e:pO (zJ fr (x::l))=(b7 fr x).1::pO (zJ fr l):=rfl
   rw[e,tA fr l,aV];rfl
def II   (P:Program) (H:aa) (t:TypeId) (m key x:AV):Tr Delta :=
 match P.underlying t with
 | some (.map kt _)=>match m with
   | .map d i=>cond (aw H d) .bad (cond (jR P kt key) (match av H d i with
     | (0,.fmap q h g c)=>match uK q key with
       | some n=>match zH x with
         | some y=>.ok (.set d i (0,.fmap q (mG h n true) (mI g n y) (su (h n) c)))
         | none=>.bad
       | none=>.bad
     | _=>.bad) .bad)
   | _=>.bad
 | _=>.bad
def J0 (P:Program) (H:aa) (t:TypeId) (m key:AV):Tr Delta :=
 match P.underlying t with
 | some (.map kt _)=>match m with
   | .map d i=>cond (aw H d) .bad (cond (jR P kt key) (match av H d i with
     | (0,.fmap q h g c)=>match uK q key with
       | some n=>.ok (.set d i (0,.fmap q (mG h n false) (mI g n 0) (vm (h n) c)))
       | none=>.bad
     | _=>.bad) .bad)
   | _=>.bad
 | _=>.bad
def Ks (fr:aO):Option Operand→Bool
 | none=>true
 | some y=>isLit (b7 fr y)
theorem l5 {α:Type} {b:Bool} {s t:Tr α} {x:α} (h:(cond b s t).run=some x):b=true∧s.run=some x∨b=false∧t.run=some x:=by
 cases b
 · exact .inr ⟨rfl,h⟩
 · exact .inl ⟨rfl,h⟩
theorem Dd {P:Program} {H:aa} {t:TypeId} {m key x:AV} {δ:Delta} (h:(II P H t m key x).run=some δ):jO P H t m key x=some δ:=by
 unfold II at h
 unfold jO
 split at h
 · rename_i kt et hu
   rw[hu]
   split at h
   · rename_i d i
     dsimp only
     rcases l5 h with ⟨_,h⟩ | ⟨h1,h⟩
     · exact (Tr.ae h).elim
     · rcases l5 h with ⟨h2,h⟩ | ⟨_,h⟩
       · rw[if_neg (by rw[h1];simp),if_pos h2]
         split at h
         · rename_i q f g c hg
           rw[hg]
           try dsimp only
           split at h
           · rename_i n hn
             split at h
             · rename_i y hy
               simp only[hn,hy,← Tr.ab h,z9,Ad,yh]
             · exact (Tr.ae h).elim
           · exact (Tr.ae h).elim
         · exact (Tr.ae h).elim
       · exact (Tr.ae h).elim
   · exact (Tr.ae h).elim
 · exact (Tr.ae h).elim
theorem Hi {P:Program} {H:aa} {t:TypeId} {m key:AV} {δ:Delta} (h:(J0 P H t m key).run=some δ):oI P H t m key=some (.tup [],δ):=by
 unfold J0 at h
 unfold oI
 split at h
 · rename_i kt et hu
   rw[hu]
   split at h
   · rename_i d i
     dsimp only
     rcases l5 h with ⟨_,h⟩ | ⟨h1,h⟩
     · exact (Tr.ae h).elim
     · rcases l5 h with ⟨h2,h⟩ | ⟨_,h⟩
       · rw[if_neg (by rw[h1];simp),if_pos h2]
         split at h
         · rename_i q f g c hg
           rw[hg]
           try dsimp only
           split at h
           · rename_i n hn
             simp only[hn,← Tr.ab h,z9,Ad,yi]
           · exact (Tr.ae h).elim
         · exact (Tr.ae h).elim
       · exact (Tr.ae h).elim
   · exact (Tr.ae h).elim
 · exact (Tr.ae h).elim
def AS (P:Program) (call:aY) (callR:bH) (fr:aO) (H:aa) (nx:Nat) (c:Call):Tr (HV×Delta) :=
 match c.callee with
 | .value f=>match (b7 fr f).1 with
   | .fn (.func g) a b=>(callR (.fn g) (ng (tr a) (ng (zJ fr c.args.toList) (tr b))) H).bind fun x=>.ok (x.1,.heap x.2)
   | .yld d i=>(callR (.round d i) (zJ fr c.args.toList) H).bind fun x=>.ok (x.1,.heap x.2)
   | _=>.bad
 | .builtin .len=>match c.args.toList,c.argTypes.toList with
   | x::_,t::_=>(HK P H t (b7 fr x)).bind fun v=>.ok (v,.bf)
   | _,_=>.bad
 | .builtin .append=>match c.args.toList,c.argTypes.toList with
   | s::x::_,t::u::_=>(oz P H nx t u (b7 fr s).1 (b7 fr x).1).bind hv
   | _,_=>.bad
 | .builtin .copy=>match c.args.toList,c.argTypes.toList with
   | s::x::_,t::_=>(EZ P H t (b7 fr s).1 (b7 fr x).1).bind hv
   | _,_=>.bad
 | .builtin .clear=>match c.args.toList,c.argTypes.toList with
   | s::_,t::_=>(AU P H t (b7 fr s).1).bind hv
   | _,_=>.bad
 | .builtin .min=>match zK fr c.args.toList with
   | .int k x::r=>(pk false k x r).bind fun v=>.ok ((v,none),.bf)
   | _=>.bad
 | .builtin .max=>match zK fr c.args.toList with
   | .int k x::r=>(pk true k x r).bind fun v=>.ok ((v,none),.bf)
   | _=>.bad
 | .builtin .delete=>match c.args.toList,c.argTypes.toList with
   | m::k::_,t::_=>(J0 P H t (b7 fr m).1 (b7 fr k).1).bind fun δ=>.ok ((.tup [],none),δ)
   | _,_=>.bad
 | _=>(vV (fU P call (strip fr) H nx c)).bind hv
theorem Dr {P:Program} {call:aY} {callR:bH} (hC:callR.Ok call) {fr:aO} {H:aa} {nx:Nat} {c:Call} {y:HV×Delta} (h:(AS P call callR fr H nx c).run=some y):fU P call (strip fr) H nx c=some (y.1.1,y.2):=by
 have dflt:∀ (t:Tr (AV×Delta)),(t.bind hv).run=some y→t.run=some (y.1.1,y.2):=by
  intro t ht
  obtain ⟨x,h1,h2⟩:=Tr.bind_some ht
  obtain ⟨e1,e2⟩:=Ce h2
  rw[h1,e1,e2]
 unfold AS at h
 split at h
 · rename_i f hf
   unfold fU
   rw[hf]
   dsimp only
   rw[aV] at h
   split at h
   · rename_i g a b ho
     obtain ⟨x,h1,h⟩:=Tr.bind_some h
     rw[ho]
     dsimp only
     have:=hC.2 _ _ _ _ h1
     rw[wv,wv,nG,nG,tA] at this
     rw[this,← Tr.ab h];rfl
   · rename_i d i ho
     obtain ⟨x,h1,h⟩:=Tr.bind_some h
     rw[ho]
     dsimp only
     have:=hC.2 _ _ _ _ h1
     rw[tA] at this
     rw[this,← Tr.ab h];rfl
   · exact (Tr.ae h).elim
 · rename_i hf
   unfold fU
   rw[hf]
   dsimp only
   split at h
   · rename_i x _ t _ hx ht
     obtain ⟨v,h1,h⟩:=Tr.bind_some h
     rw[hx,ht]
     dsimp only
     have:=HL h1
     rw[aV] at this
     obtain ⟨n,k1,k2⟩:=Option.map_eq_some_iff.1 this
     rw[k1,← Tr.ab h,← k2];rfl
   · exact (Tr.ae h).elim
 · rename_i hf
   unfold fU
   rw[hf]
   dsimp only
   split at h
   · rename_i s x _ t u _ hx ht
     rw[hx,ht]
     dsimp only
     have h:=AM (dflt _ h)
     rw[aV,aV] at h
     rw[na hC.1]
     exact h
   · exact (Tr.ae h).elim
 · rename_i hf
   unfold fU
   rw[hf]
   dsimp only
   split at h
   · rename_i s x _ t _ hx ht
     rw[hx,ht]
     dsimp only
     have h:=E0 (dflt _ h)
     rw[aV,aV] at h
     exact h
   · exact (Tr.ae h).elim
 · rename_i hf
   unfold fU
   rw[hf]
   dsimp only
   split at h
   · rename_i s _ t _ hx ht
     rw[hx,ht]
     dsimp only
     have h:=Dt (dflt _ h)
     rw[aV] at h
     exact h
   · exact (Tr.ae h).elim
 · rename_i hf
   unfold fU
   rw[hf]
   dsimp only
   rw[tB] at h
   split at h
   · rename_i k x r hx
     obtain ⟨v,h1,h⟩:=Tr.bind_some h
     rw[hx]
     dsimp only[n5]
     rw[n6 _ _ _ h1,← Tr.ab h];rfl
   · exact (Tr.ae h).elim
 · rename_i hf
   unfold fU
   rw[hf]
   dsimp only
   rw[tB] at h
   split at h
   · rename_i k x r hx
     obtain ⟨v,h1,h⟩:=Tr.bind_some h
     rw[hx]
     dsimp only[n5]
     rw[n6 _ _ _ h1,← Tr.ab h];rfl
   · exact (Tr.ae h).elim
 · rename_i hf
   unfold fU
   rw[hf]
   dsimp only
   split at h
   · rename_i m k _ t _ hx ht
     rw[hx,ht]
     dsimp only
     obtain ⟨δ,h1,h⟩:=Tr.bind_some h
     have h1:=Hi h1
     rw[aV,aV] at h1
     rw[h1,← Tr.ab h]
   · exact (Tr.ae h).elim
 · have h:=dflt _ h
   rw[c6] at h;exact h

def JQ (P:Program) (op:BinOp) (t:TypeId) (x y:HV):Tr HV :=
 cond (isLit x && isLit y) (match x.1,y.1 with
  | .int k a,.int k' b=>(vV (BR P op t (.int k a) (.int k' b))).bind fun v=>.ok (v,some 1)
  | a,b=>(EK P op t a b).bind fun v=>.ok (v,none))
 ((EK P op t x.1 y.1).bind fun v=>.ok (v,none))
theorem G3 {P:Program} {op:BinOp} {t:TypeId} {x y v:HV} (h:(JQ P op t x y).run=some v):j4 P op t x.1 y.1=some v.1:=by
 have gen:∀ a b,((EK P op t a b).bind fun v=>Tr.ok ((v,none):HV)).run=some v→j4 P op t a b=some v.1:=by
  intro a b h
  obtain ⟨u,h1,h⟩:=Tr.bind_some h
  rw[G4 h1,← Tr.ab h]
 unfold JQ at h
 cases hb:isLit x && isLit y with
 | false=>rw[hb,cond_false] at h;exact gen _ _ h
 | true =>
   rw[hb,cond_true] at h
   split at h
   · rename_i k a k' b hx hy
     obtain ⟨u,h1,h⟩:=Tr.bind_some h
     rw[c6,sj] at h1
     rw[hx,hy,h1,← Tr.ab h]
   · exact gen _ _ h

def pg (fr:aO) (l:List (Nat×Operand)):List (Nat×AV):=nY (fun p=>(p.1,(b7 fr p.2).1)) l
theorem nU (fr:aO):∀ l,pg fr l=dW (strip fr) l
 | []=>rfl
 | (i,x)::l=>by
   have e:pg fr ((i,x)::l)=(i,(b7 fr x).1)::pg fr l:=rfl
   rw[e,nU fr l,aV];rfl
def ME (op:Op):Oper→Program→aY→bH→aO→aa→Nat→Tr (HV×Delta) :=
 match op with
 | .move x=>fun _ _ _ _ fr _ _=>.ok (b7 fr x,.bf)
 | .assign x=>fun _ _ _ _ fr _ _=>.ok (b7 fr x,.bf)
 | .pick c a b=>fun _ _ _ _ fr _ _=>match b7 fr c with
   | (.bool t,none)=>.ite t (.ok (b7 fr a,.bf)) (.ok (b7 fr b,.bf))
   | (.bool t,some _)=>cond t (.ok (b7 fr a,.bf)) (.ok (b7 fr b,.bf))
   | _=>.bad
 | .alloc t=>fun _ P _ _ _ _ nx=>match (cJ P t).bind AV.row with
   | some z=>.ok ((.ptr 0 nx 0 0,none),.push (.row (jx z)))
   | none=>.bad
 | .box _ x=>fun _ _ _ _ fr _ nx=>match (b7 fr x).1.row with
   | some r=>.ok ((.ptr 0 nx 0 0,none),.push (.row (jx r)))
   | none=>.bad
 | .build t parts=>fun _ P _ _ fr _ _=>(vV (wx P true t (pg fr parts.toList))).bind fun v=>.ok ((v,none),.bf)
 | .buildSlice t len parts=>fun _ P _ _ fr _ nx=>(vV (jD P nx t len (pg fr parts.toList))).bind fun x=>.ok ((x.1,some 1),x.2)
 | .load t a=>fun _ P _ _ fr H _=>(loadT P H t (b7 fr a)).bind fun v=>.ok ((v,none),.bf)
 | .store t a x=>fun _ P _ _ fr H _=>(storeT P H t (b7 fr a) (b7 fr x).1).bind fun δ=>.ok ((.tup [],none),δ)
 | .nilCheck x=>fun _ _ _ _ fr _ _=>match (b7 fr x).1 with
   | .ptr d i v off=>.ok (b7 fr x,.bf)
   | .ptrT s r off=>.ok (b7 fr x,.bf)
   | _=>.bad
 | .binOp op t x y _=>fun _ P _ _ fr _ _=>(JQ P op t (b7 fr x) (b7 fr y)).bind fun v=>.ok (v,.bf)
 | .unOp op _ x=>fun _ _ _ _ fr _ _=>match op,b7 fr x with
   | .not,(.bool b,some _)=>.ok ((.bool (cond b false true),some 1),.bf)
   | op,x=>(QP op x.1).bind fun v=>.ok ((v,none),.bf)
 | .convert src dst x=>fun _ P _ _ fr _ _=>match P.underlying src with
   | some _=>match P.underlying dst with
     | some (.int k)=>match b7 fr x with
       | (.int _ n,none)=>.ok ((.int k (NR k n),none),.bf)
       | (.int _ n,some _)=>.ok ((.int k (wk k n),some 1),.bf)
       | _=>.bad
     | _=>.bad
   | none=>.bad
 | .makeSlice t l c=>fun _ P _ _ fr _ nx=>(nT P nx t (b7 fr l).1 (b7 fr c).1).bind hv
 | .slice t x lo hi mx=>fun _ P _ _ fr _ _=>cond (isLit (b7 fr x) && (Ks fr lo && (Ks fr hi && Ks fr mx)))
   ((vV (qD P t (b7 fr x).1 (lo.map fun y=>(b7 fr y).1) (hi.map fun y=>(b7 fr y).1) (mx.map fun y=>(b7 fr y).1))).bind fun v=>.ok ((v,some 1),.bf))
   ((Bz P t (b7 fr x).1 (lo.map fun y=>(b7 fr y).1) (hi.map fun y=>(b7 fr y).1) (mx.map fun y=>(b7 fr y).1)).bind fun v=>.ok ((v,none),.bf))
 | .fieldAddr t x f=>fun _ P _ _ fr _ _=>(nK P t (b7 fr x) f).bind fun v=>.ok (v,.bf)
 | .field t x f=>fun _ P _ _ fr _ _=>(vV (sF P t (b7 fr x).1 f)).bind fun v=>.ok ((v,none),.bf)
 | .indexAddr t x i=>fun _ P _ _ fr _ _=>match (b7 fr i).1 with
   | .int _ n=>(Kd P t (b7 fr x) (isLit (b7 fr i)) n).bind fun v=>.ok (v,.bf)
   | _=>.bad
 | .index t x i=>fun _ P _ _ fr _ _=>match (b7 fr i).1 with
   | .int _ n=>(OC P t (b7 fr x).1 (isLit (b7 fr i)) n).bind fun v=>.ok ((v,none),.bf)
   | _=>.bad
 | .extract t ix=>fun _ _ _ _ fr _ _=>match (b7 fr t).1 with
   | .tup l=>match yI l ix with
     | some v=>.ok ((v,none),.bf)
     | none=>.bad
   | _=>.bad
 | .call c=>fun _ P call callR fr H nx=>AS P call callR fr H nx c
 | .makeMap t r=>fun _ P _ _ _ _ nx=>match r with
   | none=>.ok ((.map 0 nx,none),.push (tp P t))
   | some _=>.bad
 | .mapUpdate t m k x=>fun _ P _ _ fr H _=>(II P H t (b7 fr m).1 (b7 fr k).1 (b7 fr x).1).bind fun δ=>.ok ((.tup [],none),δ)
 | .insert t m k x=>fun _ P _ _ fr H _=>(II P H t (b7 fr m).1 (b7 fr k).1 (b7 fr x).1).bind fun δ=>.ok ((.tup [],none),δ)
 | _=>fun o P call _ fr H nx=>(vV (evalOp P call (strip fr) H nx o)).bind hv
theorem Bo {o:Oper} {P:Program} {call:aY} {callR:bH} (hC:callR.Ok call) {fr:aO} {H:aa} {nx:Nat} {y:HV×Delta} (h:(ME o.op o P call callR fr H nx).run=some y):evalOp P call (strip fr) H nx o=some (y.1.1,y.2):=by
 have dflt:∀ (t:Tr (AV×Delta)),(t.bind hv).run=some y→t.run=some (y.1.1,y.2):=by
  intro t ht
  obtain ⟨x,h1,h2⟩:=Tr.bind_some ht
  obtain ⟨e1,e2⟩:=Ce h2
  rw[h1,e1,e2]
 have dkp:∀ (t:Tr AV),(t.bind fun v=>Tr.ok (((v,none),.bf):HV×Delta)).run=some y→t.run=some y.1.1∧y.2=.bf:=by
  intro t ht
  obtain ⟨x,h1,h2⟩:=Tr.bind_some ht
  rw[h1,← Tr.ab h2];exact ⟨rfl,rfl⟩
 have kpe:∀ {o:Option AV} {v:AV},o=some v→kp o=some (v,.bf):=by rintro o v rfl;rfl
 cases ho:o.op<;>rw[ho] at h<;>simp only[ME] at h
 case move x =>
  unfold evalOp;rw[ho];dsimp only
  rw[← Tr.ab h,← aV]
 case assign x =>
  unfold evalOp;rw[ho];dsimp only
  rw[← Tr.ab h,← aV]
 case pick c a b =>
  unfold evalOp;rw[ho];dsimp only
  have hc':=aV fr c
  split at h
  · rename_i t hc
    rw[hc] at hc'
    rw[← hc']
    dsimp only
    rcases Tr.iu h with ⟨rfl,h⟩ | ⟨rfl,h⟩<;>rw[← Tr.ab h,← aV,← aV]<;>rfl
  · rename_i t n hc
    rw[hc] at hc'
    rw[← hc']
    dsimp only
    cases t with
    | true=>rw[cond_true] at h;rw[← Tr.ab h,← aV,← aV];rfl
    | false=>rw[cond_false] at h;rw[← Tr.ab h,← aV,← aV];rfl
  · exact (Tr.ae h).elim
 case alloc t =>
  unfold evalOp;rw[ho];dsimp only
  split at h
  · rename_i z hz
    rw[hz,← Tr.ab h,Option.map_some,na hC.1]
  · exact (Tr.ae h).elim
 case box t x =>
  unfold evalOp;rw[ho];dsimp only
  rw[aV] at h
  split at h
  · rename_i z hz
    rw[hz,← Tr.ab h,Option.map_some,na hC.1]
  · exact (Tr.ae h).elim
 case build t parts =>
  unfold evalOp;rw[ho];dsimp only
  obtain ⟨h1,h2⟩:=dkp _ h
  rw[c6,nU] at h1
  rw[na hC.1,kpe h1,h2]
 case buildSlice t len parts =>
  unfold evalOp;rw[ho];dsimp only
  obtain ⟨x,h1,h⟩:=Tr.bind_some h
  rw[c6,nU] at h1
  rw[h1,← Tr.ab h]
 case load t a =>
  unfold evalOp;rw[ho];dsimp only
  obtain ⟨h1,h2⟩:=dkp _ h
  have h1:=zk h1
  rw[aV] at h1
  rw[kpe h1,h2]
 case store t a x =>
  unfold evalOp;rw[ho];dsimp only
  obtain ⟨δ,h1,h⟩:=Tr.bind_some h
  have h1:=Ek h1
  rw[aV,aV] at h1
  rw[h1,← Tr.ab h];rfl
 case nilCheck x =>
  unfold evalOp;rw[ho];dsimp only
  rw[← aV]
  split at h
  · rename_i d i v off hx
    rw[hx,← Tr.ab h,hx]
  · rename_i s r off hx
    rw[hx,← Tr.ab h,hx]
  · exact (Tr.ae h).elim
 case binOp op t x y' g =>
  unfold evalOp;rw[ho];dsimp only
  obtain ⟨v,h1,h⟩:=Tr.bind_some h
  have h1:=G3 h1
  rw[aV,aV] at h1
  rw[kpe h1,← Tr.ab h]
 case unOp op t x =>
  unfold evalOp;rw[ho];dsimp only
  split at h
  · rename_i b n hx
    have:bL (strip fr) x=.bool b:=by rw[← aV,hx]
    rw[this,← Tr.ab h]
    cases b<;>rfl
  · obtain ⟨h1,h2⟩:=dkp _ h
    have h1:=Ld h1
    rw[aV] at h1
    rw[kpe h1,h2]
 case convert s d x =>
  unfold evalOp;rw[ho];dsimp only
  split at h
  · rename_i u hu
    split at h
    · rename_i k hk
      have hx:=aV fr x
      split at h
      · rename_i n hn
        rw[hn] at hx
        rw[hu,hk,← hx]
        dsimp only
        rw[← Tr.ab h,GJ]
      · rename_i n _ hn
        rw[hn] at hx
        rw[hu,hk,← hx]
        dsimp only
        rw[← Tr.ab h,uk]
      · exact (Tr.ae h).elim
    · exact (Tr.ae h).elim
  · exact (Tr.ae h).elim
 case makeSlice t l c =>
  unfold evalOp;rw[ho];dsimp only
  have h1:=uP (dflt _ h)
  rw[aV,aV] at h1
  rw[na hC.1]
  exact h1
 case slice t x lo hi mx =>
  unfold evalOp;rw[ho];dsimp only
  have e:∀ z:Option Operand,(z.map fun y=>(b7 fr y).1)=z.map (bL (strip fr)):=by
   intro z;cases z<;>simp[aV]
  rcases l5 h with ⟨_,h⟩ | ⟨_,h⟩
  · obtain ⟨v,h1,h2⟩:=Tr.bind_some h
    rw[c6,aV,e,e,e] at h1
    rw[kpe h1,← Tr.ab h2]
  · obtain ⟨h1,h2⟩:=dkp _ h
    have h1:=Eg h1
    rw[aV] at h1
    rw[e,e,e] at h1
    rw[kpe h1,h2]
 case fieldAddr t x f =>
  unfold evalOp;rw[ho];dsimp only
  obtain ⟨v,h1,h⟩:=Tr.bind_some h
  have h1:=uD h1
  rw[aV] at h1
  rw[kpe h1,← Tr.ab h]
 case field t x f =>
  unfold evalOp;rw[ho];dsimp only
  obtain ⟨h1,h2⟩:=dkp _ h
  rw[c6,aV] at h1
  rw[kpe h1,h2]
 case index t x i =>
  unfold evalOp;rw[ho];dsimp only
  rw[aV] at h
  split at h
  · rename_i k n hn
    obtain ⟨v,h1,h⟩:=Tr.bind_some h
    have h1:=Kk h1
    rw[aV] at h1
    rw[hn]
    dsimp only
    rw[kpe h1,← Tr.ab h]
  · exact (Tr.ae h).elim
 case indexAddr t x i =>
  unfold evalOp;rw[ho];dsimp only
  rw[aV] at h
  split at h
  · rename_i k n hn
    obtain ⟨v,h1,h⟩:=Tr.bind_some h
    have h1:=Hu h1
    rw[aV] at h1
    rw[hn]
    dsimp only
    rw[kpe h1,← Tr.ab h]
  · exact (Tr.ae h).elim
 case extract t ix =>
  unfold evalOp;rw[ho];dsimp only
  rw[aV] at h
  split at h
  · rename_i l hl
    rw[hl]
    dsimp only
    rw[kU] at h
    split at h
    · rename_i v hv'
      rw[hv',← Tr.ab h]
    · exact (Tr.ae h).elim
  · exact (Tr.ae h).elim
 case call c =>
  unfold evalOp;rw[ho];dsimp only
  exact Dr hC h
 case makeMap t r =>
  unfold evalOp;rw[ho];try dsimp only
  cases r with
  | none =>
    dsimp only at h ⊢
    rw[na hC.1,← Tr.ab h]
  | some r=>exact (Tr.ae h).elim
 case mapUpdate t m k x =>
  unfold evalOp;rw[ho];dsimp only
  obtain ⟨δ,h1,h⟩:=Tr.bind_some h
  have h1:=Dd h1
  rw[aV,aV,aV] at h1
  rw[h1,← Tr.ab h];rfl
 case insert t m k x =>
  unfold evalOp;rw[ho];dsimp only
  obtain ⟨δ,h1,h⟩:=Tr.bind_some h
  have h1:=Dd h1
  rw[aV,aV,aV] at h1
  rw[h1,← Tr.ab h];rfl
 all_goals
  have h1:=dflt _ h
  rw[c6] at h1
  exact h1

end
end Go.Eng
