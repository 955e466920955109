/- The engine as a tree: the other builtins; operations. -/
import Derived.Test.YtoomemfhcbajoaaV8EngTcx2
set_option linter.unusedVariables false
set_option linter.unusedSimpArgs false
namespace Go.Eng
noncomputable section

abbrev bB:=L2→List HV→aa→Tr (HV×aa)
def qP (l:List HV):List AV:=nv (fun x=>x.1) l
def bB.Ok (c:bB) (call:aJ):Prop:=(∃ x,call .mode [] []=some x)∧∀ tgt args H x,(c tgt args H).run=some x→call tgt (qP args) H=some (x.1.1,x.2)
theorem mH {α:Type} {call:aJ} (h:∃ x,call .mode [] []=some x) (a b:α):ly call a b=a:=by
 obtain ⟨x,h⟩:=h
 unfold ly
 rw[h]

def GF (P:Program) (H:aa) (t:TypeId) (x:HV):Tr HV :=
 match P.underlying t with
 | some (.slice _)=>match x.1 with
   | .nils=>.ok (.int .i64 (Int.ofNat 0),some 1)
   | .slc _ _ _ _ _ len _=>.ok (.int .i64 (Int.ofNat len),x.2)
   | .slcT _ _ _ len _=>.ok (.int .i64 (Int.ofNat len),x.2)
   | _=>.bad
 | some (.array n _)=>.ok (.int .i64 (Int.ofNat n),some 1)
 | _=>(uV ((tG P H t x.1).map fun n=>AV.int .i64 n)).bind fun v=>.ok (v,none)
theorem GG {P:Program} {H:aa} {t:TypeId} {x v:HV} (h:(GF P H t x).run=some v):(tG P H t x.1).map (AV.int .i64)=some v.1:=by
 unfold GF at h
 split at h
 · rename_i e hu
   unfold tG
   rw[hu]
   split at h
   · rename_i hx;rw[hx,← Tr.ab h];rfl
   · rename_i hx;rw[hx,← Tr.ab h];rfl
   · rename_i hx;rw[hx,← Tr.ab h];rfl
   · exact (Tr.ae h).elim
 · rename_i hu
   unfold tG
   rw[hu,← Tr.ab h];rfl
 · obtain ⟨u,h1,h⟩:=Tr.bind_some h
   rw[cH] at h1
   rw[h1,← Tr.ab h]
def D4    (P:Program) (H:aa) (t:TypeId) (s x:AV):Tr (AV×Delta) :=
 match P.underlying t with
 | some (.slice e)=>match ba P e with
   | some z=>match nm x with
     | some n=>match s with
       | .slc d i v off sz m cap=>(rG H z (pU n m) x).bind fun new=>cond (fv H d) .bad ((wI H d i v (some 0)).bind fun r=>cond (Nat.beq sz z) (match r with
          | .M l=>(Fi l off none (lf d new)).bind fun r'=>.ok (.int .i64 (Int.ofNat (pU n m)),.set d i (v,.row r'))
          | _=>.bad) .bad)
       | _=>.bad
     | none=>.bad
   | none=>.bad
 | _=>.bad
theorem D5 {P:Program} {H:aa} {t:TypeId} {s x:AV} {y:AV×Delta} (h:(D4 P H t s x).run=some y):copyV P H t s x=some y:=by
 unfold D4 at h
 unfold copyV
 split at h
 · rename_i e hu
   split at h
   · rename_i z hs
     split at h
     · rename_i n hn
       split at h
       · rename_i d i v off sz m cap _ _
         obtain ⟨new,h1,h⟩:=Tr.bind_some h
         rw[dQ] at h
         obtain ⟨hl,h⟩:=Tr.jL h
         obtain ⟨r,h2,h⟩:=Tr.bind_some h
         obtain ⟨hz,h⟩:=Tr.aF h
         have hz:=Nat.eq_of_beq_eq_true hz
         have hcv:=pn h1
         rw[oP] at hcv
         have hcl:=rH hcv
         rw[hu]
         dsimp only
         rw[hs,hn]
         dsimp only[nm]
         rw[hcv]
         dsimp only
         rw[hl,if_neg (by simp),kS h2]
         dsimp only
         split at h
         · rename_i l _
           obtain ⟨r',h3,h⟩:=Tr.bind_some h
           obtain ⟨k1,k2⟩:=wC h3
           rw[fk,hcl] at k1
           rw[if_pos ⟨hz,by rw[hz];exact k1⟩,k2,← Tr.ab h,oP]
           rfl
         · exact (Tr.ae h).elim
       · exact (Tr.ae h).elim
     · exact (Tr.ae h).elim
   · exact (Tr.ae h).elim
 · exact (Tr.ae h).elim
def wV (z:Row) (n:Nat):Row :=
 match z with
 | .I k l=>cond (w7 l) (.M [.arr k (fun _=>0) (iQ n (iu l))]) (dv z n)
 | z=>dv z n
theorem vq (z:Row) (n:Nat):wV z n=dv z n:=by
 cases z with
 | I k l =>
   simp only[wV]
   cases h:w7 l with
   | true=>simp only[cond_true,dv,h,if_true,b5,c5]
   | false=>rfl
 | _=>rfl
def zN (P:Program) (H:aa) (t:TypeId) (s:AV):Tr (AV×Delta) :=
 match P.underlying t with
 | some (.slice e)=>match s with
   | .slc d i v off sz len _=>cond (fv H d) .bad (match (cg P e).bind AV.row with
     | some z=>match ba P e with
       | some n=>cond (Nat.beq n sz) (cond (Nat.beq (ie z) sz) (.req (dg 0 len) ((wI H d i v (some 0)).bind fun r=>match r with
          | .M l=>(Fi l off none (wV z len)).bind fun r'=>.ok (.tup [],.set d i (v,.row r'))
          | _=>.bad)) .bad) .bad
       | none=>.bad
     | none=>.bad)
   | _=>.bad
 | _=>.bad
theorem AI (z:Row) (n:Nat):(dv z n).len=n*z.len:=by
 have fn:∀ l:List AV,(Ej l n).len=n*l.length:=by
  intro l
  unfold Ej
  split
  · split<;>simp[Row.len,dA]
  · simp[Row.len,dA]
 cases z with
 | I k l=>simp only[dv];split<;>simp[Row.len,au,aE,dA]
 | _=>simp only[dv,fn,Row.aZ]
theorem CE {P:Program} {H:aa} {t:TypeId} {s:AV} {y:AV×Delta} (h:(zN P H t s).run=some y):rL P H t s=some y:=by
 unfold zN at h
 unfold rL
 split at h
 · rename_i e hu
   split at h
   · rename_i d i v off sz len cap
     rw[dQ] at h
     obtain ⟨hl,h⟩:=Tr.jL h
     split at h
     · rename_i z hz
       split at h
       · rename_i n hs
         obtain ⟨hn,h⟩:=Tr.aF h
         obtain ⟨hzl,h⟩:=Tr.aF h
         have hn:=Nat.eq_of_beq_eq_true hn
         rw[fj] at hzl
         have hzl:=Nat.eq_of_beq_eq_true hzl
         obtain ⟨h0,h⟩:=Tr.aD h
         rw[gd,decide_eq_true_eq] at h0
         obtain ⟨r,h2,h⟩:=Tr.bind_some h
         rw[hu]
         dsimp only
         rw[hl,if_neg (by simp),hz,kS h2]
         dsimp only
         split at h
         · rename_i l _
           obtain ⟨r',h3,h⟩:=Tr.bind_some h
           obtain ⟨k1,k2⟩:=wC h3
           rw[vq] at k1 k2
           rw[AI,hzl] at k1
           rw[if_pos ⟨hzl,by rw[hs,hn],k1⟩,← Tr.ab h]
           rw[if_neg (by omega)]
           simp only[xT,if_true]
           rw[← k2]
         · exact (Tr.ae h).elim
       · exact (Tr.ae h).elim
     · exact (Tr.ae h).elim
   · exact (Tr.ae h).elim
 · exact (Tr.ae h).elim
def nq (P:Program) (nx:Nat) (t:TypeId) (l c:AV):Tr (AV×Delta) :=
 match P.underlying t with
 | some (.slice e)=>match l with
   | .int _ l=>match c with
     | .int _ c=>match P.info? e with
       | some inf=>match (cg P e).bind AV.row with
         | some z=>.req (EO l c inf.bytes) (cond (Nat.beq (ie z) inf.size) (.ok (.slc 0 nx 0 0 inf.size (fa l) (some (fa c)),.push (.row (wV z (fa c))))) .bad)
         | none=>.bad
       | none=>.bad
     | _=>.bad
   | _=>.bad
 | _=>.bad
theorem tJ {P:Program} {nx:Nat} {t:TypeId} {l c:AV} {y:AV×Delta} (h:(nq P nx t l c).run=some y):iO P true nx t l c=some y:=by
 unfold nq at h
 unfold iO
 split at h
 · rename_i e hu
   split at h
   · split at h
     · split at h
       · rename_i inf hi
         split at h
         · rename_i z hz
           obtain ⟨hc,h⟩:=Tr.aD h
           obtain ⟨hl,h⟩:=Tr.aF h
           rw[wa,decide_eq_true_eq] at hc
           rw[fj] at hl
           have hl:=Nat.eq_of_beq_eq_true hl
           rw[hu]
           dsimp only
           rw[hi,hz]
           dsimp only
           rw[if_pos ⟨hc.1,hc.2.1,hc.2.2.1,hc.2.2.2,hl⟩,← Tr.ab h,vq,qa,qa]
           rfl
         · exact (Tr.ae h).elim
       · exact (Tr.ae h).elim
     · exact (Tr.ae h).elim
   · exact (Tr.ae h).elim
 · exact (Tr.ae h).elim

def hv (x:AV×Delta):Tr (HV×Delta):=.ok ((x.1,none),x.2)
theorem Bn {x:AV×Delta} {y:HV×Delta} (h:(hv x).run=some y):y.1.1=x.1∧y.2=x.2:=by
 have:=Tr.ab h
 rw[← this]
 exact ⟨rfl,rfl⟩
def su (l:List AV):List HV:=nv (fun x=>(x,none)) l
theorem m7:∀ l:List AV,qP (su l)=l
 | []=>rfl
 | x::l=>by
   have e:qP (su (x::l))=x::qP (su l):=rfl
   rw[e,m7 l]
theorem vv:∀ a b:List HV,qP (mK a b)=qP a++qP b
 | [],b=>rfl
 | x::a,b=>by
   have e:qP (mK (x::a) b)=x.1::qP (mK a b):=rfl
   rw[e,vv a b];rfl
def yz (fr:aC) (l:List Operand):List HV:=nv (fun x=>bQ fr x) l
theorem sC (fr:aC):∀ l,qP (yz fr l)=jA (strip fr) l
 | []=>rfl
 | x::l=>by
   have e:qP (yz fr (x::l))=(bQ fr x).1::qP (yz fr l):=rfl
   rw[e,sC fr l,aH];rfl
def Hu   (P:Program) (H:aa) (t:TypeId) (m key x:AV):Tr Delta :=
 match P.underlying t with
 | some (.map kt _)=>match m with
   | .map d i=>cond (ar H d) .bad (cond (jy P kt key) (match ao H d i with
     | (0,.fmap q h g c)=>match tF q key with
       | some n=>match yw x with
         | some y=>.ok (.set d i (0,.fmap q (l6 h n true) (l8 g n y) (rM (h n) c)))
         | none=>.bad
       | none=>.bad
     | _=>.bad) .bad)
   | _=>.bad
 | _=>.bad
def IQ (P:Program) (H:aa) (t:TypeId) (m key:AV):Tr Delta :=
 match P.underlying t with
 | some (.map kt _)=>match m with
   | .map d i=>cond (ar H d) .bad (cond (jy P kt key) (match ao H d i with
     | (0,.fmap q h g c)=>match tF q key with
       | some n=>.ok (.set d i (0,.fmap q (l6 h n false) (l8 g n 0) (uj (h n) c)))
       | none=>.bad
     | _=>.bad) .bad)
   | _=>.bad
 | _=>.bad
def Ji (fr:aC):Option Operand→Bool
 | none=>true
 | some y=>isLit (bQ fr y)
theorem lC {α:Type} {b:Bool} {s t:Tr α} {x:α} (h:(cond b s t).run=some x):b=true∧s.run=some x∨b=false∧t.run=some x:=by
 cases b
 · exact .inr ⟨rfl,h⟩
 · exact .inl ⟨rfl,h⟩
theorem Cp {P:Program} {H:aa} {t:TypeId} {m key x:AV} {δ:Delta} (h:(Hu P H t m key x).run=some δ):jt P H t m key x=some δ:=by
 unfold Hu at h
 unfold jt
 split at h
 · rename_i kt et hu
   rw[hu]
   split at h
   · rename_i d i
     dsimp only
     rcases lC h with ⟨_,h⟩ | ⟨h1,h⟩
     · exact (Tr.ae h).elim
     · rcases lC h with ⟨h2,h⟩ | ⟨_,h⟩
       · rw[if_neg (by rw[h1];simp),if_pos h2]
         split at h
         · rename_i q f g c hg
           rw[hg]
           try dsimp only
           split at h
           · rename_i n hn
             split at h
             · rename_i y hy
               simp only[hn,hy,← Tr.ab h,yV,yZ,xi]
             · exact (Tr.ae h).elim
           · exact (Tr.ae h).elim
         · exact (Tr.ae h).elim
       · exact (Tr.ae h).elim
   · exact (Tr.ae h).elim
 · exact (Tr.ae h).elim
theorem Gg {P:Program} {H:aa} {t:TypeId} {m key:AV} {δ:Delta} (h:(IQ P H t m key).run=some δ):oa P H t m key=some (.tup [],δ):=by
 unfold IQ at h
 unfold oa
 split at h
 · rename_i kt et hu
   rw[hu]
   split at h
   · rename_i d i
     dsimp only
     rcases lC h with ⟨_,h⟩ | ⟨h1,h⟩
     · exact (Tr.ae h).elim
     · rcases lC h with ⟨h2,h⟩ | ⟨_,h⟩
       · rw[if_neg (by rw[h1];simp),if_pos h2]
         split at h
         · rename_i q f g c hg
           rw[hg]
           try dsimp only
           split at h
           · rename_i n hn
             simp only[hn,← Tr.ab h,yV,yZ,xj]
           · exact (Tr.ae h).elim
         · exact (Tr.ae h).elim
       · exact (Tr.ae h).elim
   · exact (Tr.ae h).elim
 · exact (Tr.ae h).elim
def zL (P:Program) (call:aJ) (callR:bB) (fr:aC) (H:aa) (nx:Nat) (c:Call):Tr (HV×Delta) :=
 match c.callee with
 | .value f=>match (bQ fr f).1 with
   | .fn (.func g) a b=>(callR (.fn g) (mK (su a) (mK (yz fr c.args.toList) (su b))) H).bind fun x=>.ok (x.1,.heap x.2)
   | .yld d i=>(callR (.round d i) (yz fr c.args.toList) H).bind fun x=>.ok (x.1,.heap x.2)
   | _=>.bad
 | .builtin .len=>match c.args.toList,c.argTypes.toList with
   | x::_,t::_=>(GF P H t (bQ fr x)).bind fun v=>.ok (v,.aS)
   | _,_=>.bad
 | .builtin .append=>match c.args.toList,c.argTypes.toList with
   | s::x::_,t::u::_=>(nY P H nx t u (bQ fr s).1 (bQ fr x).1).bind hv
   | _,_=>.bad
 | .builtin .copy=>match c.args.toList,c.argTypes.toList with
   | s::x::_,t::_=>(D4 P H t (bQ fr s).1 (bQ fr x).1).bind hv
   | _,_=>.bad
 | .builtin .clear=>match c.args.toList,c.argTypes.toList with
   | s::_,t::_=>(zN P H t (bQ fr s).1).bind hv
   | _,_=>.bad
 | .builtin .min=>match yA fr c.args.toList with
   | .int k x::r=>(oR false k x r).bind fun v=>.ok ((v,none),.aS)
   | _=>.bad
 | .builtin .max=>match yA fr c.args.toList with
   | .int k x::r=>(oR true k x r).bind fun v=>.ok ((v,none),.aS)
   | _=>.bad
 | .builtin .delete=>match c.args.toList,c.argTypes.toList with
   | m::k::_,t::_=>(IQ P H t (bQ fr m).1 (bQ fr k).1).bind fun δ=>.ok ((.tup [],none),δ)
   | _,_=>.bad
 | _=>(uV (fC P call (strip fr) H nx c)).bind hv
theorem CB {P:Program} {call:aJ} {callR:bB} (hC:callR.Ok call) {fr:aC} {H:aa} {nx:Nat} {c:Call} {y:HV×Delta} (h:(zL P call callR fr H nx c).run=some y):fC P call (strip fr) H nx c=some (y.1.1,y.2):=by
 have dflt:∀ (t:Tr (AV×Delta)),(t.bind hv).run=some y→t.run=some (y.1.1,y.2):=by
  intro t ht
  obtain ⟨x,h1,h2⟩:=Tr.bind_some ht
  obtain ⟨e1,e2⟩:=Bn h2
  rw[h1,e1,e2]
 unfold zL at h
 split at h
 · rename_i f hf
   unfold fC
   rw[hf]
   dsimp only
   rw[aH] at h
   split at h
   · rename_i g a b ho
     obtain ⟨x,h1,h⟩:=Tr.bind_some h
     rw[ho]
     dsimp only
     have:=hC.2 _ _ _ _ h1
     rw[vv,vv,m7,m7,sC] at this
     rw[this,← Tr.ab h];rfl
   · rename_i d i ho
     obtain ⟨x,h1,h⟩:=Tr.bind_some h
     rw[ho]
     dsimp only
     have:=hC.2 _ _ _ _ h1
     rw[sC] at this
     rw[this,← Tr.ab h];rfl
   · exact (Tr.ae h).elim
 · rename_i hf
   unfold fC
   rw[hf]
   dsimp only
   split at h
   · rename_i x _ t _ hx ht
     obtain ⟨v,h1,h⟩:=Tr.bind_some h
     rw[hx,ht]
     dsimp only
     have:=GG h1
     rw[aH] at this
     obtain ⟨n,k1,k2⟩:=Option.map_eq_some_iff.1 this
     rw[k1,← Tr.ab h,← k2];rfl
   · exact (Tr.ae h).elim
 · rename_i hf
   unfold fC
   rw[hf]
   dsimp only
   split at h
   · rename_i s x _ t u _ hx ht
     rw[hx,ht]
     dsimp only
     have h:=zG (dflt _ h)
     rw[aH,aH] at h
     rw[mH hC.1]
     exact h
   · exact (Tr.ae h).elim
 · rename_i hf
   unfold fC
   rw[hf]
   dsimp only
   split at h
   · rename_i s x _ t _ hx ht
     rw[hx,ht]
     dsimp only
     have h:=D5 (dflt _ h)
     rw[aH,aH] at h
     exact h
   · exact (Tr.ae h).elim
 · rename_i hf
   unfold fC
   rw[hf]
   dsimp only
   split at h
   · rename_i s _ t _ hx ht
     rw[hx,ht]
     dsimp only
     have h:=CE (dflt _ h)
     rw[aH] at h
     exact h
   · exact (Tr.ae h).elim
 · rename_i hf
   unfold fC
   rw[hf]
   dsimp only
   rw[sD] at h
   split at h
   · rename_i k x r hx
     obtain ⟨v,h1,h⟩:=Tr.bind_some h
     rw[hx]
     dsimp only[ny]
     rw[nz _ _ _ h1,← Tr.ab h];rfl
   · exact (Tr.ae h).elim
 · rename_i hf
   unfold fC
   rw[hf]
   dsimp only
   rw[sD] at h
   split at h
   · rename_i k x r hx
     obtain ⟨v,h1,h⟩:=Tr.bind_some h
     rw[hx]
     dsimp only[ny]
     rw[nz _ _ _ h1,← Tr.ab h];rfl
   · exact (Tr.ae h).elim
 · rename_i hf
   unfold fC
   rw[hf]
   dsimp only
   split at h
   · rename_i m k _ t _ hx ht
     rw[hx,ht]
     dsimp only
     obtain ⟨δ,h1,h⟩:=Tr.bind_some h
     have h1:=Gg h1
     rw[aH,aH] at h1
     rw[h1,← Tr.ab h]
   · exact (Tr.ae h).elim
 · have h:=dflt _ h
   rw[cH] at h;exact h

def Iz (P:Program) (op:BinOp) (t:TypeId) (x y:HV):Tr HV :=
 cond (isLit x && isLit y) (match x.1,y.1 with
  | .int k a,.int k' b=>(uV (AT P op t (.int k a) (.int k' b))).bind fun v=>.ok (v,some 1)
  | a,b=>(DQ P op t a b).bind fun v=>.ok (v,none))
 ((DQ P op t x.1 y.1).bind fun v=>.ok (v,none))
theorem F4 {P:Program} {op:BinOp} {t:TypeId} {x y v:HV} (h:(Iz P op t x y).run=some v):jJ P op t x.1 y.1=some v.1:=by
 have gen:∀ a b,((DQ P op t a b).bind fun v=>Tr.ok ((v,none):HV)).run=some v→jJ P op t a b=some v.1:=by
  intro a b h
  obtain ⟨u,h1,h⟩:=Tr.bind_some h
  rw[F5 h1,← Tr.ab h]
 unfold Iz at h
 cases hb:isLit x && isLit y with
 | false=>rw[hb,cond_false] at h;exact gen _ _ h
 | true =>
   rw[hb,cond_true] at h
   split at h
   · rename_i k a k' b hx hy
     obtain ⟨u,h1,h⟩:=Tr.bind_some h
     rw[cH,rD] at h1
     rw[hx,hy,h1,← Tr.ab h]
   · exact gen _ _ h

def oN (fr:aC) (l:List (Nat×Operand)):List (Nat×AV):=nv (fun p=>(p.1,(bQ fr p.2).1)) l
theorem nr (fr:aC):∀ l,oN fr l=dF (strip fr) l
 | []=>rfl
 | (i,x)::l=>by
   have e:oN fr ((i,x)::l)=(i,(bQ fr x).1)::oN fr l:=rfl
   rw[e,nr fr l,aH];rfl
def Lb (op:Op):Oper→Program→aJ→bB→aC→aa→Nat→Tr (HV×Delta) :=
 match op with
 | .move x=>fun _ _ _ _ fr _ _=>.ok (bQ fr x,.aS)
 | .assign x=>fun _ _ _ _ fr _ _=>.ok (bQ fr x,.aS)
 | .pick c a b=>fun _ _ _ _ fr _ _=>match bQ fr c with
   | (.bool t,none)=>.ite t (.ok (bQ fr a,.aS)) (.ok (bQ fr b,.aS))
   | (.bool t,some _)=>cond t (.ok (bQ fr a,.aS)) (.ok (bQ fr b,.aS))
   | _=>.bad
 | .alloc t=>fun _ P _ _ _ _ nx=>match (cg P t).bind AV.row with
   | some z=>.ok ((.ptr 0 nx 0 0,none),.push (.row (iZ z)))
   | none=>.bad
 | .box _ x=>fun _ _ _ _ fr _ nx=>match (bQ fr x).1.row with
   | some r=>.ok ((.ptr 0 nx 0 0,none),.push (.row (iZ r)))
   | none=>.bad
 | .build t parts=>fun _ P _ _ fr _ _=>(uV (vz P true t (oN fr parts.toList))).bind fun v=>.ok ((v,none),.aS)
 | .buildSlice t len parts=>fun _ P _ _ fr _ nx=>(uV (jg P nx t len (oN fr parts.toList))).bind fun x=>.ok ((x.1,some 1),x.2)
 | .load t a=>fun _ P _ _ fr H _=>(loadT P H t (bQ fr a)).bind fun v=>.ok ((v,none),.aS)
 | .store t a x=>fun _ P _ _ fr H _=>(storeT P H t (bQ fr a) (bQ fr x).1).bind fun δ=>.ok ((.tup [],none),δ)
 | .nilCheck x=>fun _ _ _ _ fr _ _=>match (bQ fr x).1 with
   | .ptr d i v off=>.ok (bQ fr x,.aS)
   | .ptrT s r off=>.ok (bQ fr x,.aS)
   | _=>.bad
 | .binOp op t x y _=>fun _ P _ _ fr _ _=>(Iz P op t (bQ fr x) (bQ fr y)).bind fun v=>.ok (v,.aS)
 | .unOp op _ x=>fun _ _ _ _ fr _ _=>match op,bQ fr x with
   | .not,(.bool b,some _)=>.ok ((.bool (cond b false true),some 1),.aS)
   | op,x=>(Ot op x.1).bind fun v=>.ok ((v,none),.aS)
 | .convert src dst x=>fun _ P _ _ fr _ _=>match P.underlying src with
   | some _=>match P.underlying dst with
     | some (.int k)=>match bQ fr x with
       | (.int _ n,none)=>.ok ((.int k (FU k n),none),.aS)
       | (.int _ n,some _)=>.ok ((.int k (vp k n),some 1),.aS)
       | _=>.bad
     | _=>.bad
   | none=>.bad
 | .makeSlice t l c=>fun _ P _ _ fr _ nx=>(nq P nx t (bQ fr l).1 (bQ fr c).1).bind hv
 | .slice t x lo hi mx=>fun _ P _ _ fr _ _=>cond (isLit (bQ fr x) && (Ji fr lo && (Ji fr hi && Ji fr mx)))
   ((uV (p9 P t (bQ fr x).1 (lo.map fun y=>(bQ fr y).1) (hi.map fun y=>(bQ fr y).1) (mx.map fun y=>(bQ fr y).1))).bind fun v=>.ok ((v,some 1),.aS))
   ((Av P t (bQ fr x).1 (lo.map fun y=>(bQ fr y).1) (hi.map fun y=>(bQ fr y).1) (mx.map fun y=>(bQ fr y).1)).bind fun v=>.ok ((v,none),.aS))
 | .fieldAddr t x f=>fun _ P _ _ fr _ _=>(nf P t (bQ fr x) f).bind fun v=>.ok (v,.aS)
 | .field t x f=>fun _ P _ _ fr _ _=>(uV (rY P t (bQ fr x).1 f)).bind fun v=>.ok ((v,none),.aS)
 | .indexAddr t x i=>fun _ P _ _ fr _ _=>match (bQ fr i).1 with
   | .int _ n=>(I4 P t (bQ fr x) (isLit (bQ fr i)) n).bind fun v=>.ok (v,.aS)
   | _=>.bad
 | .index t x i=>fun _ P _ _ fr _ _=>match (bQ fr i).1 with
   | .int _ n=>(MG P t (bQ fr x).1 (isLit (bQ fr i)) n).bind fun v=>.ok ((v,none),.aS)
   | _=>.bad
 | .extract t ix=>fun _ _ _ _ fr _ _=>match (bQ fr t).1 with
   | .tup l=>match xE l ix with
     | some v=>.ok ((v,none),.aS)
     | none=>.bad
   | _=>.bad
 | .call c=>fun _ P call callR fr H nx=>zL P call callR fr H nx c
 | .makeMap t r=>fun _ P _ _ _ _ nx=>match r with
   | none=>.ok ((.map 0 nx,none),.push (ss P t))
   | some _=>.bad
 | .mapUpdate t m k x=>fun _ P _ _ fr H _=>(Hu P H t (bQ fr m).1 (bQ fr k).1 (bQ fr x).1).bind fun δ=>.ok ((.tup [],none),δ)
 | .insert t m k x=>fun _ P _ _ fr H _=>(Hu P H t (bQ fr m).1 (bQ fr k).1 (bQ fr x).1).bind fun δ=>.ok ((.tup [],none),δ)
 | _=>fun o P call _ fr H nx=>(uV (evalOp P call (strip fr) H nx o)).bind hv
theorem Ah {o:Oper} {P:Program} {call:aJ} {callR:bB} (hC:callR.Ok call) {fr:aC} {H:aa} {nx:Nat} {y:HV×Delta} (h:(Lb o.op o P call callR fr H nx).run=some y):evalOp P call (strip fr) H nx o=some (y.1.1,y.2):=by
 have dflt:∀ (t:Tr (AV×Delta)),(t.bind hv).run=some y→t.run=some (y.1.1,y.2):=by
  intro t ht
  obtain ⟨x,h1,h2⟩:=Tr.bind_some ht
  obtain ⟨e1,e2⟩:=Bn h2
  rw[h1,e1,e2]
 have dkp:∀ (t:Tr AV),(t.bind fun v=>Tr.ok (((v,none),.aS):HV×Delta)).run=some y→t.run=some y.1.1∧y.2=.aS:=by
  intro t ht
  obtain ⟨x,h1,h2⟩:=Tr.bind_some ht
  rw[h1,← Tr.ab h2];exact ⟨rfl,rfl⟩
 have kpe:∀ {o:Option AV} {v:AV},o=some v→kp o=some (v,.aS):=by rintro o v rfl;rfl
 cases ho:o.op<;>rw[ho] at h<;>simp only[Lb] at h
 case move x =>
  unfold evalOp;rw[ho];dsimp only
  rw[← Tr.ab h,← aH]
 case assign x =>
  unfold evalOp;rw[ho];dsimp only
  rw[← Tr.ab h,← aH]
 case pick c a b =>
  unfold evalOp;rw[ho];dsimp only
  have hc':=aH fr c
  split at h
  · rename_i t hc
    rw[hc] at hc'
    rw[← hc']
    dsimp only
    rcases Tr.ff h with ⟨rfl,h⟩ | ⟨rfl,h⟩<;>rw[← Tr.ab h,← aH,← aH]<;>rfl
  · rename_i t n hc
    rw[hc] at hc'
    rw[← hc']
    dsimp only
    cases t with
    | true=>rw[cond_true] at h;rw[← Tr.ab h,← aH,← aH];rfl
    | false=>rw[cond_false] at h;rw[← Tr.ab h,← aH,← aH];rfl
  · exact (Tr.ae h).elim
 case alloc t =>
  unfold evalOp;rw[ho];dsimp only
  split at h
  · rename_i z hz
    rw[hz,← Tr.ab h,Option.map_some,mH hC.1]
  · exact (Tr.ae h).elim
 case box t x =>
  unfold evalOp;rw[ho];dsimp only
  rw[aH] at h
  split at h
  · rename_i z hz
    rw[hz,← Tr.ab h,Option.map_some,mH hC.1]
  · exact (Tr.ae h).elim
 case build t parts =>
  unfold evalOp;rw[ho];dsimp only
  obtain ⟨h1,h2⟩:=dkp _ h
  rw[cH,nr] at h1
  rw[mH hC.1,kpe h1,h2]
 case buildSlice t len parts =>
  unfold evalOp;rw[ho];dsimp only
  obtain ⟨x,h1,h⟩:=Tr.bind_some h
  rw[cH,nr] at h1
  rw[h1,← Tr.ab h]
 case load t a =>
  unfold evalOp;rw[ho];dsimp only
  obtain ⟨h1,h2⟩:=dkp _ h
  have h1:=yd h1
  rw[aH] at h1
  rw[kpe h1,h2]
 case store t a x =>
  unfold evalOp;rw[ho];dsimp only
  obtain ⟨δ,h1,h⟩:=Tr.bind_some h
  have h1:=Dv h1
  rw[aH,aH] at h1
  rw[h1,← Tr.ab h];rfl
 case nilCheck x =>
  unfold evalOp;rw[ho];dsimp only
  rw[← aH]
  split at h
  · rename_i d i v off hx
    rw[hx,← Tr.ab h,hx]
  · rename_i s r off hx
    rw[hx,← Tr.ab h,hx]
  · exact (Tr.ae h).elim
 case binOp op t x y' g =>
  unfold evalOp;rw[ho];dsimp only
  obtain ⟨v,h1,h⟩:=Tr.bind_some h
  have h1:=F4 h1
  rw[aH,aH] at h1
  rw[kpe h1,← Tr.ab h]
 case unOp op t x =>
  unfold evalOp;rw[ho];dsimp only
  split at h
  · rename_i b n hx
    have:bE (strip fr) x=.bool b:=by rw[← aH,hx]
    rw[this,← Tr.ab h]
    cases b<;>rfl
  · obtain ⟨h1,h2⟩:=dkp _ h
    have h1:=JW h1
    rw[aH] at h1
    rw[kpe h1,h2]
 case convert s d x =>
  unfold evalOp;rw[ho];dsimp only
  split at h
  · rename_i u hu
    split at h
    · rename_i k hk
      have hx:=aH fr x
      split at h
      · rename_i n hn
        rw[hn] at hx
        rw[hu,hk,← hx]
        dsimp only
        rw[← Tr.ab h,AH]
      · rename_i n _ hn
        rw[hn] at hx
        rw[hu,hk,← hx]
        dsimp only
        rw[← Tr.ab h,tc]
      · exact (Tr.ae h).elim
    · exact (Tr.ae h).elim
  · exact (Tr.ae h).elim
 case makeSlice t l c =>
  unfold evalOp;rw[ho];dsimp only
  have h1:=tJ (dflt _ h)
  rw[aH,aH] at h1
  rw[mH hC.1]
  exact h1
 case slice t x lo hi mx =>
  unfold evalOp;rw[ho];dsimp only
  have e:∀ z:Option Operand,(z.map fun y=>(bQ fr y).1)=z.map (bE (strip fr)):=by
   intro z;cases z<;>simp[aH]
  rcases lC h with ⟨_,h⟩ | ⟨_,h⟩
  · obtain ⟨v,h1,h2⟩:=Tr.bind_some h
    rw[cH,aH,e,e,e] at h1
    rw[kpe h1,← Tr.ab h2]
  · obtain ⟨h1,h2⟩:=dkp _ h
    have h1:=Dr h1
    rw[aH] at h1
    rw[e,e,e] at h1
    rw[kpe h1,h2]
 case fieldAddr t x f =>
  unfold evalOp;rw[ho];dsimp only
  obtain ⟨v,h1,h⟩:=Tr.bind_some h
  have h1:=tz h1
  rw[aH] at h1
  rw[kpe h1,← Tr.ab h]
 case field t x f =>
  unfold evalOp;rw[ho];dsimp only
  obtain ⟨h1,h2⟩:=dkp _ h
  rw[cH,aH] at h1
  rw[kpe h1,h2]
 case index t x i =>
  unfold evalOp;rw[ho];dsimp only
  rw[aH] at h
  split at h
  · rename_i k n hn
    obtain ⟨v,h1,h⟩:=Tr.bind_some h
    have h1:=Ja h1
    rw[aH] at h1
    rw[hn]
    dsimp only
    rw[kpe h1,← Tr.ab h]
  · exact (Tr.ae h).elim
 case indexAddr t x i =>
  unfold evalOp;rw[ho];dsimp only
  rw[aH] at h
  split at h
  · rename_i k n hn
    obtain ⟨v,h1,h⟩:=Tr.bind_some h
    have h1:=Gu h1
    rw[aH] at h1
    rw[hn]
    dsimp only
    rw[kpe h1,← Tr.ab h]
  · exact (Tr.ae h).elim
 case extract t ix =>
  unfold evalOp;rw[ho];dsimp only
  rw[aH] at h
  split at h
  · rename_i l hl
    rw[hl]
    dsimp only
    rw[kD] at h
    split at h
    · rename_i v hv'
      rw[hv',← Tr.ab h]
    · exact (Tr.ae h).elim
  · exact (Tr.ae h).elim
 case call c =>
  unfold evalOp;rw[ho];dsimp only
  exact CB hC h
 case makeMap t r =>
  unfold evalOp;rw[ho];try dsimp only
  cases r with
  | none =>
    dsimp only at h ⊢
    rw[mH hC.1,← Tr.ab h]
  | some r=>exact (Tr.ae h).elim
 case mapUpdate t m k x =>
  unfold evalOp;rw[ho];dsimp only
  obtain ⟨δ,h1,h⟩:=Tr.bind_some h
  have h1:=Cp h1
  rw[aH,aH,aH] at h1
  rw[h1,← Tr.ab h];rfl
 case insert t m k x =>
  unfold evalOp;rw[ho];dsimp only
  obtain ⟨δ,h1,h⟩:=Tr.bind_some h
  have h1:=Cp h1
  rw[aH,aH,aH] at h1
  rw[h1,← Tr.ab h];rfl
 all_goals
  have h1:=dflt _ h
  rw[cH] at h1
  exact h1

end
end Go.Eng
