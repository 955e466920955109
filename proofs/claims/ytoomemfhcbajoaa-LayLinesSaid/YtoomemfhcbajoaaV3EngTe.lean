/- The engine as a tree: the other builtins; operations. -/
import Derived.Test.YtoomemfhcbajoaaV3EngTcx2
set_option linter.unusedVariables false
set_option linter.unusedSimpArgs false
namespace Go.Eng
noncomputable section

abbrev bG:=Mz→List HV→aa→Tr (HV×aa)
def pG (l:List HV):List AV:=nE (fun x=>x.1) l
def bG.Ok (c:bG) (call:aV):Prop:=(∃ x,call .mode [] []=some x)∧∀ tgt args H x,(c tgt args H).run=some x→call tgt (pG args) H=some (x.1.1,x.2)
theorem mR {α:Type} {call:aV} (h:∃ x,call .mode [] []=some x) (a b:α):lL call a b=a:=by
 obtain ⟨x,h⟩:=h
 unfold lL
 rw[h]

def GV (P:Program) (H:aa) (t:TypeId) (x:HV):Tr HV :=
 match P.underlying t with
 | some (.slice _)=>match x.1 with
   | .nils=>.ok (.int .i64 (Int.ofNat 0),some 1)
   | .slc _ _ _ _ _ len _=>.ok (.int .i64 (Int.ofNat len),x.2)
   | .slcT _ _ _ len _=>.ok (.int .i64 (Int.ofNat len),x.2)
   | _=>.bad
 | some (.array n _)=>.ok (.int .i64 (Int.ofNat n),some 1)
 | _=>(vr ((ue P H t x.1).map fun n=>AV.int .i64 n)).bind fun v=>.ok (v,none)
theorem GW {P:Program} {H:aa} {t:TypeId} {x v:HV} (h:(GV P H t x).run=some v):(ue P H t x.1).map (AV.int .i64)=some v.1:=by
 unfold GV at h
 split at h
 · rename_i e hu
   unfold ue
   rw[hu]
   split at h
   · rename_i hx;rw[hx,← Tr.ab h];rfl
   · rename_i hx;rw[hx,← Tr.ab h];rfl
   · rename_i hx;rw[hx,← Tr.ab h];rfl
   · exact (Tr.ae h).elim
 · rename_i hu
   unfold ue
   rw[hu,← Tr.ab h];rfl
 · obtain ⟨u,h1,h⟩:=Tr.bind_some h
   rw[cQ] at h1
   rw[h1,← Tr.ab h]
def Ej    (P:Program) (H:aa) (t:TypeId) (s x:AV):Tr (AV×Delta) :=
 match P.underlying t with
 | some (.slice e)=>match bh P e with
   | some z=>match ny x with
     | some n=>match s with
       | .slc d i v off sz m cap=>(r4 H z (qk n m) x).bind fun new=>cond (fA H d) .bad ((w7 H d i v (some 0)).bind fun r=>cond (Nat.beq sz z) (match r with
          | .M l=>(Fz l off none (kn d new)).bind fun r'=>.ok (.int .i64 (Int.ofNat (qk n m)),.set d i (v,.row r'))
          | _=>.bad) .bad)
       | _=>.bad
     | none=>.bad
   | none=>.bad
 | _=>.bad
theorem Ek {P:Program} {H:aa} {t:TypeId} {s x:AV} {y:AV×Delta} (h:(Ej P H t s x).run=some y):copyV P H t s x=some y:=by
 unfold Ej at h
 unfold copyV
 split at h
 · rename_i e hu
   split at h
   · rename_i z hs
     split at h
     · rename_i n hn
       split at h
       · rename_i d i v off sz m cap _ _
         obtain ⟨new,h1,h⟩:=Tr.bind_some h
         rw[dX] at h
         obtain ⟨hl,h⟩:=Tr.jS h
         obtain ⟨r,h2,h⟩:=Tr.bind_some h
         obtain ⟨hz,h⟩:=Tr.aR h
         have hz:=Nat.eq_of_beq_eq_true hz
         have hcv:=pI h1
         rw[oZ] at hcv
         have hcl:=r5 hcv
         rw[hu]
         dsimp only
         rw[hs,hn]
         dsimp only[ny]
         rw[hcv]
         dsimp only
         rw[hl,if_neg (by simp),lg h2]
         dsimp only
         split at h
         · rename_i l _
           obtain ⟨r',h3,h⟩:=Tr.bind_some h
           obtain ⟨k1,k2⟩:=wW h3
           rw[fq,hcl] at k1
           rw[if_pos ⟨hz,by rw[hz];exact k1⟩,k2,← Tr.ab h,oZ]
           rfl
         · exact (Tr.ae h).elim
       · exact (Tr.ae h).elim
     · exact (Tr.ae h).elim
   · exact (Tr.ae h).elim
 · exact (Tr.ae h).elim
def xp (z:Row) (n:Nat):Row :=
 match z with
 | .I k l=>cond (xz l) (.M [.arr k (fun _=>0) (iU n (iA l))]) (dB z n)
 | z=>dB z n
theorem vL (z:Row) (n:Nat):xp z n=dB z n:=by
 cases z with
 | I k l =>
   simp only[xp]
   cases h:xz l with
   | true=>simp only[cond_true,dB,h,if_true,cr,dc]
   | false=>rfl
 | _=>rfl
def Ac (P:Program) (H:aa) (t:TypeId) (s:AV):Tr (AV×Delta) :=
 match P.underlying t with
 | some (.slice e)=>match s with
   | .slc d i v off sz len _=>cond (fA H d) .bad (match (cD P e).bind AV.row with
     | some z=>match bh P e with
       | some n=>cond (Nat.beq n sz) (cond (Nat.beq (iu z) sz) (.req (cJ 0 len) ((w7 H d i v (some 0)).bind fun r=>match r with
          | .M l=>(Fz l off none (xp z len)).bind fun r'=>.ok (.tup [],.set d i (v,.row r'))
          | _=>.bad)) .bad) .bad
       | none=>.bad
     | none=>.bad)
   | _=>.bad
 | _=>.bad
theorem A0 (z:Row) (n:Nat):(dB z n).len=n*z.len:=by
 have fn:∀ l:List AV,(EB l n).len=n*l.length:=by
  intro l
  unfold EB
  split
  · split<;>simp[Row.len,dG]
  · simp[Row.len,dG]
 cases z with
 | I k l=>simp only[dB];split<;>simp[Row.len,aw,aM,dG]
 | _=>simp only[dB,fn,Row.bg]
theorem CH {P:Program} {H:aa} {t:TypeId} {s:AV} {y:AV×Delta} (h:(Ac P H t s).run=some y):r8 P H t s=some y:=by
 unfold Ac at h
 unfold r8
 split at h
 · rename_i e hu
   split at h
   · rename_i d i v off sz len cap
     rw[dX] at h
     obtain ⟨hl,h⟩:=Tr.jS h
     split at h
     · rename_i z hz
       split at h
       · rename_i n hs
         obtain ⟨hn,h⟩:=Tr.aR h
         obtain ⟨hzl,h⟩:=Tr.aR h
         have hn:=Nat.eq_of_beq_eq_true hn
         rw[fm] at hzl
         have hzl:=Nat.eq_of_beq_eq_true hzl
         obtain ⟨h0,h⟩:=Tr.aP h
         rw[gm,decide_eq_true_eq] at h0
         obtain ⟨r,h2,h⟩:=Tr.bind_some h
         rw[hu]
         dsimp only
         rw[hl,if_neg (by simp),hz,lg h2]
         dsimp only
         split at h
         · rename_i l _
           obtain ⟨r',h3,h⟩:=Tr.bind_some h
           obtain ⟨k1,k2⟩:=wW h3
           rw[vL] at k1 k2
           rw[A0,hzl] at k1
           rw[if_pos ⟨hzl,by rw[hs,hn],k1⟩,← Tr.ab h]
           rw[if_neg (by omega)]
           simp only[yl,if_true]
           rw[← k2]
         · exact (Tr.ae h).elim
       · exact (Tr.ae h).elim
     · exact (Tr.ae h).elim
   · exact (Tr.ae h).elim
 · exact (Tr.ae h).elim
def nB (P:Program) (nx:Nat) (t:TypeId) (l c:AV):Tr (AV×Delta) :=
 match P.underlying t with
 | some (.slice e)=>match l with
   | .int _ l=>match c with
     | .int _ c=>match P.info? e with
       | some inf=>match (cD P e).bind AV.row with
         | some z=>.req (De l c inf.bytes) (cond (Nat.beq (iu z) inf.size) (.ok (.slc 0 nx 0 0 inf.size (dg l) (some (dg c)),.push (.row (xp z (dg c))))) .bad)
         | none=>.bad
       | none=>.bad
     | _=>.bad
   | _=>.bad
 | _=>.bad
theorem uh {P:Program} {nx:Nat} {t:TypeId} {l c:AV} {y:AV×Delta} (h:(nB P nx t l c).run=some y):iS P true nx t l c=some y:=by
 unfold nB at h
 unfold iS
 split at h
 · rename_i e hu
   split at h
   · split at h
     · split at h
       · rename_i inf hi
         split at h
         · rename_i z hz
           obtain ⟨hc,h⟩:=Tr.aP h
           obtain ⟨hl,h⟩:=Tr.aR h
           rw[wC,decide_eq_true_eq] at hc
           rw[fm] at hl
           have hl:=Nat.eq_of_beq_eq_true hl
           rw[hu]
           dsimp only
           rw[hi,hz]
           dsimp only
           rw[if_pos ⟨hc.1,hc.2.1,hc.2.2.1,hc.2.2.2,hl⟩,← Tr.ab h,vL,lu,lu]
           rfl
         · exact (Tr.ae h).elim
       · exact (Tr.ae h).elim
     · exact (Tr.ae h).elim
   · exact (Tr.ae h).elim
 · exact (Tr.ae h).elim

def hv (x:AV×Delta):Tr (HV×Delta):=.ok ((x.1,none),x.2)
theorem Bx {x:AV×Delta} {y:HV×Delta} (h:(hv x).run=some y):y.1.1=x.1∧y.2=x.2:=by
 have:=Tr.ab h
 rw[← this]
 exact ⟨rfl,rfl⟩
def sQ (l:List AV):List HV:=nE (fun x=>(x,none)) l
theorem nk:∀ l:List AV,pG (sQ l)=l
 | []=>rfl
 | x::l=>by
   have e:pG (sQ (x::l))=x::pG (sQ l):=rfl
   rw[e,nk l]
theorem vP:∀ a b:List HV,pG (mU a b)=pG a++pG b
 | [],b=>rfl
 | x::a,b=>by
   have e:pG (mU (x::a) b)=x.1::pG (mU a b):=rfl
   rw[e,vP a b];rfl
def yW (fr:aI) (l:List Operand):List HV:=nE (fun x=>bW fr x) l
theorem sX (fr:aI):∀ l,pG (yW fr l)=jG (strip fr) l
 | []=>rfl
 | x::l=>by
   have e:pG (yW fr (x::l))=(bW fr x).1::pG (yW fr l):=rfl
   rw[e,sX fr l,aT];rfl
def HQ   (P:Program) (H:aa) (t:TypeId) (m key x:AV):Tr Delta :=
 match P.underlying t with
 | some (.map kt _)=>match m with
   | .map d i=>cond (au H d) .bad (cond (jE P kt key) (match aq H d i with
     | (0,.fmap q h g c)=>match ud q key with
       | some n=>match yU x with
         | some y=>.ok (.set d i (0,.fmap q (ml h n true) (mq g n y) (r9 (h n) c)))
         | none=>.bad
       | none=>.bad
     | _=>.bad) .bad)
   | _=>.bad
 | _=>.bad
def I9 (P:Program) (H:aa) (t:TypeId) (m key:AV):Tr Delta :=
 match P.underlying t with
 | some (.map kt _)=>match m with
   | .map d i=>cond (au H d) .bad (cond (jE P kt key) (match aq H d i with
     | (0,.fmap q h g c)=>match ud q key with
       | some n=>.ok (.set d i (0,.fmap q (ml h n false) (mq g n 0) (uK (h n) c)))
       | none=>.bad
     | _=>.bad) .bad)
   | _=>.bad
 | _=>.bad
def Jz (fr:aI):Option Operand→Bool
 | none=>true
 | some y=>isLit (bW fr y)
theorem lS {α:Type} {b:Bool} {s t:Tr α} {x:α} (h:(cond b s t).run=some x):b=true∧s.run=some x∨b=false∧t.run=some x:=by
 cases b
 · exact .inr ⟨rfl,h⟩
 · exact .inl ⟨rfl,h⟩
theorem Ct {P:Program} {H:aa} {t:TypeId} {m key x:AV} {δ:Delta} (h:(HQ P H t m key x).run=some δ):jz P H t m key x=some δ:=by
 unfold HQ at h
 unfold jz
 split at h
 · rename_i kt et hu
   rw[hu]
   split at h
   · rename_i d i
     dsimp only
     rcases lS h with ⟨_,h⟩ | ⟨h1,h⟩
     · exact (Tr.ae h).elim
     · rcases lS h with ⟨h2,h⟩ | ⟨_,h⟩
       · rw[if_neg (by rw[h1];simp),if_pos h2]
         split at h
         · rename_i q f g c hg
           rw[hg]
           try dsimp only
           split at h
           · rename_i n hn
             split at h
             · rename_i y hy
               simp only[hn,hy,← Tr.ab h,zo,zu,xD]
             · exact (Tr.ae h).elim
           · exact (Tr.ae h).elim
         · exact (Tr.ae h).elim
       · exact (Tr.ae h).elim
   · exact (Tr.ae h).elim
 · exact (Tr.ae h).elim
theorem Gw {P:Program} {H:aa} {t:TypeId} {m key:AV} {δ:Delta} (h:(I9 P H t m key).run=some δ):oo P H t m key=some (.tup [],δ):=by
 unfold I9 at h
 unfold oo
 split at h
 · rename_i kt et hu
   rw[hu]
   split at h
   · rename_i d i
     dsimp only
     rcases lS h with ⟨_,h⟩ | ⟨h1,h⟩
     · exact (Tr.ae h).elim
     · rcases lS h with ⟨h2,h⟩ | ⟨_,h⟩
       · rw[if_neg (by rw[h1];simp),if_pos h2]
         split at h
         · rename_i q f g c hg
           rw[hg]
           try dsimp only
           split at h
           · rename_i n hn
             simp only[hn,← Tr.ab h,zo,zu,xE]
           · exact (Tr.ae h).elim
         · exact (Tr.ae h).elim
       · exact (Tr.ae h).elim
   · exact (Tr.ae h).elim
 · exact (Tr.ae h).elim
def Aa (P:Program) (call:aV) (callR:bG) (fr:aI) (H:aa) (nx:Nat) (c:Call):Tr (HV×Delta) :=
 match c.callee with
 | .value f=>match (bW fr f).1 with
   | .fn (.func g) a b=>(callR (.fn g) (mU (sQ a) (mU (yW fr c.args.toList) (sQ b))) H).bind fun x=>.ok (x.1,.heap x.2)
   | .yld d i=>(callR (.round d i) (yW fr c.args.toList) H).bind fun x=>.ok (x.1,.heap x.2)
   | _=>.bad
 | .builtin .len=>match c.args.toList,c.argTypes.toList with
   | x::_,t::_=>(GV P H t (bW fr x)).bind fun v=>.ok (v,.ba)
   | _,_=>.bad
 | .builtin .append=>match c.args.toList,c.argTypes.toList with
   | s::x::_,t::u::_=>(ob P H nx t u (bW fr s).1 (bW fr x).1).bind hv
   | _,_=>.bad
 | .builtin .copy=>match c.args.toList,c.argTypes.toList with
   | s::x::_,t::_=>(Ej P H t (bW fr s).1 (bW fr x).1).bind hv
   | _,_=>.bad
 | .builtin .clear=>match c.args.toList,c.argTypes.toList with
   | s::_,t::_=>(Ac P H t (bW fr s).1).bind hv
   | _,_=>.bad
 | .builtin .min=>match yX fr c.args.toList with
   | .int k x::r=>(o6 false k x r).bind fun v=>.ok ((v,none),.ba)
   | _=>.bad
 | .builtin .max=>match yX fr c.args.toList with
   | .int k x::r=>(o6 true k x r).bind fun v=>.ok ((v,none),.ba)
   | _=>.bad
 | .builtin .delete=>match c.args.toList,c.argTypes.toList with
   | m::k::_,t::_=>(I9 P H t (bW fr m).1 (bW fr k).1).bind fun δ=>.ok ((.tup [],none),δ)
   | _,_=>.bad
 | _=>(vr (fI P call (strip fr) H nx c)).bind hv
theorem CF {P:Program} {call:aV} {callR:bG} (hC:callR.Ok call) {fr:aI} {H:aa} {nx:Nat} {c:Call} {y:HV×Delta} (h:(Aa P call callR fr H nx c).run=some y):fI P call (strip fr) H nx c=some (y.1.1,y.2):=by
 have dflt:∀ (t:Tr (AV×Delta)),(t.bind hv).run=some y→t.run=some (y.1.1,y.2):=by
  intro t ht
  obtain ⟨x,h1,h2⟩:=Tr.bind_some ht
  obtain ⟨e1,e2⟩:=Bx h2
  rw[h1,e1,e2]
 unfold Aa at h
 split at h
 · rename_i f hf
   unfold fI
   rw[hf]
   dsimp only
   rw[aT] at h
   split at h
   · rename_i g a b ho
     obtain ⟨x,h1,h⟩:=Tr.bind_some h
     rw[ho]
     dsimp only
     have:=hC.2 _ _ _ _ h1
     rw[vP,vP,nk,nk,sX] at this
     rw[this,← Tr.ab h];rfl
   · rename_i d i ho
     obtain ⟨x,h1,h⟩:=Tr.bind_some h
     rw[ho]
     dsimp only
     have:=hC.2 _ _ _ _ h1
     rw[sX] at this
     rw[this,← Tr.ab h];rfl
   · exact (Tr.ae h).elim
 · rename_i hf
   unfold fI
   rw[hf]
   dsimp only
   split at h
   · rename_i x _ t _ hx ht
     obtain ⟨v,h1,h⟩:=Tr.bind_some h
     rw[hx,ht]
     dsimp only
     have:=GW h1
     rw[aT] at this
     obtain ⟨n,k1,k2⟩:=Option.map_eq_some_iff.1 this
     rw[k1,← Tr.ab h,← k2];rfl
   · exact (Tr.ae h).elim
 · rename_i hf
   unfold fI
   rw[hf]
   dsimp only
   split at h
   · rename_i s x _ t u _ hx ht
     rw[hx,ht]
     dsimp only
     have h:=z4 (dflt _ h)
     rw[aT,aT] at h
     rw[mR hC.1]
     exact h
   · exact (Tr.ae h).elim
 · rename_i hf
   unfold fI
   rw[hf]
   dsimp only
   split at h
   · rename_i s x _ t _ hx ht
     rw[hx,ht]
     dsimp only
     have h:=Ek (dflt _ h)
     rw[aT,aT] at h
     exact h
   · exact (Tr.ae h).elim
 · rename_i hf
   unfold fI
   rw[hf]
   dsimp only
   split at h
   · rename_i s _ t _ hx ht
     rw[hx,ht]
     dsimp only
     have h:=CH (dflt _ h)
     rw[aT] at h
     exact h
   · exact (Tr.ae h).elim
 · rename_i hf
   unfold fI
   rw[hf]
   dsimp only
   rw[sY] at h
   split at h
   · rename_i k x r hx
     obtain ⟨v,h1,h⟩:=Tr.bind_some h
     rw[hx]
     dsimp only[nG]
     rw[nH _ _ _ h1,← Tr.ab h];rfl
   · exact (Tr.ae h).elim
 · rename_i hf
   unfold fI
   rw[hf]
   dsimp only
   rw[sY] at h
   split at h
   · rename_i k x r hx
     obtain ⟨v,h1,h⟩:=Tr.bind_some h
     rw[hx]
     dsimp only[nG]
     rw[nH _ _ _ h1,← Tr.ab h];rfl
   · exact (Tr.ae h).elim
 · rename_i hf
   unfold fI
   rw[hf]
   dsimp only
   split at h
   · rename_i m k _ t _ hx ht
     rw[hx,ht]
     dsimp only
     obtain ⟨δ,h1,h⟩:=Tr.bind_some h
     have h1:=Gw h1
     rw[aT,aT] at h1
     rw[h1,← Tr.ab h]
   · exact (Tr.ae h).elim
 · have h:=dflt _ h
   rw[cQ] at h;exact h

def IW (P:Program) (op:BinOp) (t:TypeId) (x y:HV):Tr HV :=
 cond (isLit x && isLit y) (match x.1,y.1 with
  | .int k a,.int k' b=>(vr (Be P op t (.int k a) (.int k' b))).bind fun v=>.ok (v,some 1)
  | a,b=>(D7 P op t a b).bind fun v=>.ok (v,none))
 ((D7 P op t x.1 y.1).bind fun v=>.ok (v,none))
theorem Gh {P:Program} {op:BinOp} {t:TypeId} {x y v:HV} (h:(IW P op t x y).run=some v):jQ P op t x.1 y.1=some v.1:=by
 have gen:∀ a b,((D7 P op t a b).bind fun v=>Tr.ok ((v,none):HV)).run=some v→jQ P op t a b=some v.1:=by
  intro a b h
  obtain ⟨u,h1,h⟩:=Tr.bind_some h
  rw[Gi h1,← Tr.ab h]
 unfold IW at h
 cases hb:isLit x && isLit y with
 | false=>rw[hb,cond_false] at h;exact gen _ _ h
 | true =>
   rw[hb,cond_true] at h
   split at h
   · rename_i k a k' b hx hy
     obtain ⟨u,h1,h⟩:=Tr.bind_some h
     rw[cQ,rW] at h1
     rw[hx,hy,h1,← Tr.ab h]
   · exact gen _ _ h

def oX (fr:aI) (l:List (Nat×Operand)):List (Nat×AV):=nE (fun p=>(p.1,(bW fr p.2).1)) l
theorem nC (fr:aI):∀ l,oX fr l=dL (strip fr) l
 | []=>rfl
 | (i,x)::l=>by
   have e:oX fr ((i,x)::l)=(i,(bW fr x).1)::oX fr l:=rfl
   rw[e,nC fr l,aT];rfl
def Lw (op:Op):Oper→Program→aV→bG→aI→aa→Nat→Tr (HV×Delta) :=
 match op with
 | .move x=>fun _ _ _ _ fr _ _=>.ok (bW fr x,.ba)
 | .assign x=>fun _ _ _ _ fr _ _=>.ok (bW fr x,.ba)
 | .pick c a b=>fun _ _ _ _ fr _ _=>match bW fr c with
   | (.bool t,none)=>.ite t (.ok (bW fr a,.ba)) (.ok (bW fr b,.ba))
   | (.bool t,some _)=>cond t (.ok (bW fr a,.ba)) (.ok (bW fr b,.ba))
   | _=>.bad
 | .alloc t=>fun _ P _ _ _ _ nx=>match (cD P t).bind AV.row with
   | some z=>.ok ((.ptr 0 nx 0 0,none),.push (.row (jd z)))
   | none=>.bad
 | .box _ x=>fun _ _ _ _ fr _ nx=>match (bW fr x).1.row with
   | some r=>.ok ((.ptr 0 nx 0 0,none),.push (.row (jd r)))
   | none=>.bad
 | .build t parts=>fun _ P _ _ fr _ _=>(vr (vQ P true t (oX fr parts.toList))).bind fun v=>.ok ((v,none),.ba)
 | .buildSlice t len parts=>fun _ P _ _ fr _ nx=>(vr (jj P nx t len (oX fr parts.toList))).bind fun x=>.ok ((x.1,some 1),x.2)
 | .load t a=>fun _ P _ _ fr H _=>(loadT P H t (bW fr a)).bind fun v=>.ok ((v,none),.ba)
 | .store t a x=>fun _ P _ _ fr H _=>(storeT P H t (bW fr a) (bW fr x).1).bind fun δ=>.ok ((.tup [],none),δ)
 | .nilCheck x=>fun _ _ _ _ fr _ _=>match (bW fr x).1 with
   | .ptr d i v off=>.ok (bW fr x,.ba)
   | .ptrT s r off=>.ok (bW fr x,.ba)
   | _=>.bad
 | .binOp op t x y _=>fun _ P _ _ fr _ _=>(IW P op t (bW fr x) (bW fr y)).bind fun v=>.ok (v,.ba)
 | .unOp op _ x=>fun _ _ _ _ fr _ _=>match op,bW fr x with
   | .not,(.bool b,some _)=>.ok ((.bool (cond b false true),some 1),.ba)
   | op,x=>(Ps op x.1).bind fun v=>.ok ((v,none),.ba)
 | .convert src dst x=>fun _ P _ _ fr _ _=>match P.underlying src with
   | some _=>match P.underlying dst with
     | some (.int k)=>match bW fr x with
       | (.int _ n,none)=>.ok ((.int k (DK k n),none),.ba)
       | (.int _ n,some _)=>.ok ((.int k (vK k n),some 1),.ba)
       | _=>.bad
     | _=>.bad
   | none=>.bad
 | .makeSlice t l c=>fun _ P _ _ fr _ nx=>(nB P nx t (bW fr l).1 (bW fr c).1).bind hv
 | .slice t x lo hi mx=>fun _ P _ _ fr _ _=>cond (isLit (bW fr x) && (Jz fr lo && (Jz fr hi && Jz fr mx)))
   ((vr (qv P t (bW fr x).1 (lo.map fun y=>(bW fr y).1) (hi.map fun y=>(bW fr y).1) (mx.map fun y=>(bW fr y).1))).bind fun v=>.ok ((v,some 1),.ba))
   ((AQ P t (bW fr x).1 (lo.map fun y=>(bW fr y).1) (hi.map fun y=>(bW fr y).1) (mx.map fun y=>(bW fr y).1)).bind fun v=>.ok ((v,none),.ba))
 | .fieldAddr t x f=>fun _ P _ _ fr _ _=>(nq P t (bW fr x) f).bind fun v=>.ok (v,.ba)
 | .field t x f=>fun _ P _ _ fr _ _=>(vr (sj P t (bW fr x).1 f)).bind fun v=>.ok ((v,none),.ba)
 | .indexAddr t x i=>fun _ P _ _ fr _ _=>match (bW fr i).1 with
   | .int _ n=>(Jl P t (bW fr x) (isLit (bW fr i)) n).bind fun v=>.ok (v,.ba)
   | _=>.bad
 | .index t x i=>fun _ P _ _ fr _ _=>match (bW fr i).1 with
   | .int _ n=>(Nm P t (bW fr x).1 (isLit (bW fr i)) n).bind fun v=>.ok ((v,none),.ba)
   | _=>.bad
 | .extract t ix=>fun _ _ _ _ fr _ _=>match (bW fr t).1 with
   | .tup l=>match xZ l ix with
     | some v=>.ok ((v,none),.ba)
     | none=>.bad
   | _=>.bad
 | .call c=>fun _ P call callR fr H nx=>Aa P call callR fr H nx c
 | .makeMap t r=>fun _ P _ _ _ _ nx=>match r with
   | none=>.ok ((.map 0 nx,none),.push (sP P t))
   | some _=>.bad
 | .mapUpdate t m k x=>fun _ P _ _ fr H _=>(HQ P H t (bW fr m).1 (bW fr k).1 (bW fr x).1).bind fun δ=>.ok ((.tup [],none),δ)
 | .insert t m k x=>fun _ P _ _ fr H _=>(HQ P H t (bW fr m).1 (bW fr k).1 (bW fr x).1).bind fun δ=>.ok ((.tup [],none),δ)
 | _=>fun o P call _ fr H nx=>(vr (evalOp P call (strip fr) H nx o)).bind hv
theorem AH {o:Oper} {P:Program} {call:aV} {callR:bG} (hC:callR.Ok call) {fr:aI} {H:aa} {nx:Nat} {y:HV×Delta} (h:(Lw o.op o P call callR fr H nx).run=some y):evalOp P call (strip fr) H nx o=some (y.1.1,y.2):=by
 have dflt:∀ (t:Tr (AV×Delta)),(t.bind hv).run=some y→t.run=some (y.1.1,y.2):=by
  intro t ht
  obtain ⟨x,h1,h2⟩:=Tr.bind_some ht
  obtain ⟨e1,e2⟩:=Bx h2
  rw[h1,e1,e2]
 have dkp:∀ (t:Tr AV),(t.bind fun v=>Tr.ok (((v,none),.ba):HV×Delta)).run=some y→t.run=some y.1.1∧y.2=.ba:=by
  intro t ht
  obtain ⟨x,h1,h2⟩:=Tr.bind_some ht
  rw[h1,← Tr.ab h2];exact ⟨rfl,rfl⟩
 have kpe:∀ {o:Option AV} {v:AV},o=some v→kp o=some (v,.ba):=by rintro o v rfl;rfl
 cases ho:o.op<;>rw[ho] at h<;>simp only[Lw] at h
 case move x =>
  unfold evalOp;rw[ho];dsimp only
  rw[← Tr.ab h,← aT]
 case assign x =>
  unfold evalOp;rw[ho];dsimp only
  rw[← Tr.ab h,← aT]
 case pick c a b =>
  unfold evalOp;rw[ho];dsimp only
  have hc':=aT fr c
  split at h
  · rename_i t hc
    rw[hc] at hc'
    rw[← hc']
    dsimp only
    rcases Tr.g5 h with ⟨rfl,h⟩ | ⟨rfl,h⟩<;>rw[← Tr.ab h,← aT,← aT]<;>rfl
  · rename_i t n hc
    rw[hc] at hc'
    rw[← hc']
    dsimp only
    cases t with
    | true=>rw[cond_true] at h;rw[← Tr.ab h,← aT,← aT];rfl
    | false=>rw[cond_false] at h;rw[← Tr.ab h,← aT,← aT];rfl
  · exact (Tr.ae h).elim
 case alloc t =>
  unfold evalOp;rw[ho];dsimp only
  split at h
  · rename_i z hz
    rw[hz,← Tr.ab h,Option.map_some,mR hC.1]
  · exact (Tr.ae h).elim
 case box t x =>
  unfold evalOp;rw[ho];dsimp only
  rw[aT] at h
  split at h
  · rename_i z hz
    rw[hz,← Tr.ab h,Option.map_some,mR hC.1]
  · exact (Tr.ae h).elim
 case build t parts =>
  unfold evalOp;rw[ho];dsimp only
  obtain ⟨h1,h2⟩:=dkp _ h
  rw[cQ,nC] at h1
  rw[mR hC.1,kpe h1,h2]
 case buildSlice t len parts =>
  unfold evalOp;rw[ho];dsimp only
  obtain ⟨x,h1,h⟩:=Tr.bind_some h
  rw[cQ,nC] at h1
  rw[h1,← Tr.ab h]
 case load t a =>
  unfold evalOp;rw[ho];dsimp only
  obtain ⟨h1,h2⟩:=dkp _ h
  have h1:=yB h1
  rw[aT] at h1
  rw[kpe h1,h2]
 case store t a x =>
  unfold evalOp;rw[ho];dsimp only
  obtain ⟨δ,h1,h⟩:=Tr.bind_some h
  have h1:=DF h1
  rw[aT,aT] at h1
  rw[h1,← Tr.ab h];rfl
 case nilCheck x =>
  unfold evalOp;rw[ho];dsimp only
  rw[← aT]
  split at h
  · rename_i d i v off hx
    rw[hx,← Tr.ab h,hx]
  · rename_i s r off hx
    rw[hx,← Tr.ab h,hx]
  · exact (Tr.ae h).elim
 case binOp op t x y' g =>
  unfold evalOp;rw[ho];dsimp only
  obtain ⟨v,h1,h⟩:=Tr.bind_some h
  have h1:=Gh h1
  rw[aT,aT] at h1
  rw[kpe h1,← Tr.ab h]
 case unOp op t x =>
  unfold evalOp;rw[ho];dsimp only
  split at h
  · rename_i b n hx
    have:bI (strip fr) x=.bool b:=by rw[← aT,hx]
    rw[this,← Tr.ab h]
    cases b<;>rfl
  · obtain ⟨h1,h2⟩:=dkp _ h
    have h1:=Ka h1
    rw[aT] at h1
    rw[kpe h1,h2]
 case convert s d x =>
  unfold evalOp;rw[ho];dsimp only
  split at h
  · rename_i u hu
    split at h
    · rename_i k hk
      have hx:=aT fr x
      split at h
      · rename_i n hn
        rw[hn] at hx
        rw[hu,hk,← hx]
        dsimp only
        rw[← Tr.ab h,AZ]
      · rename_i n _ hn
        rw[hn] at hx
        rw[hu,hk,← hx]
        dsimp only
        rw[← Tr.ab h,tK]
      · exact (Tr.ae h).elim
    · exact (Tr.ae h).elim
  · exact (Tr.ae h).elim
 case makeSlice t l c =>
  unfold evalOp;rw[ho];dsimp only
  have h1:=uh (dflt _ h)
  rw[aT,aT] at h1
  rw[mR hC.1]
  exact h1
 case slice t x lo hi mx =>
  unfold evalOp;rw[ho];dsimp only
  have e:∀ z:Option Operand,(z.map fun y=>(bW fr y).1)=z.map (bI (strip fr)):=by
   intro z;cases z<;>simp[aT]
  rcases lS h with ⟨_,h⟩ | ⟨_,h⟩
  · obtain ⟨v,h1,h2⟩:=Tr.bind_some h
    rw[cQ,aT,e,e,e] at h1
    rw[kpe h1,← Tr.ab h2]
  · obtain ⟨h1,h2⟩:=dkp _ h
    have h1:=DA h1
    rw[aT] at h1
    rw[e,e,e] at h1
    rw[kpe h1,h2]
 case fieldAddr t x f =>
  unfold evalOp;rw[ho];dsimp only
  obtain ⟨v,h1,h⟩:=Tr.bind_some h
  have h1:=tW h1
  rw[aT] at h1
  rw[kpe h1,← Tr.ab h]
 case field t x f =>
  unfold evalOp;rw[ho];dsimp only
  obtain ⟨h1,h2⟩:=dkp _ h
  rw[cQ,aT] at h1
  rw[kpe h1,h2]
 case index t x i =>
  unfold evalOp;rw[ho];dsimp only
  rw[aT] at h
  split at h
  · rename_i k n hn
    obtain ⟨v,h1,h⟩:=Tr.bind_some h
    have h1:=Jr h1
    rw[aT] at h1
    rw[hn]
    dsimp only
    rw[kpe h1,← Tr.ab h]
  · exact (Tr.ae h).elim
 case indexAddr t x i =>
  unfold evalOp;rw[ho];dsimp only
  rw[aT] at h
  split at h
  · rename_i k n hn
    obtain ⟨v,h1,h⟩:=Tr.bind_some h
    have h1:=GJ h1
    rw[aT] at h1
    rw[hn]
    dsimp only
    rw[kpe h1,← Tr.ab h]
  · exact (Tr.ae h).elim
 case extract t ix =>
  unfold evalOp;rw[ho];dsimp only
  rw[aT] at h
  split at h
  · rename_i l hl
    rw[hl]
    dsimp only
    rw[kN] at h
    split at h
    · rename_i v hv'
      rw[hv',← Tr.ab h]
    · exact (Tr.ae h).elim
  · exact (Tr.ae h).elim
 case call c =>
  unfold evalOp;rw[ho];dsimp only
  exact CF hC h
 case makeMap t r =>
  unfold evalOp;rw[ho];try dsimp only
  cases r with
  | none =>
    dsimp only at h ⊢
    rw[mR hC.1,← Tr.ab h]
  | some r=>exact (Tr.ae h).elim
 case mapUpdate t m k x =>
  unfold evalOp;rw[ho];dsimp only
  obtain ⟨δ,h1,h⟩:=Tr.bind_some h
  have h1:=Ct h1
  rw[aT,aT,aT] at h1
  rw[h1,← Tr.ab h];rfl
 case insert t m k x =>
  unfold evalOp;rw[ho];dsimp only
  obtain ⟨δ,h1,h⟩:=Tr.bind_some h
  have h1:=Ct h1
  rw[aT,aT,aT] at h1
  rw[h1,← Tr.ab h];rfl
 all_goals
  have h1:=dflt _ h
  rw[cQ] at h1
  exact h1

end
end Go.Eng
