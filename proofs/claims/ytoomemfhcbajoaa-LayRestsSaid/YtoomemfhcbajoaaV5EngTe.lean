/- The engine as a tree: the other builtins; operations. -/
import Derived.Test.YtoomemfhcbajoaaV5EngTcx2
set_option linter.unusedVariables false
set_option linter.unusedSimpArgs false
namespace Go.Eng
noncomputable section

abbrev bE:=Mf→List HV→aa→Tr (HV×aa)
def qX (l:List HV):List AV:=nG (fun x=>x.1) l
def bE.Ok (c:bE) (call:aQ):Prop:=(∃ x,call .mode [] []=some x)∧∀ tgt args H x,(c tgt args H).run=some x→call tgt (qX args) H=some (x.1.1,x.2)
theorem mP {α:Type} {call:aQ} (h:∃ x,call .mode [] []=some x) (a b:α):lG call a b=a:=by
 obtain ⟨x,h⟩:=h
 unfold lG
 rw[h]

def GJ (P:Program) (H:aa) (t:TypeId) (x:HV):Tr HV :=
 match P.underlying t with
 | some (.slice _)=>match x.1 with
   | .nils=>.ok (.int .i64 (Int.ofNat 0),some 1)
   | .slc _ _ _ _ _ len _=>.ok (.int .i64 (Int.ofNat len),x.2)
   | .slcT _ _ _ len _=>.ok (.int .i64 (Int.ofNat len),x.2)
   | _=>.bad
 | some (.array n _)=>.ok (.int .i64 (Int.ofNat n),some 1)
 | _=>(vi ((tU P H t x.1).map fun n=>AV.int .i64 n)).bind fun v=>.ok (v,none)
theorem GK {P:Program} {H:aa} {t:TypeId} {x v:HV} (h:(GJ P H t x).run=some v):(tU P H t x.1).map (AV.int .i64)=some v.1:=by
 unfold GJ at h
 split at h
 · rename_i e hu
   unfold tU
   rw[hu]
   split at h
   · rename_i hx;rw[hx,← Tr.ab h];rfl
   · rename_i hx;rw[hx,← Tr.ab h];rfl
   · rename_i hx;rw[hx,← Tr.ab h];rfl
   · exact (Tr.ae h).elim
 · rename_i hu
   unfold tU
   rw[hu,← Tr.ab h];rfl
 · obtain ⟨u,h1,h⟩:=Tr.bind_some h
   rw[cR] at h1
   rw[h1,← Tr.ab h]
def D5    (P:Program) (H:aa) (t:TypeId) (s x:AV):Tr (AV×Delta) :=
 match P.underlying t with
 | some (.slice e)=>match bh P e with
   | some z=>match nB x with
     | some n=>match s with
       | .slc d i v off sz m cap=>(rS H z (p9 n m) x).bind fun new=>cond (fo H d) .bad ((wU H d i v (some 0)).bind fun r=>cond (Nat.beq sz z) (match r with
          | .M l=>(Fk l off none (lr d new)).bind fun r'=>.ok (.int .i64 (Int.ofNat (p9 n m)),.set d i (v,.row r'))
          | _=>.bad) .bad)
       | _=>.bad
     | none=>.bad
   | none=>.bad
 | _=>.bad
theorem D6 {P:Program} {H:aa} {t:TypeId} {s x:AV} {y:AV×Delta} (h:(D5 P H t s x).run=some y):copyV P H t s x=some y:=by
 unfold D5 at h
 unfold copyV
 split at h
 · rename_i e hu
   split at h
   · rename_i z hs
     split at h
     · rename_i n hn
       split at h
       · rename_i d i v off sz m cap _ _
         obtain ⟨new,h1,h⟩:=Tr.bind_some h
         rw[dW] at h
         obtain ⟨hl,h⟩:=Tr.jR h
         obtain ⟨r,h2,h⟩:=Tr.bind_some h
         obtain ⟨hz,h⟩:=Tr.aJ h
         have hz:=Nat.eq_of_beq_eq_true hz
         have hcv:=pB h1
         rw[oZ] at hcv
         have hcl:=rT hcv
         rw[hu]
         dsimp only
         rw[hs,hn]
         dsimp only[nB]
         rw[hcv]
         dsimp only
         rw[hl,if_neg (by simp),la h2]
         dsimp only
         split at h
         · rename_i l _
           obtain ⟨r',h3,h⟩:=Tr.bind_some h
           obtain ⟨k1,k2⟩:=wO h3
           rw[fh,hcl] at k1
           rw[if_pos ⟨hz,by rw[hz];exact k1⟩,k2,← Tr.ab h,oZ]
           rfl
         · exact (Tr.ae h).elim
       · exact (Tr.ae h).elim
     · exact (Tr.ae h).elim
   · exact (Tr.ae h).elim
 · exact (Tr.ae h).elim
def xm (z:Row) (n:Nat):Row :=
 match z with
 | .I k l=>cond (xv l) (.M [.arr k (fun _=>0) (iZ n (iC l))]) (dD z n)
 | z=>dD z n
theorem vD (z:Row) (n:Nat):xm z n=dD z n:=by
 cases z with
 | I k l =>
   simp only[xm]
   cases h:xv l with
   | true=>simp only[cond_true,dD,h,if_true,cA,dg]
   | false=>rfl
 | _=>rfl
def z5 (P:Program) (H:aa) (t:TypeId) (s:AV):Tr (AV×Delta) :=
 match P.underlying t with
 | some (.slice e)=>match s with
   | .slc d i v off sz len _=>cond (fo H d) .bad (match (cG P e).bind AV.row with
     | some z=>match bh P e with
       | some n=>cond (Nat.beq n sz) (cond (Nat.beq (iu z) sz) (.req (c9 0 len) ((wU H d i v (some 0)).bind fun r=>match r with
          | .M l=>(Fk l off none (xm z len)).bind fun r'=>.ok (.tup [],.set d i (v,.row r'))
          | _=>.bad)) .bad) .bad
       | none=>.bad
     | none=>.bad)
   | _=>.bad
 | _=>.bad
theorem AU (z:Row) (n:Nat):(dD z n).len=n*z.len:=by
 have fn:∀ l:List AV,(Eg l n).len=n*l.length:=by
  intro l
  unfold Eg
  split
  · split<;>simp[Row.len,dI]
  · simp[Row.len,dI]
 cases z with
 | I k l=>simp only[dD];split<;>simp[Row.len,av,aI,dI]
 | _=>simp only[dD,fn,Row.bf]
theorem CB {P:Program} {H:aa} {t:TypeId} {s:AV} {y:AV×Delta} (h:(z5 P H t s).run=some y):rW P H t s=some y:=by
 unfold z5 at h
 unfold rW
 split at h
 · rename_i e hu
   split at h
   · rename_i d i v off sz len cap
     rw[dW] at h
     obtain ⟨hl,h⟩:=Tr.jR h
     split at h
     · rename_i z hz
       split at h
       · rename_i n hs
         obtain ⟨hn,h⟩:=Tr.aJ h
         obtain ⟨hzl,h⟩:=Tr.aJ h
         have hn:=Nat.eq_of_beq_eq_true hn
         rw[fg] at hzl
         have hzl:=Nat.eq_of_beq_eq_true hzl
         obtain ⟨h0,h⟩:=Tr.aH h
         rw[gf,decide_eq_true_eq] at h0
         obtain ⟨r,h2,h⟩:=Tr.bind_some h
         rw[hu]
         dsimp only
         rw[hl,if_neg (by simp),hz,la h2]
         dsimp only
         split at h
         · rename_i l _
           obtain ⟨r',h3,h⟩:=Tr.bind_some h
           obtain ⟨k1,k2⟩:=wO h3
           rw[vD] at k1 k2
           rw[AU,hzl] at k1
           rw[if_pos ⟨hzl,by rw[hs,hn],k1⟩,← Tr.ab h]
           rw[if_neg (by omega)]
           simp only[yf,if_true]
           rw[← k2]
         · exact (Tr.ae h).elim
       · exact (Tr.ae h).elim
     · exact (Tr.ae h).elim
   · exact (Tr.ae h).elim
 · exact (Tr.ae h).elim
def nD (P:Program) (nx:Nat) (t:TypeId) (l c:AV):Tr (AV×Delta) :=
 match P.underlying t with
 | some (.slice e)=>match l with
   | .int _ l=>match c with
     | .int _ c=>match P.info? e with
       | some inf=>match (cG P e).bind AV.row with
         | some z=>.req (H6 l c inf.bytes) (cond (Nat.beq (iu z) inf.size) (.ok (.slc 0 nx 0 0 inf.size (fy l) (some (fy c)),.push (.row (xm z (fy c))))) .bad)
         | none=>.bad
       | none=>.bad
     | _=>.bad
   | _=>.bad
 | _=>.bad
theorem tY {P:Program} {nx:Nat} {t:TypeId} {l c:AV} {y:AV×Delta} (h:(nD P nx t l c).run=some y):iX P true nx t l c=some y:=by
 unfold nD at h
 unfold iX
 split at h
 · rename_i e hu
   split at h
   · split at h
     · split at h
       · rename_i inf hi
         split at h
         · rename_i z hz
           obtain ⟨hc,h⟩:=Tr.aH h
           obtain ⟨hl,h⟩:=Tr.aJ h
           rw[Au,decide_eq_true_eq] at hc
           rw[fg] at hl
           have hl:=Nat.eq_of_beq_eq_true hl
           rw[hu]
           dsimp only
           rw[hi,hz]
           dsimp only
           rw[if_pos ⟨hc.1,hc.2.1,hc.2.2.1,hc.2.2.2,hl⟩,← Tr.ab h,vD,qi,qi]
           rfl
         · exact (Tr.ae h).elim
       · exact (Tr.ae h).elim
     · exact (Tr.ae h).elim
   · exact (Tr.ae h).elim
 · exact (Tr.ae h).elim

def hv (x:AV×Delta):Tr (HV×Delta):=.ok ((x.1,none),x.2)
theorem Bu {x:AV×Delta} {y:HV×Delta} (h:(hv x).run=some y):y.1.1=x.1∧y.2=x.2:=by
 have:=Tr.ab h
 rw[← this]
 exact ⟨rfl,rfl⟩
def sH (l:List AV):List HV:=nG (fun x=>(x,none)) l
theorem nm:∀ l:List AV,qX (sH l)=l
 | []=>rfl
 | x::l=>by
   have e:qX (sH (x::l))=x::qX (sH l):=rfl
   rw[e,nm l]
theorem vI:∀ a b:List HV,qX (mS a b)=qX a++qX b
 | [],b=>rfl
 | x::a,b=>by
   have e:qX (mS (x::a) b)=x.1::qX (mS a b):=rfl
   rw[e,vI a b];rfl
def yQ (fr:aE) (l:List Operand):List HV:=nG (fun x=>bZ fr x) l
theorem sN (fr:aE):∀ l,qX (yQ fr l)=jI (strip fr) l
 | []=>rfl
 | x::l=>by
   have e:qX (yQ fr (x::l))=(bZ fr x).1::qX (yQ fr l):=rfl
   rw[e,sN fr l,aL];rfl
def HG   (P:Program) (H:aa) (t:TypeId) (m key x:AV):Tr Delta :=
 match P.underlying t with
 | some (.map kt _)=>match m with
   | .map d i=>cond (au H d) .bad (cond (jH P kt key) (match aq H d i with
     | (0,.fmap q h g c)=>match tT q key with
       | some n=>match yN x with
         | some y=>.ok (.set d i (0,.fmap q (mg h n true) (mi g n y) (rX (h n) c)))
         | none=>.bad
       | none=>.bad
     | _=>.bad) .bad)
   | _=>.bad
 | _=>.bad
def IX (P:Program) (H:aa) (t:TypeId) (m key:AV):Tr Delta :=
 match P.underlying t with
 | some (.map kt _)=>match m with
   | .map d i=>cond (au H d) .bad (cond (jH P kt key) (match aq H d i with
     | (0,.fmap q h g c)=>match tT q key with
       | some n=>.ok (.set d i (0,.fmap q (mg h n false) (mi g n 0) (uA (h n) c)))
       | none=>.bad
     | _=>.bad) .bad)
   | _=>.bad
 | _=>.bad
def Jm (fr:aE):Option Operand→Bool
 | none=>true
 | some y=>isLit (bZ fr y)
theorem lK {α:Type} {b:Bool} {s t:Tr α} {x:α} (h:(cond b s t).run=some x):b=true∧s.run=some x∨b=false∧t.run=some x:=by
 cases b
 · exact .inr ⟨rfl,h⟩
 · exact .inl ⟨rfl,h⟩
theorem Cn {P:Program} {H:aa} {t:TypeId} {m key x:AV} {δ:Delta} (h:(HG P H t m key x).run=some δ):jD P H t m key x=some δ:=by
 unfold HG at h
 unfold jD
 split at h
 · rename_i kt et hu
   rw[hu]
   split at h
   · rename_i d i
     dsimp only
     rcases lK h with ⟨_,h⟩ | ⟨h1,h⟩
     · exact (Tr.ae h).elim
     · rcases lK h with ⟨h2,h⟩ | ⟨_,h⟩
       · rw[if_neg (by rw[h1];simp),if_pos h2]
         split at h
         · rename_i q f g c hg
           rw[hg]
           try dsimp only
           split at h
           · rename_i n hn
             split at h
             · rename_i y hy
               simp only[hn,hy,← Tr.ab h,zj,zn,xA]
             · exact (Tr.ae h).elim
           · exact (Tr.ae h).elim
         · exact (Tr.ae h).elim
       · exact (Tr.ae h).elim
   · exact (Tr.ae h).elim
 · exact (Tr.ae h).elim
theorem Gh {P:Program} {H:aa} {t:TypeId} {m key:AV} {δ:Delta} (h:(IX P H t m key).run=some δ):oo P H t m key=some (.tup [],δ):=by
 unfold IX at h
 unfold oo
 split at h
 · rename_i kt et hu
   rw[hu]
   split at h
   · rename_i d i
     dsimp only
     rcases lK h with ⟨_,h⟩ | ⟨h1,h⟩
     · exact (Tr.ae h).elim
     · rcases lK h with ⟨h2,h⟩ | ⟨_,h⟩
       · rw[if_neg (by rw[h1];simp),if_pos h2]
         split at h
         · rename_i q f g c hg
           rw[hg]
           try dsimp only
           split at h
           · rename_i n hn
             simp only[hn,← Tr.ab h,zj,zn,xB]
           · exact (Tr.ae h).elim
         · exact (Tr.ae h).elim
       · exact (Tr.ae h).elim
   · exact (Tr.ae h).elim
 · exact (Tr.ae h).elim
def zZ (P:Program) (call:aQ) (callR:bE) (fr:aE) (H:aa) (nx:Nat) (c:Call):Tr (HV×Delta) :=
 match c.callee with
 | .value f=>match (bZ fr f).1 with
   | .fn (.func g) a b=>(callR (.fn g) (mS (sH a) (mS (yQ fr c.args.toList) (sH b))) H).bind fun x=>.ok (x.1,.heap x.2)
   | .yld d i=>(callR (.round d i) (yQ fr c.args.toList) H).bind fun x=>.ok (x.1,.heap x.2)
   | _=>.bad
 | .builtin .len=>match c.args.toList,c.argTypes.toList with
   | x::_,t::_=>(GJ P H t (bZ fr x)).bind fun v=>.ok (v,.aZ)
   | _,_=>.bad
 | .builtin .append=>match c.args.toList,c.argTypes.toList with
   | s::x::_,t::u::_=>(ob P H nx t u (bZ fr s).1 (bZ fr x).1).bind hv
   | _,_=>.bad
 | .builtin .copy=>match c.args.toList,c.argTypes.toList with
   | s::x::_,t::_=>(D5 P H t (bZ fr s).1 (bZ fr x).1).bind hv
   | _,_=>.bad
 | .builtin .clear=>match c.args.toList,c.argTypes.toList with
   | s::_,t::_=>(z5 P H t (bZ fr s).1).bind hv
   | _,_=>.bad
 | .builtin .min=>match yR fr c.args.toList with
   | .int k x::r=>(o5 false k x r).bind fun v=>.ok ((v,none),.aZ)
   | _=>.bad
 | .builtin .max=>match yR fr c.args.toList with
   | .int k x::r=>(o5 true k x r).bind fun v=>.ok ((v,none),.aZ)
   | _=>.bad
 | .builtin .delete=>match c.args.toList,c.argTypes.toList with
   | m::k::_,t::_=>(IX P H t (bZ fr m).1 (bZ fr k).1).bind fun δ=>.ok ((.tup [],none),δ)
   | _,_=>.bad
 | _=>(vi (fz P call (strip fr) H nx c)).bind hv
theorem Cz {P:Program} {call:aQ} {callR:bE} (hC:callR.Ok call) {fr:aE} {H:aa} {nx:Nat} {c:Call} {y:HV×Delta} (h:(zZ P call callR fr H nx c).run=some y):fz P call (strip fr) H nx c=some (y.1.1,y.2):=by
 have dflt:∀ (t:Tr (AV×Delta)),(t.bind hv).run=some y→t.run=some (y.1.1,y.2):=by
  intro t ht
  obtain ⟨x,h1,h2⟩:=Tr.bind_some ht
  obtain ⟨e1,e2⟩:=Bu h2
  rw[h1,e1,e2]
 unfold zZ at h
 split at h
 · rename_i f hf
   unfold fz
   rw[hf]
   dsimp only
   rw[aL] at h
   split at h
   · rename_i g a b ho
     obtain ⟨x,h1,h⟩:=Tr.bind_some h
     rw[ho]
     dsimp only
     have:=hC.2 _ _ _ _ h1
     rw[vI,vI,nm,nm,sN] at this
     rw[this,← Tr.ab h];rfl
   · rename_i d i ho
     obtain ⟨x,h1,h⟩:=Tr.bind_some h
     rw[ho]
     dsimp only
     have:=hC.2 _ _ _ _ h1
     rw[sN] at this
     rw[this,← Tr.ab h];rfl
   · exact (Tr.ae h).elim
 · rename_i hf
   unfold fz
   rw[hf]
   dsimp only
   split at h
   · rename_i x _ t _ hx ht
     obtain ⟨v,h1,h⟩:=Tr.bind_some h
     rw[hx,ht]
     dsimp only
     have:=GK h1
     rw[aL] at this
     obtain ⟨n,k1,k2⟩:=Option.map_eq_some_iff.1 this
     rw[k1,← Tr.ab h,← k2];rfl
   · exact (Tr.ae h).elim
 · rename_i hf
   unfold fz
   rw[hf]
   dsimp only
   split at h
   · rename_i s x _ t u _ hx ht
     rw[hx,ht]
     dsimp only
     have h:=zU (dflt _ h)
     rw[aL,aL] at h
     rw[mP hC.1]
     exact h
   · exact (Tr.ae h).elim
 · rename_i hf
   unfold fz
   rw[hf]
   dsimp only
   split at h
   · rename_i s x _ t _ hx ht
     rw[hx,ht]
     dsimp only
     have h:=D6 (dflt _ h)
     rw[aL,aL] at h
     exact h
   · exact (Tr.ae h).elim
 · rename_i hf
   unfold fz
   rw[hf]
   dsimp only
   split at h
   · rename_i s _ t _ hx ht
     rw[hx,ht]
     dsimp only
     have h:=CB (dflt _ h)
     rw[aL] at h
     exact h
   · exact (Tr.ae h).elim
 · rename_i hf
   unfold fz
   rw[hf]
   dsimp only
   rw[sO] at h
   split at h
   · rename_i k x r hx
     obtain ⟨v,h1,h⟩:=Tr.bind_some h
     rw[hx]
     dsimp only[nI]
     rw[nJ _ _ _ h1,← Tr.ab h];rfl
   · exact (Tr.ae h).elim
 · rename_i hf
   unfold fz
   rw[hf]
   dsimp only
   rw[sO] at h
   split at h
   · rename_i k x r hx
     obtain ⟨v,h1,h⟩:=Tr.bind_some h
     rw[hx]
     dsimp only[nI]
     rw[nJ _ _ _ h1,← Tr.ab h];rfl
   · exact (Tr.ae h).elim
 · rename_i hf
   unfold fz
   rw[hf]
   dsimp only
   split at h
   · rename_i m k _ t _ hx ht
     rw[hx,ht]
     dsimp only
     obtain ⟨δ,h1,h⟩:=Tr.bind_some h
     have h1:=Gh h1
     rw[aL,aL] at h1
     rw[h1,← Tr.ab h]
   · exact (Tr.ae h).elim
 · have h:=dflt _ h
   rw[cR] at h;exact h

def IK (P:Program) (op:BinOp) (t:TypeId) (x y:HV):Tr HV :=
 cond (isLit x && isLit y) (match x.1,y.1 with
  | .int k a,.int k' b=>(vi (A9 P op t (.int k a) (.int k' b))).bind fun v=>.ok (v,some 1)
  | a,b=>(DS P op t a b).bind fun v=>.ok (v,none))
 ((DS P op t x.1 y.1).bind fun v=>.ok (v,none))
theorem F5 {P:Program} {op:BinOp} {t:TypeId} {x y v:HV} (h:(IK P op t x y).run=some v):jP P op t x.1 y.1=some v.1:=by
 have gen:∀ a b,((DS P op t a b).bind fun v=>Tr.ok ((v,none):HV)).run=some v→jP P op t a b=some v.1:=by
  intro a b h
  obtain ⟨u,h1,h⟩:=Tr.bind_some h
  rw[F6 h1,← Tr.ab h]
 unfold IK at h
 cases hb:isLit x && isLit y with
 | false=>rw[hb,cond_false] at h;exact gen _ _ h
 | true =>
   rw[hb,cond_true] at h
   split at h
   · rename_i k a k' b hx hy
     obtain ⟨u,h1,h⟩:=Tr.bind_some h
     rw[cR,rP] at h1
     rw[hx,hy,h1,← Tr.ab h]
   · exact gen _ _ h

def oX (fr:aE) (l:List (Nat×Operand)):List (Nat×AV):=nG (fun p=>(p.1,(bZ fr p.2).1)) l
theorem nE (fr:aE):∀ l,oX fr l=dM (strip fr) l
 | []=>rfl
 | (i,x)::l=>by
   have e:oX fr ((i,x)::l)=(i,(bZ fr x).1)::oX fr l:=rfl
   rw[e,nE fr l,aL];rfl
def Lm (op:Op):Oper→Program→aQ→bE→aE→aa→Nat→Tr (HV×Delta) :=
 match op with
 | .move x=>fun _ _ _ _ fr _ _=>.ok (bZ fr x,.aZ)
 | .assign x=>fun _ _ _ _ fr _ _=>.ok (bZ fr x,.aZ)
 | .pick c a b=>fun _ _ _ _ fr _ _=>match bZ fr c with
   | (.bool t,none)=>.ite t (.ok (bZ fr a,.aZ)) (.ok (bZ fr b,.aZ))
   | (.bool t,some _)=>cond t (.ok (bZ fr a,.aZ)) (.ok (bZ fr b,.aZ))
   | _=>.bad
 | .alloc t=>fun _ P _ _ _ _ nx=>match (cG P t).bind AV.row with
   | some z=>.ok ((.ptr 0 nx 0 0,none),.push (.row (jh z)))
   | none=>.bad
 | .box _ x=>fun _ _ _ _ fr _ nx=>match (bZ fr x).1.row with
   | some r=>.ok ((.ptr 0 nx 0 0,none),.push (.row (jh r)))
   | none=>.bad
 | .build t parts=>fun _ P _ _ fr _ _=>(vi (vJ P true t (oX fr parts.toList))).bind fun v=>.ok ((v,none),.aZ)
 | .buildSlice t len parts=>fun _ P _ _ fr _ nx=>(vi (jn P nx t len (oX fr parts.toList))).bind fun x=>.ok ((x.1,some 1),x.2)
 | .load t a=>fun _ P _ _ fr H _=>(loadT P H t (bZ fr a)).bind fun v=>.ok ((v,none),.aZ)
 | .store t a x=>fun _ P _ _ fr H _=>(storeT P H t (bZ fr a) (bZ fr x).1).bind fun δ=>.ok ((.tup [],none),δ)
 | .nilCheck x=>fun _ _ _ _ fr _ _=>match (bZ fr x).1 with
   | .ptr d i v off=>.ok (bZ fr x,.aZ)
   | .ptrT s r off=>.ok (bZ fr x,.aZ)
   | _=>.bad
 | .binOp op t x y _=>fun _ P _ _ fr _ _=>(IK P op t (bZ fr x) (bZ fr y)).bind fun v=>.ok (v,.aZ)
 | .unOp op _ x=>fun _ _ _ _ fr _ _=>match op,bZ fr x with
   | .not,(.bool b,some _)=>.ok ((.bool (cond b false true),some 1),.aZ)
   | op,x=>(OX op x.1).bind fun v=>.ok ((v,none),.aZ)
 | .convert src dst x=>fun _ P _ _ fr _ _=>match P.underlying src with
   | some _=>match P.underlying dst with
     | some (.int k)=>match bZ fr x with
       | (.int _ n,none)=>.ok ((.int k (tE k n),none),.aZ)
       | (.int _ n,some _)=>.ok ((.int k (vC k n),some 1),.aZ)
       | _=>.bad
     | _=>.bad
   | none=>.bad
 | .makeSlice t l c=>fun _ P _ _ fr _ nx=>(nD P nx t (bZ fr l).1 (bZ fr c).1).bind hv
 | .slice t x lo hi mx=>fun _ P _ _ fr _ _=>cond (isLit (bZ fr x) && (Jm fr lo && (Jm fr hi && Jm fr mx)))
   ((vi (qh P t (bZ fr x).1 (lo.map fun y=>(bZ fr y).1) (hi.map fun y=>(bZ fr y).1) (mx.map fun y=>(bZ fr y).1))).bind fun v=>.ok ((v,some 1),.aZ))
   ((AJ P t (bZ fr x).1 (lo.map fun y=>(bZ fr y).1) (hi.map fun y=>(bZ fr y).1) (mx.map fun y=>(bZ fr y).1)).bind fun v=>.ok ((v,none),.aZ))
 | .fieldAddr t x f=>fun _ P _ _ fr _ _=>(nv P t (bZ fr x) f).bind fun v=>.ok (v,.aZ)
 | .field t x f=>fun _ P _ _ fr _ _=>(vi (sc P t (bZ fr x).1 f)).bind fun v=>.ok ((v,none),.aZ)
 | .indexAddr t x i=>fun _ P _ _ fr _ _=>match (bZ fr i).1 with
   | .int _ n=>(I8 P t (bZ fr x) (isLit (bZ fr i)) n).bind fun v=>.ok (v,.aZ)
   | _=>.bad
 | .index t x i=>fun _ P _ _ fr _ _=>match (bZ fr i).1 with
   | .int _ n=>(MW P t (bZ fr x).1 (isLit (bZ fr i)) n).bind fun v=>.ok ((v,none),.aZ)
   | _=>.bad
 | .extract t ix=>fun _ _ _ _ fr _ _=>match (bZ fr t).1 with
   | .tup l=>match xU l ix with
     | some v=>.ok ((v,none),.aZ)
     | none=>.bad
   | _=>.bad
 | .call c=>fun _ P call callR fr H nx=>zZ P call callR fr H nx c
 | .makeMap t r=>fun _ P _ _ _ _ nx=>match r with
   | none=>.ok ((.map 0 nx,none),.push (sG P t))
   | some _=>.bad
 | .mapUpdate t m k x=>fun _ P _ _ fr H _=>(HG P H t (bZ fr m).1 (bZ fr k).1 (bZ fr x).1).bind fun δ=>.ok ((.tup [],none),δ)
 | .insert t m k x=>fun _ P _ _ fr H _=>(HG P H t (bZ fr m).1 (bZ fr k).1 (bZ fr x).1).bind fun δ=>.ok ((.tup [],none),δ)
 | _=>fun o P call _ fr H nx=>(vi (evalOp P call (strip fr) H nx o)).bind hv
theorem Az {o:Oper} {P:Program} {call:aQ} {callR:bE} (hC:callR.Ok call) {fr:aE} {H:aa} {nx:Nat} {y:HV×Delta} (h:(Lm o.op o P call callR fr H nx).run=some y):evalOp P call (strip fr) H nx o=some (y.1.1,y.2):=by
 have dflt:∀ (t:Tr (AV×Delta)),(t.bind hv).run=some y→t.run=some (y.1.1,y.2):=by
  intro t ht
  obtain ⟨x,h1,h2⟩:=Tr.bind_some ht
  obtain ⟨e1,e2⟩:=Bu h2
  rw[h1,e1,e2]
 have dkp:∀ (t:Tr AV),(t.bind fun v=>Tr.ok (((v,none),.aZ):HV×Delta)).run=some y→t.run=some y.1.1∧y.2=.aZ:=by
  intro t ht
  obtain ⟨x,h1,h2⟩:=Tr.bind_some ht
  rw[h1,← Tr.ab h2];exact ⟨rfl,rfl⟩
 have kpe:∀ {o:Option AV} {v:AV},o=some v→kp o=some (v,.aZ):=by rintro o v rfl;rfl
 cases ho:o.op<;>rw[ho] at h<;>simp only[Lm] at h
 case move x =>
  unfold evalOp;rw[ho];dsimp only
  rw[← Tr.ab h,← aL]
 case assign x =>
  unfold evalOp;rw[ho];dsimp only
  rw[← Tr.ab h,← aL]
 case pick c a b =>
  unfold evalOp;rw[ho];dsimp only
  have hc':=aL fr c
  split at h
  · rename_i t hc
    rw[hc] at hc'
    rw[← hc']
    dsimp only
    rcases Tr.gd h with ⟨rfl,h⟩ | ⟨rfl,h⟩<;>rw[← Tr.ab h,← aL,← aL]<;>rfl
  · rename_i t n hc
    rw[hc] at hc'
    rw[← hc']
    dsimp only
    cases t with
    | true=>rw[cond_true] at h;rw[← Tr.ab h,← aL,← aL];rfl
    | false=>rw[cond_false] at h;rw[← Tr.ab h,← aL,← aL];rfl
  · exact (Tr.ae h).elim
 case alloc t =>
  unfold evalOp;rw[ho];dsimp only
  split at h
  · rename_i z hz
    rw[hz,← Tr.ab h,Option.map_some,mP hC.1]
  · exact (Tr.ae h).elim
 case box t x =>
  unfold evalOp;rw[ho];dsimp only
  rw[aL] at h
  split at h
  · rename_i z hz
    rw[hz,← Tr.ab h,Option.map_some,mP hC.1]
  · exact (Tr.ae h).elim
 case build t parts =>
  unfold evalOp;rw[ho];dsimp only
  obtain ⟨h1,h2⟩:=dkp _ h
  rw[cR,nE] at h1
  rw[mP hC.1,kpe h1,h2]
 case buildSlice t len parts =>
  unfold evalOp;rw[ho];dsimp only
  obtain ⟨x,h1,h⟩:=Tr.bind_some h
  rw[cR,nE] at h1
  rw[h1,← Tr.ab h]
 case load t a =>
  unfold evalOp;rw[ho];dsimp only
  obtain ⟨h1,h2⟩:=dkp _ h
  have h1:=yv h1
  rw[aL] at h1
  rw[kpe h1,h2]
 case store t a x =>
  unfold evalOp;rw[ho];dsimp only
  obtain ⟨δ,h1,h⟩:=Tr.bind_some h
  have h1:=Dw h1
  rw[aL,aL] at h1
  rw[h1,← Tr.ab h];rfl
 case nilCheck x =>
  unfold evalOp;rw[ho];dsimp only
  rw[← aL]
  split at h
  · rename_i d i v off hx
    rw[hx,← Tr.ab h,hx]
  · rename_i s r off hx
    rw[hx,← Tr.ab h,hx]
  · exact (Tr.ae h).elim
 case binOp op t x y' g =>
  unfold evalOp;rw[ho];dsimp only
  obtain ⟨v,h1,h⟩:=Tr.bind_some h
  have h1:=F5 h1
  rw[aL,aL] at h1
  rw[kpe h1,← Tr.ab h]
 case unOp op t x =>
  unfold evalOp;rw[ho];dsimp only
  split at h
  · rename_i b n hx
    have:bH (strip fr) x=.bool b:=by rw[← aL,hx]
    rw[this,← Tr.ab h]
    cases b<;>rfl
  · obtain ⟨h1,h2⟩:=dkp _ h
    have h1:=J0 h1
    rw[aL] at h1
    rw[kpe h1,h2]
 case convert s d x =>
  unfold evalOp;rw[ho];dsimp only
  split at h
  · rename_i u hu
    split at h
    · rename_i k hk
      have hx:=aL fr x
      split at h
      · rename_i n hn
        rw[hn] at hx
        rw[hu,hk,← hx]
        dsimp only
        rw[← Tr.ab h,AT]
      · rename_i n _ hn
        rw[hn] at hx
        rw[hu,hk,← hx]
        dsimp only
        rw[← Tr.ab h,tz]
      · exact (Tr.ae h).elim
    · exact (Tr.ae h).elim
  · exact (Tr.ae h).elim
 case makeSlice t l c =>
  unfold evalOp;rw[ho];dsimp only
  have h1:=tY (dflt _ h)
  rw[aL,aL] at h1
  rw[mP hC.1]
  exact h1
 case slice t x lo hi mx =>
  unfold evalOp;rw[ho];dsimp only
  have e:∀ z:Option Operand,(z.map fun y=>(bZ fr y).1)=z.map (bH (strip fr)):=by
   intro z;cases z<;>simp[aL]
  rcases lK h with ⟨_,h⟩ | ⟨_,h⟩
  · obtain ⟨v,h1,h2⟩:=Tr.bind_some h
    rw[cR,aL,e,e,e] at h1
    rw[kpe h1,← Tr.ab h2]
  · obtain ⟨h1,h2⟩:=dkp _ h
    have h1:=Dr h1
    rw[aL] at h1
    rw[e,e,e] at h1
    rw[kpe h1,h2]
 case fieldAddr t x f =>
  unfold evalOp;rw[ho];dsimp only
  obtain ⟨v,h1,h⟩:=Tr.bind_some h
  have h1:=tM h1
  rw[aL] at h1
  rw[kpe h1,← Tr.ab h]
 case field t x f =>
  unfold evalOp;rw[ho];dsimp only
  obtain ⟨h1,h2⟩:=dkp _ h
  rw[cR,aL] at h1
  rw[kpe h1,h2]
 case index t x i =>
  unfold evalOp;rw[ho];dsimp only
  rw[aL] at h
  split at h
  · rename_i k n hn
    obtain ⟨v,h1,h⟩:=Tr.bind_some h
    have h1:=Je h1
    rw[aL] at h1
    rw[hn]
    dsimp only
    rw[kpe h1,← Tr.ab h]
  · exact (Tr.ae h).elim
 case indexAddr t x i =>
  unfold evalOp;rw[ho];dsimp only
  rw[aL] at h
  split at h
  · rename_i k n hn
    obtain ⟨v,h1,h⟩:=Tr.bind_some h
    have h1:=Gw h1
    rw[aL] at h1
    rw[hn]
    dsimp only
    rw[kpe h1,← Tr.ab h]
  · exact (Tr.ae h).elim
 case extract t ix =>
  unfold evalOp;rw[ho];dsimp only
  rw[aL] at h
  split at h
  · rename_i l hl
    rw[hl]
    dsimp only
    rw[kL] at h
    split at h
    · rename_i v hv'
      rw[hv',← Tr.ab h]
    · exact (Tr.ae h).elim
  · exact (Tr.ae h).elim
 case call c =>
  unfold evalOp;rw[ho];dsimp only
  exact Cz hC h
 case makeMap t r =>
  unfold evalOp;rw[ho];try dsimp only
  cases r with
  | none =>
    dsimp only at h ⊢
    rw[mP hC.1,← Tr.ab h]
  | some r=>exact (Tr.ae h).elim
 case mapUpdate t m k x =>
  unfold evalOp;rw[ho];dsimp only
  obtain ⟨δ,h1,h⟩:=Tr.bind_some h
  have h1:=Cn h1
  rw[aL,aL,aL] at h1
  rw[h1,← Tr.ab h];rfl
 case insert t m k x =>
  unfold evalOp;rw[ho];dsimp only
  obtain ⟨δ,h1,h⟩:=Tr.bind_some h
  have h1:=Cn h1
  rw[aL,aL,aL] at h1
  rw[h1,← Tr.ab h];rfl
 all_goals
  have h1:=dflt _ h
  rw[cR] at h1
  exact h1

end
end Go.Eng
