/- The engine as a tree: the other builtins; operations. -/
import Derived.Test.YtgphpjdchnfjlaaDoorV1EngTcx2
set_option linter.unusedVariables false
set_option linter.unusedSimpArgs false
namespace Go.Eng
noncomputable section

abbrev aQ:=Gw→List HV→aa→Tr (HV×aa)
def oh (l:List HV):List AV:=ku (fun x=>x.1) l
def aQ.Ok (c:aQ) (call:ak):Prop:=(∃ x,call .mode [] []=some x)∧∀ tgt args H x,(c tgt args H).run=some x→call tgt (oh args) H=some (x.1.1,x.2)
theorem jS {α:Type} {call:ak} (h:∃ x,call .mode [] []=some x) (a b:α):iR call a b=a:=by
 obtain ⟨x,h⟩:=h
 unfold iR
 rw[h]

def BI (P:Program) (H:aa) (t:TypeId) (x:HV):Tr HV :=
 match P.underlying t with
 | some (.slice _)=>match x.1 with
   | .nils=>.ok (.int .i64 (Int.ofNat 0),some 1)
   | .slc _ _ _ _ _ len _=>.ok (.int .i64 (Int.ofNat len),x.2)
   | .slcT _ _ _ len _=>.ok (.int .i64 (Int.ofNat len),x.2)
   | _=>.bad
 | some (.array n _)=>.ok (.int .i64 (Int.ofNat n),some 1)
 | _=>(ri ((qq P H t x.1).map fun n=>AV.int .i64 n)).bind fun v=>.ok (v,none)
theorem BJ {P:Program} {H:aa} {t:TypeId} {x v:HV} (h:(BI P H t x).run=some v):(qq P H t x.1).map (AV.int .i64)=some v.1:=by
 unfold BI at h
 split at h
 · rename_i e hu
   unfold qq
   rw[hu]
   split at h
   · rename_i hx;rw[hx,← Tr.ab h];rfl
   · rename_i hx;rw[hx,← Tr.ab h];rfl
   · rename_i hx;rw[hx,← Tr.ab h];rfl
   · exact (Tr.ad h).elim
 · rename_i hu
   unfold qq
   rw[hu,← Tr.ab h];rfl
 · obtain ⟨u,h1,h⟩:=Tr.bind_some h
   rw[bz] at h1
   rw[h1,← Tr.ab h]
def zn    (P:Program) (H:aa) (t:TypeId) (s x:AV):Tr (AV×Delta) :=
 match P.underlying t with
 | some (.slice e)=>match aI P e with
   | some z=>match ki x with
     | some n=>match s with
       | .slc d i v off sz m cap=>(ot H z (BN n m) x).bind fun new=>cond (dw H d) .bad ((sc H d i v (some 0)).bind fun r=>cond (Nat.beq sz z) (match r with
          | .M l=>(Aq l off none (fP d new)).bind fun r'=>.ok (.int .i64 (Int.ofNat (BN n m)),.set d i (v,.row r'))
          | _=>.bad) .bad)
       | _=>.bad
     | none=>.bad
   | none=>.bad
 | _=>.bad
theorem zo {P:Program} {H:aa} {t:TypeId} {s x:AV} {y:AV×Delta} (h:(zn P H t s x).run=some y):copyV P H t s x=some y:=by
 unfold zn at h
 unfold copyV
 split at h
 · rename_i e hu
   split at h
   · rename_i z hs
     split at h
     · rename_i n hn
       split at h
       · rename_i d i v off sz m cap _ _
         obtain ⟨new,h1,h⟩:=Tr.bind_some h
         rw[ct] at h
         obtain ⟨hl,h⟩:=Tr.gA h
         obtain ⟨r,h2,h⟩:=Tr.bind_some h
         obtain ⟨hz,h⟩:=Tr.ay h
         have hz:=Nat.eq_of_beq_eq_true hz
         have hcv:=l7 h1
         rw[xe] at hcv
         have hcl:=ou hcv
         rw[hu]
         dsimp only
         rw[hs,hn]
         dsimp only[ki]
         rw[hcv]
         dsimp only
         rw[hl,if_neg (by simp),iD h2]
         dsimp only
         split at h
         · rename_i l _
           obtain ⟨r',h3,h⟩:=Tr.bind_some h
           obtain ⟨k1,k2⟩:=r7 h3
           rw[dm,hcl] at k1
           rw[if_pos ⟨hz,by rw[hz];exact k1⟩,k2,← Tr.ab h,xe]
           rfl
         · exact (Tr.ad h).elim
       · exact (Tr.ad h).elim
     · exact (Tr.ad h).elim
   · exact (Tr.ad h).elim
 · exact (Tr.ad h).elim
def so (z:Row) (n:Nat):Row :=
 match z with
 | .I k l=>cond (sv l) (.M [.arr k (fun _=>0) (fG n (fb l))]) (bW z n)
 | z=>bW z n
theorem rA (z:Row) (n:Nat):so z n=bW z n:=by
 cases z with
 | I k l =>
   simp only[so]
   cases h:sv l with
   | true=>simp only[cond_true,bW,h,if_true,bw,bN]
   | false=>rfl
 | _=>rfl
def vB (P:Program) (H:aa) (t:TypeId) (s:AV):Tr (AV×Delta) :=
 match P.underlying t with
 | some (.slice e)=>match s with
   | .slc d i v off sz len _=>cond (dw H d) .bad (match (bn P e).bind AV.row with
     | some z=>match aI P e with
       | some n=>cond (Nat.beq n sz) (cond (Nat.beq (eY z) sz) (.req (sq 0 len) ((sc H d i v (some 0)).bind fun r=>match r with
          | .M l=>(Aq l off none (so z len)).bind fun r'=>.ok (.tup [],.set d i (v,.row r'))
          | _=>.bad)) .bad) .bad
       | none=>.bad
     | none=>.bad)
   | _=>.bad
 | _=>.bad
theorem wq (z:Row) (n:Nat):(bW z n).len=n*z.len:=by
 have fn:∀ l:List AV,(zy l n).len=n*l.length:=by
  intro l
  unfold zy
  split
  · split<;>simp[Row.len,bZ]
  · simp[Row.len,bZ]
 cases z with
 | I k l=>simp only[bW];split<;>simp[Row.len,ai,ar,bZ]
 | _=>simp only[bW,fn,Row.aG]
theorem xX {P:Program} {H:aa} {t:TypeId} {s:AV} {y:AV×Delta} (h:(vB P H t s).run=some y):ow P H t s=some y:=by
 unfold vB at h
 unfold ow
 split at h
 · rename_i e hu
   split at h
   · rename_i d i v off sz len cap
     rw[ct] at h
     obtain ⟨hl,h⟩:=Tr.gA h
     split at h
     · rename_i z hz
       split at h
       · rename_i n hs
         obtain ⟨hn,h⟩:=Tr.ay h
         obtain ⟨hzl,h⟩:=Tr.ay h
         have hn:=Nat.eq_of_beq_eq_true hn
         rw[dj] at hzl
         have hzl:=Nat.eq_of_beq_eq_true hzl
         obtain ⟨h0,h⟩:=Tr.au h
         rw[eU,decide_eq_true_eq] at h0
         obtain ⟨r,h2,h⟩:=Tr.bind_some h
         rw[hu]
         dsimp only
         rw[hl,if_neg (by simp),hz,iD h2]
         dsimp only
         split at h
         · rename_i l _
           obtain ⟨r',h3,h⟩:=Tr.bind_some h
           obtain ⟨k1,k2⟩:=r7 h3
           rw[rA] at k1 k2
           rw[wq,hzl] at k1
           rw[if_pos ⟨hzl,by rw[hs,hn],k1⟩,← Tr.ab h]
           rw[if_neg (by omega)]
           simp only[s5,if_true]
           rw[← k2]
         · exact (Tr.ad h).elim
       · exact (Tr.ad h).elim
     · exact (Tr.ad h).elim
   · exact (Tr.ad h).elim
 · exact (Tr.ad h).elim
def kn (P:Program) (nx:Nat) (t:TypeId) (l c:AV):Tr (AV×Delta) :=
 match P.underlying t with
 | some (.slice e)=>match l with
   | .int _ l=>match c with
     | .int _ c=>match P.info? e with
       | some inf=>match (bn P e).bind AV.row with
         | some z=>.req (Fj l c inf.bytes) (cond (Nat.beq (eY z) inf.size) (.ok (.slc 0 nx 0 0 inf.size (vi l) (some (vi c)),.push (.row (so z (vi c))))) .bad)
         | none=>.bad
       | none=>.bad
     | _=>.bad
   | _=>.bad
 | _=>.bad
theorem qt {P:Program} {nx:Nat} {t:TypeId} {l c:AV} {y:AV×Delta} (h:(kn P nx t l c).run=some y):fD P true nx t l c=some y:=by
 unfold kn at h
 unfold fD
 split at h
 · rename_i e hu
   split at h
   · split at h
     · split at h
       · rename_i inf hi
         split at h
         · rename_i z hz
           obtain ⟨hc,h⟩:=Tr.au h
           obtain ⟨hl,h⟩:=Tr.ay h
           rw[vS,decide_eq_true_eq] at hc
           rw[dj] at hl
           have hl:=Nat.eq_of_beq_eq_true hl
           rw[hu]
           dsimp only
           rw[hi,hz]
           dsimp only
           rw[if_pos ⟨hc.1,hc.2.1,hc.2.2.1,hc.2.2.2,hl⟩,← Tr.ab h,rA,pQ,pQ]
           rfl
         · exact (Tr.ad h).elim
       · exact (Tr.ad h).elim
     · exact (Tr.ad h).elim
   · exact (Tr.ad h).elim
 · exact (Tr.ad h).elim

def hv (x:AV×Delta):Tr (HV×Delta):=.ok ((x.1,none),x.2)
theorem wU {x:AV×Delta} {y:HV×Delta} (h:(hv x).run=some y):y.1.1=x.1∧y.2=x.2:=by
 have:=Tr.ab h
 rw[← this]
 exact ⟨rfl,rfl⟩
def ph (l:List AV):List HV:=ku (fun x=>(x,none)) l
theorem j9:∀ l:List AV,oh (ph l)=l
 | []=>rfl
 | x::l=>by
   have e:oh (ph (x::l))=x::oh (ph l):=rfl
   rw[e,j9 l]
theorem rE:∀ a b:List HV,oh (jU a b)=oh a++oh b
 | [],b=>rfl
 | x::a,b=>by
   have e:oh (jU (x::a) b)=x.1::oh (jU a b):=rfl
   rw[e,rE a b];rfl
def tF (fr:aA) (l:List Operand):List HV:=ku (fun x=>a6 fr x) l
theorem pq (fr:aA):∀ l,oh (tF fr l)=gp (strip fr) l
 | []=>rfl
 | x::l=>by
   have e:oh (tF fr (x::l))=(a6 fr x).1::oh (tF fr l):=rfl
   rw[e,pq fr l,aB];rfl
def CG   (P:Program) (H:aa) (t:TypeId) (m key x:AV):Tr Delta :=
 match P.underlying t with
 | some (.map kt _)=>match m with
   | .map d i=>cond (an H d) .bad (cond (gm P kt key) (match ah H d i with
     | (0,.fmap q h g c)=>match qo q key with
       | some n=>match tD x with
         | some y=>.ok (.set d i (0,.fmap q (jA h n true) (jB g n y) (mV (h n) c)))
         | none=>.bad
       | none=>.bad
     | _=>.bad) .bad)
   | _=>.bad
 | _=>.bad
def DX (P:Program) (H:aa) (t:TypeId) (m key:AV):Tr Delta :=
 match P.underlying t with
 | some (.map kt _)=>match m with
   | .map d i=>cond (an H d) .bad (cond (gm P kt key) (match ah H d i with
     | (0,.fmap q h g c)=>match qo q key with
       | some n=>.ok (.set d i (0,.fmap q (jA h n false) (jB g n 0) (sB (h n) c)))
       | none=>.bad
     | _=>.bad) .bad)
   | _=>.bad
 | _=>.bad
def Ek (fr:aA):Option Operand→Bool
 | none=>true
 | some y=>isLit (a6 fr y)
theorem iY {α:Type} {b:Bool} {s t:Tr α} {x:α} (h:(cond b s t).run=some x):b=true∧s.run=some x∨b=false∧t.run=some x:=by
 cases b
 · exact .inr ⟨rfl,h⟩
 · exact .inl ⟨rfl,h⟩
theorem xN {P:Program} {H:aa} {t:TypeId} {m key x:AV} {δ:Delta} (h:(CG P H t m key x).run=some δ):gh P H t m key x=some δ:=by
 unfold CG at h
 unfold gh
 split at h
 · rename_i kt et hu
   rw[hu]
   split at h
   · rename_i d i
     dsimp only
     rcases iY h with ⟨_,h⟩ | ⟨h1,h⟩
     · exact (Tr.ad h).elim
     · rcases iY h with ⟨h2,h⟩ | ⟨_,h⟩
       · rw[if_neg (by rw[h1];simp),if_pos h2]
         split at h
         · rename_i q f g c hg
           rw[hg]
           try dsimp only
           split at h
           · rename_i n hn
             split at h
             · rename_i y hy
               simp only[hn,hy,← Tr.ab h,eN,eO,iX]
             · exact (Tr.ad h).elim
           · exact (Tr.ad h).elim
         · exact (Tr.ad h).elim
       · exact (Tr.ad h).elim
   · exact (Tr.ad h).elim
 · exact (Tr.ad h).elim
theorem Bp {P:Program} {H:aa} {t:TypeId} {m key:AV} {δ:Delta} (h:(DX P H t m key).run=some δ):kY P H t m key=some (.tup [],δ):=by
 unfold DX at h
 unfold kY
 split at h
 · rename_i kt et hu
   rw[hu]
   split at h
   · rename_i d i
     dsimp only
     rcases iY h with ⟨_,h⟩ | ⟨h1,h⟩
     · exact (Tr.ad h).elim
     · rcases iY h with ⟨h2,h⟩ | ⟨_,h⟩
       · rw[if_neg (by rw[h1];simp),if_pos h2]
         split at h
         · rename_i q f g c hg
           rw[hg]
           try dsimp only
           split at h
           · rename_i n hn
             simp only[hn,← Tr.ab h,eN,eO,oz]
           · exact (Tr.ad h).elim
         · exact (Tr.ad h).elim
       · exact (Tr.ad h).elim
   · exact (Tr.ad h).elim
 · exact (Tr.ad h).elim
def vw (P:Program) (call:ak) (callR:aQ) (fr:aA) (H:aa) (nx:Nat) (c:Call):Tr (HV×Delta) :=
 match c.callee with
 | .value f=>match (a6 fr f).1 with
   | .fn (.func g) a b=>(callR (.fn g) (jU (ph a) (jU (tF fr c.args.toList) (ph b))) H).bind fun x=>.ok (x.1,.heap x.2)
   | .yld d i=>(callR (.round d i) (tF fr c.args.toList) H).bind fun x=>.ok (x.1,.heap x.2)
   | _=>.bad
 | .builtin .len=>match c.args.toList,c.argTypes.toList with
   | x::_,t::_=>(BI P H t (a6 fr x)).bind fun v=>.ok (v,.aJ)
   | _,_=>.bad
 | .builtin .append=>match c.args.toList,c.argTypes.toList with
   | s::x::_,t::u::_=>(kT P H nx t u (a6 fr s).1 (a6 fr x).1).bind hv
   | _,_=>.bad
 | .builtin .copy=>match c.args.toList,c.argTypes.toList with
   | s::x::_,t::_=>(zn P H t (a6 fr s).1 (a6 fr x).1).bind hv
   | _,_=>.bad
 | .builtin .clear=>match c.args.toList,c.argTypes.toList with
   | s::_,t::_=>(vB P H t (a6 fr s).1).bind hv
   | _,_=>.bad
 | .builtin .min=>match tG fr c.args.toList with
   | .int k x::r=>(lC false k x r).bind fun v=>.ok ((v,none),.aJ)
   | _=>.bad
 | .builtin .max=>match tG fr c.args.toList with
   | .int k x::r=>(lC true k x r).bind fun v=>.ok ((v,none),.aJ)
   | _=>.bad
 | .builtin .delete=>match c.args.toList,c.argTypes.toList with
   | m::k::_,t::_=>(DX P H t (a6 fr m).1 (a6 fr k).1).bind fun δ=>.ok ((.tup [],none),δ)
   | _,_=>.bad
 | _=>(ri (dC P call (strip fr) H nx c)).bind hv
theorem xW {P:Program} {call:ak} {callR:aQ} (hC:callR.Ok call) {fr:aA} {H:aa} {nx:Nat} {c:Call} {y:HV×Delta} (h:(vw P call callR fr H nx c).run=some y):dC P call (strip fr) H nx c=some (y.1.1,y.2):=by
 have dflt:∀ (t:Tr (AV×Delta)),(t.bind hv).run=some y→t.run=some (y.1.1,y.2):=by
  intro t ht
  obtain ⟨x,h1,h2⟩:=Tr.bind_some ht
  obtain ⟨e1,e2⟩:=wU h2
  rw[h1,e1,e2]
 unfold vw at h
 split at h
 · rename_i f hf
   unfold dC
   rw[hf]
   dsimp only
   rw[aB] at h
   split at h
   · rename_i g a b ho
     obtain ⟨x,h1,h⟩:=Tr.bind_some h
     rw[ho]
     dsimp only
     have:=hC.2 _ _ _ _ h1
     rw[rE,rE,j9,j9,pq] at this
     rw[this,← Tr.ab h];rfl
   · rename_i d i ho
     obtain ⟨x,h1,h⟩:=Tr.bind_some h
     rw[ho]
     dsimp only
     have:=hC.2 _ _ _ _ h1
     rw[pq] at this
     rw[this,← Tr.ab h];rfl
   · exact (Tr.ad h).elim
 · rename_i hf
   unfold dC
   rw[hf]
   dsimp only
   split at h
   · rename_i x _ t _ hx ht
     obtain ⟨v,h1,h⟩:=Tr.bind_some h
     rw[hx,ht]
     dsimp only
     have:=BJ h1
     rw[aB] at this
     obtain ⟨n,k1,k2⟩:=Option.map_eq_some_iff.1 this
     rw[k1,← Tr.ab h,← k2];rfl
   · exact (Tr.ad h).elim
 · rename_i hf
   unfold dC
   rw[hf]
   dsimp only
   split at h
   · rename_i s x _ t u _ hx ht
     rw[hx,ht]
     dsimp only
     have h:=vq (dflt _ h)
     rw[aB,aB] at h
     rw[jS hC.1]
     exact h
   · exact (Tr.ad h).elim
 · rename_i hf
   unfold dC
   rw[hf]
   dsimp only
   split at h
   · rename_i s x _ t _ hx ht
     rw[hx,ht]
     dsimp only
     have h:=zo (dflt _ h)
     rw[aB,aB] at h
     exact h
   · exact (Tr.ad h).elim
 · rename_i hf
   unfold dC
   rw[hf]
   dsimp only
   split at h
   · rename_i s _ t _ hx ht
     rw[hx,ht]
     dsimp only
     have h:=xX (dflt _ h)
     rw[aB] at h
     exact h
   · exact (Tr.ad h).elim
 · rename_i hf
   unfold dC
   rw[hf]
   dsimp only
   rw[pr] at h
   split at h
   · rename_i k x r hx
     obtain ⟨v,h1,h⟩:=Tr.bind_some h
     rw[hx]
     dsimp only[ky]
     rw[kz _ _ _ h1,← Tr.ab h];rfl
   · exact (Tr.ad h).elim
 · rename_i hf
   unfold dC
   rw[hf]
   dsimp only
   rw[pr] at h
   split at h
   · rename_i k x r hx
     obtain ⟨v,h1,h⟩:=Tr.bind_some h
     rw[hx]
     dsimp only[ky]
     rw[kz _ _ _ h1,← Tr.ab h];rfl
   · exact (Tr.ad h).elim
 · rename_i hf
   unfold dC
   rw[hf]
   dsimp only
   split at h
   · rename_i m k _ t _ hx ht
     rw[hx,ht]
     dsimp only
     obtain ⟨δ,h1,h⟩:=Tr.bind_some h
     have h1:=Bp h1
     rw[aB,aB] at h1
     rw[h1,← Tr.ab h]
   · exact (Tr.ad h).elim
 · have h:=dflt _ h
   rw[bz] at h;exact h

def DL (P:Program) (op:BinOp) (t:TypeId) (x y:HV):Tr HV :=
 cond (isLit x && isLit y) (match x.1,y.1 with
  | .int k a,.int k' b=>(ri (wA P op t (.int k a) (.int k' b))).bind fun v=>.ok (v,some 1)
  | a,b=>(yX P op t a b).bind fun v=>.ok (v,none))
 ((yX P op t x.1 y.1).bind fun v=>.ok (v,none))
theorem Bc {P:Program} {op:BinOp} {t:TypeId} {x y v:HV} (h:(DL P op t x y).run=some v):gy P op t x.1 y.1=some v.1:=by
 have gen:∀ a b,((yX P op t a b).bind fun v=>Tr.ok ((v,none):HV)).run=some v→gy P op t a b=some v.1:=by
  intro a b h
  obtain ⟨u,h1,h⟩:=Tr.bind_some h
  rw[Bd h1,← Tr.ab h]
 unfold DL at h
 cases hb:isLit x && isLit y with
 | false=>rw[hb,cond_false] at h;exact gen _ _ h
 | true =>
   rw[hb,cond_true] at h
   split at h
   · rename_i k a k' b hx hy
     obtain ⟨u,h1,h⟩:=Tr.bind_some h
     rw[bz,oj] at h1
     rw[hx,hy,h1,← Tr.ab h]
   · exact gen _ _ h

def lA (fr:aA) (l:List (Nat×Operand)):List (Nat×AV):=ku (fun p=>(p.1,(a6 fr p.2).1)) l
theorem ko (fr:aA):∀ l,lA fr l=b8 (strip fr) l
 | []=>rfl
 | (i,x)::l=>by
   have e:lA fr ((i,x)::l)=(i,(a6 fr x).1)::lA fr l:=rfl
   rw[e,ko fr l,aB];rfl
def Ga (op:Op):Oper→Program→ak→aQ→aA→aa→Nat→Tr (HV×Delta) :=
 match op with
 | .move x=>fun _ _ _ _ fr _ _=>.ok (a6 fr x,.aJ)
 | .assign x=>fun _ _ _ _ fr _ _=>.ok (a6 fr x,.aJ)
 | .pick c a b=>fun _ _ _ _ fr _ _=>match a6 fr c with
   | (.bool t,none)=>.ite t (.ok (a6 fr a,.aJ)) (.ok (a6 fr b,.aJ))
   | (.bool t,some _)=>cond t (.ok (a6 fr a,.aJ)) (.ok (a6 fr b,.aJ))
   | _=>.bad
 | .alloc t=>fun _ P _ _ _ _ nx=>match (bn P t).bind AV.row with
   | some z=>.ok ((.ptr 0 nx 0 0,none),.push (.row (fS z)))
   | none=>.bad
 | .box _ x=>fun _ _ _ _ fr _ nx=>match (a6 fr x).1.row with
   | some r=>.ok ((.ptr 0 nx 0 0,none),.push (.row (fS r)))
   | none=>.bad
 | .build t parts=>fun _ P _ _ fr _ _=>(ri (rF P true t (lA fr parts.toList))).bind fun v=>.ok ((v,none),.aJ)
 | .buildSlice t len parts=>fun _ P _ _ fr _ nx=>(ri (fW P nx t len (lA fr parts.toList))).bind fun x=>.ok ((x.1,some 1),x.2)
 | .load t a=>fun _ P _ _ fr H _=>(loadT P H t (a6 fr a)).bind fun v=>.ok ((v,none),.aJ)
 | .store t a x=>fun _ P _ _ fr H _=>(storeT P H t (a6 fr a) (a6 fr x).1).bind fun δ=>.ok ((.tup [],none),δ)
 | .nilCheck x=>fun _ _ _ _ fr _ _=>match (a6 fr x).1 with
   | .ptr d i v off=>.ok (a6 fr x,.aJ)
   | .ptrT s r off=>.ok (a6 fr x,.aJ)
   | _=>.bad
 | .binOp op t x y _=>fun _ P _ _ fr _ _=>(DL P op t (a6 fr x) (a6 fr y)).bind fun v=>.ok (v,.aJ)
 | .unOp op _ x=>fun _ _ _ _ fr _ _=>match op,a6 fr x with
   | .not,(.bool b,some _)=>.ok ((.bool (cond b false true),some 1),.aJ)
   | op,x=>(IE op x.1).bind fun v=>.ok ((v,none),.aJ)
 | .convert src dst x=>fun _ P _ _ fr _ _=>match P.underlying src with
   | some _=>match P.underlying dst with
     | some (.int k)=>match a6 fr x with
       | (.int _ n,none)=>.ok ((.int k (IH k n),none),.aJ)
       | (.int _ n,some _)=>.ok ((.int k (rz k n),some 1),.aJ)
       | _=>.bad
     | _=>.bad
   | none=>.bad
 | .makeSlice t l c=>fun _ P _ _ fr _ nx=>(kn P nx t (a6 fr l).1 (a6 fr c).1).bind hv
 | .slice t x lo hi mx=>fun _ P _ _ fr _ _=>cond (isLit (a6 fr x) && (Ek fr lo && (Ek fr hi && Ek fr mx)))
   ((ri (mP P t (a6 fr x).1 (lo.map fun y=>(a6 fr y).1) (hi.map fun y=>(a6 fr y).1) (mx.map fun y=>(a6 fr y).1))).bind fun v=>.ok ((v,some 1),.aJ))
   ((wb P t (a6 fr x).1 (lo.map fun y=>(a6 fr y).1) (hi.map fun y=>(a6 fr y).1) (mx.map fun y=>(a6 fr y).1)).bind fun v=>.ok ((v,none),.aJ))
 | .fieldAddr t x f=>fun _ P _ _ fr _ _=>(kd P t (a6 fr x) f).bind fun v=>.ok (v,.aJ)
 | .field t x f=>fun _ P _ _ fr _ _=>(ri (oH P t (a6 fr x).1 f)).bind fun v=>.ok ((v,none),.aJ)
 | .indexAddr t x i=>fun _ P _ _ fr _ _=>match (a6 fr i).1 with
   | .int _ n=>(Eb P t (a6 fr x) (isLit (a6 fr i)) n).bind fun v=>.ok (v,.aJ)
   | _=>.bad
 | .index t x i=>fun _ P _ _ fr _ _=>match (a6 fr i).1 with
   | .int _ n=>(GN P t (a6 fr x).1 (isLit (a6 fr i)) n).bind fun v=>.ok ((v,none),.aJ)
   | _=>.bad
 | .extract t ix=>fun _ _ _ _ fr _ _=>match (a6 fr t).1 with
   | .tup l=>match sQ l ix with
     | some v=>.ok ((v,none),.aJ)
     | none=>.bad
   | _=>.bad
 | .call c=>fun _ P call callR fr H nx=>vw P call callR fr H nx c
 | .makeMap t r=>fun _ P _ _ _ _ nx=>match r with
   | none=>.ok ((.map 0 nx,none),.push (pg P t))
   | some _=>.bad
 | .mapUpdate t m k x=>fun _ P _ _ fr H _=>(CG P H t (a6 fr m).1 (a6 fr k).1 (a6 fr x).1).bind fun δ=>.ok ((.tup [],none),δ)
 | .insert t m k x=>fun _ P _ _ fr H _=>(CG P H t (a6 fr m).1 (a6 fr k).1 (a6 fr x).1).bind fun δ=>.ok ((.tup [],none),δ)
 | _=>fun o P call _ fr H nx=>(ri (evalOp P call (strip fr) H nx o)).bind hv
theorem vX {o:Oper} {P:Program} {call:ak} {callR:aQ} (hC:callR.Ok call) {fr:aA} {H:aa} {nx:Nat} {y:HV×Delta} (h:(Ga o.op o P call callR fr H nx).run=some y):evalOp P call (strip fr) H nx o=some (y.1.1,y.2):=by
 have dflt:∀ (t:Tr (AV×Delta)),(t.bind hv).run=some y→t.run=some (y.1.1,y.2):=by
  intro t ht
  obtain ⟨x,h1,h2⟩:=Tr.bind_some ht
  obtain ⟨e1,e2⟩:=wU h2
  rw[h1,e1,e2]
 have dkp:∀ (t:Tr AV),(t.bind fun v=>Tr.ok (((v,none),.aJ):HV×Delta)).run=some y→t.run=some y.1.1∧y.2=.aJ:=by
  intro t ht
  obtain ⟨x,h1,h2⟩:=Tr.bind_some ht
  rw[h1,← Tr.ab h2];exact ⟨rfl,rfl⟩
 have kpe:∀ {o:Option AV} {v:AV},o=some v→kp o=some (v,.aJ):=by rintro o v rfl;rfl
 cases ho:o.op<;>rw[ho] at h<;>simp only[Ga] at h
 case move x =>
  unfold evalOp;rw[ho];dsimp only
  rw[← Tr.ab h,← aB]
 case assign x =>
  unfold evalOp;rw[ho];dsimp only
  rw[← Tr.ab h,← aB]
 case pick c a b =>
  unfold evalOp;rw[ho];dsimp only
  have hc':=aB fr c
  split at h
  · rename_i t hc
    rw[hc] at hc'
    rw[← hc']
    dsimp only
    rcases Tr.jk h with ⟨rfl,h⟩ | ⟨rfl,h⟩<;>rw[← Tr.ab h,← aB,← aB]<;>rfl
  · rename_i t n hc
    rw[hc] at hc'
    rw[← hc']
    dsimp only
    cases t with
    | true=>rw[cond_true] at h;rw[← Tr.ab h,← aB,← aB];rfl
    | false=>rw[cond_false] at h;rw[← Tr.ab h,← aB,← aB];rfl
  · exact (Tr.ad h).elim
 case alloc t =>
  unfold evalOp;rw[ho];dsimp only
  split at h
  · rename_i z hz
    rw[hz,← Tr.ab h,Option.map_some,jS hC.1]
  · exact (Tr.ad h).elim
 case box t x =>
  unfold evalOp;rw[ho];dsimp only
  rw[aB] at h
  split at h
  · rename_i z hz
    rw[hz,← Tr.ab h,Option.map_some,jS hC.1]
  · exact (Tr.ad h).elim
 case build t parts =>
  unfold evalOp;rw[ho];dsimp only
  obtain ⟨h1,h2⟩:=dkp _ h
  rw[bz,ko] at h1
  rw[jS hC.1,kpe h1,h2]
 case buildSlice t len parts =>
  unfold evalOp;rw[ho];dsimp only
  obtain ⟨x,h1,h⟩:=Tr.bind_some h
  rw[bz,ko] at h1
  rw[h1,← Tr.ab h]
 case load t a =>
  unfold evalOp;rw[ho];dsimp only
  obtain ⟨h1,h2⟩:=dkp _ h
  have h1:=tj h1
  rw[aB] at h1
  rw[kpe h1,h2]
 case store t a x =>
  unfold evalOp;rw[ho];dsimp only
  obtain ⟨δ,h1,h⟩:=Tr.bind_some h
  have h1:=yI h1
  rw[aB,aB] at h1
  rw[h1,← Tr.ab h];rfl
 case nilCheck x =>
  unfold evalOp;rw[ho];dsimp only
  rw[← aB]
  split at h
  · rename_i d i v off hx
    rw[hx,← Tr.ab h,hx]
  · rename_i s r off hx
    rw[hx,← Tr.ab h,hx]
  · exact (Tr.ad h).elim
 case binOp op t x y' g =>
  unfold evalOp;rw[ho];dsimp only
  obtain ⟨v,h1,h⟩:=Tr.bind_some h
  have h1:=Bc h1
  rw[aB,aB] at h1
  rw[kpe h1,← Tr.ab h]
 case unOp op t x =>
  unfold evalOp;rw[ho];dsimp only
  split at h
  · rename_i b n hx
    have:aR (strip fr) x=.bool b:=by rw[← aB,hx]
    rw[this,← Tr.ab h]
    cases b<;>rfl
  · obtain ⟨h1,h2⟩:=dkp _ h
    have h1:=EZ h1
    rw[aB] at h1
    rw[kpe h1,h2]
 case convert s d x =>
  unfold evalOp;rw[ho];dsimp only
  split at h
  · rename_i u hu
    split at h
    · rename_i k hk
      have hx:=aB fr x
      split at h
      · rename_i n hn
        rw[hn] at hx
        rw[hu,hk,← hx]
        dsimp only
        rw[← Tr.ab h,E0]
      · rename_i n _ hn
        rw[hn] at hx
        rw[hu,hk,← hx]
        dsimp only
        rw[← Tr.ab h,pW]
      · exact (Tr.ad h).elim
    · exact (Tr.ad h).elim
  · exact (Tr.ad h).elim
 case makeSlice t l c =>
  unfold evalOp;rw[ho];dsimp only
  have h1:=qt (dflt _ h)
  rw[aB,aB] at h1
  rw[jS hC.1]
  exact h1
 case slice t x lo hi mx =>
  unfold evalOp;rw[ho];dsimp only
  have e:∀ z:Option Operand,(z.map fun y=>(a6 fr y).1)=z.map (aR (strip fr)):=by
   intro z;cases z<;>simp[aB]
  rcases iY h with ⟨_,h⟩ | ⟨_,h⟩
  · obtain ⟨v,h1,h2⟩:=Tr.bind_some h
    rw[bz,aB,e,e,e] at h1
    rw[kpe h1,← Tr.ab h2]
  · obtain ⟨h1,h2⟩:=dkp _ h
    have h1:=yE h1
    rw[aB] at h1
    rw[e,e,e] at h1
    rw[kpe h1,h2]
 case fieldAddr t x f =>
  unfold evalOp;rw[ho];dsimp only
  obtain ⟨v,h1,h⟩:=Tr.bind_some h
  have h1:=qh h1
  rw[aB] at h1
  rw[kpe h1,← Tr.ab h]
 case field t x f =>
  unfold evalOp;rw[ho];dsimp only
  obtain ⟨h1,h2⟩:=dkp _ h
  rw[bz,aB] at h1
  rw[kpe h1,h2]
 case index t x i =>
  unfold evalOp;rw[ho];dsimp only
  rw[aB] at h
  split at h
  · rename_i k n hn
    obtain ⟨v,h1,h⟩:=Tr.bind_some h
    have h1:=Eg h1
    rw[aB] at h1
    rw[hn]
    dsimp only
    rw[kpe h1,← Tr.ab h]
  · exact (Tr.ad h).elim
 case indexAddr t x i =>
  unfold evalOp;rw[ho];dsimp only
  rw[aB] at h
  split at h
  · rename_i k n hn
    obtain ⟨v,h1,h⟩:=Tr.bind_some h
    have h1:=BC h1
    rw[aB] at h1
    rw[hn]
    dsimp only
    rw[kpe h1,← Tr.ab h]
  · exact (Tr.ad h).elim
 case extract t ix =>
  unfold evalOp;rw[ho];dsimp only
  rw[aB] at h
  split at h
  · rename_i l hl
    rw[hl]
    dsimp only
    rw[ij] at h
    split at h
    · rename_i v hv'
      rw[hv',← Tr.ab h]
    · exact (Tr.ad h).elim
  · exact (Tr.ad h).elim
 case call c =>
  unfold evalOp;rw[ho];dsimp only
  exact xW hC h
 case makeMap t r =>
  unfold evalOp;rw[ho];try dsimp only
  cases r with
  | none =>
    dsimp only at h ⊢
    rw[jS hC.1,← Tr.ab h]
  | some r=>exact (Tr.ad h).elim
 case mapUpdate t m k x =>
  unfold evalOp;rw[ho];dsimp only
  obtain ⟨δ,h1,h⟩:=Tr.bind_some h
  have h1:=xN h1
  rw[aB,aB,aB] at h1
  rw[h1,← Tr.ab h];rfl
 case insert t m k x =>
  unfold evalOp;rw[ho];dsimp only
  obtain ⟨δ,h1,h⟩:=Tr.bind_some h
  have h1:=xN h1
  rw[aB,aB,aB] at h1
  rw[h1,← Tr.ab h];rfl
 all_goals
  have h1:=dflt _ h
  rw[bz] at h1
  exact h1

end
end Go.Eng
