/- The engine as a tree: the other builtins; operations. -/
import Derived.Test.YtigmfpmabgekoaaGreatV11EngTcx2
set_option linter.unusedVariables false
set_option linter.unusedSimpArgs false
namespace Go.Eng
noncomputable section

abbrev bE:=Nm→List HV→aa→Tr (HV×aa)
def rH (l:List HV):List AV:=om (fun x=>x.1) l
def bE.Ok (c:bE) (call:aL):Prop:=(∃ x,call .mode [] []=some x)∧∀ tgt args H x,(c tgt args H).run=some x→call tgt (rH args) H=some (x.1.1,x.2)
theorem nA {α:Type} {call:aL} (h:∃ x,call .mode [] []=some x) (a b:α):l9 call a b=a:=by
 obtain ⟨x,h⟩:=h
 unfold l9
 rw[h]

def G2 (P:Program) (H:aa) (t:TypeId) (x:HV):Tr HV :=
 match P.underlying t with
 | some (.slice _)=>match x.1 with
   | .nils=>.ok (.int .i64 (Int.ofNat 0),some 1)
   | .slc _ _ _ _ _ len _=>.ok (.int .i64 (Int.ofNat len),x.2)
   | .slcT _ _ _ len _=>.ok (.int .i64 (Int.ofNat len),x.2)
   | _=>.bad
 | some (.array n _)=>.ok (.int .i64 (Int.ofNat n),some 1)
 | _=>(vJ ((uE P H t x.1).map fun n=>AV.int .i64 n)).bind fun v=>.ok (v,none)
theorem G3 {P:Program} {H:aa} {t:TypeId} {x v:HV} (h:(G2 P H t x).run=some v):(uE P H t x.1).map (AV.int .i64)=some v.1:=by
 unfold G2 at h
 split at h
 · rename_i e hu
   unfold uE
   rw[hu]
   split at h
   · rename_i hx;rw[hx,← Tr.ab h];rfl
   · rename_i hx;rw[hx,← Tr.ab h];rfl
   · rename_i hx;rw[hx,← Tr.ab h];rfl
   · exact (Tr.ae h).elim
 · rename_i hu
   unfold uE
   rw[hu,← Tr.ab h];rfl
 · obtain ⟨u,h1,h⟩:=Tr.bind_some h
   rw[c5] at h1
   rw[h1,← Tr.ab h]
def Ef    (P:Program) (H:aa) (t:TypeId) (s x:AV):Tr (AV×Delta) :=
 match P.underlying t with
 | some (.slice e)=>match bm P e with
   | some z=>match og x with
     | some n=>match s with
       | .slc d i v off sz m cap=>(sC H z (wZ n m) x).bind fun new=>cond (fJ H d) .bad ((xu H d i v (some 0)).bind fun r=>cond (Nat.beq sz z) (match r with
          | .M l=>(FB l off none (jz d new)).bind fun r'=>.ok (.int .i64 (Int.ofNat (wZ n m)),.set d i (v,.row r'))
          | _=>.bad) .bad)
       | _=>.bad
     | none=>.bad
   | none=>.bad
 | _=>.bad
theorem Eg {P:Program} {H:aa} {t:TypeId} {s x:AV} {y:AV×Delta} (h:(Ef P H t s x).run=some y):copyV P H t s x=some y:=by
 unfold Ef at h
 unfold copyV
 split at h
 · rename_i e hu
   split at h
   · rename_i z hs
     split at h
     · rename_i n hn
       split at h
       · rename_i d i v off sz m cap _ _
         obtain ⟨new,h1,h⟩:=Tr.bind_some h
         rw[ew] at h
         obtain ⟨hl,h⟩:=Tr.kr h
         obtain ⟨r,h2,h⟩:=Tr.bind_some h
         obtain ⟨hz,h⟩:=Tr.aP h
         have hz:=Nat.eq_of_beq_eq_true hz
         have hcv:=p6 h1
         rw[w6] at hcv
         have hcl:=sD hcv
         rw[hu]
         dsimp only
         rw[hs,hn]
         dsimp only[og]
         rw[hcv]
         dsimp only
         rw[hl,if_neg (by simp),lJ h2]
         dsimp only
         split at h
         · rename_i l _
           obtain ⟨r',h3,h⟩:=Tr.bind_some h
           obtain ⟨k1,k2⟩:=xm h3
           rw[fC,hcl] at k1
           rw[if_pos ⟨hz,by rw[hz];exact k1⟩,k2,← Tr.ab h,w6]
           rfl
         · exact (Tr.ae h).elim
       · exact (Tr.ae h).elim
     · exact (Tr.ae h).elim
   · exact (Tr.ae h).elim
 · exact (Tr.ae h).elim
def xK (z:Row) (n:Nat):Row :=
 match z with
 | .I k l=>cond (xS l) (.M [.arr k (fun _=>0) (jn n (iA l))]) (dQ z n)
 | z=>dQ z n
theorem wa (z:Row) (n:Nat):xK z n=dQ z n:=by
 cases z with
 | I k l =>
   simp only[xK]
   cases h:xS l with
   | true=>simp only[cond_true,dQ,h,if_true,cr,dh]
   | false=>rfl
 | _=>rfl
def Av (P:Program) (H:aa) (t:TypeId) (s:AV):Tr (AV×Delta) :=
 match P.underlying t with
 | some (.slice e)=>match s with
   | .slc d i v off sz len _=>cond (fJ H d) .bad (match (cL P e).bind AV.row with
     | some z=>match bm P e with
       | some n=>cond (Nat.beq n sz) (cond (Nat.beq (iH z) sz) (.req (bA 0 len) ((xu H d i v (some 0)).bind fun r=>match r with
          | .M l=>(FB l off none (xK z len)).bind fun r'=>.ok (.tup [],.set d i (v,.row r'))
          | _=>.bad)) .bad) .bad
       | none=>.bad
     | none=>.bad)
   | _=>.bad
 | _=>.bad
theorem Bk (z:Row) (n:Nat):(dQ z n).len=n*z.len:=by
 have fn:∀ l:List AV,(Ey l n).len=n*l.length:=by
  intro l
  unfold Ey
  split
  · split<;>simp[Row.len,dT]
  · simp[Row.len,dT]
 cases z with
 | I k l=>simp only[dQ];split<;>simp[Row.len,aC,aI,dT]
 | _=>simp only[dQ,fn,Row.bk]
theorem CW {P:Program} {H:aa} {t:TypeId} {s:AV} {y:AV×Delta} (h:(Av P H t s).run=some y):sG P H t s=some y:=by
 unfold Av at h
 unfold sG
 split at h
 · rename_i e hu
   split at h
   · rename_i d i v off sz len cap
     rw[ew] at h
     obtain ⟨hl,h⟩:=Tr.kr h
     split at h
     · rename_i z hz
       split at h
       · rename_i n hs
         obtain ⟨hn,h⟩:=Tr.aP h
         obtain ⟨hzl,h⟩:=Tr.aP h
         have hn:=Nat.eq_of_beq_eq_true hn
         rw[fA] at hzl
         have hzl:=Nat.eq_of_beq_eq_true hzl
         obtain ⟨h0,h⟩:=Tr.aK h
         rw[iC,decide_eq_true_eq] at h0
         obtain ⟨r,h2,h⟩:=Tr.bind_some h
         rw[hu]
         dsimp only
         rw[hl,if_neg (by simp),hz,lJ h2]
         dsimp only
         split at h
         · rename_i l _
           obtain ⟨r',h3,h⟩:=Tr.bind_some h
           obtain ⟨k1,k2⟩:=xm h3
           rw[wa] at k1 k2
           rw[Bk,hzl] at k1
           rw[if_pos ⟨hzl,by rw[hs,hn],k1⟩,← Tr.ab h]
           rw[if_neg (by omega)]
           simp only[yF,if_true]
           rw[← k2]
         · exact (Tr.ae h).elim
       · exact (Tr.ae h).elim
     · exact (Tr.ae h).elim
   · exact (Tr.ae h).elim
 · exact (Tr.ae h).elim
def oh (P:Program) (nx:Nat) (t:TypeId) (l c:AV):Tr (AV×Delta) :=
 match P.underlying t with
 | some (.slice e)=>match l with
   | .int _ l=>match c with
     | .int _ c=>match P.info? e with
       | some inf=>match (cL P e).bind AV.row with
         | some z=>.req (J0 l c inf.bytes) (cond (Nat.beq (iH z) inf.size) (.ok (.slc 0 nx 0 0 inf.size (dH l) (some (dH c)),.push (.row (xK z (dH c))))) .bad)
         | none=>.bad
       | none=>.bad
     | _=>.bad
   | _=>.bad
 | _=>.bad
theorem uF {P:Program} {nx:Nat} {t:TypeId} {l c:AV} {y:AV×Delta} (h:(oh P nx t l c).run=some y):jk P true nx t l c=some y:=by
 unfold oh at h
 unfold jk
 split at h
 · rename_i e hu
   split at h
   · split at h
     · split at h
       · rename_i inf hi
         split at h
         · rename_i z hz
           obtain ⟨hc,h⟩:=Tr.aK h
           obtain ⟨hl,h⟩:=Tr.aP h
           rw[AP,decide_eq_true_eq] at hc
           rw[fA] at hl
           have hl:=Nat.eq_of_beq_eq_true hl
           rw[hu]
           dsimp only
           rw[hi,hz]
           dsimp only
           rw[if_pos ⟨hc.1,hc.2.1,hc.2.2.1,hc.2.2.2,hl⟩,← Tr.ab h,wa,fP,fP]
           rfl
         · exact (Tr.ae h).elim
       · exact (Tr.ae h).elim
     · exact (Tr.ae h).elim
   · exact (Tr.ae h).elim
 · exact (Tr.ae h).elim

def hv (x:AV×Delta):Tr (HV×Delta):=.ok ((x.1,none),x.2)
theorem BR {x:AV×Delta} {y:HV×Delta} (h:(hv x).run=some y):y.1.1=x.1∧y.2=x.2:=by
 have:=Tr.ab h
 rw[← this]
 exact ⟨rfl,rfl⟩
def tA (l:List AV):List HV:=om (fun x=>(x,none)) l
theorem nT:∀ l:List AV,rH (tA l)=l
 | []=>rfl
 | x::l=>by
   have e:rH (tA (x::l))=x::rH (tA l):=rfl
   rw[e,nT l]
theorem wg:∀ a b:List HV,rH (nC a b)=rH a++rH b
 | [],b=>rfl
 | x::a,b=>by
   have e:rH (nC (x::a) b)=x.1::rH (nC a b):=rfl
   rw[e,wg a b];rfl
def zo (fr:aM) (l:List Operand):List HV:=om (fun x=>b9 fr x) l
theorem tF (fr:aM):∀ l,rH (zo fr l)=j8 (strip fr) l
 | []=>rfl
 | x::l=>by
   have e:rH (zo fr (x::l))=(b9 fr x).1::rH (zo fr l):=rfl
   rw[e,tF fr l,aR];rfl
def Io   (P:Program) (H:aa) (t:TypeId) (m key x:AV):Tr Delta :=
 match P.underlying t with
 | some (.map kt _)=>match m with
   | .map d i=>cond (aA H d) .bad (cond (j5 P kt key) (match au H d i with
     | (0,.fmap q h g c)=>match uC q key with
       | some n=>match zk x with
         | some y=>.ok (.set d i (0,.fmap q (m7 h n true) (nQ g n y) (qR (h n) c)))
         | none=>.bad
       | none=>.bad
     | _=>.bad) .bad)
   | _=>.bad
 | _=>.bad
def Jv (P:Program) (H:aa) (t:TypeId) (m key:AV):Tr Delta :=
 match P.underlying t with
 | some (.map kt _)=>match m with
   | .map d i=>cond (aA H d) .bad (cond (j5 P kt key) (match au H d i with
     | (0,.fmap q h g c)=>match uC q key with
       | some n=>.ok (.set d i (0,.fmap q (m7 h n false) (nQ g n 0) (BC (h n) c)))
       | none=>.bad
     | _=>.bad) .bad)
   | _=>.bad
 | _=>.bad
def JW (fr:aM):Option Operand→Bool
 | none=>true
 | some y=>isLit (b9 fr y)
theorem mi {α:Type} {b:Bool} {s t:Tr α} {x:α} (h:(cond b s t).run=some x):b=true∧s.run=some x∨b=false∧t.run=some x:=by
 cases b
 · exact .inr ⟨rfl,h⟩
 · exact .inl ⟨rfl,h⟩
theorem CL {P:Program} {H:aa} {t:TypeId} {m key x:AV} {δ:Delta} (h:(Io P H t m key x).run=some δ):jT P H t m key x=some δ:=by
 unfold Io at h
 unfold jT
 split at h
 · rename_i kt et hu
   rw[hu]
   split at h
   · rename_i d i
     dsimp only
     rcases mi h with ⟨_,h⟩ | ⟨h1,h⟩
     · exact (Tr.ae h).elim
     · rcases mi h with ⟨h2,h⟩ | ⟨_,h⟩
       · rw[if_neg (by rw[h1];simp),if_pos h2]
         split at h
         · rename_i q f g c hg
           rw[hg]
           try dsimp only
           split at h
           · rename_i n hn
             split at h
             · rename_i y hy
               simp only[hn,hy,← Tr.ab h,pK,pL,sH]
             · exact (Tr.ae h).elim
           · exact (Tr.ae h).elim
         · exact (Tr.ae h).elim
       · exact (Tr.ae h).elim
   · exact (Tr.ae h).elim
 · exact (Tr.ae h).elim
theorem GL {P:Program} {H:aa} {t:TypeId} {m key:AV} {δ:Delta} (h:(Jv P H t m key).run=some δ):o5 P H t m key=some (.tup [],δ):=by
 unfold Jv at h
 unfold o5
 split at h
 · rename_i kt et hu
   rw[hu]
   split at h
   · rename_i d i
     dsimp only
     rcases mi h with ⟨_,h⟩ | ⟨h1,h⟩
     · exact (Tr.ae h).elim
     · rcases mi h with ⟨h2,h⟩ | ⟨_,h⟩
       · rw[if_neg (by rw[h1];simp),if_pos h2]
         split at h
         · rename_i q f g c hg
           rw[hg]
           try dsimp only
           split at h
           · rename_i n hn
             simp only[hn,← Tr.ab h,pK,pL,xZ]
           · exact (Tr.ae h).elim
         · exact (Tr.ae h).elim
       · exact (Tr.ae h).elim
   · exact (Tr.ae h).elim
 · exact (Tr.ae h).elim
def Aq (P:Program) (call:aL) (callR:bE) (fr:aM) (H:aa) (nx:Nat) (c:Call):Tr (HV×Delta) :=
 match c.callee with
 | .value f=>match (b9 fr f).1 with
   | .fn (.func g) a b=>(callR (.fn g) (nC (tA a) (nC (zo fr c.args.toList) (tA b))) H).bind fun x=>.ok (x.1,.heap x.2)
   | .yld d i=>(callR (.round d i) (zo fr c.args.toList) H).bind fun x=>.ok (x.1,.heap x.2)
   | _=>.bad
 | .builtin .len=>match c.args.toList,c.argTypes.toList with
   | x::_,t::_=>(G2 P H t (b9 fr x)).bind fun v=>.ok (v,.bc)
   | _,_=>.bad
 | .builtin .append=>match c.args.toList,c.argTypes.toList with
   | s::x::_,t::u::_=>(oQ P H nx t u (b9 fr s).1 (b9 fr x).1).bind hv
   | _,_=>.bad
 | .builtin .copy=>match c.args.toList,c.argTypes.toList with
   | s::x::_,t::_=>(Ef P H t (b9 fr s).1 (b9 fr x).1).bind hv
   | _,_=>.bad
 | .builtin .clear=>match c.args.toList,c.argTypes.toList with
   | s::_,t::_=>(Av P H t (b9 fr s).1).bind hv
   | _,_=>.bad
 | .builtin .min=>match zp fr c.args.toList with
   | .int k x::r=>(pD false k x r).bind fun v=>.ok ((v,none),.bc)
   | _=>.bad
 | .builtin .max=>match zp fr c.args.toList with
   | .int k x::r=>(pD true k x r).bind fun v=>.ok ((v,none),.bc)
   | _=>.bad
 | .builtin .delete=>match c.args.toList,c.argTypes.toList with
   | m::k::_,t::_=>(Jv P H t (b9 fr m).1 (b9 fr k).1).bind fun δ=>.ok ((.tup [],none),δ)
   | _,_=>.bad
 | _=>(vJ (fQ P call (strip fr) H nx c)).bind hv
theorem CU {P:Program} {call:aL} {callR:bE} (hC:callR.Ok call) {fr:aM} {H:aa} {nx:Nat} {c:Call} {y:HV×Delta} (h:(Aq P call callR fr H nx c).run=some y):fQ P call (strip fr) H nx c=some (y.1.1,y.2):=by
 have dflt:∀ (t:Tr (AV×Delta)),(t.bind hv).run=some y→t.run=some (y.1.1,y.2):=by
  intro t ht
  obtain ⟨x,h1,h2⟩:=Tr.bind_some ht
  obtain ⟨e1,e2⟩:=BR h2
  rw[h1,e1,e2]
 unfold Aq at h
 split at h
 · rename_i f hf
   unfold fQ
   rw[hf]
   dsimp only
   rw[aR] at h
   split at h
   · rename_i g a b ho
     obtain ⟨x,h1,h⟩:=Tr.bind_some h
     rw[ho]
     dsimp only
     have:=hC.2 _ _ _ _ h1
     rw[wg,wg,nT,nT,tF] at this
     rw[this,← Tr.ab h];rfl
   · rename_i d i ho
     obtain ⟨x,h1,h⟩:=Tr.bind_some h
     rw[ho]
     dsimp only
     have:=hC.2 _ _ _ _ h1
     rw[tF] at this
     rw[this,← Tr.ab h];rfl
   · exact (Tr.ae h).elim
 · rename_i hf
   unfold fQ
   rw[hf]
   dsimp only
   split at h
   · rename_i x _ t _ hx ht
     obtain ⟨v,h1,h⟩:=Tr.bind_some h
     rw[hx,ht]
     dsimp only
     have:=G3 h1
     rw[aR] at this
     obtain ⟨n,k1,k2⟩:=Option.map_eq_some_iff.1 this
     rw[k1,← Tr.ab h,← k2];rfl
   · exact (Tr.ae h).elim
 · rename_i hf
   unfold fQ
   rw[hf]
   dsimp only
   split at h
   · rename_i s x _ t u _ hx ht
     rw[hx,ht]
     dsimp only
     have h:=Am (dflt _ h)
     rw[aR,aR] at h
     rw[nA hC.1]
     exact h
   · exact (Tr.ae h).elim
 · rename_i hf
   unfold fQ
   rw[hf]
   dsimp only
   split at h
   · rename_i s x _ t _ hx ht
     rw[hx,ht]
     dsimp only
     have h:=Eg (dflt _ h)
     rw[aR,aR] at h
     exact h
   · exact (Tr.ae h).elim
 · rename_i hf
   unfold fQ
   rw[hf]
   dsimp only
   split at h
   · rename_i s _ t _ hx ht
     rw[hx,ht]
     dsimp only
     have h:=CW (dflt _ h)
     rw[aR] at h
     exact h
   · exact (Tr.ae h).elim
 · rename_i hf
   unfold fQ
   rw[hf]
   dsimp only
   rw[tG] at h
   split at h
   · rename_i k x r hx
     obtain ⟨v,h1,h⟩:=Tr.bind_some h
     rw[hx]
     dsimp only[ot]
     rw[ou _ _ _ h1,← Tr.ab h];rfl
   · exact (Tr.ae h).elim
 · rename_i hf
   unfold fQ
   rw[hf]
   dsimp only
   rw[tG] at h
   split at h
   · rename_i k x r hx
     obtain ⟨v,h1,h⟩:=Tr.bind_some h
     rw[hx]
     dsimp only[ot]
     rw[ou _ _ _ h1,← Tr.ab h];rfl
   · exact (Tr.ae h).elim
 · rename_i hf
   unfold fQ
   rw[hf]
   dsimp only
   split at h
   · rename_i m k _ t _ hx ht
     rw[hx,ht]
     dsimp only
     obtain ⟨δ,h1,h⟩:=Tr.bind_some h
     have h1:=GL h1
     rw[aR,aR] at h1
     rw[h1,← Tr.ab h]
   · exact (Tr.ae h).elim
 · have h:=dflt _ h
   rw[c5] at h;exact h

def Ji (P:Program) (op:BinOp) (t:TypeId) (x y:HV):Tr HV :=
 cond (isLit x && isLit y) (match x.1,y.1 with
  | .int k a,.int k' b=>(vJ (Bw P op t (.int k a) (.int k' b))).bind fun v=>.ok (v,some 1)
  | a,b=>(D3 P op t a b).bind fun v=>.ok (v,none))
 ((D3 P op t x.1 y.1).bind fun v=>.ok (v,none))
theorem Gy {P:Program} {op:BinOp} {t:TypeId} {x y v:HV} (h:(Ji P op t x y).run=some v):kn P op t x.1 y.1=some v.1:=by
 have gen:∀ a b,((D3 P op t a b).bind fun v=>Tr.ok ((v,none):HV)).run=some v→kn P op t a b=some v.1:=by
  intro a b h
  obtain ⟨u,h1,h⟩:=Tr.bind_some h
  rw[Gz h1,← Tr.ab h]
 unfold Ji at h
 cases hb:isLit x && isLit y with
 | false=>rw[hb,cond_false] at h;exact gen _ _ h
 | true =>
   rw[hb,cond_true] at h
   split at h
   · rename_i k a k' b hx hy
     obtain ⟨u,h1,h⟩:=Tr.bind_some h
     rw[c5,sw] at h1
     rw[hx,hy,h1,← Tr.ab h]
   · exact gen _ _ h

def pA (fr:aM) (l:List (Nat×Operand)):List (Nat×AV):=om (fun p=>(p.1,(b9 fr p.2).1)) l
theorem oi (fr:aM):∀ l,pA fr l=dZ (strip fr) l
 | []=>rfl
 | (i,x)::l=>by
   have e:pA fr ((i,x)::l)=(i,(b9 fr x).1)::pA fr l:=rfl
   rw[e,oi fr l,aR];rfl
def LR (op:Op):Oper→Program→aL→bE→aM→aa→Nat→Tr (HV×Delta) :=
 match op with
 | .move x=>fun _ _ _ _ fr _ _=>.ok (b9 fr x,.bc)
 | .assign x=>fun _ _ _ _ fr _ _=>.ok (b9 fr x,.bc)
 | .pick c a b=>fun _ _ _ _ fr _ _=>match b9 fr c with
   | (.bool t,none)=>.ite t (.ok (b9 fr a,.bc)) (.ok (b9 fr b,.bc))
   | (.bool t,some _)=>cond t (.ok (b9 fr a,.bc)) (.ok (b9 fr b,.bc))
   | _=>.bad
 | .alloc t=>fun _ P _ _ _ _ nx=>match (cL P t).bind AV.row with
   | some z=>.ok ((.ptr 0 nx 0 0,none),.push (.row (jE z)))
   | none=>.bad
 | .box _ x=>fun _ _ _ _ fr _ nx=>match (b9 fr x).1.row with
   | some r=>.ok ((.ptr 0 nx 0 0,none),.push (.row (jE r)))
   | none=>.bad
 | .build t parts=>fun _ P _ _ fr _ _=>(vJ (wk P true t (pA fr parts.toList))).bind fun v=>.ok ((v,none),.bc)
 | .buildSlice t len parts=>fun _ P _ _ fr _ nx=>(vJ (jI P nx t len (pA fr parts.toList))).bind fun x=>.ok ((x.1,some 1),x.2)
 | .load t a=>fun _ P _ _ fr H _=>(loadT P H t (b9 fr a)).bind fun v=>.ok ((v,none),.bc)
 | .store t a x=>fun _ P _ _ fr H _=>(storeT P H t (b9 fr a) (b9 fr x).1).bind fun δ=>.ok ((.tup [],none),δ)
 | .nilCheck x=>fun _ _ _ _ fr _ _=>match (b9 fr x).1 with
   | .ptr d i v off=>.ok (b9 fr x,.bc)
   | .ptrT s r off=>.ok (b9 fr x,.bc)
   | _=>.bad
 | .binOp op t x y _=>fun _ P _ _ fr _ _=>(Ji P op t (b9 fr x) (b9 fr y)).bind fun v=>.ok (v,.bc)
 | .unOp op _ x=>fun _ _ _ _ fr _ _=>match op,b9 fr x with
   | .not,(.bool b,some _)=>.ok ((.bool (cond b false true),some 1),.bc)
   | op,x=>(QD op x.1).bind fun v=>.ok ((v,none),.bc)
 | .convert src dst x=>fun _ P _ _ fr _ _=>match P.underlying src with
   | some _=>match P.underlying dst with
     | some (.int k)=>match b9 fr x with
       | (.int _ n,none)=>.ok ((.int k (bx k n),none),.bc)
       | (.int _ n,some _)=>.ok ((.int k (v8 k n),some 1),.bc)
       | _=>.bad
     | _=>.bad
   | none=>.bad
 | .makeSlice t l c=>fun _ P _ _ fr _ nx=>(oh P nx t (b9 fr l).1 (b9 fr c).1).bind hv
 | .slice t x lo hi mx=>fun _ P _ _ fr _ _=>cond (isLit (b9 fr x) && (JW fr lo && (JW fr hi && JW fr mx)))
   ((vJ (qK P t (b9 fr x).1 (lo.map fun y=>(b9 fr y).1) (hi.map fun y=>(b9 fr y).1) (mx.map fun y=>(b9 fr y).1))).bind fun v=>.ok ((v,some 1),.bc))
   ((A7 P t (b9 fr x).1 (lo.map fun y=>(b9 fr y).1) (hi.map fun y=>(b9 fr y).1) (mx.map fun y=>(b9 fr y).1)).bind fun v=>.ok ((v,none),.bc))
 | .fieldAddr t x f=>fun _ P _ _ fr _ _=>(oa P t (b9 fr x) f).bind fun v=>.ok (v,.bc)
 | .field t x f=>fun _ P _ _ fr _ _=>(vJ (sU P t (b9 fr x).1 f)).bind fun v=>.ok ((v,none),.bc)
 | .indexAddr t x i=>fun _ P _ _ fr _ _=>match (b9 fr i).1 with
   | .int _ n=>(JN P t (b9 fr x) (isLit (b9 fr i)) n).bind fun v=>.ok (v,.bc)
   | _=>.bad
 | .index t x i=>fun _ P _ _ fr _ _=>match (b9 fr i).1 with
   | .int _ n=>(Oc P t (b9 fr x).1 (isLit (b9 fr i)) n).bind fun v=>.ok ((v,none),.bc)
   | _=>.bad
 | .extract t ix=>fun _ _ _ _ fr _ _=>match (b9 fr t).1 with
   | .tup l=>match yq l ix with
     | some v=>.ok ((v,none),.bc)
     | none=>.bad
   | _=>.bad
 | .call c=>fun _ P call callR fr H nx=>Aq P call callR fr H nx c
 | .makeMap t r=>fun _ P _ _ _ _ nx=>match r with
   | none=>.ok ((.map 0 nx,none),.push (tz P t))
   | some _=>.bad
 | .mapUpdate t m k x=>fun _ P _ _ fr H _=>(Io P H t (b9 fr m).1 (b9 fr k).1 (b9 fr x).1).bind fun δ=>.ok ((.tup [],none),δ)
 | .insert t m k x=>fun _ P _ _ fr H _=>(Io P H t (b9 fr m).1 (b9 fr k).1 (b9 fr x).1).bind fun δ=>.ok ((.tup [],none),δ)
 | _=>fun o P call _ fr H nx=>(vJ (evalOp P call (strip fr) H nx o)).bind hv
theorem AW {o:Oper} {P:Program} {call:aL} {callR:bE} (hC:callR.Ok call) {fr:aM} {H:aa} {nx:Nat} {y:HV×Delta} (h:(LR o.op o P call callR fr H nx).run=some y):evalOp P call (strip fr) H nx o=some (y.1.1,y.2):=by
 have dflt:∀ (t:Tr (AV×Delta)),(t.bind hv).run=some y→t.run=some (y.1.1,y.2):=by
  intro t ht
  obtain ⟨x,h1,h2⟩:=Tr.bind_some ht
  obtain ⟨e1,e2⟩:=BR h2
  rw[h1,e1,e2]
 have dkp:∀ (t:Tr AV),(t.bind fun v=>Tr.ok (((v,none),.bc):HV×Delta)).run=some y→t.run=some y.1.1∧y.2=.bc:=by
  intro t ht
  obtain ⟨x,h1,h2⟩:=Tr.bind_some ht
  rw[h1,← Tr.ab h2];exact ⟨rfl,rfl⟩
 have kpe:∀ {o:Option AV} {v:AV},o=some v→kp o=some (v,.bc):=by rintro o v rfl;rfl
 cases ho:o.op<;>rw[ho] at h<;>simp only[LR] at h
 case move x =>
  unfold evalOp;rw[ho];dsimp only
  rw[← Tr.ab h,← aR]
 case assign x =>
  unfold evalOp;rw[ho];dsimp only
  rw[← Tr.ab h,← aR]
 case pick c a b =>
  unfold evalOp;rw[ho];dsimp only
  have hc':=aR fr c
  split at h
  · rename_i t hc
    rw[hc] at hc'
    rw[← hc']
    dsimp only
    rcases Tr.gr h with ⟨rfl,h⟩ | ⟨rfl,h⟩<;>rw[← Tr.ab h,← aR,← aR]<;>rfl
  · rename_i t n hc
    rw[hc] at hc'
    rw[← hc']
    dsimp only
    cases t with
    | true=>rw[cond_true] at h;rw[← Tr.ab h,← aR,← aR];rfl
    | false=>rw[cond_false] at h;rw[← Tr.ab h,← aR,← aR];rfl
  · exact (Tr.ae h).elim
 case alloc t =>
  unfold evalOp;rw[ho];dsimp only
  split at h
  · rename_i z hz
    rw[hz,← Tr.ab h,Option.map_some,nA hC.1]
  · exact (Tr.ae h).elim
 case box t x =>
  unfold evalOp;rw[ho];dsimp only
  rw[aR] at h
  split at h
  · rename_i z hz
    rw[hz,← Tr.ab h,Option.map_some,nA hC.1]
  · exact (Tr.ae h).elim
 case build t parts =>
  unfold evalOp;rw[ho];dsimp only
  obtain ⟨h1,h2⟩:=dkp _ h
  rw[c5,oi] at h1
  rw[nA hC.1,kpe h1,h2]
 case buildSlice t len parts =>
  unfold evalOp;rw[ho];dsimp only
  obtain ⟨x,h1,h⟩:=Tr.bind_some h
  rw[c5,oi] at h1
  rw[h1,← Tr.ab h]
 case load t a =>
  unfold evalOp;rw[ho];dsimp only
  obtain ⟨h1,h2⟩:=dkp _ h
  have h1:=yU h1
  rw[aR] at h1
  rw[kpe h1,h2]
 case store t a x =>
  unfold evalOp;rw[ho];dsimp only
  obtain ⟨δ,h1,h⟩:=Tr.bind_some h
  have h1:=DL h1
  rw[aR,aR] at h1
  rw[h1,← Tr.ab h];rfl
 case nilCheck x =>
  unfold evalOp;rw[ho];dsimp only
  rw[← aR]
  split at h
  · rename_i d i v off hx
    rw[hx,← Tr.ab h,hx]
  · rename_i s r off hx
    rw[hx,← Tr.ab h,hx]
  · exact (Tr.ae h).elim
 case binOp op t x y' g =>
  unfold evalOp;rw[ho];dsimp only
  obtain ⟨v,h1,h⟩:=Tr.bind_some h
  have h1:=Gy h1
  rw[aR,aR] at h1
  rw[kpe h1,← Tr.ab h]
 case unOp op t x =>
  unfold evalOp;rw[ho];dsimp only
  split at h
  · rename_i b n hx
    have:bI (strip fr) x=.bool b:=by rw[← aR,hx]
    rw[this,← Tr.ab h]
    cases b<;>rfl
  · obtain ⟨h1,h2⟩:=dkp _ h
    have h1:=Kx h1
    rw[aR] at h1
    rw[kpe h1,h2]
 case convert s d x =>
  unfold evalOp;rw[ho];dsimp only
  split at h
  · rename_i u hu
    split at h
    · rename_i k hk
      have hx:=aR fr x
      split at h
      · rename_i n hn
        rw[hn] at hx
        rw[hu,hk,← hx]
        dsimp only
        rw[← Tr.ab h,Gc]
      · rename_i n _ hn
        rw[hn] at hx
        rw[hu,hk,← hx]
        dsimp only
        rw[← Tr.ab h,ue]
      · exact (Tr.ae h).elim
    · exact (Tr.ae h).elim
  · exact (Tr.ae h).elim
 case makeSlice t l c =>
  unfold evalOp;rw[ho];dsimp only
  have h1:=uF (dflt _ h)
  rw[aR,aR] at h1
  rw[nA hC.1]
  exact h1
 case slice t x lo hi mx =>
  unfold evalOp;rw[ho];dsimp only
  have e:∀ z:Option Operand,(z.map fun y=>(b9 fr y).1)=z.map (bI (strip fr)):=by
   intro z;cases z<;>simp[aR]
  rcases mi h with ⟨_,h⟩ | ⟨_,h⟩
  · obtain ⟨v,h1,h2⟩:=Tr.bind_some h
    rw[c5,aR,e,e,e] at h1
    rw[kpe h1,← Tr.ab h2]
  · obtain ⟨h1,h2⟩:=dkp _ h
    have h1:=DF h1
    rw[aR] at h1
    rw[e,e,e] at h1
    rw[kpe h1,h2]
 case fieldAddr t x f =>
  unfold evalOp;rw[ho];dsimp only
  obtain ⟨v,h1,h⟩:=Tr.bind_some h
  have h1:=uw h1
  rw[aR] at h1
  rw[kpe h1,← Tr.ab h]
 case field t x f =>
  unfold evalOp;rw[ho];dsimp only
  obtain ⟨h1,h2⟩:=dkp _ h
  rw[c5,aR] at h1
  rw[kpe h1,h2]
 case index t x i =>
  unfold evalOp;rw[ho];dsimp only
  rw[aR] at h
  split at h
  · rename_i k n hn
    obtain ⟨v,h1,h⟩:=Tr.bind_some h
    have h1:=JT h1
    rw[aR] at h1
    rw[hn]
    dsimp only
    rw[kpe h1,← Tr.ab h]
  · exact (Tr.ae h).elim
 case indexAddr t x i =>
  unfold evalOp;rw[ho];dsimp only
  rw[aR] at h
  split at h
  · rename_i k n hn
    obtain ⟨v,h1,h⟩:=Tr.bind_some h
    have h1:=GW h1
    rw[aR] at h1
    rw[hn]
    dsimp only
    rw[kpe h1,← Tr.ab h]
  · exact (Tr.ae h).elim
 case extract t ix =>
  unfold evalOp;rw[ho];dsimp only
  rw[aR] at h
  split at h
  · rename_i l hl
    rw[hl]
    dsimp only
    rw[lr] at h
    split at h
    · rename_i v hv'
      rw[hv',← Tr.ab h]
    · exact (Tr.ae h).elim
  · exact (Tr.ae h).elim
 case call c =>
  unfold evalOp;rw[ho];dsimp only
  exact CU hC h
 case makeMap t r =>
  unfold evalOp;rw[ho];try dsimp only
  cases r with
  | none =>
    dsimp only at h ⊢
    rw[nA hC.1,← Tr.ab h]
  | some r=>exact (Tr.ae h).elim
 case mapUpdate t m k x =>
  unfold evalOp;rw[ho];dsimp only
  obtain ⟨δ,h1,h⟩:=Tr.bind_some h
  have h1:=CL h1
  rw[aR,aR,aR] at h1
  rw[h1,← Tr.ab h];rfl
 case insert t m k x =>
  unfold evalOp;rw[ho];dsimp only
  obtain ⟨δ,h1,h⟩:=Tr.bind_some h
  have h1:=CL h1
  rw[aR,aR,aR] at h1
  rw[h1,← Tr.ab h];rfl
 all_goals
  have h1:=dflt _ h
  rw[c5] at h1
  exact h1

end
end Go.Eng
