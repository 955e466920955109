/- The engine as a tree: the other builtins; operations. -/
import Derived.Test.YtigmfpmabgekoaaGreatV9EngTcx2
set_option linter.unusedVariables false
set_option linter.unusedSimpArgs false
namespace Go.Eng
noncomputable section

abbrev bJ:=ND→List HV→aa→Tr (HV×aa)
def r8 (l:List HV):List AV:=ot (fun x=>x.1) l
def bJ.Ok (c:bJ) (call:aU):Prop:=(∃ x,call .mode [] []=some x)∧∀ tgt args H x,(c tgt args H).run=some x→call tgt (r8 args) H=some (x.1.1,x.2)
theorem nv {α:Type} {call:aU} (h:∃ x,call .mode [] []=some x) (a b:α):l7 call a b=a:=by
 obtain ⟨x,h⟩:=h
 unfold l7
 rw[h]

def Hm (P:Program) (H:aa) (t:TypeId) (x:HV):Tr HV :=
 match P.underlying t with
 | some (.slice _)=>match x.1 with
   | .nils=>.ok (.int .i64 (Int.ofNat 0),some 1)
   | .slc _ _ _ _ _ len _=>.ok (.int .i64 (Int.ofNat len),x.2)
   | .slcT _ _ _ len _=>.ok (.int .i64 (Int.ofNat len),x.2)
   | _=>.bad
 | some (.array n _)=>.ok (.int .i64 (Int.ofNat n),some 1)
 | _=>(wu ((vh P H t x.1).map fun n=>AV.int .i64 n)).bind fun v=>.ok (v,none)
theorem Hn {P:Program} {H:aa} {t:TypeId} {x v:HV} (h:(Hm P H t x).run=some v):(vh P H t x.1).map (AV.int .i64)=some v.1:=by
 unfold Hm at h
 split at h
 · rename_i e hu
   unfold vh
   rw[hu]
   split at h
   · rename_i hx;rw[hx,← Tr.ab h];rfl
   · rename_i hx;rw[hx,← Tr.ab h];rfl
   · rename_i hx;rw[hx,← Tr.ab h];rfl
   · exact (Tr.ae h).elim
 · rename_i hu
   unfold vh
   rw[hu,← Tr.ab h];rfl
 · obtain ⟨u,h1,h⟩:=Tr.bind_some h
   rw[db] at h1
   rw[h1,← Tr.ab h]
def EH    (P:Program) (H:aa) (t:TypeId) (s x:AV):Tr (AV×Delta) :=
 match P.underlying t with
 | some (.slice e)=>match br P e with
   | some z=>match oh x with
     | some n=>match s with
       | .slc d i v off sz m cap=>(sS H z (Hr n m) x).bind fun new=>cond (fO H d) .bad ((xR H d i v (some 0)).bind fun r=>cond (Nat.beq sz z) (match r with
          | .M l=>(FY l off none (jG d new)).bind fun r'=>.ok (.int .i64 (Int.ofNat (Hr n m)),.set d i (v,.row r'))
          | _=>.bad) .bad)
       | _=>.bad
     | none=>.bad
   | none=>.bad
 | _=>.bad
theorem EI {P:Program} {H:aa} {t:TypeId} {s x:AV} {y:AV×Delta} (h:(EH P H t s x).run=some y):copyV P H t s x=some y:=by
 unfold EH at h
 unfold copyV
 split at h
 · rename_i e hu
   split at h
   · rename_i z hs
     split at h
     · rename_i n hn
       split at h
       · rename_i d i v off sz m cap _ _
         obtain ⟨new,h1,h⟩:=Tr.bind_some h
         rw[eE] at h
         obtain ⟨hl,h⟩:=Tr.kr h
         obtain ⟨r,h2,h⟩:=Tr.bind_some h
         obtain ⟨hz,h⟩:=Tr.aW h
         have hz:=Nat.eq_of_beq_eq_true hz
         have hcv:=qp h1
         rw[Cq] at hcv
         have hcl:=sU hcv
         rw[hu]
         dsimp only
         rw[hs,hn]
         dsimp only[oh]
         rw[hcv]
         dsimp only
         rw[hl,if_neg (by simp),lF h2]
         dsimp only
         split at h
         · rename_i l _
           obtain ⟨r',h3,h⟩:=Tr.bind_some h
           obtain ⟨k1,k2⟩:=xM h3
           rw[fH,hcl] at k1
           rw[if_pos ⟨hz,by rw[hz];exact k1⟩,k2,← Tr.ab h,Cq]
           rfl
         · exact (Tr.ae h).elim
       · exact (Tr.ae h).elim
     · exact (Tr.ae h).elim
   · exact (Tr.ae h).elim
 · exact (Tr.ae h).elim
def yf (z:Row) (n:Nat):Row :=
 match z with
 | .I k l=>cond (ym l) (.M [.arr k (fun _=>0) (jg n (iG l))]) (dR z n)
 | z=>dR z n
theorem wQ (z:Row) (n:Nat):yf z n=dR z n:=by
 cases z with
 | I k l =>
   simp only[yf]
   cases h:ym l with
   | true=>simp only[cond_true,dR,h,if_true,cu,dx]
   | false=>rfl
 | _=>rfl
def AJ (P:Program) (H:aa) (t:TypeId) (s:AV):Tr (AV×Delta) :=
 match P.underlying t with
 | some (.slice e)=>match s with
   | .slc d i v off sz len _=>cond (fO H d) .bad (match (cO P e).bind AV.row with
     | some z=>match br P e with
       | some n=>cond (Nat.beq n sz) (cond (Nat.beq (iC z) sz) (.req (bB 0 len) ((xR H d i v (some 0)).bind fun r=>match r with
          | .M l=>(FY l off none (yf z len)).bind fun r'=>.ok (.tup [],.set d i (v,.row r'))
          | _=>.bad)) .bad) .bad
       | none=>.bad
     | none=>.bad)
   | _=>.bad
 | _=>.bad
theorem BA (z:Row) (n:Nat):(dR z n).len=n*z.len:=by
 have fn:∀ l:List AV,(EZ l n).len=n*l.length:=by
  intro l
  unfold EZ
  split
  · split<;>simp[Row.len,dU]
  · simp[Row.len,dU]
 cases z with
 | I k l=>simp only[dR];split<;>simp[Row.len,aD,aN,dU]
 | _=>simp only[dR,fn,Row.bp]
theorem Dg {P:Program} {H:aa} {t:TypeId} {s:AV} {y:AV×Delta} (h:(AJ P H t s).run=some y):sX P H t s=some y:=by
 unfold AJ at h
 unfold sX
 split at h
 · rename_i e hu
   split at h
   · rename_i d i v off sz len cap
     rw[eE] at h
     obtain ⟨hl,h⟩:=Tr.kr h
     split at h
     · rename_i z hz
       split at h
       · rename_i n hs
         obtain ⟨hn,h⟩:=Tr.aW h
         obtain ⟨hzl,h⟩:=Tr.aW h
         have hn:=Nat.eq_of_beq_eq_true hn
         rw[fE] at hzl
         have hzl:=Nat.eq_of_beq_eq_true hzl
         obtain ⟨h0,h⟩:=Tr.aR h
         rw[iw,decide_eq_true_eq] at h0
         obtain ⟨r,h2,h⟩:=Tr.bind_some h
         rw[hu]
         dsimp only
         rw[hl,if_neg (by simp),hz,lF h2]
         dsimp only
         split at h
         · rename_i l _
           obtain ⟨r',h3,h⟩:=Tr.bind_some h
           obtain ⟨k1,k2⟩:=xM h3
           rw[wQ] at k1 k2
           rw[BA,hzl] at k1
           rw[if_pos ⟨hzl,by rw[hs,hn],k1⟩,← Tr.ab h]
           rw[if_neg (by omega)]
           simp only[y9,if_true]
           rw[← k2]
         · exact (Tr.ae h).elim
       · exact (Tr.ae h).elim
     · exact (Tr.ae h).elim
   · exact (Tr.ae h).elim
 · exact (Tr.ae h).elim
def oi (P:Program) (nx:Nat) (t:TypeId) (l c:AV):Tr (AV×Delta) :=
 match P.underlying t with
 | some (.slice e)=>match l with
   | .int _ l=>match c with
     | .int _ c=>match P.info? e with
       | some inf=>match (cO P e).bind AV.row with
         | some z=>.req (I1 l c inf.bytes) (cond (Nat.beq (iC z) inf.size) (.ok (.slc 0 nx 0 0 inf.size (fc l) (some (fc c)),.push (.row (yf z (fc c))))) .bad)
         | none=>.bad
       | none=>.bad
     | _=>.bad
   | _=>.bad
 | _=>.bad
theorem vi {P:Program} {nx:Nat} {t:TypeId} {l c:AV} {y:AV×Delta} (h:(oi P nx t l c).run=some y):jd P true nx t l c=some y:=by
 unfold oi at h
 unfold jd
 split at h
 · rename_i e hu
   split at h
   · split at h
     · split at h
       · rename_i inf hi
         split at h
         · rename_i z hz
           obtain ⟨hc,h⟩:=Tr.aR h
           obtain ⟨hl,h⟩:=Tr.aW h
           rw[A1,decide_eq_true_eq] at hc
           rw[fE] at hl
           have hl:=Nat.eq_of_beq_eq_true hl
           rw[hu]
           dsimp only
           rw[hi,hz]
           dsimp only
           rw[if_pos ⟨hc.1,hc.2.1,hc.2.2.1,hc.2.2.2,hl⟩,← Tr.ab h,wQ,iA,iA]
           rfl
         · exact (Tr.ae h).elim
       · exact (Tr.ae h).elim
     · exact (Tr.ae h).elim
   · exact (Tr.ae h).elim
 · exact (Tr.ae h).elim

def hv (x:AV×Delta):Tr (HV×Delta):=.ok ((x.1,none),x.2)
theorem Cc {x:AV×Delta} {y:HV×Delta} (h:(hv x).run=some y):y.1.1=x.1∧y.2=x.2:=by
 have:=Tr.ab h
 rw[← this]
 exact ⟨rfl,rfl⟩
def tU (l:List AV):List HV:=ot (fun x=>(x,none)) l
theorem nU:∀ l:List AV,r8 (tU l)=l
 | []=>rfl
 | x::l=>by
   have e:r8 (tU (x::l))=x::r8 (tU l):=rfl
   rw[e,nU l]
theorem wV:∀ a b:List HV,r8 (ny a b)=r8 a++r8 b
 | [],b=>rfl
 | x::a,b=>by
   have e:r8 (ny (x::a) b)=x.1::r8 (ny a b):=rfl
   rw[e,wV a b];rfl
def zL (fr:aT) (l:List Operand):List HV:=ot (fun x=>cw fr x) l
theorem ub (fr:aT):∀ l,r8 (zL fr l)=j6 (strip fr) l
 | []=>rfl
 | x::l=>by
   have e:r8 (zL fr (x::l))=(cw fr x).1::r8 (zL fr l):=rfl
   rw[e,ub fr l,aZ];rfl
def IF   (P:Program) (H:aa) (t:TypeId) (m key x:AV):Tr Delta :=
 match P.underlying t with
 | some (.map kt _)=>match m with
   | .map d i=>cond (az H d) .bad (cond (jW P kt key) (match au H d i with
     | (0,.fmap q h g c)=>match vg q key with
       | some n=>match zI x with
         | some y=>.ok (.set d i (0,.fmap q (mW h n true) (nO g n y) (rj (h n) c)))
         | none=>.bad
       | none=>.bad
     | _=>.bad) .bad)
   | _=>.bad
 | _=>.bad
def JI (P:Program) (H:aa) (t:TypeId) (m key:AV):Tr Delta :=
 match P.underlying t with
 | some (.map kt _)=>match m with
   | .map d i=>cond (az H d) .bad (cond (jW P kt key) (match au H d i with
     | (0,.fmap q h g c)=>match vg q key with
       | some n=>.ok (.set d i (0,.fmap q (mW h n false) (nO g n 0) (BR (h n) c)))
       | none=>.bad
     | _=>.bad) .bad)
   | _=>.bad
 | _=>.bad
def Kh (fr:aT):Option Operand→Bool
 | none=>true
 | some y=>isLit (cw fr y)
theorem mg {α:Type} {b:Bool} {s t:Tr α} {x:α} (h:(cond b s t).run=some x):b=true∧s.run=some x∨b=false∧t.run=some x:=by
 cases b
 · exact .inr ⟨rfl,h⟩
 · exact .inl ⟨rfl,h⟩
theorem C6 {P:Program} {H:aa} {t:TypeId} {m key x:AV} {δ:Delta} (h:(IF P H t m key x).run=some δ):jR P H t m key x=some δ:=by
 unfold IF at h
 unfold jR
 split at h
 · rename_i kt et hu
   rw[hu]
   split at h
   · rename_i d i
     dsimp only
     rcases mg h with ⟨_,h⟩ | ⟨h1,h⟩
     · exact (Tr.ae h).elim
     · rcases mg h with ⟨h2,h⟩ | ⟨_,h⟩
       · rw[if_neg (by rw[h1];simp),if_pos h2]
         split at h
         · rename_i q f g c hg
           rw[hg]
           try dsimp only
           split at h
           · rename_i n hn
             split at h
             · rename_i y hy
               simp only[hn,hy,← Tr.ab h,p6,p7,sY]
             · exact (Tr.ae h).elim
           · exact (Tr.ae h).elim
         · exact (Tr.ae h).elim
       · exact (Tr.ae h).elim
   · exact (Tr.ae h).elim
 · exact (Tr.ae h).elim
theorem G4 {P:Program} {H:aa} {t:TypeId} {m key:AV} {δ:Delta} (h:(JI P H t m key).run=some δ):pe P H t m key=some (.tup [],δ):=by
 unfold JI at h
 unfold pe
 split at h
 · rename_i kt et hu
   rw[hu]
   split at h
   · rename_i d i
     dsimp only
     rcases mg h with ⟨_,h⟩ | ⟨h1,h⟩
     · exact (Tr.ae h).elim
     · rcases mg h with ⟨h2,h⟩ | ⟨_,h⟩
       · rw[if_neg (by rw[h1];simp),if_pos h2]
         split at h
         · rename_i q f g c hg
           rw[hg]
           try dsimp only
           split at h
           · rename_i n hn
             simp only[hn,← Tr.ab h,p6,p7,yt]
           · exact (Tr.ae h).elim
         · exact (Tr.ae h).elim
       · exact (Tr.ae h).elim
   · exact (Tr.ae h).elim
 · exact (Tr.ae h).elim
def AH (P:Program) (call:aU) (callR:bJ) (fr:aT) (H:aa) (nx:Nat) (c:Call):Tr (HV×Delta) :=
 match c.callee with
 | .value f=>match (cw fr f).1 with
   | .fn (.func g) a b=>(callR (.fn g) (ny (tU a) (ny (zL fr c.args.toList) (tU b))) H).bind fun x=>.ok (x.1,.heap x.2)
   | .yld d i=>(callR (.round d i) (zL fr c.args.toList) H).bind fun x=>.ok (x.1,.heap x.2)
   | _=>.bad
 | .builtin .len=>match c.args.toList,c.argTypes.toList with
   | x::_,t::_=>(Hm P H t (cw fr x)).bind fun v=>.ok (v,.bf)
   | _,_=>.bad
 | .builtin .append=>match c.args.toList,c.argTypes.toList with
   | s::x::_,t::u::_=>(o5 P H nx t u (cw fr s).1 (cw fr x).1).bind hv
   | _,_=>.bad
 | .builtin .copy=>match c.args.toList,c.argTypes.toList with
   | s::x::_,t::_=>(EH P H t (cw fr s).1 (cw fr x).1).bind hv
   | _,_=>.bad
 | .builtin .clear=>match c.args.toList,c.argTypes.toList with
   | s::_,t::_=>(AJ P H t (cw fr s).1).bind hv
   | _,_=>.bad
 | .builtin .min=>match zM fr c.args.toList with
   | .int k x::r=>(pS false k x r).bind fun v=>.ok ((v,none),.bf)
   | _=>.bad
 | .builtin .max=>match zM fr c.args.toList with
   | .int k x::r=>(pS true k x r).bind fun v=>.ok ((v,none),.bf)
   | _=>.bad
 | .builtin .delete=>match c.args.toList,c.argTypes.toList with
   | m::k::_,t::_=>(JI P H t (cw fr m).1 (cw fr k).1).bind fun δ=>.ok ((.tup [],none),δ)
   | _,_=>.bad
 | _=>(wu (fU P call (strip fr) H nx c)).bind hv
theorem Dd {P:Program} {call:aU} {callR:bJ} (hC:callR.Ok call) {fr:aT} {H:aa} {nx:Nat} {c:Call} {y:HV×Delta} (h:(AH P call callR fr H nx c).run=some y):fU P call (strip fr) H nx c=some (y.1.1,y.2):=by
 have dflt:∀ (t:Tr (AV×Delta)),(t.bind hv).run=some y→t.run=some (y.1.1,y.2):=by
  intro t ht
  obtain ⟨x,h1,h2⟩:=Tr.bind_some ht
  obtain ⟨e1,e2⟩:=Cc h2
  rw[h1,e1,e2]
 unfold AH at h
 split at h
 · rename_i f hf
   unfold fU
   rw[hf]
   dsimp only
   rw[aZ] at h
   split at h
   · rename_i g a b ho
     obtain ⟨x,h1,h⟩:=Tr.bind_some h
     rw[ho]
     dsimp only
     have:=hC.2 _ _ _ _ h1
     rw[wV,wV,nU,nU,ub] at this
     rw[this,← Tr.ab h];rfl
   · rename_i d i ho
     obtain ⟨x,h1,h⟩:=Tr.bind_some h
     rw[ho]
     dsimp only
     have:=hC.2 _ _ _ _ h1
     rw[ub] at this
     rw[this,← Tr.ab h];rfl
   · exact (Tr.ae h).elim
 · rename_i hf
   unfold fU
   rw[hf]
   dsimp only
   split at h
   · rename_i x _ t _ hx ht
     obtain ⟨v,h1,h⟩:=Tr.bind_some h
     rw[hx,ht]
     dsimp only
     have:=Hn h1
     rw[aZ] at this
     obtain ⟨n,k1,k2⟩:=Option.map_eq_some_iff.1 this
     rw[k1,← Tr.ab h,← k2];rfl
   · exact (Tr.ae h).elim
 · rename_i hf
   unfold fU
   rw[hf]
   dsimp only
   split at h
   · rename_i s x _ t u _ hx ht
     rw[hx,ht]
     dsimp only
     have h:=AD (dflt _ h)
     rw[aZ,aZ] at h
     rw[nv hC.1]
     exact h
   · exact (Tr.ae h).elim
 · rename_i hf
   unfold fU
   rw[hf]
   dsimp only
   split at h
   · rename_i s x _ t _ hx ht
     rw[hx,ht]
     dsimp only
     have h:=EI (dflt _ h)
     rw[aZ,aZ] at h
     exact h
   · exact (Tr.ae h).elim
 · rename_i hf
   unfold fU
   rw[hf]
   dsimp only
   split at h
   · rename_i s _ t _ hx ht
     rw[hx,ht]
     dsimp only
     have h:=Dg (dflt _ h)
     rw[aZ] at h
     exact h
   · exact (Tr.ae h).elim
 · rename_i hf
   unfold fU
   rw[hf]
   dsimp only
   rw[uc] at h
   split at h
   · rename_i k x r hx
     obtain ⟨v,h1,h⟩:=Tr.bind_some h
     rw[hx]
     dsimp only[ov]
     rw[ow _ _ _ h1,← Tr.ab h];rfl
   · exact (Tr.ae h).elim
 · rename_i hf
   unfold fU
   rw[hf]
   dsimp only
   rw[uc] at h
   split at h
   · rename_i k x r hx
     obtain ⟨v,h1,h⟩:=Tr.bind_some h
     rw[hx]
     dsimp only[ov]
     rw[ow _ _ _ h1,← Tr.ab h];rfl
   · exact (Tr.ae h).elim
 · rename_i hf
   unfold fU
   rw[hf]
   dsimp only
   split at h
   · rename_i m k _ t _ hx ht
     rw[hx,ht]
     dsimp only
     obtain ⟨δ,h1,h⟩:=Tr.bind_some h
     have h1:=G4 h1
     rw[aZ,aZ] at h1
     rw[h1,← Tr.ab h]
   · exact (Tr.ae h).elim
 · have h:=dflt _ h
   rw[db] at h;exact h

def Jy (P:Program) (op:BinOp) (t:TypeId) (x y:HV):Tr HV :=
 cond (isLit x && isLit y) (match x.1,y.1 with
  | .int k a,.int k' b=>(wu (BK P op t (.int k a) (.int k' b))).bind fun v=>.ok (v,some 1)
  | a,b=>(Ew P op t a b).bind fun v=>.ok (v,none))
 ((Ew P op t x.1 y.1).bind fun v=>.ok (v,none))
theorem GQ {P:Program} {op:BinOp} {t:TypeId} {x y v:HV} (h:(Jy P op t x y).run=some v):kn P op t x.1 y.1=some v.1:=by
 have gen:∀ a b,((Ew P op t a b).bind fun v=>Tr.ok ((v,none):HV)).run=some v→kn P op t a b=some v.1:=by
  intro a b h
  obtain ⟨u,h1,h⟩:=Tr.bind_some h
  rw[GR h1,← Tr.ab h]
 unfold Jy at h
 cases hb:isLit x && isLit y with
 | false=>rw[hb,cond_false] at h;exact gen _ _ h
 | true =>
   rw[hb,cond_true] at h
   split at h
   · rename_i k a k' b hx hy
     obtain ⟨u,h1,h⟩:=Tr.bind_some h
     rw[db,sO] at h1
     rw[hx,hy,h1,← Tr.ab h]
   · exact gen _ _ h

def pQ (fr:aT) (l:List (Nat×Operand)):List (Nat×AV):=ot (fun p=>(p.1,(cw fr p.2).1)) l
theorem om (fr:aT):∀ l,pQ fr l=ed (strip fr) l
 | []=>rfl
 | (i,x)::l=>by
   have e:pQ fr ((i,x)::l)=(i,(cw fr x).1)::pQ fr l:=rfl
   rw[e,om fr l,aZ];rfl
def Md (op:Op):Oper→Program→aU→bJ→aT→aa→Nat→Tr (HV×Delta) :=
 match op with
 | .move x=>fun _ _ _ _ fr _ _=>.ok (cw fr x,.bf)
 | .assign x=>fun _ _ _ _ fr _ _=>.ok (cw fr x,.bf)
 | .pick c a b=>fun _ _ _ _ fr _ _=>match cw fr c with
   | (.bool t,none)=>.ite t (.ok (cw fr a,.bf)) (.ok (cw fr b,.bf))
   | (.bool t,some _)=>cond t (.ok (cw fr a,.bf)) (.ok (cw fr b,.bf))
   | _=>.bad
 | .alloc t=>fun _ P _ _ _ _ nx=>match (cO P t).bind AV.row with
   | some z=>.ok ((.ptr 0 nx 0 0,none),.push (.row (jC z)))
   | none=>.bad
 | .box _ x=>fun _ _ _ _ fr _ nx=>match (cw fr x).1.row with
   | some r=>.ok ((.ptr 0 nx 0 0,none),.push (.row (jC r)))
   | none=>.bad
 | .build t parts=>fun _ P _ _ fr _ _=>(wu (wW P true t (pQ fr parts.toList))).bind fun v=>.ok ((v,none),.bf)
 | .buildSlice t len parts=>fun _ P _ _ fr _ nx=>(wu (jF P nx t len (pQ fr parts.toList))).bind fun x=>.ok ((x.1,some 1),x.2)
 | .load t a=>fun _ P _ _ fr H _=>(loadT P H t (cw fr a)).bind fun v=>.ok ((v,none),.bf)
 | .store t a x=>fun _ P _ _ fr H _=>(storeT P H t (cw fr a) (cw fr x).1).bind fun δ=>.ok ((.tup [],none),δ)
 | .nilCheck x=>fun _ _ _ _ fr _ _=>match (cw fr x).1 with
   | .ptr d i v off=>.ok (cw fr x,.bf)
   | .ptrT s r off=>.ok (cw fr x,.bf)
   | _=>.bad
 | .binOp op t x y _=>fun _ P _ _ fr _ _=>(Jy P op t (cw fr x) (cw fr y)).bind fun v=>.ok (v,.bf)
 | .unOp op _ x=>fun _ _ _ _ fr _ _=>match op,cw fr x with
   | .not,(.bool b,some _)=>.ok ((.bool (cond b false true),some 1),.bf)
   | op,x=>(Q5 op x.1).bind fun v=>.ok ((v,none),.bf)
 | .convert src dst x=>fun _ P _ _ fr _ _=>match P.underlying src with
   | some _=>match P.underlying dst with
     | some (.int k)=>match cw fr x with
       | (.int _ n,none)=>.ok ((.int k (Bz k n),none),.bf)
       | (.int _ n,some _)=>.ok ((.int k (wP k n),some 1),.bf)
       | _=>.bad
     | _=>.bad
   | none=>.bad
 | .makeSlice t l c=>fun _ P _ _ fr _ nx=>(oi P nx t (cw fr l).1 (cw fr c).1).bind hv
 | .slice t x lo hi mx=>fun _ P _ _ fr _ _=>cond (isLit (cw fr x) && (Kh fr lo && (Kh fr hi && Kh fr mx)))
   ((wu (ra P t (cw fr x).1 (lo.map fun y=>(cw fr y).1) (hi.map fun y=>(cw fr y).1) (mx.map fun y=>(cw fr y).1))).bind fun v=>.ok ((v,some 1),.bf))
   ((Bk P t (cw fr x).1 (lo.map fun y=>(cw fr y).1) (hi.map fun y=>(cw fr y).1) (mx.map fun y=>(cw fr y).1)).bind fun v=>.ok ((v,none),.bf))
 | .fieldAddr t x f=>fun _ P _ _ fr _ _=>(ob P t (cw fr x) f).bind fun v=>.ok (v,.bf)
 | .field t x f=>fun _ P _ _ fr _ _=>(wu (th P t (cw fr x).1 f)).bind fun v=>.ok ((v,none),.bf)
 | .indexAddr t x i=>fun _ P _ _ fr _ _=>match (cw fr i).1 with
   | .int _ n=>(J5 P t (cw fr x) (isLit (cw fr i)) n).bind fun v=>.ok (v,.bf)
   | _=>.bad
 | .index t x i=>fun _ P _ _ fr _ _=>match (cw fr i).1 with
   | .int _ n=>(OK P t (cw fr x).1 (isLit (cw fr i)) n).bind fun v=>.ok ((v,none),.bf)
   | _=>.bad
 | .extract t ix=>fun _ _ _ _ fr _ _=>match (cw fr t).1 with
   | .tup l=>match yN l ix with
     | some v=>.ok ((v,none),.bf)
     | none=>.bad
   | _=>.bad
 | .call c=>fun _ P call callR fr H nx=>AH P call callR fr H nx c
 | .makeMap t r=>fun _ P _ _ _ _ nx=>match r with
   | none=>.ok ((.map 0 nx,none),.push (tT P t))
   | some _=>.bad
 | .mapUpdate t m k x=>fun _ P _ _ fr H _=>(IF P H t (cw fr m).1 (cw fr k).1 (cw fr x).1).bind fun δ=>.ok ((.tup [],none),δ)
 | .insert t m k x=>fun _ P _ _ fr H _=>(IF P H t (cw fr m).1 (cw fr k).1 (cw fr x).1).bind fun δ=>.ok ((.tup [],none),δ)
 | _=>fun o P call _ fr H nx=>(wu (evalOp P call (strip fr) H nx o)).bind hv
theorem A8 {o:Oper} {P:Program} {call:aU} {callR:bJ} (hC:callR.Ok call) {fr:aT} {H:aa} {nx:Nat} {y:HV×Delta} (h:(Md o.op o P call callR fr H nx).run=some y):evalOp P call (strip fr) H nx o=some (y.1.1,y.2):=by
 have dflt:∀ (t:Tr (AV×Delta)),(t.bind hv).run=some y→t.run=some (y.1.1,y.2):=by
  intro t ht
  obtain ⟨x,h1,h2⟩:=Tr.bind_some ht
  obtain ⟨e1,e2⟩:=Cc h2
  rw[h1,e1,e2]
 have dkp:∀ (t:Tr AV),(t.bind fun v=>Tr.ok (((v,none),.bf):HV×Delta)).run=some y→t.run=some y.1.1∧y.2=.bf:=by
  intro t ht
  obtain ⟨x,h1,h2⟩:=Tr.bind_some ht
  rw[h1,← Tr.ab h2];exact ⟨rfl,rfl⟩
 have kpe:∀ {o:Option AV} {v:AV},o=some v→kp o=some (v,.bf):=by rintro o v rfl;rfl
 cases ho:o.op<;>rw[ho] at h<;>simp only[Md] at h
 case move x =>
  unfold evalOp;rw[ho];dsimp only
  rw[← Tr.ab h,← aZ]
 case assign x =>
  unfold evalOp;rw[ho];dsimp only
  rw[← Tr.ab h,← aZ]
 case pick c a b =>
  unfold evalOp;rw[ho];dsimp only
  have hc':=aZ fr c
  split at h
  · rename_i t hc
    rw[hc] at hc'
    rw[← hc']
    dsimp only
    rcases Tr.gu h with ⟨rfl,h⟩ | ⟨rfl,h⟩<;>rw[← Tr.ab h,← aZ,← aZ]<;>rfl
  · rename_i t n hc
    rw[hc] at hc'
    rw[← hc']
    dsimp only
    cases t with
    | true=>rw[cond_true] at h;rw[← Tr.ab h,← aZ,← aZ];rfl
    | false=>rw[cond_false] at h;rw[← Tr.ab h,← aZ,← aZ];rfl
  · exact (Tr.ae h).elim
 case alloc t =>
  unfold evalOp;rw[ho];dsimp only
  split at h
  · rename_i z hz
    rw[hz,← Tr.ab h,Option.map_some,nv hC.1]
  · exact (Tr.ae h).elim
 case box t x =>
  unfold evalOp;rw[ho];dsimp only
  rw[aZ] at h
  split at h
  · rename_i z hz
    rw[hz,← Tr.ab h,Option.map_some,nv hC.1]
  · exact (Tr.ae h).elim
 case build t parts =>
  unfold evalOp;rw[ho];dsimp only
  obtain ⟨h1,h2⟩:=dkp _ h
  rw[db,om] at h1
  rw[nv hC.1,kpe h1,h2]
 case buildSlice t len parts =>
  unfold evalOp;rw[ho];dsimp only
  obtain ⟨x,h1,h⟩:=Tr.bind_some h
  rw[db,om] at h1
  rw[h1,← Tr.ab h]
 case load t a =>
  unfold evalOp;rw[ho];dsimp only
  obtain ⟨h1,h2⟩:=dkp _ h
  have h1:=zm h1
  rw[aZ] at h1
  rw[kpe h1,h2]
 case store t a x =>
  unfold evalOp;rw[ho];dsimp only
  obtain ⟨δ,h1,h⟩:=Tr.bind_some h
  have h1:=Eb h1
  rw[aZ,aZ] at h1
  rw[h1,← Tr.ab h];rfl
 case nilCheck x =>
  unfold evalOp;rw[ho];dsimp only
  rw[← aZ]
  split at h
  · rename_i d i v off hx
    rw[hx,← Tr.ab h,hx]
  · rename_i s r off hx
    rw[hx,← Tr.ab h,hx]
  · exact (Tr.ae h).elim
 case binOp op t x y' g =>
  unfold evalOp;rw[ho];dsimp only
  obtain ⟨v,h1,h⟩:=Tr.bind_some h
  have h1:=GQ h1
  rw[aZ,aZ] at h1
  rw[kpe h1,← Tr.ab h]
 case unOp op t x =>
  unfold evalOp;rw[ho];dsimp only
  split at h
  · rename_i b n hx
    have:bO (strip fr) x=.bool b:=by rw[← aZ,hx]
    rw[this,← Tr.ab h]
    cases b<;>rfl
  · obtain ⟨h1,h2⟩:=dkp _ h
    have h1:=K2 h1
    rw[aZ] at h1
    rw[kpe h1,h2]
 case convert s d x =>
  unfold evalOp;rw[ho];dsimp only
  split at h
  · rename_i u hu
    split at h
    · rename_i k hk
      have hx:=aZ fr x
      split at h
      · rename_i n hn
        rw[hn] at hx
        rw[hu,hk,← hx]
        dsimp only
        rw[← Tr.ab h,Gr]
      · rename_i n _ hn
        rw[hn] at hx
        rw[hu,hk,← hx]
        dsimp only
        rw[← Tr.ab h,uH]
      · exact (Tr.ae h).elim
    · exact (Tr.ae h).elim
  · exact (Tr.ae h).elim
 case makeSlice t l c =>
  unfold evalOp;rw[ho];dsimp only
  have h1:=vi (dflt _ h)
  rw[aZ,aZ] at h1
  rw[nv hC.1]
  exact h1
 case slice t x lo hi mx =>
  unfold evalOp;rw[ho];dsimp only
  have e:∀ z:Option Operand,(z.map fun y=>(cw fr y).1)=z.map (bO (strip fr)):=by
   intro z;cases z<;>simp[aZ]
  rcases mg h with ⟨_,h⟩ | ⟨_,h⟩
  · obtain ⟨v,h1,h2⟩:=Tr.bind_some h
    rw[db,aZ,e,e,e] at h1
    rw[kpe h1,← Tr.ab h2]
  · obtain ⟨h1,h2⟩:=dkp _ h
    have h1:=D5 h1
    rw[aZ] at h1
    rw[e,e,e] at h1
    rw[kpe h1,h2]
 case fieldAddr t x f =>
  unfold evalOp;rw[ho];dsimp only
  obtain ⟨v,h1,h⟩:=Tr.bind_some h
  have h1:=uX h1
  rw[aZ] at h1
  rw[kpe h1,← Tr.ab h]
 case field t x f =>
  unfold evalOp;rw[ho];dsimp only
  obtain ⟨h1,h2⟩:=dkp _ h
  rw[db,aZ] at h1
  rw[kpe h1,h2]
 case index t x i =>
  unfold evalOp;rw[ho];dsimp only
  rw[aZ] at h
  split at h
  · rename_i k n hn
    obtain ⟨v,h1,h⟩:=Tr.bind_some h
    have h1:=Kc h1
    rw[aZ] at h1
    rw[hn]
    dsimp only
    rw[kpe h1,← Tr.ab h]
  · exact (Tr.ae h).elim
 case indexAddr t x i =>
  unfold evalOp;rw[ho];dsimp only
  rw[aZ] at h
  split at h
  · rename_i k n hn
    obtain ⟨v,h1,h⟩:=Tr.bind_some h
    have h1:=Hg h1
    rw[aZ] at h1
    rw[hn]
    dsimp only
    rw[kpe h1,← Tr.ab h]
  · exact (Tr.ae h).elim
 case extract t ix =>
  unfold evalOp;rw[ho];dsimp only
  rw[aZ] at h
  split at h
  · rename_i l hl
    rw[hl]
    dsimp only
    rw[ln] at h
    split at h
    · rename_i v hv'
      rw[hv',← Tr.ab h]
    · exact (Tr.ae h).elim
  · exact (Tr.ae h).elim
 case call c =>
  unfold evalOp;rw[ho];dsimp only
  exact Dd hC h
 case makeMap t r =>
  unfold evalOp;rw[ho];try dsimp only
  cases r with
  | none =>
    dsimp only at h ⊢
    rw[nv hC.1,← Tr.ab h]
  | some r=>exact (Tr.ae h).elim
 case mapUpdate t m k x =>
  unfold evalOp;rw[ho];dsimp only
  obtain ⟨δ,h1,h⟩:=Tr.bind_some h
  have h1:=C6 h1
  rw[aZ,aZ,aZ] at h1
  rw[h1,← Tr.ab h];rfl
 case insert t m k x =>
  unfold evalOp;rw[ho];dsimp only
  obtain ⟨δ,h1,h⟩:=Tr.bind_some h
  have h1:=C6 h1
  rw[aZ,aZ,aZ] at h1
  rw[h1,← Tr.ab h];rfl
 all_goals
  have h1:=dflt _ h
  rw[db] at h1
  exact h1

end
end Go.Eng
