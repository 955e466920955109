/- The engine as a tree: the other builtins; operations. -/
import Derived.Test.YtgphpjdchnfjlaaDoorV3EngTcx2
set_option linter.unusedVariables false
set_option linter.unusedSimpArgs false
namespace Go.Eng
noncomputable section

abbrev bj:=L1→List HV→aa→Tr (HV×aa)
def lW (l:List HV):List AV:=mZ (fun x=>x.1) l
def bj.Ok (c:bj) (call:aA):Prop:=(∃ x,call .mode [] []=some x)∧∀ tgt args H x,(c tgt args H).run=some x→call tgt (lW args) H=some (x.1.1,x.2)
theorem mj {α:Type} {call:aA} (h:∃ x,call .mode [] []=some x) (a b:α):kN call a b=a:=by
 obtain ⟨x,h⟩:=h
 unfold kN
 rw[h]

def F0 (P:Program) (H:aa) (t:TypeId) (x:HV):Tr HV :=
 match P.underlying t with
 | some (.slice _)=>match x.1 with
   | .nils=>.ok (.int .i64 (Int.ofNat 0),some 1)
   | .slc _ _ _ _ _ len _=>.ok (.int .i64 (Int.ofNat len),x.2)
   | .slcT _ _ _ len _=>.ok (.int .i64 (Int.ofNat len),x.2)
   | _=>.bad
 | some (.array n _)=>.ok (.int .i64 (Int.ofNat n),some 1)
 | _=>(uv ((tg P H t x.1).map fun n=>AV.int .i64 n)).bind fun v=>.ok (v,none)
theorem F1 {P:Program} {H:aa} {t:TypeId} {x v:HV} (h:(F0 P H t x).run=some v):(tg P H t x.1).map (AV.int .i64)=some v.1:=by
 unfold F0 at h
 split at h
 · rename_i e hu
   unfold tg
   rw[hu]
   split at h
   · rename_i hx;rw[hx,← Tr.ab h];rfl
   · rename_i hx;rw[hx,← Tr.ab h];rfl
   · rename_i hx;rw[hx,← Tr.ab h];rfl
   · exact (Tr.ae h).elim
 · rename_i hu
   unfold tg
   rw[hu,← Tr.ab h];rfl
 · obtain ⟨u,h1,h⟩:=Tr.bind_some h
   rw[cA] at h1
   rw[h1,← Tr.ab h]
def Dt    (P:Program) (H:aa) (t:TypeId) (s x:AV):Tr (AV×Delta) :=
 match P.underlying t with
 | some (.slice e)=>match bg P e with
   | some z=>match mU x with
     | some n=>match s with
       | .slc d i v off sz m cap=>(qV H z (F6 n m) x).bind fun new=>cond (eM H d) .bad ((vN H d i v (some 0)).bind fun r=>cond (Nat.beq sz z) (match r with
          | .M l=>(Eu l off none (iP d new)).bind fun r'=>.ok (.int .i64 (Int.ofNat (F6 n m)),.set d i (v,.row r'))
          | _=>.bad) .bad)
       | _=>.bad
     | none=>.bad
   | none=>.bad
 | _=>.bad
theorem Du {P:Program} {H:aa} {t:TypeId} {s x:AV} {y:AV×Delta} (h:(Dt P H t s x).run=some y):copyV P H t s x=some y:=by
 unfold Dt at h
 unfold copyV
 split at h
 · rename_i e hu
   split at h
   · rename_i z hs
     split at h
     · rename_i n hn
       split at h
       · rename_i d i v off sz m cap _ _
         obtain ⟨new,h1,h⟩:=Tr.bind_some h
         rw[dA] at h
         obtain ⟨hl,h⟩:=Tr.jv h
         obtain ⟨r,h2,h⟩:=Tr.bind_some h
         obtain ⟨hz,h⟩:=Tr.aL h
         have hz:=Nat.eq_of_beq_eq_true hz
         have hcv:=oN h1
         rw[Bf] at hcv
         have hcl:=qW hcv
         rw[hu]
         dsimp only
         rw[hs,hn]
         dsimp only[mU]
         rw[hcv]
         dsimp only
         rw[hl,if_neg (by simp),kz h2]
         dsimp only
         split at h
         · rename_i l _
           obtain ⟨r',h3,h⟩:=Tr.bind_some h
           obtain ⟨k1,k2⟩:=vF h3
           rw[eF,hcl] at k1
           rw[if_pos ⟨hz,by rw[hz];exact k1⟩,k2,← Tr.ab h,Bf]
           rfl
         · exact (Tr.ae h).elim
       · exact (Tr.ae h).elim
     · exact (Tr.ae h).elim
   · exact (Tr.ae h).elim
 · exact (Tr.ae h).elim
def v7 (z:Row) (n:Nat):Row :=
 match z with
 | .I k l=>cond (wh l) (.M [.arr k (fun _=>0) (ff n (gQ l))]) (dj z n)
 | z=>dj z n
theorem uM (z:Row) (n:Nat):v7 z n=dj z n:=by
 cases z with
 | I k l =>
   simp only[v7]
   cases h:wh l with
   | true=>simp only[cond_true,dj,h,if_true,cq,c5]
   | false=>rfl
 | _=>rfl
def za (P:Program) (H:aa) (t:TypeId) (s:AV):Tr (AV×Delta) :=
 match P.underlying t with
 | some (.slice e)=>match s with
   | .slc d i v off sz len _=>cond (eM H d) .bad (match (cn P e).bind AV.row with
     | some z=>match bg P e with
       | some n=>cond (Nat.beq n sz) (cond (Nat.beq (gL z) sz) (.req (cW 0 len) ((vN H d i v (some 0)).bind fun r=>match r with
          | .M l=>(Eu l off none (v7 z len)).bind fun r'=>.ok (.tup [],.set d i (v,.row r'))
          | _=>.bad)) .bad) .bad
       | none=>.bad
     | none=>.bad)
   | _=>.bad
 | _=>.bad
theorem Ak (z:Row) (n:Nat):(dj z n).len=n*z.len:=by
 have fn:∀ l:List AV,(DF l n).len=n*l.length:=by
  intro l
  unfold DF
  split
  · split<;>simp[Row.len,dm]
  · simp[Row.len,dm]
 cases z with
 | I k l=>simp only[dj];split<;>simp[Row.len,au,aF,dm]
 | _=>simp only[dj,fn,Row.a6]
theorem B0 {P:Program} {H:aa} {t:TypeId} {s:AV} {y:AV×Delta} (h:(za P H t s).run=some y):qZ P H t s=some y:=by
 unfold za at h
 unfold qZ
 split at h
 · rename_i e hu
   split at h
   · rename_i d i v off sz len cap
     rw[dA] at h
     obtain ⟨hl,h⟩:=Tr.jv h
     split at h
     · rename_i z hz
       split at h
       · rename_i n hs
         obtain ⟨hn,h⟩:=Tr.aL h
         obtain ⟨hzl,h⟩:=Tr.aL h
         have hn:=Nat.eq_of_beq_eq_true hn
         rw[eE] at hzl
         have hzl:=Nat.eq_of_beq_eq_true hzl
         obtain ⟨h0,h⟩:=Tr.aH h
         rw[gz,decide_eq_true_eq] at h0
         obtain ⟨r,h2,h⟩:=Tr.bind_some h
         rw[hu]
         dsimp only
         rw[hl,if_neg (by simp),hz,kz h2]
         dsimp only
         split at h
         · rename_i l _
           obtain ⟨r',h3,h⟩:=Tr.bind_some h
           obtain ⟨k1,k2⟩:=vF h3
           rw[uM] at k1 k2
           rw[Ak,hzl] at k1
           rw[if_pos ⟨hzl,by rw[hs,hn],k1⟩,← Tr.ab h]
           rw[if_neg (by omega)]
           simp only[wY,if_true]
           rw[← k2]
         · exact (Tr.ae h).elim
       · exact (Tr.ae h).elim
     · exact (Tr.ae h).elim
   · exact (Tr.ae h).elim
 · exact (Tr.ae h).elim
def mW (P:Program) (nx:Nat) (t:TypeId) (l c:AV):Tr (AV×Delta) :=
 match P.underlying t with
 | some (.slice e)=>match l with
   | .int _ l=>match c with
     | .int _ c=>match P.info? e with
       | some inf=>match (cn P e).bind AV.row with
         | some z=>.req (CW l c inf.bytes) (cond (Nat.beq (gL z) inf.size) (.ok (.slc 0 nx 0 0 inf.size (cD l) (some (cD c)),.push (.row (v7 z (cD c))))) .bad)
         | none=>.bad
       | none=>.bad
     | _=>.bad
   | _=>.bad
 | _=>.bad
theorem tj {P:Program} {nx:Nat} {t:TypeId} {l c:AV} {y:AV×Delta} (h:(mW P nx t l c).run=some y):iE P true nx t l c=some y:=by
 unfold mW at h
 unfold iE
 split at h
 · rename_i e hu
   split at h
   · split at h
     · split at h
       · rename_i inf hi
         split at h
         · rename_i z hz
           obtain ⟨hc,h⟩:=Tr.aH h
           obtain ⟨hl,h⟩:=Tr.aL h
           rw[zI,decide_eq_true_eq] at hc
           rw[eE] at hl
           have hl:=Nat.eq_of_beq_eq_true hl
           rw[hu]
           dsimp only
           rw[hi,hz]
           dsimp only
           rw[if_pos ⟨hc.1,hc.2.1,hc.2.2.1,hc.2.2.2,hl⟩,← Tr.ab h,uM,np,np]
           rfl
         · exact (Tr.ae h).elim
       · exact (Tr.ae h).elim
     · exact (Tr.ae h).elim
   · exact (Tr.ae h).elim
 · exact (Tr.ae h).elim

def hv (x:AV×Delta):Tr (HV×Delta):=.ok ((x.1,none),x.2)
theorem AX {x:AV×Delta} {y:HV×Delta} (h:(hv x).run=some y):y.1.1=x.1∧y.2=x.2:=by
 have:=Tr.ab h
 rw[← this]
 exact ⟨rfl,rfl⟩
def r4 (l:List AV):List HV:=mZ (fun x=>(x,none)) l
theorem mL:∀ l:List AV,lW (r4 l)=l
 | []=>rfl
 | x::l=>by
   have e:lW (r4 (x::l))=x::lW (r4 l):=rfl
   rw[e,mL l]
theorem uO:∀ a b:List HV,lW (mq a b)=lW a++lW b
 | [],b=>rfl
 | x::a,b=>by
   have e:lW (mq (x::a) b)=x.1::lW (mq a b):=rfl
   rw[e,uO a b];rfl
def xx (fr:aK) (l:List Operand):List HV:=mZ (fun x=>bT fr x) l
theorem sa (fr:aK):∀ l,lW (xx fr l)=jk (strip fr) l
 | []=>rfl
 | x::l=>by
   have e:lW (xx fr (x::l))=(bT fr x).1::lW (xx fr l):=rfl
   rw[e,sa fr l,aQ];rfl
def GS   (P:Program) (H:aa) (t:TypeId) (m key x:AV):Tr Delta :=
 match P.underlying t with
 | some (.map kt _)=>match m with
   | .map d i=>cond (aC H d) .bad (cond (jj P kt key) (match ar H d i with
     | (0,.fmap q h g c)=>match te q key with
       | some n=>match xu x with
         | some y=>.ok (.set d i (0,.fmap q (lP h n true) (lQ g n y) (pD (h n) c)))
         | none=>.bad
       | none=>.bad
     | _=>.bad) .bad)
   | _=>.bad
 | _=>.bad
def IA (P:Program) (H:aa) (t:TypeId) (m key:AV):Tr Delta :=
 match P.underlying t with
 | some (.map kt _)=>match m with
   | .map d i=>cond (aC H d) .bad (cond (jj P kt key) (match ar H d i with
     | (0,.fmap q h g c)=>match te q key with
       | some n=>.ok (.set d i (0,.fmap q (lP h n false) (lQ g n 0) (wm (h n) c)))
       | none=>.bad
     | _=>.bad) .bad)
   | _=>.bad
 | _=>.bad
def I9 (fr:aK):Option Operand→Bool
 | none=>true
 | some y=>isLit (bT fr y)
theorem kW {α:Type} {b:Bool} {s t:Tr α} {x:α} (h:(cond b s t).run=some x):b=true∧s.run=some x∨b=false∧t.run=some x:=by
 cases b
 · exact .inr ⟨rfl,h⟩
 · exact .inl ⟨rfl,h⟩
theorem BP {P:Program} {H:aa} {t:TypeId} {m key x:AV} {δ:Delta} (h:(GS P H t m key x).run=some δ):jg P H t m key x=some δ:=by
 unfold GS at h
 unfold jg
 split at h
 · rename_i kt et hu
   rw[hu]
   split at h
   · rename_i d i
     dsimp only
     rcases kW h with ⟨_,h⟩ | ⟨h1,h⟩
     · exact (Tr.ae h).elim
     · rcases kW h with ⟨h2,h⟩ | ⟨_,h⟩
       · rw[if_neg (by rw[h1];simp),if_pos h2]
         split at h
         · rename_i q f g c hg
           rw[hg]
           try dsimp only
           split at h
           · rename_i n hn
             split at h
             · rename_i y hy
               simp only[hn,hy,← Tr.ab h,gu,gv,kV]
             · exact (Tr.ae h).elim
           · exact (Tr.ae h).elim
         · exact (Tr.ae h).elim
       · exact (Tr.ae h).elim
   · exact (Tr.ae h).elim
 · exact (Tr.ae h).elim
theorem FI {P:Program} {H:aa} {t:TypeId} {m key:AV} {δ:Delta} (h:(IA P H t m key).run=some δ):nG P H t m key=some (.tup [],δ):=by
 unfold IA at h
 unfold nG
 split at h
 · rename_i kt et hu
   rw[hu]
   split at h
   · rename_i d i
     dsimp only
     rcases kW h with ⟨_,h⟩ | ⟨h1,h⟩
     · exact (Tr.ae h).elim
     · rcases kW h with ⟨h2,h⟩ | ⟨_,h⟩
       · rw[if_neg (by rw[h1];simp),if_pos h2]
         split at h
         · rename_i q f g c hg
           rw[hg]
           try dsimp only
           split at h
           · rename_i n hn
             simp only[hn,← Tr.ab h,gu,gv,ra]
           · exact (Tr.ae h).elim
         · exact (Tr.ae h).elim
       · exact (Tr.ae h).elim
   · exact (Tr.ae h).elim
 · exact (Tr.ae h).elim
def yZ (P:Program) (call:aA) (callR:bj) (fr:aK) (H:aa) (nx:Nat) (c:Call):Tr (HV×Delta) :=
 match c.callee with
 | .value f=>match (bT fr f).1 with
   | .fn (.func g) a b=>(callR (.fn g) (mq (r4 a) (mq (xx fr c.args.toList) (r4 b))) H).bind fun x=>.ok (x.1,.heap x.2)
   | .yld d i=>(callR (.round d i) (xx fr c.args.toList) H).bind fun x=>.ok (x.1,.heap x.2)
   | _=>.bad
 | .builtin .len=>match c.args.toList,c.argTypes.toList with
   | x::_,t::_=>(F0 P H t (bT fr x)).bind fun v=>.ok (v,.a8)
   | _,_=>.bad
 | .builtin .append=>match c.args.toList,c.argTypes.toList with
   | s::x::_,t::u::_=>(nB P H nx t u (bT fr s).1 (bT fr x).1).bind hv
   | _,_=>.bad
 | .builtin .copy=>match c.args.toList,c.argTypes.toList with
   | s::x::_,t::_=>(Dt P H t (bT fr s).1 (bT fr x).1).bind hv
   | _,_=>.bad
 | .builtin .clear=>match c.args.toList,c.argTypes.toList with
   | s::_,t::_=>(za P H t (bT fr s).1).bind hv
   | _,_=>.bad
 | .builtin .min=>match xy fr c.args.toList with
   | .int k x::r=>(og false k x r).bind fun v=>.ok ((v,none),.a8)
   | _=>.bad
 | .builtin .max=>match xy fr c.args.toList with
   | .int k x::r=>(og true k x r).bind fun v=>.ok ((v,none),.a8)
   | _=>.bad
 | .builtin .delete=>match c.args.toList,c.argTypes.toList with
   | m::k::_,t::_=>(IA P H t (bT fr m).1 (bT fr k).1).bind fun δ=>.ok ((.tup [],none),δ)
   | _,_=>.bad
 | _=>(uv (eU P call (strip fr) H nx c)).bind hv
theorem BY {P:Program} {call:aA} {callR:bj} (hC:callR.Ok call) {fr:aK} {H:aa} {nx:Nat} {c:Call} {y:HV×Delta} (h:(yZ P call callR fr H nx c).run=some y):eU P call (strip fr) H nx c=some (y.1.1,y.2):=by
 have dflt:∀ (t:Tr (AV×Delta)),(t.bind hv).run=some y→t.run=some (y.1.1,y.2):=by
  intro t ht
  obtain ⟨x,h1,h2⟩:=Tr.bind_some ht
  obtain ⟨e1,e2⟩:=AX h2
  rw[h1,e1,e2]
 unfold yZ at h
 split at h
 · rename_i f hf
   unfold eU
   rw[hf]
   dsimp only
   rw[aQ] at h
   split at h
   · rename_i g a b ho
     obtain ⟨x,h1,h⟩:=Tr.bind_some h
     rw[ho]
     dsimp only
     have:=hC.2 _ _ _ _ h1
     rw[uO,uO,mL,mL,sa] at this
     rw[this,← Tr.ab h];rfl
   · rename_i d i ho
     obtain ⟨x,h1,h⟩:=Tr.bind_some h
     rw[ho]
     dsimp only
     have:=hC.2 _ _ _ _ h1
     rw[sa] at this
     rw[this,← Tr.ab h];rfl
   · exact (Tr.ae h).elim
 · rename_i hf
   unfold eU
   rw[hf]
   dsimp only
   split at h
   · rename_i x _ t _ hx ht
     obtain ⟨v,h1,h⟩:=Tr.bind_some h
     rw[hx,ht]
     dsimp only
     have:=F1 h1
     rw[aQ] at this
     obtain ⟨n,k1,k2⟩:=Option.map_eq_some_iff.1 this
     rw[k1,← Tr.ab h,← k2];rfl
   · exact (Tr.ae h).elim
 · rename_i hf
   unfold eU
   rw[hf]
   dsimp only
   split at h
   · rename_i s x _ t u _ hx ht
     rw[hx,ht]
     dsimp only
     have h:=yS (dflt _ h)
     rw[aQ,aQ] at h
     rw[mj hC.1]
     exact h
   · exact (Tr.ae h).elim
 · rename_i hf
   unfold eU
   rw[hf]
   dsimp only
   split at h
   · rename_i s x _ t _ hx ht
     rw[hx,ht]
     dsimp only
     have h:=Du (dflt _ h)
     rw[aQ,aQ] at h
     exact h
   · exact (Tr.ae h).elim
 · rename_i hf
   unfold eU
   rw[hf]
   dsimp only
   split at h
   · rename_i s _ t _ hx ht
     rw[hx,ht]
     dsimp only
     have h:=B0 (dflt _ h)
     rw[aQ] at h
     exact h
   · exact (Tr.ae h).elim
 · rename_i hf
   unfold eU
   rw[hf]
   dsimp only
   rw[sb] at h
   split at h
   · rename_i k x r hx
     obtain ⟨v,h1,h⟩:=Tr.bind_some h
     rw[hx]
     dsimp only[m5]
     rw[m6 _ _ _ h1,← Tr.ab h];rfl
   · exact (Tr.ae h).elim
 · rename_i hf
   unfold eU
   rw[hf]
   dsimp only
   rw[sb] at h
   split at h
   · rename_i k x r hx
     obtain ⟨v,h1,h⟩:=Tr.bind_some h
     rw[hx]
     dsimp only[m5]
     rw[m6 _ _ _ h1,← Tr.ab h];rfl
   · exact (Tr.ae h).elim
 · rename_i hf
   unfold eU
   rw[hf]
   dsimp only
   split at h
   · rename_i m k _ t _ hx ht
     rw[hx,ht]
     dsimp only
     obtain ⟨δ,h1,h⟩:=Tr.bind_some h
     have h1:=FI h1
     rw[aQ,aQ] at h1
     rw[h1,← Tr.ab h]
   · exact (Tr.ae h).elim
 · have h:=dflt _ h
   rw[cA] at h;exact h

def Is (P:Program) (op:BinOp) (t:TypeId) (x y:HV):Tr HV :=
 cond (isLit x && isLit y) (match x.1,y.1 with
  | .int k a,.int k' b=>(uv (Au P op t (.int k a) (.int k' b))).bind fun v=>.ok (v,some 1)
  | a,b=>(Dc P op t a b).bind fun v=>.ok (v,none))
 ((Dc P op t x.1 y.1).bind fun v=>.ok (v,none))
theorem Fu {P:Program} {op:BinOp} {t:TypeId} {x y v:HV} (h:(Is P op t x y).run=some v):jt P op t x.1 y.1=some v.1:=by
 have gen:∀ a b,((Dc P op t a b).bind fun v=>Tr.ok ((v,none):HV)).run=some v→jt P op t a b=some v.1:=by
  intro a b h
  obtain ⟨u,h1,h⟩:=Tr.bind_some h
  rw[Fv h1,← Tr.ab h]
 unfold Is at h
 cases hb:isLit x && isLit y with
 | false=>rw[hb,cond_false] at h;exact gen _ _ h
 | true =>
   rw[hb,cond_true] at h
   split at h
   · rename_i k a k' b hx hy
     obtain ⟨u,h1,h⟩:=Tr.bind_some h
     rw[cA,qQ] at h1
     rw[hx,hy,h1,← Tr.ab h]
   · exact gen _ _ h

def od (fr:aK) (l:List (Nat×Operand)):List (Nat×AV):=mZ (fun p=>(p.1,(bT fr p.2).1)) l
theorem mX (fr:aK):∀ l,od fr l=dv (strip fr) l
 | []=>rfl
 | (i,x)::l=>by
   have e:od fr ((i,x)::l)=(i,(bT fr x).1)::od fr l:=rfl
   rw[e,mX fr l,aQ];rfl
def Lk (op:Op):Oper→Program→aA→bj→aK→aa→Nat→Tr (HV×Delta) :=
 match op with
 | .move x=>fun _ _ _ _ fr _ _=>.ok (bT fr x,.a8)
 | .assign x=>fun _ _ _ _ fr _ _=>.ok (bT fr x,.a8)
 | .pick c a b=>fun _ _ _ _ fr _ _=>match bT fr c with
   | (.bool t,none)=>.ite t (.ok (bT fr a,.a8)) (.ok (bT fr b,.a8))
   | (.bool t,some _)=>cond t (.ok (bT fr a,.a8)) (.ok (bT fr b,.a8))
   | _=>.bad
 | .alloc t=>fun _ P _ _ _ _ nx=>match (cn P t).bind AV.row with
   | some z=>.ok ((.ptr 0 nx 0 0,none),.push (.row (iS z)))
   | none=>.bad
 | .box _ x=>fun _ _ _ _ fr _ nx=>match (bT fr x).1.row with
   | some r=>.ok ((.ptr 0 nx 0 0,none),.push (.row (iS r)))
   | none=>.bad
 | .build t parts=>fun _ P _ _ fr _ _=>(uv (uR P true t (od fr parts.toList))).bind fun v=>.ok ((v,none),.a8)
 | .buildSlice t len parts=>fun _ P _ _ fr _ nx=>(uv (iV P nx t len (od fr parts.toList))).bind fun x=>.ok ((x.1,some 1),x.2)
 | .load t a=>fun _ P _ _ fr H _=>(loadT P H t (bT fr a)).bind fun v=>.ok ((v,none),.a8)
 | .store t a x=>fun _ P _ _ fr H _=>(storeT P H t (bT fr a) (bT fr x).1).bind fun δ=>.ok ((.tup [],none),δ)
 | .nilCheck x=>fun _ _ _ _ fr _ _=>match (bT fr x).1 with
   | .ptr d i v off=>.ok (bT fr x,.a8)
   | .ptrT s r off=>.ok (bT fr x,.a8)
   | _=>.bad
 | .binOp op t x y _=>fun _ P _ _ fr _ _=>(Is P op t (bT fr x) (bT fr y)).bind fun v=>.ok (v,.a8)
 | .unOp op _ x=>fun _ _ _ _ fr _ _=>match op,bT fr x with
   | .not,(.bool b,some _)=>.ok ((.bool (cond b false true),some 1),.a8)
   | op,x=>(OJ op x.1).bind fun v=>.ok ((v,none),.a8)
 | .convert src dst x=>fun _ P _ _ fr _ _=>match P.underlying src with
   | some _=>match P.underlying dst with
     | some (.int k)=>match bT fr x with
       | (.int _ n,none)=>.ok ((.int k (OM k n),none),.a8)
       | (.int _ n,some _)=>.ok ((.int k (uL k n),some 1),.a8)
       | _=>.bad
     | _=>.bad
   | none=>.bad
 | .makeSlice t l c=>fun _ P _ _ fr _ nx=>(mW P nx t (bT fr l).1 (bT fr c).1).bind hv
 | .slice t x lo hi mx=>fun _ P _ _ fr _ _=>cond (isLit (bT fr x) && (I9 fr lo && (I9 fr hi && I9 fr mx)))
   ((uv (py P t (bT fr x).1 (lo.map fun y=>(bT fr y).1) (hi.map fun y=>(bT fr y).1) (mx.map fun y=>(bT fr y).1))).bind fun v=>.ok ((v,some 1),.a8))
   ((zY P t (bT fr x).1 (lo.map fun y=>(bT fr y).1) (hi.map fun y=>(bT fr y).1) (mx.map fun y=>(bT fr y).1)).bind fun v=>.ok ((v,none),.a8))
 | .fieldAddr t x f=>fun _ P _ _ fr _ _=>(mO P t (bT fr x) f).bind fun v=>.ok (v,.a8)
 | .field t x f=>fun _ P _ _ fr _ _=>(uv (rp P t (bT fr x).1 f)).bind fun v=>.ok ((v,none),.a8)
 | .indexAddr t x i=>fun _ P _ _ fr _ _=>match (bT fr i).1 with
   | .int _ n=>(I0 P t (bT fr x) (isLit (bT fr i)) n).bind fun v=>.ok (v,.a8)
   | _=>.bad
 | .index t x i=>fun _ P _ _ fr _ _=>match (bT fr i).1 with
   | .int _ n=>(Mv P t (bT fr x).1 (isLit (bT fr i)) n).bind fun v=>.ok ((v,none),.a8)
   | _=>.bad
 | .extract t ix=>fun _ _ _ _ fr _ _=>match (bT fr t).1 with
   | .tup l=>match wN l ix with
     | some v=>.ok ((v,none),.a8)
     | none=>.bad
   | _=>.bad
 | .call c=>fun _ P call callR fr H nx=>yZ P call callR fr H nx c
 | .makeMap t r=>fun _ P _ _ _ _ nx=>match r with
   | none=>.ok ((.map 0 nx,none),.push (rZ P t))
   | some _=>.bad
 | .mapUpdate t m k x=>fun _ P _ _ fr H _=>(GS P H t (bT fr m).1 (bT fr k).1 (bT fr x).1).bind fun δ=>.ok ((.tup [],none),δ)
 | .insert t m k x=>fun _ P _ _ fr H _=>(GS P H t (bT fr m).1 (bT fr k).1 (bT fr x).1).bind fun δ=>.ok ((.tup [],none),δ)
 | _=>fun o P call _ fr H nx=>(uv (evalOp P call (strip fr) H nx o)).bind hv
theorem zQ {o:Oper} {P:Program} {call:aA} {callR:bj} (hC:callR.Ok call) {fr:aK} {H:aa} {nx:Nat} {y:HV×Delta} (h:(Lk o.op o P call callR fr H nx).run=some y):evalOp P call (strip fr) H nx o=some (y.1.1,y.2):=by
 have dflt:∀ (t:Tr (AV×Delta)),(t.bind hv).run=some y→t.run=some (y.1.1,y.2):=by
  intro t ht
  obtain ⟨x,h1,h2⟩:=Tr.bind_some ht
  obtain ⟨e1,e2⟩:=AX h2
  rw[h1,e1,e2]
 have dkp:∀ (t:Tr AV),(t.bind fun v=>Tr.ok (((v,none),.a8):HV×Delta)).run=some y→t.run=some y.1.1∧y.2=.a8:=by
  intro t ht
  obtain ⟨x,h1,h2⟩:=Tr.bind_some ht
  rw[h1,← Tr.ab h2];exact ⟨rfl,rfl⟩
 have kpe:∀ {o:Option AV} {v:AV},o=some v→kp o=some (v,.a8):=by rintro o v rfl;rfl
 cases ho:o.op<;>rw[ho] at h<;>simp only[Lk] at h
 case move x =>
  unfold evalOp;rw[ho];dsimp only
  rw[← Tr.ab h,← aQ]
 case assign x =>
  unfold evalOp;rw[ho];dsimp only
  rw[← Tr.ab h,← aQ]
 case pick c a b =>
  unfold evalOp;rw[ho];dsimp only
  have hc':=aQ fr c
  split at h
  · rename_i t hc
    rw[hc] at hc'
    rw[← hc']
    dsimp only
    rcases Tr.jE h with ⟨rfl,h⟩ | ⟨rfl,h⟩<;>rw[← Tr.ab h,← aQ,← aQ]<;>rfl
  · rename_i t n hc
    rw[hc] at hc'
    rw[← hc']
    dsimp only
    cases t with
    | true=>rw[cond_true] at h;rw[← Tr.ab h,← aQ,← aQ];rfl
    | false=>rw[cond_false] at h;rw[← Tr.ab h,← aQ,← aQ];rfl
  · exact (Tr.ae h).elim
 case alloc t =>
  unfold evalOp;rw[ho];dsimp only
  split at h
  · rename_i z hz
    rw[hz,← Tr.ab h,Option.map_some,mj hC.1]
  · exact (Tr.ae h).elim
 case box t x =>
  unfold evalOp;rw[ho];dsimp only
  rw[aQ] at h
  split at h
  · rename_i z hz
    rw[hz,← Tr.ab h,Option.map_some,mj hC.1]
  · exact (Tr.ae h).elim
 case build t parts =>
  unfold evalOp;rw[ho];dsimp only
  obtain ⟨h1,h2⟩:=dkp _ h
  rw[cA,mX] at h1
  rw[mj hC.1,kpe h1,h2]
 case buildSlice t len parts =>
  unfold evalOp;rw[ho];dsimp only
  obtain ⟨x,h1,h⟩:=Tr.bind_some h
  rw[cA,mX] at h1
  rw[h1,← Tr.ab h]
 case load t a =>
  unfold evalOp;rw[ho];dsimp only
  obtain ⟨h1,h2⟩:=dkp _ h
  have h1:=xe h1
  rw[aQ] at h1
  rw[kpe h1,h2]
 case store t a x =>
  unfold evalOp;rw[ho];dsimp only
  obtain ⟨δ,h1,h⟩:=Tr.bind_some h
  have h1:=CO h1
  rw[aQ,aQ] at h1
  rw[h1,← Tr.ab h];rfl
 case nilCheck x =>
  unfold evalOp;rw[ho];dsimp only
  rw[← aQ]
  split at h
  · rename_i d i v off hx
    rw[hx,← Tr.ab h,hx]
  · rename_i s r off hx
    rw[hx,← Tr.ab h,hx]
  · exact (Tr.ae h).elim
 case binOp op t x y' g =>
  unfold evalOp;rw[ho];dsimp only
  obtain ⟨v,h1,h⟩:=Tr.bind_some h
  have h1:=Fu h1
  rw[aQ,aQ] at h1
  rw[kpe h1,← Tr.ab h]
 case unOp op t x =>
  unfold evalOp;rw[ho];dsimp only
  split at h
  · rename_i b n hx
    have:bE (strip fr) x=.bool b:=by rw[← aQ,hx]
    rw[this,← Tr.ab h]
    cases b<;>rfl
  · obtain ⟨h1,h2⟩:=dkp _ h
    have h1:=JS h1
    rw[aQ] at h1
    rw[kpe h1,h2]
 case convert s d x =>
  unfold evalOp;rw[ho];dsimp only
  split at h
  · rename_i u hu
    split at h
    · rename_i k hk
      have hx:=aQ fr x
      split at h
      · rename_i n hn
        rw[hn] at hx
        rw[hu,hk,← hx]
        dsimp only
        rw[← Tr.ab h,JU]
      · rename_i n _ hn
        rw[hn] at hx
        rw[hu,hk,← hx]
        dsimp only
        rw[← Tr.ab h,sI]
      · exact (Tr.ae h).elim
    · exact (Tr.ae h).elim
  · exact (Tr.ae h).elim
 case makeSlice t l c =>
  unfold evalOp;rw[ho];dsimp only
  have h1:=tj (dflt _ h)
  rw[aQ,aQ] at h1
  rw[mj hC.1]
  exact h1
 case slice t x lo hi mx =>
  unfold evalOp;rw[ho];dsimp only
  have e:∀ z:Option Operand,(z.map fun y=>(bT fr y).1)=z.map (bE (strip fr)):=by
   intro z;cases z<;>simp[aQ]
  rcases kW h with ⟨_,h⟩ | ⟨_,h⟩
  · obtain ⟨v,h1,h2⟩:=Tr.bind_some h
    rw[cA,aQ,e,e,e] at h1
    rw[kpe h1,← Tr.ab h2]
  · obtain ⟨h1,h2⟩:=dkp _ h
    have h1:=CI h1
    rw[aQ] at h1
    rw[e,e,e] at h1
    rw[kpe h1,h2]
 case fieldAddr t x f =>
  unfold evalOp;rw[ho];dsimp only
  obtain ⟨v,h1,h⟩:=Tr.bind_some h
  have h1:=sY h1
  rw[aQ] at h1
  rw[kpe h1,← Tr.ab h]
 case field t x f =>
  unfold evalOp;rw[ho];dsimp only
  obtain ⟨h1,h2⟩:=dkp _ h
  rw[cA,aQ] at h1
  rw[kpe h1,h2]
 case index t x i =>
  unfold evalOp;rw[ho];dsimp only
  rw[aQ] at h
  split at h
  · rename_i k n hn
    obtain ⟨v,h1,h⟩:=Tr.bind_some h
    have h1:=I6 h1
    rw[aQ] at h1
    rw[hn]
    dsimp only
    rw[kpe h1,← Tr.ab h]
  · exact (Tr.ae h).elim
 case indexAddr t x i =>
  unfold evalOp;rw[ho];dsimp only
  rw[aQ] at h
  split at h
  · rename_i k n hn
    obtain ⟨v,h1,h⟩:=Tr.bind_some h
    have h1:=FV h1
    rw[aQ] at h1
    rw[hn]
    dsimp only
    rw[kpe h1,← Tr.ab h]
  · exact (Tr.ae h).elim
 case extract t ix =>
  unfold evalOp;rw[ho];dsimp only
  rw[aQ] at h
  split at h
  · rename_i l hl
    rw[hl]
    dsimp only
    rw[ka] at h
    split at h
    · rename_i v hv'
      rw[hv',← Tr.ab h]
    · exact (Tr.ae h).elim
  · exact (Tr.ae h).elim
 case call c =>
  unfold evalOp;rw[ho];dsimp only
  exact BY hC h
 case makeMap t r =>
  unfold evalOp;rw[ho];try dsimp only
  cases r with
  | none =>
    dsimp only at h ⊢
    rw[mj hC.1,← Tr.ab h]
  | some r=>exact (Tr.ae h).elim
 case mapUpdate t m k x =>
  unfold evalOp;rw[ho];dsimp only
  obtain ⟨δ,h1,h⟩:=Tr.bind_some h
  have h1:=BP h1
  rw[aQ,aQ,aQ] at h1
  rw[h1,← Tr.ab h];rfl
 case insert t m k x =>
  unfold evalOp;rw[ho];dsimp only
  obtain ⟨δ,h1,h⟩:=Tr.bind_some h
  have h1:=BP h1
  rw[aQ,aQ,aQ] at h1
  rw[h1,← Tr.ab h];rfl
 all_goals
  have h1:=dflt _ h
  rw[cA] at h1
  exact h1

end
end Go.Eng
