/- The engine as a tree: the other builtins; operations. -/
import Derived.Test.YtgphpjdchnfjlaaDoorV4EngTcx2
set_option linter.unusedVariables false
set_option linter.unusedSimpArgs false
namespace Go.Eng
noncomputable section

abbrev bp:=Px→List HV→aa→Tr (HV×aa)
def jL (l:List HV):List AV:=q8 (fun x=>x.1) l
def bp.Ok (c:bp) (call:aI):Prop:=(∃ x,call .mode [] []=some x)∧∀ tgt args H x,(c tgt args H).run=some x→call tgt (jL args) H=some (x.1.1,x.2)
theorem mZ {α:Type} {call:aI} (h:∃ x,call .mode [] []=some x) (a b:α):ng call a b=a:=by
 obtain ⟨x,h⟩:=h;unfold ng;rw[h]

def Ip (P:Program) (H:aa) (t:TypeId) (x:HV):Tr HV :=
 match P.underlying t with
 | some (.slice _)=>match x.1 with
   | .nils=>.ok (.int .i64 (Int.ofNat 0),some 1)
   | .slc _ _ _ _ _ len _=>.ok (.int .i64 (Int.ofNat len),x.2)
   | .slcT _ _ _ len _=>.ok (.int .i64 (Int.ofNat len),x.2)
   | _=>.bad
 | some (.array n _)=>.ok (.int .i64 (Int.ofNat n),some 1)
 | _=>(vz ((uD P H t x.1).map fun n=>AV.int .i64 n)).bind fun v=>.ok (v,none)
theorem Iq {P:Program} {H:aa} {t:TypeId} {x v:HV} (h:(Ip P H t x).run=some v):(uD P H t x.1).map (AV.int .i64)=some v.1:=by
 unfold Ip at h;split at h
 · rename_i e hu;unfold uD;rw[hu];split at h
   · rename_i hx;rw[hx,← Tr.ab h];rfl
   · rename_i hx;rw[hx,← Tr.ab h];rfl
   · rename_i hx;rw[hx,← Tr.ab h];rfl
   · exact (Tr.ag h).elim
 · rename_i hu;unfold uD;rw[hu,← Tr.ab h];rfl
 · obtain ⟨u,h1,h⟩:=Tr.bind_some h;rw[c5] at h1;rw[h1,← Tr.ab h]
def Ff    (P:Program) (H:aa) (t:TypeId) (s x:AV):Tr (AV×Delta) :=
 match P.underlying t with
 | some (.slice e)=>match bA P e with
   | some z=>match nQ x with
     | some n=>match s with
       | .slc d i v off sz m cap=>(r6 H z (wN n m) x).bind fun new=>cond (jO H d) .bad ((xc H d i v (some 0)).bind fun r=>cond (Nat.beq sz z) (match r with
          | .M l=>(Gy l off none (jk d new)).bind fun r'=>.ok (.int .i64 (Int.ofNat (wN n m)),.set d i (v,.row r'))
          | _=>.bad) .bad)
       | _=>.bad
     | none=>.bad
   | none=>.bad
 | _=>.bad
theorem Fg {P:Program} {H:aa} {t:TypeId} {s x:AV} {y:AV×Delta} (h:(Ff P H t s x).run=some y):copyV P H t s x=some y:=by
 unfold Ff at h;unfold copyV;split at h
 · rename_i e hu;split at h
   · rename_i z hs;split at h
     · rename_i n hn;split at h
       · rename_i d i v off sz m cap _ _;obtain ⟨new,h1,h⟩:=Tr.bind_some h;rw[gh] at h;obtain ⟨hl,h⟩:=Tr.j8 h;obtain ⟨r,h2,h⟩:=Tr.bind_some h;obtain ⟨hz,h⟩:=Tr.aW h;have hz:=Nat.eq_of_beq_eq_true hz;have hcv:=pK h1;rw[wO] at hcv;have hcl:=r7 hcv;rw[hu];dsimp only;rw[hs,hn];dsimp only[nQ];rw[hcv];dsimp only;rw[hl,if_neg (by simp),ln h2];dsimp only;split at h
         · rename_i l _;obtain ⟨r',h3,h⟩:=Tr.bind_some h;obtain ⟨k1,k2⟩:=w7 h3;rw[fh,hcl] at k1;rw[if_pos ⟨hz,by rw[hz];exact k1⟩,k2,← Tr.ab h,wO];rfl
         · exact (Tr.ag h).elim
       · exact (Tr.ag h).elim
     · exact (Tr.ag h).elim
   · exact (Tr.ag h).elim
 · exact (Tr.ag h).elim
def xu (z:Row) (n:Nat):Row :=
 match z with
 | .I k l=>cond (xC l) (.M [.arr k (fun _=>0) (fF n (kj l))]) (dI z n)
 | z=>dI z n
theorem vO (z:Row) (n:Nat):xu z n=dI z n:=by
 cases z with
 | I k l =>
   simp only[xu];cases h:xC l with
   | true=>simp only[cond_true,dI,h,if_true,cI,ev]
   | false=>rfl
 | _=>rfl
def AA (P:Program) (H:aa) (t:TypeId) (s:AV):Tr (AV×Delta) :=
 match P.underlying t with
 | some (.slice e)=>match s with
   | .slc d i v off sz len _=>cond (jO H d) .bad (match (cU P e).bind AV.row with
     | some z=>match bA P e with
       | some n=>cond (Nat.beq n sz) (cond (Nat.beq (iw z) sz) (.req (cH 0 len) ((xc H d i v (some 0)).bind fun r=>match r with
          | .M l=>(Gy l off none (xu z len)).bind fun r'=>.ok (.tup [],.set d i (v,.row r'))
          | _=>.bad)) .bad) .bad
       | none=>.bad
     | none=>.bad)
   | _=>.bad
 | _=>.bad
theorem BH (z:Row) (n:Nat):(dI z n).len=n*z.len:=by
 have fn:∀ l:List AV,(Fu l n).len=n*l.length:=by
  intro l;unfold Fu;split
  · split<;>simp[Row.len,dL]
  · simp[Row.len,dL]
 cases z with
 | I k l=>simp only[dI];split<;>simp[Row.len,aA,aQ,dL]
 | _=>simp only[dI,fn,Row.bt]
theorem Dy {P:Program} {H:aa} {t:TypeId} {s:AV} {y:AV×Delta} (h:(AA P H t s).run=some y):sa P H t s=some y:=by
 unfold AA at h;unfold sa;split at h
 · rename_i e hu;split at h
   · rename_i d i v off sz len cap;rw[gh] at h;obtain ⟨hl,h⟩:=Tr.j8 h;split at h
     · rename_i z hz;split at h
       · rename_i n hs;obtain ⟨hn,h⟩:=Tr.aW h;obtain ⟨hzl,h⟩:=Tr.aW h;have hn:=Nat.eq_of_beq_eq_true hn;rw[fg] at hzl;have hzl:=Nat.eq_of_beq_eq_true hzl;obtain ⟨h0,h⟩:=Tr.aT h;rw[ie,decide_eq_true_eq] at h0;obtain ⟨r,h2,h⟩:=Tr.bind_some h;rw[hu];dsimp only;rw[hl,if_neg (by simp),hz,ln h2];dsimp only;split at h
         · rename_i l _;obtain ⟨r',h3,h⟩:=Tr.bind_some h;obtain ⟨k1,k2⟩:=w7 h3;rw[vO] at k1 k2;rw[BH,hzl] at k1;rw[if_pos ⟨hzl,by rw[hs,hn],k1⟩,← Tr.ab h];rw[if_neg (by omega)];simp only[yd,if_true];rw[← k2]
         · exact (Tr.ag h).elim
       · exact (Tr.ag h).elim
     · exact (Tr.ag h).elim
   · exact (Tr.ag h).elim
 · exact (Tr.ag h).elim
def nS (P:Program) (nx:Nat) (t:TypeId) (l c:AV):Tr (AV×Delta) :=
 match P.underlying t with
 | some (.slice e)=>match l with
   | .int _ l=>match c with
     | .int _ c=>match P.info? e with
       | some inf=>match (cU P e).bind AV.row with
         | some z=>.req (CC l c inf.bytes) (cond (Nat.beq (iw z) inf.size) (.ok (.slc 0 nx 0 0 inf.size (bX l) (some (bX c)),.push (.row (xu z (bX c))))) .bad)
         | none=>.bad
       | none=>.bad
     | _=>.bad
   | _=>.bad
 | _=>.bad
theorem uE {P:Program} {nx:Nat} {t:TypeId} {l c:AV} {y:AV×Delta} (h:(nS P nx t l c).run=some y):jc P true nx t l c=some y:=by
 unfold nS at h;unfold jc;split at h
 · rename_i e hu;split at h
   · split at h
     · split at h
       · rename_i inf hi;split at h
         · rename_i z hz;obtain ⟨hc,h⟩:=Tr.aT h;obtain ⟨hl,h⟩:=Tr.aW h;rw[A8,decide_eq_true_eq] at hc;rw[fg] at hl;have hl:=Nat.eq_of_beq_eq_true hl;rw[hu];dsimp only;rw[hi,hz];dsimp only;rw[if_pos ⟨hc.1,hc.2.1,hc.2.2.1,hc.2.2.2,hl⟩,← Tr.ab h,vO,jU,jU];rfl
         · exact (Tr.ag h).elim
       · exact (Tr.ag h).elim
     · exact (Tr.ag h).elim
   · exact (Tr.ag h).elim
 · exact (Tr.ag h).elim

def hv (x:AV×Delta):Tr (HV×Delta):=.ok ((x.1,none),x.2)
theorem Cn {x:AV×Delta} {y:HV×Delta} (h:(hv x).run=some y):y.1.1=x.1∧y.2=x.2:=by
 have:=Tr.ab h;rw[← this];exact ⟨rfl,rfl⟩
def s6 (l:List AV):List HV:=q8 (fun x=>(x,none)) l
theorem nB:∀ l:List AV,jL (s6 l)=l
 | []=>rfl
 | x::l=>by
   have e:jL (s6 (x::l))=x::jL (s6 l):=rfl;rw[e,nB l]
theorem vR:∀ a b:List HV,jL (qU a b)=jL a++jL b
 | [],b=>rfl
 | x::a,b=>by
   have e:jL (qU (x::a) b)=x.1::jL (qU a b):=rfl;rw[e,vR a b];rfl
def yD (fr:aO) (l:List Operand):List HV:=q8 (fun x=>b8 fr x) l
theorem te (fr:aO):∀ l,jL (yD fr l)=lh (strip fr) l
 | []=>rfl
 | x::l=>by
   have e:jL (yD fr (x::l))=(b8 fr x).1::jL (yD fr l):=rfl;rw[e,te fr l,bf];rfl
def Jq   (P:Program) (H:aa) (t:TypeId) (m key x:AV):Tr Delta :=
 match P.underlying t with
 | some (.map kt _)=>match m with
   | .map d i=>cond (aG H d) .bad (cond (jQ P kt key) (match ay H d i with
     | (0,.fmap q h g c)=>match uC q key with
       | some n=>match yB x with
         | some y=>.ok (.set d i (0,.fmap q (mB h n true) (mC g n y) (qv (h n) c)))
         | none=>.bad
       | none=>.bad
     | _=>.bad) .bad)
   | _=>.bad
 | _=>.bad
def Lp (P:Program) (H:aa) (t:TypeId) (m key:AV):Tr Delta :=
 match P.underlying t with
 | some (.map kt _)=>match m with
   | .map d i=>cond (aG H d) .bad (cond (jQ P kt key) (match ay H d i with
     | (0,.fmap q h g c)=>match uC q key with
       | some n=>.ok (.set d i (0,.fmap q (mB h n false) (mC g n 0) (xH (h n) c)))
       | none=>.bad
     | _=>.bad) .bad)
   | _=>.bad
 | _=>.bad
def LY (fr:aO):Option Operand→Bool
 | none=>true
 | some y=>isLit (b8 fr y)
theorem lU {α:Type} {b:Bool} {s t:Tr α} {x:α} (h:(cond b s t).run=some x):b=true∧s.run=some x∨b=false∧t.run=some x:=by
 cases b
 · exact .inr ⟨rfl,h⟩
 · exact .inl ⟨rfl,h⟩
theorem Dl {P:Program} {H:aa} {t:TypeId} {m key x:AV} {δ:Delta} (h:(Jq P H t m key x).run=some δ):jI P H t m key x=some δ:=by
 unfold Jq at h;unfold jI;split at h
 · rename_i kt et hu;rw[hu];split at h
   · rename_i d i;dsimp only;rcases lU h with ⟨_,h⟩ | ⟨h1,h⟩
     · exact (Tr.ag h).elim
     · rcases lU h with ⟨h2,h⟩ | ⟨_,h⟩
       · rw[if_neg (by rw[h1];simp),if_pos h2];split at h
         · rename_i q f g c hg;rw[hg];try dsimp only
           split at h
           · rename_i n hn;split at h
             · rename_i y hy;simp only[hn,hy,← Tr.ab h,gQ,gS,lT]
             · exact (Tr.ag h).elim
           · exact (Tr.ag h).elim
         · exact (Tr.ag h).elim
       · exact (Tr.ag h).elim
   · exact (Tr.ag h).elim
 · exact (Tr.ag h).elim
theorem H4 {P:Program} {H:aa} {t:TypeId} {m key:AV} {δ:Delta} (h:(Lp P H t m key).run=some δ):oJ P H t m key=some (.tup [],δ):=by
 unfold Lp at h;unfold oJ;split at h
 · rename_i kt et hu;rw[hu];split at h
   · rename_i d i;dsimp only;rcases lU h with ⟨_,h⟩ | ⟨h1,h⟩
     · exact (Tr.ag h).elim
     · rcases lU h with ⟨h2,h⟩ | ⟨_,h⟩
       · rw[if_neg (by rw[h1];simp),if_pos h2];split at h
         · rename_i q f g c hg;rw[hg];try dsimp only
           split at h
           · rename_i n hn;simp only[hn,← Tr.ab h,gQ,gS,sb]
           · exact (Tr.ag h).elim
         · exact (Tr.ag h).elim
       · exact (Tr.ag h).elim
   · exact (Tr.ag h).elim
 · exact (Tr.ag h).elim
def Ay (P:Program) (call:aI) (callR:bp) (fr:aO) (H:aa) (nx:Nat) (c:Call):Tr (HV×Delta) :=
 match c.callee with
 | .value f=>match (b8 fr f).1 with
   | .fn (.func g) a b=>(callR (.fn g) (qU (s6 a) (qU (yD fr c.args.toList) (s6 b))) H).bind fun x=>.ok (x.1,.heap x.2)
   | .yld d i=>(callR (.round d i) (yD fr c.args.toList) H).bind fun x=>.ok (x.1,.heap x.2)
   | _=>.bad
 | .builtin .len=>match c.args.toList,c.argTypes.toList with
   | x::_,t::_=>(Ip P H t (b8 fr x)).bind fun v=>.ok (v,.bz)
   | _,_=>.bad
 | .builtin .append=>match c.args.toList,c.argTypes.toList with
   | s::x::_,t::u::_=>(oE P H nx t u (b8 fr s).1 (b8 fr x).1).bind hv
   | _,_=>.bad
 | .builtin .copy=>match c.args.toList,c.argTypes.toList with
   | s::x::_,t::_=>(Ff P H t (b8 fr s).1 (b8 fr x).1).bind hv
   | _,_=>.bad
 | .builtin .clear=>match c.args.toList,c.argTypes.toList with
   | s::_,t::_=>(AA P H t (b8 fr s).1).bind hv
   | _,_=>.bad
 | .builtin .min=>match yE fr c.args.toList with
   | .int k x::r=>(pf false k x r).bind fun v=>.ok ((v,none),.bz)
   | _=>.bad
 | .builtin .max=>match yE fr c.args.toList with
   | .int k x::r=>(pf true k x r).bind fun v=>.ok ((v,none),.bz)
   | _=>.bad
 | .builtin .delete=>match c.args.toList,c.argTypes.toList with
   | m::k::_,t::_=>(Lp P H t (b8 fr m).1 (b8 fr k).1).bind fun δ=>.ok ((.tup [],none),δ)
   | _,_=>.bad
 | _=>(vz (gI P call (strip fr) H nx c)).bind hv
theorem Dw {P:Program} {call:aI} {callR:bp} (hC:callR.Ok call) {fr:aO} {H:aa} {nx:Nat} {c:Call} {y:HV×Delta} (h:(Ay P call callR fr H nx c).run=some y):gI P call (strip fr) H nx c=some (y.1.1,y.2):=by
 have dflt:∀ (t:Tr (AV×Delta)),(t.bind hv).run=some y→t.run=some (y.1.1,y.2):=by
  intro t ht;obtain ⟨x,h1,h2⟩:=Tr.bind_some ht;obtain ⟨e1,e2⟩:=Cn h2;rw[h1,e1,e2]
 unfold Ay at h;split at h
 · rename_i f hf;unfold gI;rw[hf];dsimp only;rw[bf] at h;split at h
   · rename_i g a b ho;obtain ⟨x,h1,h⟩:=Tr.bind_some h;rw[ho];dsimp only;have:=hC.2 _ _ _ _ h1;rw[vR,vR,nB,nB,te] at this;rw[this,← Tr.ab h];rfl
   · rename_i d i ho;obtain ⟨x,h1,h⟩:=Tr.bind_some h;rw[ho];dsimp only;have:=hC.2 _ _ _ _ h1;rw[te] at this;rw[this,← Tr.ab h];rfl
   · exact (Tr.ag h).elim
 · rename_i hf;unfold gI;rw[hf];dsimp only;split at h
   · rename_i x _ t _ hx ht;obtain ⟨v,h1,h⟩:=Tr.bind_some h;rw[hx,ht];dsimp only;have:=Iq h1;rw[bf] at this;obtain ⟨n,k1,k2⟩:=Option.map_eq_some_iff.1 this;rw[k1,← Tr.ab h,← k2];rfl
   · exact (Tr.ag h).elim
 · rename_i hf;unfold gI;rw[hf];dsimp only;split at h
   · rename_i s x _ t u _ hx ht;rw[hx,ht];dsimp only;have h:=An (dflt _ h);rw[bf,bf] at h;rw[mZ hC.1];exact h
   · exact (Tr.ag h).elim
 · rename_i hf;unfold gI;rw[hf];dsimp only;split at h
   · rename_i s x _ t _ hx ht;rw[hx,ht];dsimp only;have h:=Fg (dflt _ h);rw[bf,bf] at h;exact h
   · exact (Tr.ag h).elim
 · rename_i hf;unfold gI;rw[hf];dsimp only;split at h
   · rename_i s _ t _ hx ht;rw[hx,ht];dsimp only;have h:=Dy (dflt _ h);rw[bf] at h;exact h
   · exact (Tr.ag h).elim
 · rename_i hf;unfold gI;rw[hf];dsimp only;rw[tg] at h;split at h
   · rename_i k x r hx;obtain ⟨v,h1,h⟩:=Tr.bind_some h;rw[hx];dsimp only[nX];rw[nY _ _ _ h1,← Tr.ab h];rfl
   · exact (Tr.ag h).elim
 · rename_i hf;unfold gI;rw[hf];dsimp only;rw[tg] at h;split at h
   · rename_i k x r hx;obtain ⟨v,h1,h⟩:=Tr.bind_some h;rw[hx];dsimp only[nX];rw[nY _ _ _ h1,← Tr.ab h];rfl
   · exact (Tr.ag h).elim
 · rename_i hf;unfold gI;rw[hf];dsimp only;split at h
   · rename_i m k _ t _ hx ht;rw[hx,ht];dsimp only;obtain ⟨δ,h1,h⟩:=Tr.bind_some h;have h1:=H4 h1;rw[bf,bf] at h1;rw[h1,← Tr.ab h]
   · exact (Tr.ag h).elim
 · have h:=dflt _ h;rw[c5] at h;exact h

def Ld (P:Program) (op:BinOp) (t:TypeId) (x y:HV):Tr HV :=
 cond (isLit x && isLit y) (match x.1,y.1 with
  | .int k a,.int k' b=>(vz (EL P op t (.int k a) (.int k' b))).bind fun v=>.ok (v,some 1)
  | a,b=>(EK P op t a b).bind fun v=>.ok (v,none))
 ((EK P op t x.1 y.1).bind fun v=>.ok (v,none))
theorem HG {P:Program} {op:BinOp} {t:TypeId} {x y v:HV} (h:(Ld P op t x y).run=some v):j6 P op t x.1 y.1=some v.1:=by
 have gen:∀ a b,((EK P op t a b).bind fun v=>Tr.ok ((v,none):HV)).run=some v→j6 P op t a b=some v.1:=by
  intro a b h;obtain ⟨u,h1,h⟩:=Tr.bind_some h;rw[HI h1,← Tr.ab h]
 unfold Ld at h;cases hb:isLit x && isLit y with
 | false=>rw[hb,cond_false] at h;exact gen _ _ h
 | true =>
   rw[hb,cond_true] at h;split at h
   · rename_i k a k' b hx hy;obtain ⟨u,h1,h⟩:=Tr.bind_some h;rw[c5,EM] at h1;rw[hx,hy,h1,← Tr.ab h]
   · exact gen _ _ h

def pd (fr:aO) (l:List (Nat×Operand)):List (Nat×AV):=q8 (fun p=>(p.1,(b8 fr p.2).1)) l
theorem nT (fr:aO):∀ l,pd fr l=dQ (strip fr) l
 | []=>rfl
 | (i,x)::l=>by
   have e:pd fr ((i,x)::l)=(i,(b8 fr x).1)::pd fr l:=rfl;rw[e,nT fr l,bf];rfl
def OF (op:Op):Oper→Program→aI→bp→aO→aa→Nat→Tr (HV×Delta) :=
 match op with
 | .move x=>fun _ _ _ _ fr _ _=>.ok (b8 fr x,.bz)
 | .assign x=>fun _ _ _ _ fr _ _=>.ok (b8 fr x,.bz)
 | .pick c a b=>fun _ _ _ _ fr _ _=>match b8 fr c with
   | (.bool t,none)=>.ite t (.ok (b8 fr a,.bz)) (.ok (b8 fr b,.bz))
   | (.bool t,some _)=>cond t (.ok (b8 fr a,.bz)) (.ok (b8 fr b,.bz))
   | _=>.bad
 | .alloc t=>fun _ P _ _ _ _ nx=>match (cU P t).bind AV.row with
   | some z=>.ok ((.ptr 0 nx 0 0,none),.push (.row (kB z)))
   | none=>.bad
 | .box _ x=>fun _ _ _ _ fr _ nx=>match (b8 fr x).1.row with
   | some r=>.ok ((.ptr 0 nx 0 0,none),.push (.row (kB r)))
   | none=>.bad
 | .build t parts=>fun _ P _ _ fr _ _=>(vz (vU P true t (pd fr parts.toList))).bind fun v=>.ok ((v,none),.bz)
 | .buildSlice t len parts=>fun _ P _ _ fr _ nx=>(vz (jt P nx t len (pd fr parts.toList))).bind fun x=>.ok ((x.1,some 1),x.2)
 | .load t a=>fun _ P _ _ fr H _=>(loadT P H t (b8 fr a)).bind fun v=>.ok ((v,none),.bz)
 | .store t a x=>fun _ P _ _ fr H _=>(storeT P H t (b8 fr a) (b8 fr x).1).bind fun δ=>.ok ((.tup [],none),δ)
 | .nilCheck x=>fun _ _ _ _ fr _ _=>match (b8 fr x).1 with
   | .ptr d i v off=>.ok (b8 fr x,.bz)
   | .ptrT s r off=>.ok (b8 fr x,.bz)
   | _=>.bad
 | .binOp op t x y _=>fun _ P _ _ fr _ _=>(Ld P op t (b8 fr x) (b8 fr y)).bind fun v=>.ok (v,.bz)
 | .unOp op _ x=>fun _ _ _ _ fr _ _=>match op,b8 fr x with
   | .not,(.bool b,some _)=>.ok ((.bool (cond b false true),some 1),.bz)
   | op,x=>(SP op x.1).bind fun v=>.ok ((v,none),.bz)
 | .convert src dst x=>fun _ P _ _ fr _ _=>match P.underlying src with
   | some _=>match P.underlying dst with
     | some (.int k)=>match b8 fr x with
       | (.int _ n,none)=>.ok ((.int k (nh k n),none),.bz)
       | (.int _ n,some _)=>.ok ((.int k (Af k n),some 1),.bz)
       | _=>.bad
     | _=>.bad
   | none=>.bad
 | .makeSlice t l c=>fun _ P _ _ fr _ nx=>(nS P nx t (b8 fr l).1 (b8 fr c).1).bind hv
 | .slice t x lo hi mx=>fun _ P _ _ fr _ _=>cond (isLit (b8 fr x) && (LY fr lo && (LY fr hi && LY fr mx)))
   ((vz (qn P t (b8 fr x).1 (lo.map fun y=>(b8 fr y).1) (hi.map fun y=>(b8 fr y).1) (mx.map fun y=>(b8 fr y).1))).bind fun v=>.ok ((v,some 1),.bz))
   ((Bs P t (b8 fr x).1 (lo.map fun y=>(b8 fr y).1) (hi.map fun y=>(b8 fr y).1) (mx.map fun y=>(b8 fr y).1)).bind fun v=>.ok ((v,none),.bz))
 | .fieldAddr t x f=>fun _ P _ _ fr _ _=>(nG P t (b8 fr x) f).bind fun v=>.ok (v,.bz)
 | .field t x f=>fun _ P _ _ fr _ _=>(vz (wg P t (b8 fr x).1 f)).bind fun v=>.ok ((v,none),.bz)
 | .indexAddr t x i=>fun _ P _ _ fr _ _=>match (b8 fr i).1 with
   | .int _ n=>(LM P t (b8 fr x) (isLit (b8 fr i)) n).bind fun v=>.ok (v,.bz)
   | _=>.bad
 | .index t x i=>fun _ P _ _ fr _ _=>match (b8 fr i).1 with
   | .int _ n=>(Qe P t (b8 fr x).1 (isLit (b8 fr i)) n).bind fun v=>.ok ((v,none),.bz)
   | _=>.bad
 | .extract t ix=>fun _ _ _ _ fr _ _=>match (b8 fr t).1 with
   | .tup l=>match AS l ix with
     | some v=>.ok ((v,none),.bz)
     | none=>.bad
   | _=>.bad
 | .call c=>fun _ P call callR fr H nx=>Ay P call callR fr H nx c
 | .makeMap t r=>fun _ P _ _ _ _ nx=>match r with
   | none=>.ok ((.map 0 nx,none),.push (sY P t))
   | some _=>.bad
 | .mapUpdate t m k x=>fun _ P _ _ fr H _=>(Jq P H t (b8 fr m).1 (b8 fr k).1 (b8 fr x).1).bind fun δ=>.ok ((.tup [],none),δ)
 | .insert t m k x=>fun _ P _ _ fr H _=>(Jq P H t (b8 fr m).1 (b8 fr k).1 (b8 fr x).1).bind fun δ=>.ok ((.tup [],none),δ)
 | _=>fun o P call _ fr H nx=>(vz (evalOp P call (strip fr) H nx o)).bind hv
theorem Bg {o:Oper} {P:Program} {call:aI} {callR:bp} (hC:callR.Ok call) {fr:aO} {H:aa} {nx:Nat} {y:HV×Delta} (h:(OF o.op o P call callR fr H nx).run=some y):evalOp P call (strip fr) H nx o=some (y.1.1,y.2):=by
 have dflt:∀ (t:Tr (AV×Delta)),(t.bind hv).run=some y→t.run=some (y.1.1,y.2):=by
  intro t ht;obtain ⟨x,h1,h2⟩:=Tr.bind_some ht;obtain ⟨e1,e2⟩:=Cn h2;rw[h1,e1,e2]
 have dkp:∀ (t:Tr AV),(t.bind fun v=>Tr.ok (((v,none),.bz):HV×Delta)).run=some y→t.run=some y.1.1∧y.2=.bz:=by
  intro t ht;obtain ⟨x,h1,h2⟩:=Tr.bind_some ht;rw[h1,← Tr.ab h2];exact ⟨rfl,rfl⟩
 have kpe:∀ {o:Option AV} {v:AV},o=some v→kp o=some (v,.bz):=by rintro o v rfl;rfl
 cases ho:o.op<;>rw[ho] at h<;>simp only[OF] at h;case move x =>
  unfold evalOp;rw[ho];dsimp only
  rw[← Tr.ab h,← bf]
 case assign x =>
  unfold evalOp;rw[ho];dsimp only
  rw[← Tr.ab h,← bf]
 case pick c a b =>
  unfold evalOp;rw[ho];dsimp only
  have hc':=bf fr c
  split at h
  · rename_i t hc
    rw[hc] at hc'
    rw[← hc']
    dsimp only
    rcases Tr.kh h with ⟨rfl,h⟩ | ⟨rfl,h⟩<;>rw[← Tr.ab h,← bf,← bf]<;>rfl
  · rename_i t n hc
    rw[hc] at hc'
    rw[← hc']
    dsimp only
    cases t with
    | true=>rw[cond_true] at h;rw[← Tr.ab h,← bf,← bf];rfl
    | false=>rw[cond_false] at h;rw[← Tr.ab h,← bf,← bf];rfl
  · exact (Tr.ag h).elim
 case alloc t =>
  unfold evalOp;rw[ho];dsimp only
  split at h
  · rename_i z hz
    rw[hz,← Tr.ab h,Option.map_some,mZ hC.1]
  · exact (Tr.ag h).elim
 case box t x =>
  unfold evalOp;rw[ho];dsimp only
  rw[bf] at h
  split at h
  · rename_i z hz
    rw[hz,← Tr.ab h,Option.map_some,mZ hC.1]
  · exact (Tr.ag h).elim
 case build t parts =>
  unfold evalOp;rw[ho];dsimp only
  obtain ⟨h1,h2⟩:=dkp _ h
  rw[c5,nT] at h1
  rw[mZ hC.1,kpe h1,h2]
 case buildSlice t len parts =>
  unfold evalOp;rw[ho];dsimp only
  obtain ⟨x,h1,h⟩:=Tr.bind_some h
  rw[c5,nT] at h1
  rw[h1,← Tr.ab h]
 case load t a =>
  unfold evalOp;rw[ho];dsimp only
  obtain ⟨h1,h2⟩:=dkp _ h
  have h1:=yl h1
  rw[bf] at h1
  rw[kpe h1,h2]
 case store t a x =>
  unfold evalOp;rw[ho];dsimp only
  obtain ⟨δ,h1,h⟩:=Tr.bind_some h
  have h1:=Em h1
  rw[bf,bf] at h1
  rw[h1,← Tr.ab h];rfl
 case nilCheck x =>
  unfold evalOp;rw[ho];dsimp only
  rw[← bf]
  split at h
  · rename_i d i v off hx
    rw[hx,← Tr.ab h,hx]
  · rename_i s r off hx
    rw[hx,← Tr.ab h,hx]
  · exact (Tr.ag h).elim
 case binOp op t x y' g =>
  unfold evalOp;rw[ho];dsimp only
  obtain ⟨v,h1,h⟩:=Tr.bind_some h
  have h1:=HG h1
  rw[bf,bf] at h1
  rw[kpe h1,← Tr.ab h]
 case unOp op t x =>
  unfold evalOp;rw[ho];dsimp only
  split at h
  · rename_i b n hx
    have:bW (strip fr) x=.bool b:=by rw[← bf,hx]
    rw[this,← Tr.ab h]
    cases b<;>rfl
  · obtain ⟨h1,h2⟩:=dkp _ h
    have h1:=MN h1
    rw[bf] at h1
    rw[kpe h1,h2]
 case convert s d x =>
  unfold evalOp;rw[ho];dsimp only
  split at h
  · rename_i u hu
    split at h
    · rename_i k hk
      have hx:=bf fr x
      split at h
      · rename_i n hn
        rw[hn] at hx
        rw[hu,hk,← hx]
        dsimp only
        rw[← Tr.ab h,Hc]
      · rename_i n _ hn
        rw[hn] at hx
        rw[hu,hk,← hx]
        dsimp only
        rw[← Tr.ab h,Ag]
      · exact (Tr.ag h).elim
    · exact (Tr.ag h).elim
  · exact (Tr.ag h).elim
 case makeSlice t l c =>
  unfold evalOp;rw[ho];dsimp only
  have h1:=uE (dflt _ h)
  rw[bf,bf] at h1
  rw[mZ hC.1]
  exact h1
 case slice t x lo hi mx =>
  unfold evalOp;rw[ho];dsimp only
  have e:∀ z:Option Operand,(z.map fun y=>(b8 fr y).1)=z.map (bW (strip fr)):=by
   intro z;cases z<;>simp[bf]
  rcases lU h with ⟨_,h⟩ | ⟨_,h⟩
  · obtain ⟨v,h1,h2⟩:=Tr.bind_some h
    rw[c5,bf,e,e,e] at h1
    rw[kpe h1,← Tr.ab h2]
  · obtain ⟨h1,h2⟩:=dkp _ h
    have h1:=Eg h1
    rw[bf] at h1
    rw[e,e,e] at h1
    rw[kpe h1,h2]
 case fieldAddr t x f =>
  unfold evalOp;rw[ho];dsimp only
  obtain ⟨v,h1,h⟩:=Tr.bind_some h
  have h1:=uw h1
  rw[bf] at h1
  rw[kpe h1,← Tr.ab h]
 case field t x f =>
  unfold evalOp;rw[ho];dsimp only
  obtain ⟨h1,h2⟩:=dkp _ h
  rw[c5,bf] at h1
  rw[kpe h1,h2]
 case index t x i =>
  unfold evalOp;rw[ho];dsimp only
  rw[bf] at h
  split at h
  · rename_i k n hn
    obtain ⟨v,h1,h⟩:=Tr.bind_some h
    have h1:=LS h1
    rw[bf] at h1
    rw[hn]
    dsimp only
    rw[kpe h1,← Tr.ab h]
  · exact (Tr.ag h).elim
 case indexAddr t x i =>
  unfold evalOp;rw[ho];dsimp only
  rw[bf] at h
  split at h
  · rename_i k n hn
    obtain ⟨v,h1,h⟩:=Tr.bind_some h
    have h1:=Ih h1
    rw[bf] at h1
    rw[hn]
    dsimp only
    rw[kpe h1,← Tr.ab h]
  · exact (Tr.ag h).elim
 case extract t ix =>
  unfold evalOp;rw[ho];dsimp only
  rw[bf] at h
  split at h
  · rename_i l hl
    rw[hl]
    dsimp only
    rw[mM] at h
    split at h
    · rename_i v hv'
      rw[hv',← Tr.ab h]
    · exact (Tr.ag h).elim
  · exact (Tr.ag h).elim
 case call c =>
  unfold evalOp;rw[ho];dsimp only
  exact Dw hC h
 case makeMap t r =>
  unfold evalOp;rw[ho];try dsimp only
  cases r with
  | none =>
    dsimp only at h ⊢
    rw[mZ hC.1,← Tr.ab h]
  | some r=>exact (Tr.ag h).elim
 case mapUpdate t m k x =>
  unfold evalOp;rw[ho];dsimp only
  obtain ⟨δ,h1,h⟩:=Tr.bind_some h
  have h1:=Dl h1
  rw[bf,bf,bf] at h1
  rw[h1,← Tr.ab h];rfl
 case insert t m k x =>
  unfold evalOp;rw[ho];dsimp only
  obtain ⟨δ,h1,h⟩:=Tr.bind_some h
  have h1:=Dl h1
  rw[bf,bf,bf] at h1
  rw[h1,← Tr.ab h];rfl
 all_goals
  have h1:=dflt _ h
  rw[c5] at h1
  exact h1

end
end Go.Eng
