/- The engine as a tree: the other builtins; operations. -/
import Derived.Test.YtgphpjdchnfjlaaDoorV5EngTcx2
set_option linter.unusedVariables false
set_option linter.unusedSimpArgs false
namespace Go.Eng
noncomputable section

abbrev bx:=QE→List HV→aa→Tr (HV×aa)
def jY (l:List HV):List AV:=rD (fun x=>x.1) l
def bx.Ok (c:bx) (call:aO):Prop:=(∃ x,call .mode [] []=some x)∧∀ tgt args H x,(c tgt args H).run=some x→call tgt (jY args) H=some (x.1.1,x.2)
theorem nw {α:Type} {call:aO} (h:∃ x,call .mode [] []=some x) (a b:α):nG call a b=a:=by
 obtain ⟨x,h⟩:=h;unfold nG;rw[h]

def Jb (P:Program) (H:aa) (t:TypeId) (x:HV):Tr HV :=
 match P.underlying t with
 | some (.slice _)=>match x.1 with
   | .nils=>.ok (.int .i64 (Int.ofNat 0),some 1)
   | .slc _ _ _ _ _ len _=>.ok (.int .i64 (Int.ofNat len),x.2)
   | .slcT _ _ _ len _=>.ok (.int .i64 (Int.ofNat len),x.2)
   | _=>.bad
 | some (.array n _)=>.ok (.int .i64 (Int.ofNat n),some 1)
 | _=>(wj ((vm P H t x.1).map fun n=>AV.int .i64 n)).bind fun v=>.ok (v,none)
theorem Jc {P:Program} {H:aa} {t:TypeId} {x v:HV} (h:(Jb P H t x).run=some v):(vm P H t x.1).map (AV.int .i64)=some v.1:=by
 unfold Jb at h;split at h
 · rename_i e hu;unfold vm;rw[hu];split at h
   · rename_i hx;rw[hx,← Tr.af h];rfl
   · rename_i hx;rw[hx,← Tr.af h];rfl
   · rename_i hx;rw[hx,← Tr.af h];rfl
   · exact (Tr.ai h).elim
 · rename_i hu;unfold vm;rw[hu,← Tr.af h];rfl
 · obtain ⟨u,h1,h⟩:=Tr.bind_some h;rw[dp] at h1;rw[h1,← Tr.af h]
def F3    (P:Program) (H:aa) (t:TypeId) (s x:AV):Tr (AV×Delta) :=
 match P.underlying t with
 | some (.slice e)=>match bH P e with
   | some z=>match ot x with
     | some n=>match s with
       | .slc d i v off sz m cap=>(sA H z (xt n m) x).bind fun new=>cond (j5 H d) .bad ((xN H d i v (some 0)).bind fun r=>cond (Nat.beq sz z) (match r with
          | .M l=>(Hl l off none (jA d new)).bind fun r'=>.ok (.int .i64 (Int.ofNat (xt n m)),.set d i (v,.row r'))
          | _=>.bad) .bad)
       | _=>.bad
     | none=>.bad
   | none=>.bad
 | _=>.bad
theorem F4 {P:Program} {H:aa} {t:TypeId} {s x:AV} {y:AV×Delta} (h:(F3 P H t s x).run=some y):copyV P H t s x=some y:=by
 unfold F3 at h;unfold copyV;split at h
 · rename_i e hu;split at h
   · rename_i z hs;split at h
     · rename_i n hn;split at h
       · rename_i d i v off sz m cap _ _;obtain ⟨new,h1,h⟩:=Tr.bind_some h;rw[gG] at h;obtain ⟨hl,h⟩:=Tr.ku h;obtain ⟨r,h2,h⟩:=Tr.bind_some h;obtain ⟨hz,h⟩:=Tr.a7 h;have hz:=Nat.eq_of_beq_eq_true hz;have hcv:=qd h1;rw[xu] at hcv;have hcl:=sB hcv;rw[hu];dsimp only;rw[hs,hn];dsimp only[ot];rw[hcv];dsimp only;rw[hl,if_neg (by simp),lI h2];dsimp only;split at h
         · rename_i l _;obtain ⟨r',h3,h⟩:=Tr.bind_some h;obtain ⟨k1,k2⟩:=xH h3;rw[fx,hcl] at k1;rw[if_pos ⟨hz,by rw[hz];exact k1⟩,k2,← Tr.af h,xu];rfl
         · exact (Tr.ai h).elim
       · exact (Tr.ai h).elim
     · exact (Tr.ai h).elim
   · exact (Tr.ai h).elim
 · exact (Tr.ai h).elim
def x4 (z:Row) (n:Nat):Row :=
 match z with
 | .I k l=>cond (ye l) (.M [.arr k (fun _=>0) (fR n (kF l))]) (dU z n)
 | z=>dU z n
theorem wE (z:Row) (n:Nat):x4 z n=dU z n:=by
 cases z with
 | I k l =>
   simp only[x4];cases h:ye l with
   | true=>simp only[cond_true,dU,h,if_true,cY,eH]
   | false=>rfl
 | _=>rfl
def Bi (P:Program) (H:aa) (t:TypeId) (s:AV):Tr (AV×Delta) :=
 match P.underlying t with
 | some (.slice e)=>match s with
   | .slc d i v off sz len _=>cond (j5 H d) .bad (match (db P e).bind AV.row with
     | some z=>match bH P e with
       | some n=>cond (Nat.beq n sz) (cond (Nat.beq (iN z) sz) (.req (bX 0 len) ((xN H d i v (some 0)).bind fun r=>match r with
          | .M l=>(Hl l off none (x4 z len)).bind fun r'=>.ok (.tup [],.set d i (v,.row r'))
          | _=>.bad)) .bad) .bad
       | none=>.bad
     | none=>.bad)
   | _=>.bad
 | _=>.bad
theorem Cr (z:Row) (n:Nat):(dU z n).len=n*z.len:=by
 have fn:∀ l:List AV,(Gj l n).len=n*l.length:=by
  intro l;unfold Gj;split
  · split<;>simp[Row.len,dX]
  · simp[Row.len,dX]
 cases z with
 | I k l=>simp only[dU];split<;>simp[Row.len,aE,aV,dX]
 | _=>simp only[dU,fn,Row.bA]
theorem Eg {P:Program} {H:aa} {t:TypeId} {s:AV} {y:AV×Delta} (h:(Bi P H t s).run=some y):sF P H t s=some y:=by
 unfold Bi at h;unfold sF;split at h
 · rename_i e hu;split at h
   · rename_i d i v off sz len cap;rw[gG] at h;obtain ⟨hl,h⟩:=Tr.ku h;split at h
     · rename_i z hz;split at h
       · rename_i n hs;obtain ⟨hn,h⟩:=Tr.a7 h;obtain ⟨hzl,h⟩:=Tr.a7 h;have hn:=Nat.eq_of_beq_eq_true hn;rw[fv] at hzl;have hzl:=Nat.eq_of_beq_eq_true hzl;obtain ⟨h0,h⟩:=Tr.aX h;rw[iG,decide_eq_true_eq] at h0;obtain ⟨r,h2,h⟩:=Tr.bind_some h;rw[hu];dsimp only;rw[hl,if_neg (by simp),hz,lI h2];dsimp only;split at h
         · rename_i l _;obtain ⟨r',h3,h⟩:=Tr.bind_some h;obtain ⟨k1,k2⟩:=xH h3;rw[wE] at k1 k2;rw[Cr,hzl] at k1;rw[if_pos ⟨hzl,by rw[hs,hn],k1⟩,← Tr.af h];rw[if_neg wO];simp only[yS,if_true];rw[← k2]
         · exact (Tr.ai h).elim
       · exact (Tr.ai h).elim
     · exact (Tr.ai h).elim
   · exact (Tr.ai h).elim
 · exact (Tr.ai h).elim
def ov (P:Program) (nx:Nat) (t:TypeId) (l c:AV):Tr (AV×Delta) :=
 match P.underlying t with
 | some (.slice e)=>match l with
   | .int _ l=>match c with
     | .int _ c=>match P.info? e with
       | some inf=>match (db P e).bind AV.row with
         | some z=>.req (Dl l c inf.bytes) (cond (Nat.beq (iN z) inf.size) (.ok (.slc 0 nx 0 0 inf.size (b8 l) (some (b8 c)),.push (.row (x4 z (b8 c))))) .bad)
         | none=>.bad
       | none=>.bad
     | _=>.bad
   | _=>.bad
 | _=>.bad
theorem vn {P:Program} {nx:Nat} {t:TypeId} {l c:AV} {y:AV×Delta} (h:(ov P nx t l c).run=some y):jq P true nx t l c=some y:=by
 unfold ov at h;unfold jq;split at h
 · rename_i e hu;split at h
   · split at h
     · split at h
       · rename_i inf hi;split at h
         · rename_i z hz;obtain ⟨hc,h⟩:=Tr.aX h;obtain ⟨hl,h⟩:=Tr.a7 h;rw[BQ,decide_eq_true_eq] at hc;rw[fv] at hl;have hl:=Nat.eq_of_beq_eq_true hl;rw[hu];dsimp only;rw[hi,hz];dsimp only;rw[if_pos ⟨hc.1,hc.2.1,hc.2.2.1,hc.2.2.2,hl⟩,← Tr.af h,wE,kd,kd];rfl
         · exact (Tr.ai h).elim
       · exact (Tr.ai h).elim
     · exact (Tr.ai h).elim
   · exact (Tr.ai h).elim
 · exact (Tr.ai h).elim

def hv (x:AV×Delta):Tr (HV×Delta):=.ok ((x.1,none),x.2)
theorem C8 {x:AV×Delta} {y:HV×Delta} (h:(hv x).run=some y):y.1.1=x.1∧y.2=x.2:=by
 have:=Tr.af h;rw[← this];exact ⟨rfl,rfl⟩
def tJ (l:List AV):List HV:=rD (fun x=>(x,none)) l
theorem oa:∀ l:List AV,jY (tJ l)=l
 | []=>rfl
 | x::l=>by
   have e:jY (tJ (x::l))=x::jY (tJ l):=rfl;rw[e,oa l]
theorem wK:∀ a b:List HV,jY (ry a b)=jY a++jY b
 | [],b=>rfl
 | x::a,b=>by
   have e:jY (ry (x::a) b)=x.1::jY (ry a b):=rfl;rw[e,wK a b];rfl
def zC (fr:aT) (l:List Operand):List HV:=rD (fun x=>cD fr x) l
theorem tT (fr:aT):∀ l,jY (zC fr l)=lF (strip fr) l
 | []=>rfl
 | x::l=>by
   have e:jY (zC fr (x::l))=(cD fr x).1::jY (zC fr l):=rfl;rw[e,tT fr l,bh];rfl
def J9   (P:Program) (H:aa) (t:TypeId) (m key x:AV):Tr Delta :=
 match P.underlying t with
 | some (.map kt _)=>match m with
   | .map d i=>cond (aM H d) .bad (cond (j7 P kt key) (match aB H d i with
     | (0,.fmap q h g c)=>match vl q key with
       | some n=>match zA x with
         | some y=>.ok (.set d i (0,.fmap q (mZ h n true) (m4 g n y) (qU (h n) c)))
         | none=>.bad
       | none=>.bad
     | _=>.bad) .bad)
   | _=>.bad
 | _=>.bad
def L6 (P:Program) (H:aa) (t:TypeId) (m key:AV):Tr Delta :=
 match P.underlying t with
 | some (.map kt _)=>match m with
   | .map d i=>cond (aM H d) .bad (cond (j7 P kt key) (match aB H d i with
     | (0,.fmap q h g c)=>match vl q key with
       | some n=>.ok (.set d i (0,.fmap q (mZ h n false) (m4 g n 0) (yk (h n) c)))
       | none=>.bad
     | _=>.bad) .bad)
   | _=>.bad
 | _=>.bad
def MG (fr:aT):Option Operand→Bool
 | none=>true
 | some y=>isLit (cD fr y)
theorem mw {α:Type} {b:Bool} {s t:Tr α} {x:α} (h:(cond b s t).run=some x):b=true∧s.run=some x∨b=false∧t.run=some x:=by
 cases b
 · exact .inr ⟨rfl,h⟩
 · exact .inl ⟨rfl,h⟩
theorem D5 {P:Program} {H:aa} {t:TypeId} {m key x:AV} {δ:Delta} (h:(J9 P H t m key x).run=some δ):jV P H t m key x=some δ:=by
 unfold J9 at h;unfold jV;split at h
 · rename_i kt et hu;rw[hu];split at h
   · rename_i d i;dsimp only;rcases mw h with ⟨_,h⟩ | ⟨h1,h⟩
     · exact (Tr.ai h).elim
     · rcases mw h with ⟨h2,h⟩ | ⟨_,h⟩
       · rw[if_neg (by rw[h1];simp),if_pos h2];split at h
         · rename_i q f g c hg;rw[hg];try dsimp only
           split at h
           · rename_i n hn;split at h
             · rename_i y hy;simp only[hn,hy,← Tr.af h,iw,iy,mr]
             · exact (Tr.ai h).elim
           · exact (Tr.ai h).elim
         · exact (Tr.ai h).elim
       · exact (Tr.ai h).elim
   · exact (Tr.ai h).elim
 · exact (Tr.ai h).elim
theorem IS {P:Program} {H:aa} {t:TypeId} {m key:AV} {δ:Delta} (h:(L6 P H t m key).run=some δ):o5 P H t m key=some (.tup [],δ):=by
 unfold L6 at h;unfold o5;split at h
 · rename_i kt et hu;rw[hu];split at h
   · rename_i d i;dsimp only;rcases mw h with ⟨_,h⟩ | ⟨h1,h⟩
     · exact (Tr.ai h).elim
     · rcases mw h with ⟨h2,h⟩ | ⟨_,h⟩
       · rw[if_neg (by rw[h1];simp),if_pos h2];split at h
         · rename_i q f g c hg;rw[hg];try dsimp only
           split at h
           · rename_i n hn;simp only[hn,← Tr.af h,iw,iy,sG]
           · exact (Tr.ai h).elim
         · exact (Tr.ai h).elim
       · exact (Tr.ai h).elim
   · exact (Tr.ai h).elim
 · exact (Tr.ai h).elim
def Bh (P:Program) (call:aO) (callR:bx) (fr:aT) (H:aa) (nx:Nat) (c:Call):Tr (HV×Delta) :=
 match c.callee with
 | .value f=>match (cD fr f).1 with
   | .fn (.func g) a b=>(callR (.fn g) (ry (tJ a) (ry (zC fr c.args.toList) (tJ b))) H).bind fun x=>.ok (x.1,.heap x.2)
   | .yld d i=>(callR (.round d i) (zC fr c.args.toList) H).bind fun x=>.ok (x.1,.heap x.2)
   | _=>.bad
 | .builtin .len=>match c.args.toList,c.argTypes.toList with
   | x::_,t::_=>(Jb P H t (cD fr x)).bind fun v=>.ok (v,.bG)
   | _,_=>.bad
 | .builtin .append=>match c.args.toList,c.argTypes.toList with
   | s::x::_,t::u::_=>(oV P H nx t u (cD fr s).1 (cD fr x).1).bind hv
   | _,_=>.bad
 | .builtin .copy=>match c.args.toList,c.argTypes.toList with
   | s::x::_,t::_=>(F3 P H t (cD fr s).1 (cD fr x).1).bind hv
   | _,_=>.bad
 | .builtin .clear=>match c.args.toList,c.argTypes.toList with
   | s::_,t::_=>(Bi P H t (cD fr s).1).bind hv
   | _,_=>.bad
 | .builtin .min=>match zD fr c.args.toList with
   | .int k x::r=>(pF false k x r).bind fun v=>.ok ((v,none),.bG)
   | _=>.bad
 | .builtin .max=>match zD fr c.args.toList with
   | .int k x::r=>(pF true k x r).bind fun v=>.ok ((v,none),.bG)
   | _=>.bad
 | .builtin .delete=>match c.args.toList,c.argTypes.toList with
   | m::k::_,t::_=>(L6 P H t (cD fr m).1 (cD fr k).1).bind fun δ=>.ok ((.tup [],none),δ)
   | _,_=>.bad
 | _=>(wj (ig P call (strip fr) H nx c)).bind hv
theorem Ee {P:Program} {call:aO} {callR:bx} (hC:callR.Ok call) {fr:aT} {H:aa} {nx:Nat} {c:Call} {y:HV×Delta} (h:(Bh P call callR fr H nx c).run=some y):ig P call (strip fr) H nx c=some (y.1.1,y.2):=by
 have dflt:∀ (t:Tr (AV×Delta)),(t.bind hv).run=some y→t.run=some (y.1.1,y.2):=by
  intro t ht;obtain ⟨x,h1,h2⟩:=Tr.bind_some ht;obtain ⟨e1,e2⟩:=C8 h2;rw[h1,e1,e2]
 unfold Bh at h;split at h
 · rename_i f hf;unfold ig;rw[hf];dsimp only;rw[bh] at h;split at h
   · rename_i g a b ho;obtain ⟨x,h1,h⟩:=Tr.bind_some h;rw[ho];dsimp only;have:=hC.2 _ _ _ _ h1;rw[wK,wK,oa,oa,tT] at this;rw[this,← Tr.af h];rfl
   · rename_i d i ho;obtain ⟨x,h1,h⟩:=Tr.bind_some h;rw[ho];dsimp only;have:=hC.2 _ _ _ _ h1;rw[tT] at this;rw[this,← Tr.af h];rfl
   · exact (Tr.ai h).elim
 · rename_i hf;unfold ig;rw[hf];dsimp only;split at h
   · rename_i x _ t _ hx ht;obtain ⟨v,h1,h⟩:=Tr.bind_some h;rw[hx,ht];dsimp only;have:=Jc h1;rw[bh] at this;obtain ⟨n,k1,k2⟩:=Option.map_eq_some_iff.1 this;rw[k1,← Tr.af h,← k2];rfl
   · exact (Tr.ai h).elim
 · rename_i hf;unfold ig;rw[hf];dsimp only;split at h
   · rename_i s x _ t u _ hx ht;rw[hx,ht];dsimp only;have h:=A8 (dflt _ h);rw[bh,bh] at h;rw[nw hC.1];exact h
   · exact (Tr.ai h).elim
 · rename_i hf;unfold ig;rw[hf];dsimp only;split at h
   · rename_i s x _ t _ hx ht;rw[hx,ht];dsimp only;have h:=F4 (dflt _ h);rw[bh,bh] at h;exact h
   · exact (Tr.ai h).elim
 · rename_i hf;unfold ig;rw[hf];dsimp only;split at h
   · rename_i s _ t _ hx ht;rw[hx,ht];dsimp only;have h:=Eg (dflt _ h);rw[bh] at h;exact h
   · exact (Tr.ai h).elim
 · rename_i hf;unfold ig;rw[hf];dsimp only;rw[tU] at h;split at h
   · rename_i k x r hx;obtain ⟨v,h1,h⟩:=Tr.bind_some h;rw[hx];dsimp only[oA];rw[oB _ _ _ h1,← Tr.af h];rfl
   · exact (Tr.ai h).elim
 · rename_i hf;unfold ig;rw[hf];dsimp only;rw[tU] at h;split at h
   · rename_i k x r hx;obtain ⟨v,h1,h⟩:=Tr.bind_some h;rw[hx];dsimp only[oA];rw[oB _ _ _ h1,← Tr.af h];rfl
   · exact (Tr.ai h).elim
 · rename_i hf;unfold ig;rw[hf];dsimp only;split at h
   · rename_i m k _ t _ hx ht;rw[hx,ht];dsimp only;obtain ⟨δ,h1,h⟩:=Tr.bind_some h;have h1:=IS h1;rw[bh,bh] at h1;rw[h1,← Tr.af h]
   · exact (Tr.ai h).elim
 · have h:=dflt _ h;rw[dp] at h;exact h

def LW (P:Program) (op:BinOp) (t:TypeId) (x y:HV):Tr HV :=
 cond (isLit x && isLit y) (match x.1,y.1 with
  | .int k a,.int k' b=>(wj (FL P op t (.int k a) (.int k' b))).bind fun v=>.ok (v,some 1)
  | a,b=>(FK P op t a b).bind fun v=>.ok (v,none))
 ((FK P op t x.1 y.1).bind fun v=>.ok (v,none))
theorem IA {P:Program} {op:BinOp} {t:TypeId} {x y v:HV} (h:(LW P op t x y).run=some v):kn P op t x.1 y.1=some v.1:=by
 have gen:∀ a b,((FK P op t a b).bind fun v=>Tr.ok ((v,none):HV)).run=some v→kn P op t a b=some v.1:=by
  intro a b h;obtain ⟨u,h1,h⟩:=Tr.bind_some h;rw[IB h1,← Tr.af h]
 unfold LW at h;cases hb:isLit x && isLit y with
 | false=>rw[hb,cond_false] at h;exact gen _ _ h
 | true =>
   rw[hb,cond_true] at h;split at h
   · rename_i k a k' b hx hy;obtain ⟨u,h1,h⟩:=Tr.bind_some h;rw[dp,FM] at h1;rw[hx,hy,h1,← Tr.af h]
   · exact gen _ _ h

def pD (fr:aT) (l:List (Nat×Operand)):List (Nat×AV):=rD (fun p=>(p.1,(cD fr p.2).1)) l
theorem ow (fr:aT):∀ l,pD fr l=eg (strip fr) l
 | []=>rfl
 | (i,x)::l=>by
   have e:pD fr ((i,x)::l)=(i,(cD fr x).1)::pD fr l:=rfl;rw[e,ow fr l,bh];rfl
def PE (op:Op):Oper→Program→aO→bx→aT→aa→Nat→Tr (HV×Delta) :=
 match op with
 | .move x=>fun _ _ _ _ fr _ _=>.ok (cD fr x,.bG)
 | .assign x=>fun _ _ _ _ fr _ _=>.ok (cD fr x,.bG)
 | .pick c a b=>fun _ _ _ _ fr _ _=>match cD fr c with
   | (.bool t,none)=>.ite t (.ok (cD fr a,.bG)) (.ok (cD fr b,.bG))
   | (.bool t,some _)=>cond t (.ok (cD fr a,.bG)) (.ok (cD fr b,.bG))
   | _=>.bad
 | .alloc t=>fun _ P _ _ _ _ nx=>match (db P t).bind AV.row with
   | some z=>.ok ((.ptr 0 nx 0 0,none),.push (.row (kO z)))
   | none=>.bad
 | .box _ x=>fun _ _ _ _ fr _ nx=>match (cD fr x).1.row with
   | some r=>.ok ((.ptr 0 nx 0 0,none),.push (.row (kO r)))
   | none=>.bad
 | .build t parts=>fun _ P _ _ fr _ _=>(wj (wN P true t (pD fr parts.toList))).bind fun v=>.ok ((v,none),.bG)
 | .buildSlice t len parts=>fun _ P _ _ fr _ nx=>(wj (jF P nx t len (pD fr parts.toList))).bind fun x=>.ok ((x.1,some 1),x.2)
 | .load t a=>fun _ P _ _ fr H _=>(loadT P H t (cD fr a)).bind fun v=>.ok ((v,none),.bG)
 | .store t a x=>fun _ P _ _ fr H _=>(storeT P H t (cD fr a) (cD fr x).1).bind fun δ=>.ok ((.tup [],none),δ)
 | .nilCheck x=>fun _ _ _ _ fr _ _=>match (cD fr x).1 with
   | .ptr d i v off=>.ok (cD fr x,.bG)
   | .ptrT s r off=>.ok (cD fr x,.bG)
   | _=>.bad
 | .binOp op t x y _=>fun _ P _ _ fr _ _=>(LW P op t (cD fr x) (cD fr y)).bind fun v=>.ok (v,.bG)
 | .unOp op _ x=>fun _ _ _ _ fr _ _=>match op,cD fr x with
   | .not,(.bool b,some _)=>.ok ((.bool (cond b false true),some 1),.bG)
   | op,x=>(Ur op x.1).bind fun v=>.ok ((v,none),.bG)
 | .convert src dst x=>fun _ P _ _ fr _ _=>match P.underlying src with
   | some _=>match P.underlying dst with
     | some (.int k)=>match cD fr x with
       | (.int _ n,none)=>.ok ((.int k (Kc k n),none),.bG)
       | (.int _ n,some _)=>.ok ((.int k (A1 k n),some 1),.bG)
       | _=>.bad
     | _=>.bad
   | none=>.bad
 | .makeSlice t l c=>fun _ P _ _ fr _ nx=>(ov P nx t (cD fr l).1 (cD fr c).1).bind hv
 | .slice t x lo hi mx=>fun _ P _ _ fr _ _=>cond (isLit (cD fr x) && (MG fr lo && (MG fr hi && MG fr mx)))
   ((wj (qP P t (cD fr x).1 (lo.map fun y=>(cD fr y).1) (hi.map fun y=>(cD fr y).1) (mx.map fun y=>(cD fr y).1))).bind fun v=>.ok ((v,some 1),.bG))
   ((Cb P t (cD fr x).1 (lo.map fun y=>(cD fr y).1) (hi.map fun y=>(cD fr y).1) (mx.map fun y=>(cD fr y).1)).bind fun v=>.ok ((v,none),.bG))
 | .fieldAddr t x f=>fun _ P _ _ fr _ _=>(oe P t (cD fr x) f).bind fun v=>.ok (v,.bG)
 | .field t x f=>fun _ P _ _ fr _ _=>(wj (wZ P t (cD fr x).1 f)).bind fun v=>.ok ((v,none),.bG)
 | .indexAddr t x i=>fun _ P _ _ fr _ _=>match (cD fr i).1 with
   | .int _ n=>(Mv P t (cD fr x) (isLit (cD fr i)) n).bind fun v=>.ok (v,.bG)
   | _=>.bad
 | .index t x i=>fun _ P _ _ fr _ _=>match (cD fr i).1 with
   | .int _ n=>(Rs P t (cD fr x).1 (isLit (cD fr i)) n).bind fun v=>.ok ((v,none),.bG)
   | _=>.bad
 | .extract t ix=>fun _ _ _ _ fr _ _=>match (cD fr t).1 with
   | .tup l=>match BA l ix with
     | some v=>.ok ((v,none),.bG)
     | none=>.bad
   | _=>.bad
 | .call c=>fun _ P call callR fr H nx=>Bh P call callR fr H nx c
 | .makeMap t r=>fun _ P _ _ _ _ nx=>match r with
   | none=>.ok ((.map 0 nx,none),.push (tG P t))
   | some _=>.bad
 | .mapUpdate t m k x=>fun _ P _ _ fr H _=>(J9 P H t (cD fr m).1 (cD fr k).1 (cD fr x).1).bind fun δ=>.ok ((.tup [],none),δ)
 | .insert t m k x=>fun _ P _ _ fr H _=>(J9 P H t (cD fr m).1 (cD fr k).1 (cD fr x).1).bind fun δ=>.ok ((.tup [],none),δ)
 | _=>fun o P call _ fr H nx=>(wj (evalOp P call (strip fr) H nx o)).bind hv
theorem BX {o:Oper} {P:Program} {call:aO} {callR:bx} (hC:callR.Ok call) {fr:aT} {H:aa} {nx:Nat} {y:HV×Delta} (h:(PE o.op o P call callR fr H nx).run=some y):evalOp P call (strip fr) H nx o=some (y.1.1,y.2):=by
 have dflt:∀ (t:Tr (AV×Delta)),(t.bind hv).run=some y→t.run=some (y.1.1,y.2):=by
  intro t ht;obtain ⟨x,h1,h2⟩:=Tr.bind_some ht;obtain ⟨e1,e2⟩:=C8 h2;rw[h1,e1,e2]
 have dkp:∀ (t:Tr AV),(t.bind fun v=>Tr.ok (((v,none),.bG):HV×Delta)).run=some y→t.run=some y.1.1∧y.2=.bG:=by
  intro t ht;obtain ⟨x,h1,h2⟩:=Tr.bind_some ht;rw[h1,← Tr.af h2];exact ⟨rfl,rfl⟩
 have kpe:∀ {o:Option AV} {v:AV},o=some v→kp o=some (v,.bG):=by rintro o v rfl;rfl
 cases ho:o.op<;>rw[ho] at h<;>simp only[PE] at h;case move x =>
  unfold evalOp;rw[ho];dsimp only
  rw[← Tr.af h,← bh]
 case assign x =>
  unfold evalOp;rw[ho];dsimp only
  rw[← Tr.af h,← bh]
 case pick c a b =>
  unfold evalOp;rw[ho];dsimp only
  have hc':=bh fr c
  split at h
  · rename_i t hc
    rw[hc] at hc'
    rw[← hc']
    dsimp only
    rcases Tr.kD h with ⟨rfl,h⟩ | ⟨rfl,h⟩<;>rw[← Tr.af h,← bh,← bh]<;>rfl
  · rename_i t n hc
    rw[hc] at hc'
    rw[← hc']
    dsimp only
    cases t with
    | true=>rw[cond_true] at h;rw[← Tr.af h,← bh,← bh];rfl
    | false=>rw[cond_false] at h;rw[← Tr.af h,← bh,← bh];rfl
  · exact (Tr.ai h).elim
 case alloc t =>
  unfold evalOp;rw[ho];dsimp only
  split at h
  · rename_i z hz
    rw[hz,← Tr.af h,Option.map_some,nw hC.1]
  · exact (Tr.ai h).elim
 case box t x =>
  unfold evalOp;rw[ho];dsimp only
  rw[bh] at h
  split at h
  · rename_i z hz
    rw[hz,← Tr.af h,Option.map_some,nw hC.1]
  · exact (Tr.ai h).elim
 case build t parts =>
  unfold evalOp;rw[ho];dsimp only
  obtain ⟨h1,h2⟩:=dkp _ h
  rw[dp,ow] at h1
  rw[nw hC.1,kpe h1,h2]
 case buildSlice t len parts =>
  unfold evalOp;rw[ho];dsimp only
  obtain ⟨x,h1,h⟩:=Tr.bind_some h
  rw[dp,ow] at h1
  rw[h1,← Tr.af h]
 case load t a =>
  unfold evalOp;rw[ho];dsimp only
  obtain ⟨h1,h2⟩:=dkp _ h
  have h1:=zd h1
  rw[bh] at h1
  rw[kpe h1,h2]
 case store t a x =>
  unfold evalOp;rw[ho];dsimp only
  obtain ⟨δ,h1,h⟩:=Tr.bind_some h
  have h1:=Fl h1
  rw[bh,bh] at h1
  rw[h1,← Tr.af h];rfl
 case nilCheck x =>
  unfold evalOp;rw[ho];dsimp only
  rw[← bh]
  split at h
  · rename_i d i v off hx
    rw[hx,← Tr.af h,hx]
  · rename_i s r off hx
    rw[hx,← Tr.af h,hx]
  · exact (Tr.ai h).elim
 case binOp op t x y' g =>
  unfold evalOp;rw[ho];dsimp only
  obtain ⟨v,h1,h⟩:=Tr.bind_some h
  have h1:=IA h1
  rw[bh,bh] at h1
  rw[kpe h1,← Tr.af h]
 case unOp op t x =>
  unfold evalOp;rw[ho];dsimp only
  split at h
  · rename_i b n hx
    have:b5 (strip fr) x=.bool b:=by rw[← bh,hx]
    rw[this,← Tr.af h]
    cases b<;>rfl
  · obtain ⟨h1,h2⟩:=dkp _ h
    have h1:=NK h1
    rw[bh] at h1
    rw[kpe h1,h2]
 case convert s d x =>
  unfold evalOp;rw[ho];dsimp only
  split at h
  · rename_i u hu
    split at h
    · rename_i k hk
      have hx:=bh fr x
      split at h
      · rename_i n hn
        rw[hn] at hx
        rw[hu,hk,← hx]
        dsimp only
        rw[← Tr.af h,H8]
      · rename_i n _ hn
        rw[hn] at hx
        rw[hu,hk,← hx]
        dsimp only
        rw[← Tr.af h,A2]
      · exact (Tr.ai h).elim
    · exact (Tr.ai h).elim
  · exact (Tr.ai h).elim
 case makeSlice t l c =>
  unfold evalOp;rw[ho];dsimp only
  have h1:=vn (dflt _ h)
  rw[bh,bh] at h1
  rw[nw hC.1]
  exact h1
 case slice t x lo hi mx =>
  unfold evalOp;rw[ho];dsimp only
  have e:∀ z:Option Operand,(z.map fun y=>(cD fr y).1)=z.map (b5 (strip fr)):=by
   intro z;cases z<;>simp[bh]
  rcases mw h with ⟨_,h⟩ | ⟨_,h⟩
  · obtain ⟨v,h1,h2⟩:=Tr.bind_some h
    rw[dp,bh,e,e,e] at h1
    rw[kpe h1,← Tr.af h2]
  · obtain ⟨h1,h2⟩:=dkp _ h
    have h1:=Ff h1
    rw[bh] at h1
    rw[e,e,e] at h1
    rw[kpe h1,h2]
 case fieldAddr t x f =>
  unfold evalOp;rw[ho];dsimp only
  obtain ⟨v,h1,h⟩:=Tr.bind_some h
  have h1:=ve h1
  rw[bh] at h1
  rw[kpe h1,← Tr.af h]
 case field t x f =>
  unfold evalOp;rw[ho];dsimp only
  obtain ⟨h1,h2⟩:=dkp _ h
  rw[dp,bh] at h1
  rw[kpe h1,h2]
 case index t x i =>
  unfold evalOp;rw[ho];dsimp only
  rw[bh] at h
  split at h
  · rename_i k n hn
    obtain ⟨v,h1,h⟩:=Tr.bind_some h
    have h1:=MB h1
    rw[bh] at h1
    rw[hn]
    dsimp only
    rw[kpe h1,← Tr.af h]
  · exact (Tr.ai h).elim
 case indexAddr t x i =>
  unfold evalOp;rw[ho];dsimp only
  rw[bh] at h
  split at h
  · rename_i k n hn
    obtain ⟨v,h1,h⟩:=Tr.bind_some h
    have h1:=I4 h1
    rw[bh] at h1
    rw[hn]
    dsimp only
    rw[kpe h1,← Tr.af h]
  · exact (Tr.ai h).elim
 case extract t ix =>
  unfold evalOp;rw[ho];dsimp only
  rw[bh] at h
  split at h
  · rename_i l hl
    rw[hl]
    dsimp only
    rw[nf] at h
    split at h
    · rename_i v hv'
      rw[hv',← Tr.af h]
    · exact (Tr.ai h).elim
  · exact (Tr.ai h).elim
 case call c =>
  unfold evalOp;rw[ho];dsimp only
  exact Ee hC h
 case makeMap t r =>
  unfold evalOp;rw[ho];try dsimp only
  cases r with
  | none =>
    dsimp only at h ⊢
    rw[nw hC.1,← Tr.af h]
  | some r=>exact (Tr.ai h).elim
 case mapUpdate t m k x =>
  unfold evalOp;rw[ho];dsimp only
  obtain ⟨δ,h1,h⟩:=Tr.bind_some h
  have h1:=D5 h1
  rw[bh,bh,bh] at h1
  rw[h1,← Tr.af h];rfl
 case insert t m k x =>
  unfold evalOp;rw[ho];dsimp only
  obtain ⟨δ,h1,h⟩:=Tr.bind_some h
  have h1:=D5 h1
  rw[bh,bh,bh] at h1
  rw[h1,← Tr.af h];rfl
 all_goals
  have h1:=dflt _ h
  rw[dp] at h1
  exact h1

end
end Go.Eng
