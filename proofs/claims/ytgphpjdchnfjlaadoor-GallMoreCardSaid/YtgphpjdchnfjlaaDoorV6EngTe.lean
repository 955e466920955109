/- The engine as a tree: the other builtins; operations. -/
import Derived.Test.YtgphpjdchnfjlaaDoorV6EngTcx2
set_option linter.unusedVariables false
set_option linter.unusedSimpArgs false
namespace Go.Eng
noncomputable section

abbrev bp:=PT→List HV→aa→Tr (HV×aa)
def jW (l:List HV):List AV:=rz (fun x=>x.1) l
def bp.Ok (c:bp) (call:aL):Prop:=(∃ x,call .mode [] []=some x)∧∀ tgt args H x,(c tgt args H).run=some x→call tgt (jW args) H=some (x.1.1,x.2)
theorem nv {α:Type} {call:aL} (h:∃ x,call .mode [] []=some x) (a b:α):nG call a b=a:=by
 obtain ⟨x,h⟩:=h;unfold nG;rw[h]

def IK (P:Program) (H:aa) (t:TypeId) (x:HV):Tr HV :=
 match P.underlying t with
 | some (.slice _)=>match x.1 with
   | .nils=>.ok (.int .i64 (Int.ofNat 0),some 1)
   | .slc _ _ _ _ _ len _=>.ok (.int .i64 (Int.ofNat len),x.2)
   | .slcT _ _ _ len _=>.ok (.int .i64 (Int.ofNat len),x.2)
   | _=>.bad
 | some (.array n _)=>.ok (.int .i64 (Int.ofNat n),some 1)
 | _=>(vW ((u0 P H t x.1).map fun n=>AV.int .i64 n)).bind fun v=>.ok (v,none)
theorem IL {P:Program} {H:aa} {t:TypeId} {x v:HV} (h:(IK P H t x).run=some v):(u0 P H t x.1).map (AV.int .i64)=some v.1:=by
 unfold IK at h;split at h
 · rename_i e hu;unfold u0;rw[hu];split at h
   · rename_i hx;rw[hx,← Tr.ab h];rfl
   · rename_i hx;rw[hx,← Tr.ab h];rfl
   · rename_i hx;rw[hx,← Tr.ab h];rfl
   · exact (Tr.ag h).elim
 · rename_i hu;unfold u0;rw[hu,← Tr.ab h];rfl
 · obtain ⟨u,h1,h⟩:=Tr.bind_some h;rw[dc] at h1;rw[h1,← Tr.ab h]
def FC    (P:Program) (H:aa) (t:TypeId) (s x:AV):Tr (AV×Delta) :=
 match P.underlying t with
 | some (.slice e)=>match bF P e with
   | some z=>match ot x with
     | some n=>match s with
       | .slc d i v off sz m cap=>(sr H z (w6 n m) x).bind fun new=>cond (j0 H d) .bad ((xr H d i v (some 0)).bind fun r=>cond (Nat.beq sz z) (match r with
          | .M l=>(GU l off none (jx d new)).bind fun r'=>.ok (.int .i64 (Int.ofNat (w6 n m)),.set d i (v,.row r'))
          | _=>.bad) .bad)
       | _=>.bad
     | none=>.bad
   | none=>.bad
 | _=>.bad
theorem FD {P:Program} {H:aa} {t:TypeId} {s x:AV} {y:AV×Delta} (h:(FC P H t s x).run=some y):copyV P H t s x=some y:=by
 unfold FC at h;unfold copyV;split at h
 · rename_i e hu;split at h
   · rename_i z hs;split at h
     · rename_i n hn;split at h
       · rename_i d i v off sz m cap _ _;obtain ⟨new,h1,h⟩:=Tr.bind_some h;rw[gq] at h;obtain ⟨hl,h⟩:=Tr.kn h;obtain ⟨r,h2,h⟩:=Tr.bind_some h;obtain ⟨hz,h⟩:=Tr.aY h;have hz:=Nat.eq_of_beq_eq_true hz;have hcv:=p8 h1;rw[w7] at hcv;have hcl:=ss hcv;rw[hu];dsimp only;rw[hs,hn];dsimp only[ot];rw[hcv];dsimp only;rw[hl,if_neg (by simp),lK h2];dsimp only;split at h
         · rename_i l _;obtain ⟨r',h3,h⟩:=Tr.bind_some h;obtain ⟨k1,k2⟩:=xl h3;rw[fk,hcl] at k1;rw[if_pos ⟨hz,by rw[hz];exact k1⟩,k2,← Tr.ab h,w7];rfl
         · exact (Tr.ag h).elim
       · exact (Tr.ag h).elim
     · exact (Tr.ag h).elim
   · exact (Tr.ag h).elim
 · exact (Tr.ag h).elim
def xG (z:Row) (n:Nat):Row :=
 match z with
 | .I k l=>cond (xR l) (.M [.arr k (fun _=>0) (fK n (kC l))]) (dM z n)
 | z=>dM z n
theorem wk (z:Row) (n:Nat):xG z n=dM z n:=by
 cases z with
 | I k l =>
   simp only[xG];cases h:xR l with
   | true=>simp only[cond_true,dM,h,if_true,cQ,eA]
   | false=>rfl
 | _=>rfl
def AQ (P:Program) (H:aa) (t:TypeId) (s:AV):Tr (AV×Delta) :=
 match P.underlying t with
 | some (.slice e)=>match s with
   | .slc d i v off sz len _=>cond (j0 H d) .bad (match (cZ P e).bind AV.row with
     | some z=>match bF P e with
       | some n=>cond (Nat.beq n sz) (cond (Nat.beq (iC z) sz) (.req (bt 0 len) ((xr H d i v (some 0)).bind fun r=>match r with
          | .M l=>(GU l off none (xG z len)).bind fun r'=>.ok (.tup [],.set d i (v,.row r'))
          | _=>.bad)) .bad) .bad
       | none=>.bad
     | none=>.bad)
   | _=>.bad
 | _=>.bad
theorem BZ (z:Row) (n:Nat):(dM z n).len=n*z.len:=by
 have fn:∀ l:List AV,(FQ l n).len=n*l.length:=by
  intro l;unfold FQ;split
  · split<;>simp[Row.len,dO]
  · simp[Row.len,dO]
 cases z with
 | I k l=>simp only[dM];split<;>simp[Row.len,aB,aQ,dO]
 | _=>simp only[dM,fn,Row.bu]
theorem DT {P:Program} {H:aa} {t:TypeId} {s:AV} {y:AV×Delta} (h:(AQ P H t s).run=some y):sx P H t s=some y:=by
 unfold AQ at h;unfold sx;split at h
 · rename_i e hu;split at h
   · rename_i d i v off sz len cap;rw[gq] at h;obtain ⟨hl,h⟩:=Tr.kn h;split at h
     · rename_i z hz;split at h
       · rename_i n hs;obtain ⟨hn,h⟩:=Tr.aY h;obtain ⟨hzl,h⟩:=Tr.aY h;have hn:=Nat.eq_of_beq_eq_true hn;rw[fi] at hzl;have hzl:=Nat.eq_of_beq_eq_true hzl;obtain ⟨h0,h⟩:=Tr.aS h;rw[ir,decide_eq_true_eq] at h0;obtain ⟨r,h2,h⟩:=Tr.bind_some h;rw[hu];dsimp only;rw[hl,if_neg (by simp),hz,lK h2];dsimp only;split at h
         · rename_i l _;obtain ⟨r',h3,h⟩:=Tr.bind_some h;obtain ⟨k1,k2⟩:=xl h3;rw[wk] at k1 k2;rw[BZ,hzl] at k1;rw[if_pos ⟨hzl,by rw[hs,hn],k1⟩,← Tr.ab h];rw[if_neg wO];simp only[yt,if_true];rw[← k2]
         · exact (Tr.ag h).elim
       · exact (Tr.ag h).elim
     · exact (Tr.ag h).elim
   · exact (Tr.ag h).elim
 · exact (Tr.ag h).elim
def ov (P:Program) (nx:Nat) (t:TypeId) (l c:AV):Tr (AV×Delta) :=
 match P.underlying t with
 | some (.slice e)=>match l with
   | .int _ l=>match c with
     | .int _ c=>match P.info? e with
       | some inf=>match (cZ P e).bind AV.row with
         | some z=>.req (CV l c inf.bytes) (cond (Nat.beq (iC z) inf.size) (.ok (.slc 0 nx 0 0 inf.size (cg l) (some (cg c)),.push (.row (xG z (cg c))))) .bad)
         | none=>.bad
       | none=>.bad
     | _=>.bad
   | _=>.bad
 | _=>.bad
theorem u9 {P:Program} {nx:Nat} {t:TypeId} {l c:AV} {y:AV×Delta} (h:(ov P nx t l c).run=some y):jk P true nx t l c=some y:=by
 unfold ov at h;unfold jk;split at h
 · rename_i e hu;split at h
   · split at h
     · split at h
       · rename_i inf hi;split at h
         · rename_i z hz;obtain ⟨hc,h⟩:=Tr.aS h;obtain ⟨hl,h⟩:=Tr.aY h;rw[Bq,decide_eq_true_eq] at hc;rw[fi] at hl;have hl:=Nat.eq_of_beq_eq_true hl;rw[hu];dsimp only;rw[hi,hz];dsimp only;rw[if_pos ⟨hc.1,hc.2.1,hc.2.2.1,hc.2.2.2,hl⟩,← Tr.ab h,wk,j9,j9];rfl
         · exact (Tr.ag h).elim
       · exact (Tr.ag h).elim
     · exact (Tr.ag h).elim
   · exact (Tr.ag h).elim
 · exact (Tr.ag h).elim

def hv (x:AV×Delta):Tr (HV×Delta):=.ok ((x.1,none),x.2)
theorem CG {x:AV×Delta} {y:HV×Delta} (h:(hv x).run=some y):y.1.1=x.1∧y.2=x.2:=by
 have:=Tr.ab h;rw[← this];exact ⟨rfl,rfl⟩
def tC (l:List AV):List HV:=rz (fun x=>(x,none)) l
theorem nZ:∀ l:List AV,jW (tC l)=l
 | []=>rfl
 | x::l=>by
   have e:jW (tC (x::l))=x::jW (tC l):=rfl;rw[e,nZ l]
theorem wq:∀ a b:List HV,jW (rp a b)=jW a++jW b
 | [],b=>rfl
 | x::a,b=>by
   have e:jW (rp (x::a) b)=x.1::jW (rp a b):=rfl;rw[e,wq a b];rfl
def yU (fr:aG) (l:List Operand):List HV:=rz (fun x=>cA fr x) l
theorem tK (fr:aG):∀ l,jW (yU fr l)=lD (strip fr) l
 | []=>rfl
 | x::l=>by
   have e:jW (yU fr (x::l))=(cA fr x).1::jW (yU fr l):=rfl;rw[e,tK fr l,a8];rfl
def JN   (P:Program) (H:aa) (t:TypeId) (m key x:AV):Tr Delta :=
 match P.underlying t with
 | some (.map kt _)=>match m with
   | .map d i=>cond (aK H d) .bad (cond (j5 P kt key) (match az H d i with
     | (0,.fmap q h g c)=>match uZ q key with
       | some n=>match yS x with
         | some y=>.ok (.set d i (0,.fmap q (mU h n true) (mV g n y) (qN (h n) c)))
         | none=>.bad
       | none=>.bad
     | _=>.bad) .bad)
   | _=>.bad
 | _=>.bad
def LJ (P:Program) (H:aa) (t:TypeId) (m key:AV):Tr Delta :=
 match P.underlying t with
 | some (.map kt _)=>match m with
   | .map d i=>cond (aK H d) .bad (cond (j5 P kt key) (match az H d i with
     | (0,.fmap q h g c)=>match uZ q key with
       | some n=>.ok (.set d i (0,.fmap q (mU h n false) (mV g n 0) (xW (h n) c)))
       | none=>.bad
     | _=>.bad) .bad)
   | _=>.bad
 | _=>.bad
def Mi (fr:aG):Option Operand→Bool
 | none=>true
 | some y=>isLit (cA fr y)
theorem mj {α:Type} {b:Bool} {s t:Tr α} {x:α} (h:(cond b s t).run=some x):b=true∧s.run=some x∨b=false∧t.run=some x:=by
 cases b
 · exact .inr ⟨rfl,h⟩
 · exact .inl ⟨rfl,h⟩
theorem DI {P:Program} {H:aa} {t:TypeId} {m key x:AV} {δ:Delta} (h:(JN P H t m key x).run=some δ):jS P H t m key x=some δ:=by
 unfold JN at h;unfold jS;split at h
 · rename_i kt et hu;rw[hu];split at h
   · rename_i d i;dsimp only;rcases mj h with ⟨_,h⟩ | ⟨h1,h⟩
     · exact (Tr.ag h).elim
     · rcases mj h with ⟨h2,h⟩ | ⟨_,h⟩
       · rw[if_neg (by rw[h1];simp),if_pos h2];split at h
         · rename_i q f g c hg;rw[hg];try dsimp only
           split at h
           · rename_i n hn;split at h
             · rename_i y hy;simp only[hn,hy,← Tr.ab h,ie,ig,mi]
             · exact (Tr.ag h).elim
           · exact (Tr.ag h).elim
         · exact (Tr.ag h).elim
       · exact (Tr.ag h).elim
   · exact (Tr.ag h).elim
 · exact (Tr.ag h).elim
theorem Ir {P:Program} {H:aa} {t:TypeId} {m key:AV} {δ:Delta} (h:(LJ P H t m key).run=some δ):o5 P H t m key=some (.tup [],δ):=by
 unfold LJ at h;unfold o5;split at h
 · rename_i kt et hu;rw[hu];split at h
   · rename_i d i;dsimp only;rcases mj h with ⟨_,h⟩ | ⟨h1,h⟩
     · exact (Tr.ag h).elim
     · rcases mj h with ⟨h2,h⟩ | ⟨_,h⟩
       · rw[if_neg (by rw[h1];simp),if_pos h2];split at h
         · rename_i q f g c hg;rw[hg];try dsimp only
           split at h
           · rename_i n hn;simp only[hn,← Tr.ab h,ie,ig,sA]
           · exact (Tr.ag h).elim
         · exact (Tr.ag h).elim
       · exact (Tr.ag h).elim
   · exact (Tr.ag h).elim
 · exact (Tr.ag h).elim
def AP (P:Program) (call:aL) (callR:bp) (fr:aG) (H:aa) (nx:Nat) (c:Call):Tr (HV×Delta) :=
 match c.callee with
 | .value f=>match (cA fr f).1 with
   | .fn (.func g) a b=>(callR (.fn g) (rp (tC a) (rp (yU fr c.args.toList) (tC b))) H).bind fun x=>.ok (x.1,.heap x.2)
   | .yld d i=>(callR (.round d i) (yU fr c.args.toList) H).bind fun x=>.ok (x.1,.heap x.2)
   | _=>.bad
 | .builtin .len=>match c.args.toList,c.argTypes.toList with
   | x::_,t::_=>(IK P H t (cA fr x)).bind fun v=>.ok (v,.bE)
   | _,_=>.bad
 | .builtin .append=>match c.args.toList,c.argTypes.toList with
   | s::x::_,t::u::_=>(oV P H nx t u (cA fr s).1 (cA fr x).1).bind hv
   | _,_=>.bad
 | .builtin .copy=>match c.args.toList,c.argTypes.toList with
   | s::x::_,t::_=>(FC P H t (cA fr s).1 (cA fr x).1).bind hv
   | _,_=>.bad
 | .builtin .clear=>match c.args.toList,c.argTypes.toList with
   | s::_,t::_=>(AQ P H t (cA fr s).1).bind hv
   | _,_=>.bad
 | .builtin .min=>match yV fr c.args.toList with
   | .int k x::r=>(pG false k x r).bind fun v=>.ok ((v,none),.bE)
   | _=>.bad
 | .builtin .max=>match yV fr c.args.toList with
   | .int k x::r=>(pG true k x r).bind fun v=>.ok ((v,none),.bE)
   | _=>.bad
 | .builtin .delete=>match c.args.toList,c.argTypes.toList with
   | m::k::_,t::_=>(LJ P H t (cA fr m).1 (cA fr k).1).bind fun δ=>.ok ((.tup [],none),δ)
   | _,_=>.bad
 | _=>(vW (gP P call (strip fr) H nx c)).bind hv
theorem DR {P:Program} {call:aL} {callR:bp} (hC:callR.Ok call) {fr:aG} {H:aa} {nx:Nat} {c:Call} {y:HV×Delta} (h:(AP P call callR fr H nx c).run=some y):gP P call (strip fr) H nx c=some (y.1.1,y.2):=by
 have dflt:∀ (t:Tr (AV×Delta)),(t.bind hv).run=some y→t.run=some (y.1.1,y.2):=by
  intro t ht;obtain ⟨x,h1,h2⟩:=Tr.bind_some ht;obtain ⟨e1,e2⟩:=CG h2;rw[h1,e1,e2]
 unfold AP at h;split at h
 · rename_i f hf;unfold gP;rw[hf];dsimp only;rw[a8] at h;split at h
   · rename_i g a b ho;obtain ⟨x,h1,h⟩:=Tr.bind_some h;rw[ho];dsimp only;have:=hC.2 _ _ _ _ h1;rw[wq,wq,nZ,nZ,tK] at this;rw[this,← Tr.ab h];rfl
   · rename_i d i ho;obtain ⟨x,h1,h⟩:=Tr.bind_some h;rw[ho];dsimp only;have:=hC.2 _ _ _ _ h1;rw[tK] at this;rw[this,← Tr.ab h];rfl
   · exact (Tr.ag h).elim
 · rename_i hf;unfold gP;rw[hf];dsimp only;split at h
   · rename_i x _ t _ hx ht;obtain ⟨v,h1,h⟩:=Tr.bind_some h;rw[hx,ht];dsimp only;have:=IL h1;rw[a8] at this;obtain ⟨n,k1,k2⟩:=Option.map_eq_some_iff.1 this;rw[k1,← Tr.ab h,← k2];rfl
   · exact (Tr.ag h).elim
 · rename_i hf;unfold gP;rw[hf];dsimp only;split at h
   · rename_i s x _ t u _ hx ht;rw[hx,ht];dsimp only;have h:=AH (dflt _ h);rw[a8,a8] at h;rw[nv hC.1];exact h
   · exact (Tr.ag h).elim
 · rename_i hf;unfold gP;rw[hf];dsimp only;split at h
   · rename_i s x _ t _ hx ht;rw[hx,ht];dsimp only;have h:=FD (dflt _ h);rw[a8,a8] at h;exact h
   · exact (Tr.ag h).elim
 · rename_i hf;unfold gP;rw[hf];dsimp only;split at h
   · rename_i s _ t _ hx ht;rw[hx,ht];dsimp only;have h:=DT (dflt _ h);rw[a8] at h;exact h
   · exact (Tr.ag h).elim
 · rename_i hf;unfold gP;rw[hf];dsimp only;rw[tL] at h;split at h
   · rename_i k x r hx;obtain ⟨v,h1,h⟩:=Tr.bind_some h;rw[hx];dsimp only[oA];rw[oB _ _ _ h1,← Tr.ab h];rfl
   · exact (Tr.ag h).elim
 · rename_i hf;unfold gP;rw[hf];dsimp only;rw[tL] at h;split at h
   · rename_i k x r hx;obtain ⟨v,h1,h⟩:=Tr.bind_some h;rw[hx];dsimp only[oA];rw[oB _ _ _ h1,← Tr.ab h];rfl
   · exact (Tr.ag h).elim
 · rename_i hf;unfold gP;rw[hf];dsimp only;split at h
   · rename_i m k _ t _ hx ht;rw[hx,ht];dsimp only;obtain ⟨δ,h1,h⟩:=Tr.bind_some h;have h1:=Ir h1;rw[a8,a8] at h1;rw[h1,← Tr.ab h]
   · exact (Tr.ag h).elim
 · have h:=dflt _ h;rw[dc] at h;exact h

def Lw (P:Program) (op:BinOp) (t:TypeId) (x y:HV):Tr HV :=
 cond (isLit x && isLit y) (match x.1,y.1 with
  | .int k a,.int k' b=>(vW (Fi P op t (.int k a) (.int k' b))).bind fun v=>.ok (v,some 1)
  | a,b=>(Fh P op t a b).bind fun v=>.ok (v,none))
 ((Fh P op t x.1 y.1).bind fun v=>.ok (v,none))
theorem H8 {P:Program} {op:BinOp} {t:TypeId} {x y v:HV} (h:(Lw P op t x y).run=some v):ki P op t x.1 y.1=some v.1:=by
 have gen:∀ a b,((Fh P op t a b).bind fun v=>Tr.ok ((v,none):HV)).run=some v→ki P op t a b=some v.1:=by
  intro a b h;obtain ⟨u,h1,h⟩:=Tr.bind_some h;rw[H9 h1,← Tr.ab h]
 unfold Lw at h;cases hb:isLit x && isLit y with
 | false=>rw[hb,cond_false] at h;exact gen _ _ h
 | true =>
   rw[hb,cond_true] at h;split at h
   · rename_i k a k' b hx hy;obtain ⟨u,h1,h⟩:=Tr.bind_some h;rw[dc,Fj] at h1;rw[hx,hy,h1,← Tr.ab h]
   · exact gen _ _ h

def pC (fr:aG) (l:List (Nat×Operand)):List (Nat×AV):=rz (fun p=>(p.1,(cA fr p.2).1)) l
theorem ow (fr:aG):∀ l,pC fr l=dU (strip fr) l
 | []=>rfl
 | (i,x)::l=>by
   have e:pC fr ((i,x)::l)=(i,(cA fr x).1)::pC fr l:=rfl;rw[e,ow fr l,a8];rfl
def O2 (op:Op):Oper→Program→aL→bp→aG→aa→Nat→Tr (HV×Delta) :=
 match op with
 | .move x=>fun _ _ _ _ fr _ _=>.ok (cA fr x,.bE)
 | .assign x=>fun _ _ _ _ fr _ _=>.ok (cA fr x,.bE)
 | .pick c a b=>fun _ _ _ _ fr _ _=>match cA fr c with
   | (.bool t,none)=>.ite t (.ok (cA fr a,.bE)) (.ok (cA fr b,.bE))
   | (.bool t,some _)=>cond t (.ok (cA fr a,.bE)) (.ok (cA fr b,.bE))
   | _=>.bad
 | .alloc t=>fun _ P _ _ _ _ nx=>match (cZ P t).bind AV.row with
   | some z=>.ok ((.ptr 0 nx 0 0,none),.push (.row (kM z)))
   | none=>.bad
 | .box _ x=>fun _ _ _ _ fr _ nx=>match (cA fr x).1.row with
   | some r=>.ok ((.ptr 0 nx 0 0,none),.push (.row (kM r)))
   | none=>.bad
 | .build t parts=>fun _ P _ _ fr _ _=>(vW (wv P true t (pC fr parts.toList))).bind fun v=>.ok ((v,none),.bE)
 | .buildSlice t len parts=>fun _ P _ _ fr _ nx=>(vW (jD P nx t len (pC fr parts.toList))).bind fun x=>.ok ((x.1,some 1),x.2)
 | .load t a=>fun _ P _ _ fr H _=>(loadT P H t (cA fr a)).bind fun v=>.ok ((v,none),.bE)
 | .store t a x=>fun _ P _ _ fr H _=>(storeT P H t (cA fr a) (cA fr x).1).bind fun δ=>.ok ((.tup [],none),δ)
 | .nilCheck x=>fun _ _ _ _ fr _ _=>match (cA fr x).1 with
   | .ptr d i v off=>.ok (cA fr x,.bE)
   | .ptrT s r off=>.ok (cA fr x,.bE)
   | _=>.bad
 | .binOp op t x y _=>fun _ P _ _ fr _ _=>(Lw P op t (cA fr x) (cA fr y)).bind fun v=>.ok (v,.bE)
 | .unOp op _ x=>fun _ _ _ _ fr _ _=>match op,cA fr x with
   | .not,(.bool b,some _)=>.ok ((.bool (cond b false true),some 1),.bE)
   | op,x=>(S6 op x.1).bind fun v=>.ok ((v,none),.bE)
 | .convert src dst x=>fun _ P _ _ fr _ _=>match P.underlying src with
   | some _=>match P.underlying dst with
     | some (.int k)=>match cA fr x with
       | (.int _ n,none)=>.ok ((.int k (bm k n),none),.bE)
       | (.int _ n,some _)=>.ok ((.int k (Az k n),some 1),.bE)
       | _=>.bad
     | _=>.bad
   | none=>.bad
 | .makeSlice t l c=>fun _ P _ _ fr _ nx=>(ov P nx t (cA fr l).1 (cA fr c).1).bind hv
 | .slice t x lo hi mx=>fun _ P _ _ fr _ _=>cond (isLit (cA fr x) && (Mi fr lo && (Mi fr hi && Mi fr mx)))
   ((vW (qI P t (cA fr x).1 (lo.map fun y=>(cA fr y).1) (hi.map fun y=>(cA fr y).1) (mx.map fun y=>(cA fr y).1))).bind fun v=>.ok ((v,some 1),.bE))
   ((BI P t (cA fr x).1 (lo.map fun y=>(cA fr y).1) (hi.map fun y=>(cA fr y).1) (mx.map fun y=>(cA fr y).1)).bind fun v=>.ok ((v,none),.bE))
 | .fieldAddr t x f=>fun _ P _ _ fr _ _=>(oe P t (cA fr x) f).bind fun v=>.ok (v,.bE)
 | .field t x f=>fun _ P _ _ fr _ _=>(vW (wD P t (cA fr x).1 f)).bind fun v=>.ok ((v,none),.bE)
 | .indexAddr t x i=>fun _ P _ _ fr _ _=>match (cA fr i).1 with
   | .int _ n=>(L7 P t (cA fr x) (isLit (cA fr i)) n).bind fun v=>.ok (v,.bE)
   | _=>.bad
 | .index t x i=>fun _ P _ _ fr _ _=>match (cA fr i).1 with
   | .int _ n=>(Qx P t (cA fr x).1 (isLit (cA fr i)) n).bind fun v=>.ok ((v,none),.bE)
   | _=>.bad
 | .extract t ix=>fun _ _ _ _ fr _ _=>match (cA fr t).1 with
   | .tup l=>match A6 l ix with
     | some v=>.ok ((v,none),.bE)
     | none=>.bad
   | _=>.bad
 | .call c=>fun _ P call callR fr H nx=>AP P call callR fr H nx c
 | .makeMap t r=>fun _ P _ _ _ _ nx=>match r with
   | none=>.ok ((.map 0 nx,none),.push (tz P t))
   | some _=>.bad
 | .mapUpdate t m k x=>fun _ P _ _ fr H _=>(JN P H t (cA fr m).1 (cA fr k).1 (cA fr x).1).bind fun δ=>.ok ((.tup [],none),δ)
 | .insert t m k x=>fun _ P _ _ fr H _=>(JN P H t (cA fr m).1 (cA fr k).1 (cA fr x).1).bind fun δ=>.ok ((.tup [],none),δ)
 | _=>fun o P call _ fr H nx=>(vW (evalOp P call (strip fr) H nx o)).bind hv
theorem Bx {o:Oper} {P:Program} {call:aL} {callR:bp} (hC:callR.Ok call) {fr:aG} {H:aa} {nx:Nat} {y:HV×Delta} (h:(O2 o.op o P call callR fr H nx).run=some y):evalOp P call (strip fr) H nx o=some (y.1.1,y.2):=by
 have dflt:∀ (t:Tr (AV×Delta)),(t.bind hv).run=some y→t.run=some (y.1.1,y.2):=by
  intro t ht;obtain ⟨x,h1,h2⟩:=Tr.bind_some ht;obtain ⟨e1,e2⟩:=CG h2;rw[h1,e1,e2]
 have dkp:∀ (t:Tr AV),(t.bind fun v=>Tr.ok (((v,none),.bE):HV×Delta)).run=some y→t.run=some y.1.1∧y.2=.bE:=by
  intro t ht;obtain ⟨x,h1,h2⟩:=Tr.bind_some ht;rw[h1,← Tr.ab h2];exact ⟨rfl,rfl⟩
 have kpe:∀ {o:Option AV} {v:AV},o=some v→kp o=some (v,.bE):=by rintro o v rfl;rfl
 cases ho:o.op<;>rw[ho] at h<;>simp only[O2] at h;case move x =>
  unfold evalOp;rw[ho];dsimp only
  rw[← Tr.ab h,← a8]
 case assign x =>
  unfold evalOp;rw[ho];dsimp only
  rw[← Tr.ab h,← a8]
 case pick c a b =>
  unfold evalOp;rw[ho];dsimp only
  have hc':=a8 fr c
  split at h
  · rename_i t hc
    rw[hc] at hc'
    rw[← hc']
    dsimp only
    rcases Tr.kA h with ⟨rfl,h⟩ | ⟨rfl,h⟩<;>rw[← Tr.ab h,← a8,← a8]<;>rfl
  · rename_i t n hc
    rw[hc] at hc'
    rw[← hc']
    dsimp only
    cases t with
    | true=>rw[cond_true] at h;rw[← Tr.ab h,← a8,← a8];rfl
    | false=>rw[cond_false] at h;rw[← Tr.ab h,← a8,← a8];rfl
  · exact (Tr.ag h).elim
 case alloc t =>
  unfold evalOp;rw[ho];dsimp only
  split at h
  · rename_i z hz
    rw[hz,← Tr.ab h,Option.map_some,nv hC.1]
  · exact (Tr.ag h).elim
 case box t x =>
  unfold evalOp;rw[ho];dsimp only
  rw[a8] at h
  split at h
  · rename_i z hz
    rw[hz,← Tr.ab h,Option.map_some,nv hC.1]
  · exact (Tr.ag h).elim
 case build t parts =>
  unfold evalOp;rw[ho];dsimp only
  obtain ⟨h1,h2⟩:=dkp _ h
  rw[dc,ow] at h1
  rw[nv hC.1,kpe h1,h2]
 case buildSlice t len parts =>
  unfold evalOp;rw[ho];dsimp only
  obtain ⟨x,h1,h⟩:=Tr.bind_some h
  rw[dc,ow] at h1
  rw[h1,← Tr.ab h]
 case load t a =>
  unfold evalOp;rw[ho];dsimp only
  obtain ⟨h1,h2⟩:=dkp _ h
  have h1:=yB h1
  rw[a8] at h1
  rw[kpe h1,h2]
 case store t a x =>
  unfold evalOp;rw[ho];dsimp only
  obtain ⟨δ,h1,h⟩:=Tr.bind_some h
  have h1:=EL h1
  rw[a8,a8] at h1
  rw[h1,← Tr.ab h];rfl
 case nilCheck x =>
  unfold evalOp;rw[ho];dsimp only
  rw[← a8]
  split at h
  · rename_i d i v off hx
    rw[hx,← Tr.ab h,hx]
  · rename_i s r off hx
    rw[hx,← Tr.ab h,hx]
  · exact (Tr.ag h).elim
 case binOp op t x y' g =>
  unfold evalOp;rw[ho];dsimp only
  obtain ⟨v,h1,h⟩:=Tr.bind_some h
  have h1:=H8 h1
  rw[a8,a8] at h1
  rw[kpe h1,← Tr.ab h]
 case unOp op t x =>
  unfold evalOp;rw[ho];dsimp only
  split at h
  · rename_i b n hx
    have:b9 (strip fr) x=.bool b:=by rw[← a8,hx]
    rw[this,← Tr.ab h]
    cases b<;>rfl
  · obtain ⟨h1,h2⟩:=dkp _ h
    have h1:=Nd h1
    rw[a8] at h1
    rw[kpe h1,h2]
 case convert s d x =>
  unfold evalOp;rw[ho];dsimp only
  split at h
  · rename_i u hu
    split at h
    · rename_i k hk
      have hx:=a8 fr x
      split at h
      · rename_i n hn
        rw[hn] at hx
        rw[hu,hk,← hx]
        dsimp only
        rw[← Tr.ab h,Hy]
      · rename_i n _ hn
        rw[hn] at hx
        rw[hu,hk,← hx]
        dsimp only
        rw[← Tr.ab h,AA]
      · exact (Tr.ag h).elim
    · exact (Tr.ag h).elim
  · exact (Tr.ag h).elim
 case makeSlice t l c =>
  unfold evalOp;rw[ho];dsimp only
  have h1:=u9 (dflt _ h)
  rw[a8,a8] at h1
  rw[nv hC.1]
  exact h1
 case slice t x lo hi mx =>
  unfold evalOp;rw[ho];dsimp only
  have e:∀ z:Option Operand,(z.map fun y=>(cA fr y).1)=z.map (b9 (strip fr)):=by
   intro z;cases z<;>simp[a8]
  rcases mj h with ⟨_,h⟩ | ⟨_,h⟩
  · obtain ⟨v,h1,h2⟩:=Tr.bind_some h
    rw[dc,a8,e,e,e] at h1
    rw[kpe h1,← Tr.ab h2]
  · obtain ⟨h1,h2⟩:=dkp _ h
    have h1:=EF h1
    rw[a8] at h1
    rw[e,e,e] at h1
    rw[kpe h1,h2]
 case fieldAddr t x f =>
  unfold evalOp;rw[ho];dsimp only
  obtain ⟨v,h1,h⟩:=Tr.bind_some h
  have h1:=uS h1
  rw[a8] at h1
  rw[kpe h1,← Tr.ab h]
 case field t x f =>
  unfold evalOp;rw[ho];dsimp only
  obtain ⟨h1,h2⟩:=dkp _ h
  rw[dc,a8] at h1
  rw[kpe h1,h2]
 case index t x i =>
  unfold evalOp;rw[ho];dsimp only
  rw[a8] at h
  split at h
  · rename_i k n hn
    obtain ⟨v,h1,h⟩:=Tr.bind_some h
    have h1:=Md h1
    rw[a8] at h1
    rw[hn]
    dsimp only
    rw[kpe h1,← Tr.ab h]
  · exact (Tr.ag h).elim
 case indexAddr t x i =>
  unfold evalOp;rw[ho];dsimp only
  rw[a8] at h
  split at h
  · rename_i k n hn
    obtain ⟨v,h1,h⟩:=Tr.bind_some h
    have h1:=IC h1
    rw[a8] at h1
    rw[hn]
    dsimp only
    rw[kpe h1,← Tr.ab h]
  · exact (Tr.ag h).elim
 case extract t ix =>
  unfold evalOp;rw[ho];dsimp only
  rw[a8] at h
  split at h
  · rename_i l hl
    rw[hl]
    dsimp only
    rw[m9] at h
    split at h
    · rename_i v hv'
      rw[hv',← Tr.ab h]
    · exact (Tr.ag h).elim
  · exact (Tr.ag h).elim
 case call c =>
  unfold evalOp;rw[ho];dsimp only
  exact DR hC h
 case makeMap t r =>
  unfold evalOp;rw[ho];try dsimp only
  cases r with
  | none =>
    dsimp only at h ⊢
    rw[nv hC.1,← Tr.ab h]
  | some r=>exact (Tr.ag h).elim
 case mapUpdate t m k x =>
  unfold evalOp;rw[ho];dsimp only
  obtain ⟨δ,h1,h⟩:=Tr.bind_some h
  have h1:=DI h1
  rw[a8,a8,a8] at h1
  rw[h1,← Tr.ab h];rfl
 case insert t m k x =>
  unfold evalOp;rw[ho];dsimp only
  obtain ⟨δ,h1,h⟩:=Tr.bind_some h
  have h1:=DI h1
  rw[a8,a8,a8] at h1
  rw[h1,← Tr.ab h];rfl
 all_goals
  have h1:=dflt _ h
  rw[dc] at h1
  exact h1

end
end Go.Eng
