/- The engine as a tree: the other builtins; operations. -/
import Derived.Test.YtgphpjdchnfjlaaDoorV6EngTcx2
set_option linter.unusedVariables false
set_option linter.unusedSimpArgs false
namespace Go.Eng
noncomputable section

abbrev bw:=RC→List HV→aa→Tr (HV×aa)
def kd (l:List HV):List AV:=rJ (fun x=>x.1) l
def bw.Ok (c:bw) (call:aN):Prop:=(∃ x,call .mode [] []=some x)∧∀ tgt args H x,(c tgt args H).run=some x→call tgt (kd args) H=some (x.1.1,x.2)
theorem nA {α:Type} {call:aN} (h:∃ x,call .mode [] []=some x) (a b:α):nJ call a b=a:=by
 obtain ⟨x,h⟩:=h;unfold nJ;rw[h]

def JI (P:Program) (H:aa) (t:TypeId) (x:HV):Tr HV :=
 match P.underlying t with
 | some (.slice _)=>match x.1 with
   | .nils=>.ok (.int .i64 (Int.ofNat 0),some 1)
   | .slc _ _ _ _ _ len _=>.ok (.int .i64 (Int.ofNat len),x.2)
   | .slcT _ _ _ len _=>.ok (.int .i64 (Int.ofNat len),x.2)
   | _=>.bad
 | some (.array n _)=>.ok (.int .i64 (Int.ofNat n),some 1)
 | _=>(wB ((vu P H t x.1).map fun n=>AV.int .i64 n)).bind fun v=>.ok (v,none)
theorem JJ {P:Program} {H:aa} {t:TypeId} {x v:HV} (h:(JI P H t x).run=some v):(vu P H t x.1).map (AV.int .i64)=some v.1:=by
 unfold JI at h;split at h
 · rename_i e hu;unfold vu;rw[hu];split at h
   · rename_i hx;rw[hx,← Tr.ae h];rfl
   · rename_i hx;rw[hx,← Tr.ae h];rfl
   · rename_i hx;rw[hx,← Tr.ae h];rfl
   · exact (Tr.ah h).elim
 · rename_i hu;unfold vu;rw[hu,← Tr.ae h];rfl
 · obtain ⟨u,h1,h⟩:=Tr.bind_some h;rw[di] at h1;rw[h1,← Tr.ae h]
def Gm    (P:Program) (H:aa) (t:TypeId) (s x:AV):Tr (AV×Delta) :=
 match P.underlying t with
 | some (.slice e)=>match bH P e with
   | some z=>match ou x with
     | some n=>match s with
       | .slc d i v off sz m cap=>(sF H z (JO n m) x).bind fun new=>cond (kg H d) .bad ((xS H d i v (some 0)).bind fun r=>cond (Nat.beq sz z) (match r with
          | .M l=>(HF l off none (jM d new)).bind fun r'=>.ok (.int .i64 (Int.ofNat (JO n m)),.set d i (v,.row r'))
          | _=>.bad) .bad)
       | _=>.bad
     | none=>.bad
   | none=>.bad
 | _=>.bad
theorem Gn {P:Program} {H:aa} {t:TypeId} {s x:AV} {y:AV×Delta} (h:(Gm P H t s x).run=some y):copyV P H t s x=some y:=by
 unfold Gm at h;unfold copyV;split at h
 · rename_i e hu;split at h
   · rename_i z hs;split at h
     · rename_i n hn;split at h
       · rename_i d i v off sz m cap _ _;obtain ⟨new,h1,h⟩:=Tr.bind_some h;rw[gG] at h;obtain ⟨hl,h⟩:=Tr.kE h;obtain ⟨r,h2,h⟩:=Tr.bind_some h;obtain ⟨hz,h⟩:=Tr.a6 h;have hz:=Nat.eq_of_beq_eq_true hz;have hcv:=qg h1;rw[DA] at hcv;have hcl:=sG hcv;rw[hu];dsimp only;rw[hs,hn];dsimp only[ou];rw[hcv];dsimp only;rw[hl,if_neg (by simp),lR h2];dsimp only;split at h
         · rename_i l _;obtain ⟨r',h3,h⟩:=Tr.bind_some h;obtain ⟨k1,k2⟩:=xM h3;rw[ft,hcl] at k1;rw[if_pos ⟨hz,by rw[hz];exact k1⟩,k2,← Tr.ae h,DA];rfl
         · exact (Tr.ah h).elim
       · exact (Tr.ah h).elim
     · exact (Tr.ah h).elim
   · exact (Tr.ah h).elim
 · exact (Tr.ah h).elim
def yb (z:Row) (n:Nat):Row :=
 match z with
 | .I k l=>cond (yk l) (.M [.arr k (fun _=>0) (fT n (kN l))]) (dP z n)
 | z=>dP z n
theorem wT (z:Row) (n:Nat):yb z n=dP z n:=by
 cases z with
 | I k l =>
   simp only[yb];cases h:yk l with
   | true=>simp only[cond_true,dP,h,if_true,cO,eE]
   | false=>rfl
 | _=>rfl
def Bs (P:Program) (H:aa) (t:TypeId) (s:AV):Tr (AV×Delta) :=
 match P.underlying t with
 | some (.slice e)=>match s with
   | .slc d i v off sz len _=>cond (kg H d) .bad (match (da P e).bind AV.row with
     | some z=>match bH P e with
       | some n=>cond (Nat.beq n sz) (cond (Nat.beq (iQ z) sz) (.req (cK 0 len) ((xS H d i v (some 0)).bind fun r=>match r with
          | .M l=>(HF l off none (yb z len)).bind fun r'=>.ok (.tup [],.set d i (v,.row r'))
          | _=>.bad)) .bad) .bad
       | none=>.bad
     | none=>.bad)
   | _=>.bad
 | _=>.bad
theorem CF (z:Row) (n:Nat):(dP z n).len=n*z.len:=by
 have fn:∀ l:List AV,(GF l n).len=n*l.length:=by
  intro l;unfold GF;split
  · split<;>simp[Row.len,dT]
  · simp[Row.len,dT]
 cases z with
 | I k l=>simp only[dP];split<;>simp[Row.len,aE,aU,dT]
 | _=>simp only[dP,fn,Row.bz]
theorem EA {P:Program} {H:aa} {t:TypeId} {s:AV} {y:AV×Delta} (h:(Bs P H t s).run=some y):sK P H t s=some y:=by
 unfold Bs at h;unfold sK;split at h
 · rename_i e hu;split at h
   · rename_i d i v off sz len cap;rw[gG] at h;obtain ⟨hl,h⟩:=Tr.kE h;split at h
     · rename_i z hz;split at h
       · rename_i n hs;obtain ⟨hn,h⟩:=Tr.a6 h;obtain ⟨hzl,h⟩:=Tr.a6 h;have hn:=Nat.eq_of_beq_eq_true hn;rw[fq] at hzl;have hzl:=Nat.eq_of_beq_eq_true hzl;obtain ⟨h0,h⟩:=Tr.aW h;rw[iK,decide_eq_true_eq] at h0;obtain ⟨r,h2,h⟩:=Tr.bind_some h;rw[hu];dsimp only;rw[hl,if_neg (by simp),hz,lR h2];dsimp only;split at h
         · rename_i l _;obtain ⟨r',h3,h⟩:=Tr.bind_some h;obtain ⟨k1,k2⟩:=xM h3;rw[wT] at k1 k2;rw[CF,hzl] at k1;rw[if_pos ⟨hzl,by rw[hs,hn],k1⟩,← Tr.ae h];rw[if_neg wO];simp only[yV,if_true];rw[← k2]
         · exact (Tr.ah h).elim
       · exact (Tr.ah h).elim
     · exact (Tr.ah h).elim
   · exact (Tr.ah h).elim
 · exact (Tr.ah h).elim
def ow (P:Program) (nx:Nat) (t:TypeId) (l c:AV):Tr (AV×Delta) :=
 match P.underlying t with
 | some (.slice e)=>match l with
   | .int _ l=>match c with
     | .int _ c=>match P.info? e with
       | some inf=>match (da P e).bind AV.row with
         | some z=>.req (FL l c inf.bytes) (cond (Nat.beq (iQ z) inf.size) (.ok (.slc 0 nx 0 0 inf.size (cC l) (some (cC c)),.push (.row (yb z (cC c))))) .bad)
         | none=>.bad
       | none=>.bad
     | _=>.bad
   | _=>.bad
 | _=>.bad
theorem vw {P:Program} {nx:Nat} {t:TypeId} {l c:AV} {y:AV×Delta} (h:(ow P nx t l c).run=some y):jy P true nx t l c=some y:=by
 unfold ow at h;unfold jy;split at h
 · rename_i e hu;split at h
   · split at h
     · split at h
       · rename_i inf hi;split at h
         · rename_i z hz;obtain ⟨hc,h⟩:=Tr.aW h;obtain ⟨hl,h⟩:=Tr.a6 h;rw[B6,decide_eq_true_eq] at hc;rw[fq] at hl;have hl:=Nat.eq_of_beq_eq_true hl;rw[hu];dsimp only;rw[hi,hz];dsimp only;rw[if_pos ⟨hc.1,hc.2.1,hc.2.2.1,hc.2.2.2,hl⟩,← Tr.ae h,wT,lX,lX];rfl
         · exact (Tr.ah h).elim
       · exact (Tr.ah h).elim
     · exact (Tr.ah h).elim
   · exact (Tr.ah h).elim
 · exact (Tr.ah h).elim

def hv (x:AV×Delta):Tr (HV×Delta):=.ok ((x.1,none),x.2)
theorem Dk {x:AV×Delta} {y:HV×Delta} (h:(hv x).run=some y):y.1.1=x.1∧y.2=x.2:=by
 have:=Tr.ae h;rw[← this];exact ⟨rfl,rfl⟩
def tY (l:List AV):List HV:=rJ (fun x=>(x,none)) l
theorem oa:∀ l:List AV,kd (tY l)=l
 | []=>rfl
 | x::l=>by
   have e:kd (tY (x::l))=x::kd (tY l):=rfl;rw[e,oa l]
theorem wW:∀ a b:List HV,kd (rE a b)=kd a++kd b
 | [],b=>rfl
 | x::a,b=>by
   have e:kd (rE (x::a) b)=x.1::kd (rE a b):=rfl;rw[e,wW a b];rfl
def zI (fr:aO) (l:List Operand):List HV:=rJ (fun x=>cA fr x) l
theorem ug (fr:aO):∀ l,kd (zI fr l)=lM (strip fr) l
 | []=>rfl
 | x::l=>by
   have e:kd (zI fr (x::l))=(cA fr x).1::kd (zI fr l):=rfl;rw[e,ug fr l,bf];rfl
def KO   (P:Program) (H:aa) (t:TypeId) (m key x:AV):Tr Delta :=
 match P.underlying t with
 | some (.map kt _)=>match m with
   | .map d i=>cond (aM H d) .bad (cond (ki P kt key) (match aB H d i with
     | (0,.fmap q h g c)=>match vt q key with
       | some n=>match zG x with
         | some y=>.ok (.set d i (0,.fmap q (mZ h n true) (m4 g n y) (qZ (h n) c)))
         | none=>.bad
       | none=>.bad
     | _=>.bad) .bad)
   | _=>.bad
 | _=>.bad
def MY (P:Program) (H:aa) (t:TypeId) (m key:AV):Tr Delta :=
 match P.underlying t with
 | some (.map kt _)=>match m with
   | .map d i=>cond (aM H d) .bad (cond (ki P kt key) (match aB H d i with
     | (0,.fmap q h g c)=>match vt q key with
       | some n=>.ok (.set d i (0,.fmap q (mZ h n false) (m4 g n 0) (yq (h n) c)))
       | none=>.bad
     | _=>.bad) .bad)
   | _=>.bad
 | _=>.bad
def ND (fr:aO):Option Operand→Bool
 | none=>true
 | some y=>isLit (cA fr y)
theorem my {α:Type} {b:Bool} {s t:Tr α} {x:α} (h:(cond b s t).run=some x):b=true∧s.run=some x∨b=false∧t.run=some x:=by
 cases b
 · exact .inr ⟨rfl,h⟩
 · exact .inl ⟨rfl,h⟩
theorem En {P:Program} {H:aa} {t:TypeId} {m key x:AV} {δ:Delta} (h:(KO P H t m key x).run=some δ):j9 P H t m key x=some δ:=by
 unfold KO at h;unfold j9;split at h
 · rename_i kt et hu;rw[hu];split at h
   · rename_i d i;dsimp only;rcases my h with ⟨_,h⟩ | ⟨h1,h⟩
     · exact (Tr.ah h).elim
     · rcases my h with ⟨h2,h⟩ | ⟨_,h⟩
       · rw[if_neg (by rw[h1];simp),if_pos h2];split at h
         · rename_i q f g c hg;rw[hg];try dsimp only
           split at h
           · rename_i n hn;split at h
             · rename_i y hy;simp only[hn,hy,← Tr.ae h,iA,iB,mw]
             · exact (Tr.ah h).elim
           · exact (Tr.ah h).elim
         · exact (Tr.ah h).elim
       · exact (Tr.ah h).elim
   · exact (Tr.ah h).elim
 · exact (Tr.ah h).elim
theorem Jn {P:Program} {H:aa} {t:TypeId} {m key:AV} {δ:Delta} (h:(MY P H t m key).run=some δ):o6 P H t m key=some (.tup [],δ):=by
 unfold MY at h;unfold o6;split at h
 · rename_i kt et hu;rw[hu];split at h
   · rename_i d i;dsimp only;rcases my h with ⟨_,h⟩ | ⟨h1,h⟩
     · exact (Tr.ah h).elim
     · rcases my h with ⟨h2,h⟩ | ⟨_,h⟩
       · rw[if_neg (by rw[h1];simp),if_pos h2];split at h
         · rename_i q f g c hg;rw[hg];try dsimp only
           split at h
           · rename_i n hn;simp only[hn,← Tr.ae h,iA,iB,sL]
           · exact (Tr.ah h).elim
         · exact (Tr.ah h).elim
       · exact (Tr.ah h).elim
   · exact (Tr.ah h).elim
 · exact (Tr.ah h).elim
def Br (P:Program) (call:aN) (callR:bw) (fr:aO) (H:aa) (nx:Nat) (c:Call):Tr (HV×Delta) :=
 match c.callee with
 | .value f=>match (cA fr f).1 with
   | .fn (.func g) a b=>(callR (.fn g) (rE (tY a) (rE (zI fr c.args.toList) (tY b))) H).bind fun x=>.ok (x.1,.heap x.2)
   | .yld d i=>(callR (.round d i) (zI fr c.args.toList) H).bind fun x=>.ok (x.1,.heap x.2)
   | _=>.bad
 | .builtin .len=>match c.args.toList,c.argTypes.toList with
   | x::_,t::_=>(JI P H t (cA fr x)).bind fun v=>.ok (v,.bD)
   | _,_=>.bad
 | .builtin .append=>match c.args.toList,c.argTypes.toList with
   | s::x::_,t::u::_=>(oV P H nx t u (cA fr s).1 (cA fr x).1).bind hv
   | _,_=>.bad
 | .builtin .copy=>match c.args.toList,c.argTypes.toList with
   | s::x::_,t::_=>(Gm P H t (cA fr s).1 (cA fr x).1).bind hv
   | _,_=>.bad
 | .builtin .clear=>match c.args.toList,c.argTypes.toList with
   | s::_,t::_=>(Bs P H t (cA fr s).1).bind hv
   | _,_=>.bad
 | .builtin .min=>match zJ fr c.args.toList with
   | .int k x::r=>(pG false k x r).bind fun v=>.ok ((v,none),.bD)
   | _=>.bad
 | .builtin .max=>match zJ fr c.args.toList with
   | .int k x::r=>(pG true k x r).bind fun v=>.ok ((v,none),.bD)
   | _=>.bad
 | .builtin .delete=>match c.args.toList,c.argTypes.toList with
   | m::k::_,t::_=>(MY P H t (cA fr m).1 (cA fr k).1).bind fun δ=>.ok ((.tup [],none),δ)
   | _,_=>.bad
 | _=>(wB (ig P call (strip fr) H nx c)).bind hv
theorem Ey {P:Program} {call:aN} {callR:bw} (hC:callR.Ok call) {fr:aO} {H:aa} {nx:Nat} {c:Call} {y:HV×Delta} (h:(Br P call callR fr H nx c).run=some y):ig P call (strip fr) H nx c=some (y.1.1,y.2):=by
 have dflt:∀ (t:Tr (AV×Delta)),(t.bind hv).run=some y→t.run=some (y.1.1,y.2):=by
  intro t ht;obtain ⟨x,h1,h2⟩:=Tr.bind_some ht;obtain ⟨e1,e2⟩:=Dk h2;rw[h1,e1,e2]
 unfold Br at h;split at h
 · rename_i f hf;unfold ig;rw[hf];dsimp only;rw[bf] at h;split at h
   · rename_i g a b ho;obtain ⟨x,h1,h⟩:=Tr.bind_some h;rw[ho];dsimp only;have:=hC.2 _ _ _ _ h1;rw[wW,wW,oa,oa,ug] at this;rw[this,← Tr.ae h];rfl
   · rename_i d i ho;obtain ⟨x,h1,h⟩:=Tr.bind_some h;rw[ho];dsimp only;have:=hC.2 _ _ _ _ h1;rw[ug] at this;rw[this,← Tr.ae h];rfl
   · exact (Tr.ah h).elim
 · rename_i hf;unfold ig;rw[hf];dsimp only;split at h
   · rename_i x _ t _ hx ht;obtain ⟨v,h1,h⟩:=Tr.bind_some h;rw[hx,ht];dsimp only;have:=JJ h1;rw[bf] at this;obtain ⟨n,k1,k2⟩:=Option.map_eq_some_iff.1 this;rw[k1,← Tr.ae h,← k2];rfl
   · exact (Tr.ah h).elim
 · rename_i hf;unfold ig;rw[hf];dsimp only;split at h
   · rename_i s x _ t u _ hx ht;rw[hx,ht];dsimp only;have h:=Bi (dflt _ h);rw[bf,bf] at h;rw[nA hC.1];exact h
   · exact (Tr.ah h).elim
 · rename_i hf;unfold ig;rw[hf];dsimp only;split at h
   · rename_i s x _ t _ hx ht;rw[hx,ht];dsimp only;have h:=Gn (dflt _ h);rw[bf,bf] at h;exact h
   · exact (Tr.ah h).elim
 · rename_i hf;unfold ig;rw[hf];dsimp only;split at h
   · rename_i s _ t _ hx ht;rw[hx,ht];dsimp only;have h:=EA (dflt _ h);rw[bf] at h;exact h
   · exact (Tr.ah h).elim
 · rename_i hf;unfold ig;rw[hf];dsimp only;rw[uh] at h;split at h
   · rename_i k x r hx;obtain ⟨v,h1,h⟩:=Tr.bind_some h;rw[hx];dsimp only[oB];rw[oC _ _ _ h1,← Tr.ae h];rfl
   · exact (Tr.ah h).elim
 · rename_i hf;unfold ig;rw[hf];dsimp only;rw[uh] at h;split at h
   · rename_i k x r hx;obtain ⟨v,h1,h⟩:=Tr.bind_some h;rw[hx];dsimp only[oB];rw[oC _ _ _ h1,← Tr.ae h];rfl
   · exact (Tr.ah h).elim
 · rename_i hf;unfold ig;rw[hf];dsimp only;split at h
   · rename_i m k _ t _ hx ht;rw[hx,ht];dsimp only;obtain ⟨δ,h1,h⟩:=Tr.bind_some h;have h1:=Jn h1;rw[bf,bf] at h1;rw[h1,← Tr.ae h]
   · exact (Tr.ah h).elim
 · have h:=dflt _ h;rw[di] at h;exact h

def MN (P:Program) (op:BinOp) (t:TypeId) (x y:HV):Tr HV :=
 cond (isLit x && isLit y) (match x.1,y.1 with
  | .int k a,.int k' b=>(wB (F1 P op t (.int k a) (.int k' b))).bind fun v=>.ok (v,some 1)
  | a,b=>(F0 P op t a b).bind fun v=>.ok (v,none))
 ((F0 P op t x.1 y.1).bind fun v=>.ok (v,none))
theorem I0 {P:Program} {op:BinOp} {t:TypeId} {x y v:HV} (h:(MN P op t x y).run=some v):kC P op t x.1 y.1=some v.1:=by
 have gen:∀ a b,((F0 P op t a b).bind fun v=>Tr.ok ((v,none):HV)).run=some v→kC P op t a b=some v.1:=by
  intro a b h;obtain ⟨u,h1,h⟩:=Tr.bind_some h;rw[I1 h1,← Tr.ae h]
 unfold MN at h;cases hb:isLit x && isLit y with
 | false=>rw[hb,cond_false] at h;exact gen _ _ h
 | true =>
   rw[hb,cond_true] at h;split at h
   · rename_i k a k' b hx hy;obtain ⟨u,h1,h⟩:=Tr.bind_some h;rw[di,F2] at h1;rw[hx,hy,h1,← Tr.ae h]
   · exact gen _ _ h

def pD (fr:aO) (l:List (Nat×Operand)):List (Nat×AV):=rJ (fun p=>(p.1,(cA fr p.2).1)) l
theorem oz (fr:aO):∀ l,pD fr l=dX (strip fr) l
 | []=>rfl
 | (i,x)::l=>by
   have e:pD fr ((i,x)::l)=(i,(cA fr x).1)::pD fr l:=rfl;rw[e,oz fr l,bf];rfl
def Qz (op:Op):Oper→Program→aN→bw→aO→aa→Nat→Tr (HV×Delta) :=
 match op with
 | .move x=>fun _ _ _ _ fr _ _=>.ok (cA fr x,.bD)
 | .assign x=>fun _ _ _ _ fr _ _=>.ok (cA fr x,.bD)
 | .pick c a b=>fun _ _ _ _ fr _ _=>match cA fr c with
   | (.bool t,none)=>.ite t (.ok (cA fr a,.bD)) (.ok (cA fr b,.bD))
   | (.bool t,some _)=>cond t (.ok (cA fr a,.bD)) (.ok (cA fr b,.bD))
   | _=>.bad
 | .alloc t=>fun _ P _ _ _ _ nx=>match (da P t).bind AV.row with
   | some z=>.ok ((.ptr 0 nx 0 0,none),.push (.row (kW z)))
   | none=>.bad
 | .box _ x=>fun _ _ _ _ fr _ nx=>match (cA fr x).1.row with
   | some r=>.ok ((.ptr 0 nx 0 0,none),.push (.row (kW r)))
   | none=>.bad
 | .build t parts=>fun _ P _ _ fr _ _=>(wB (wY P true t (pD fr parts.toList))).bind fun v=>.ok ((v,none),.bD)
 | .buildSlice t len parts=>fun _ P _ _ fr _ nx=>(wB (jR P nx t len (pD fr parts.toList))).bind fun x=>.ok ((x.1,some 1),x.2)
 | .load t a=>fun _ P _ _ fr H _=>(loadT P H t (cA fr a)).bind fun v=>.ok ((v,none),.bD)
 | .store t a x=>fun _ P _ _ fr H _=>(storeT P H t (cA fr a) (cA fr x).1).bind fun δ=>.ok ((.tup [],none),δ)
 | .nilCheck x=>fun _ _ _ _ fr _ _=>match (cA fr x).1 with
   | .ptr d i v off=>.ok (cA fr x,.bD)
   | .ptrT s r off=>.ok (cA fr x,.bD)
   | _=>.bad
 | .binOp op t x y _=>fun _ P _ _ fr _ _=>(MN P op t (cA fr x) (cA fr y)).bind fun v=>.ok (v,.bD)
 | .unOp op _ x=>fun _ _ _ _ fr _ _=>match op,cA fr x with
   | .not,(.bool b,some _)=>.ok ((.bool (cond b false true),some 1),.bD)
   | op,x=>(UP op x.1).bind fun v=>.ok ((v,none),.bD)
 | .convert src dst x=>fun _ P _ _ fr _ _=>match P.underlying src with
   | some _=>match P.underlying dst with
     | some (.int k)=>match cA fr x with
       | (.int _ n,none)=>.ok ((.int k (FE k n),none),.bD)
       | (.int _ n,some _)=>.ok ((.int k (Bb k n),some 1),.bD)
       | _=>.bad
     | _=>.bad
   | none=>.bad
 | .makeSlice t l c=>fun _ P _ _ fr _ nx=>(ow P nx t (cA fr l).1 (cA fr c).1).bind hv
 | .slice t x lo hi mx=>fun _ P _ _ fr _ _=>cond (isLit (cA fr x) && (ND fr lo && (ND fr hi && ND fr mx)))
   ((wB (qP P t (cA fr x).1 (lo.map fun y=>(cA fr y).1) (hi.map fun y=>(cA fr y).1) (mx.map fun y=>(cA fr y).1))).bind fun v=>.ok ((v,some 1),.bD))
   ((Co P t (cA fr x).1 (lo.map fun y=>(cA fr y).1) (hi.map fun y=>(cA fr y).1) (mx.map fun y=>(cA fr y).1)).bind fun v=>.ok ((v,none),.bD))
 | .fieldAddr t x f=>fun _ P _ _ fr _ _=>(og P t (cA fr x) f).bind fun v=>.ok (v,.bD)
 | .field t x f=>fun _ P _ _ fr _ _=>(wB (xg P t (cA fr x).1 f)).bind fun v=>.ok ((v,none),.bD)
 | .indexAddr t x i=>fun _ P _ _ fr _ _=>match (cA fr i).1 with
   | .int _ n=>(Nr P t (cA fr x) (isLit (cA fr i)) n).bind fun v=>.ok (v,.bD)
   | _=>.bad
 | .index t x i=>fun _ P _ _ fr _ _=>match (cA fr i).1 with
   | .int _ n=>(Sg P t (cA fr x).1 (isLit (cA fr i)) n).bind fun v=>.ok ((v,none),.bD)
   | _=>.bad
 | .extract t ix=>fun _ _ _ _ fr _ _=>match (cA fr t).1 with
   | .tup l=>match BJ l ix with
     | some v=>.ok ((v,none),.bD)
     | none=>.bad
   | _=>.bad
 | .call c=>fun _ P call callR fr H nx=>Br P call callR fr H nx c
 | .makeMap t r=>fun _ P _ _ _ _ nx=>match r with
   | none=>.ok ((.map 0 nx,none),.push (tU P t))
   | some _=>.bad
 | .mapUpdate t m k x=>fun _ P _ _ fr H _=>(KO P H t (cA fr m).1 (cA fr k).1 (cA fr x).1).bind fun δ=>.ok ((.tup [],none),δ)
 | .insert t m k x=>fun _ P _ _ fr H _=>(KO P H t (cA fr m).1 (cA fr k).1 (cA fr x).1).bind fun δ=>.ok ((.tup [],none),δ)
 | _=>fun o P call _ fr H nx=>(wB (evalOp P call (strip fr) H nx o)).bind hv
theorem Cd {o:Oper} {P:Program} {call:aN} {callR:bw} (hC:callR.Ok call) {fr:aO} {H:aa} {nx:Nat} {y:HV×Delta} (h:(Qz o.op o P call callR fr H nx).run=some y):evalOp P call (strip fr) H nx o=some (y.1.1,y.2):=by
 have dflt:∀ (t:Tr (AV×Delta)),(t.bind hv).run=some y→t.run=some (y.1.1,y.2):=by
  intro t ht;obtain ⟨x,h1,h2⟩:=Tr.bind_some ht;obtain ⟨e1,e2⟩:=Dk h2;rw[h1,e1,e2]
 have dkp:∀ (t:Tr AV),(t.bind fun v=>Tr.ok (((v,none),.bD):HV×Delta)).run=some y→t.run=some y.1.1∧y.2=.bD:=by
  intro t ht;obtain ⟨x,h1,h2⟩:=Tr.bind_some ht;rw[h1,← Tr.ae h2];exact ⟨rfl,rfl⟩
 have kpe:∀ {o:Option AV} {v:AV},o=some v→kp o=some (v,.bD):=by rintro o v rfl;rfl
 cases ho:o.op<;>rw[ho] at h<;>simp only[Qz] at h;case move x =>
  unfold evalOp;rw[ho];dsimp only
  rw[← Tr.ae h,← bf]
 case assign x =>
  unfold evalOp;rw[ho];dsimp only
  rw[← Tr.ae h,← bf]
 case pick c a b =>
  unfold evalOp;rw[ho];dsimp only
  have hc':=bf fr c
  split at h
  · rename_i t hc
    rw[hc] at hc'
    rw[← hc']
    dsimp only
    rcases Tr.kL h with ⟨rfl,h⟩ | ⟨rfl,h⟩<;>rw[← Tr.ae h,← bf,← bf]<;>rfl
  · rename_i t n hc
    rw[hc] at hc'
    rw[← hc']
    dsimp only
    cases t with
    | true=>rw[cond_true] at h;rw[← Tr.ae h,← bf,← bf];rfl
    | false=>rw[cond_false] at h;rw[← Tr.ae h,← bf,← bf];rfl
  · exact (Tr.ah h).elim
 case alloc t =>
  unfold evalOp;rw[ho];dsimp only
  split at h
  · rename_i z hz
    rw[hz,← Tr.ae h,Option.map_some,nA hC.1]
  · exact (Tr.ah h).elim
 case box t x =>
  unfold evalOp;rw[ho];dsimp only
  rw[bf] at h
  split at h
  · rename_i z hz
    rw[hz,← Tr.ae h,Option.map_some,nA hC.1]
  · exact (Tr.ah h).elim
 case build t parts =>
  unfold evalOp;rw[ho];dsimp only
  obtain ⟨h1,h2⟩:=dkp _ h
  rw[di,oz] at h1
  rw[nA hC.1,kpe h1,h2]
 case buildSlice t len parts =>
  unfold evalOp;rw[ho];dsimp only
  obtain ⟨x,h1,h⟩:=Tr.bind_some h
  rw[di,oz] at h1
  rw[h1,← Tr.ae h]
 case load t a =>
  unfold evalOp;rw[ho];dsimp only
  obtain ⟨h1,h2⟩:=dkp _ h
  have h1:=zh h1
  rw[bf] at h1
  rw[kpe h1,h2]
 case store t a x =>
  unfold evalOp;rw[ho];dsimp only
  obtain ⟨δ,h1,h⟩:=Tr.bind_some h
  have h1:=Fz h1
  rw[bf,bf] at h1
  rw[h1,← Tr.ae h];rfl
 case nilCheck x =>
  unfold evalOp;rw[ho];dsimp only
  rw[← bf]
  split at h
  · rename_i d i v off hx
    rw[hx,← Tr.ae h,hx]
  · rename_i s r off hx
    rw[hx,← Tr.ae h,hx]
  · exact (Tr.ah h).elim
 case binOp op t x y' g =>
  unfold evalOp;rw[ho];dsimp only
  obtain ⟨v,h1,h⟩:=Tr.bind_some h
  have h1:=I0 h1
  rw[bf,bf] at h1
  rw[kpe h1,← Tr.ae h]
 case unOp op t x =>
  unfold evalOp;rw[ho];dsimp only
  split at h
  · rename_i b n hx
    have:b9 (strip fr) x=.bool b:=by rw[← bf,hx]
    rw[this,← Tr.ae h]
    cases b<;>rfl
  · obtain ⟨h1,h2⟩:=dkp _ h
    have h1:=OK h1
    rw[bf] at h1
    rw[kpe h1,h2]
 case convert s d x =>
  unfold evalOp;rw[ho];dsimp only
  split at h
  · rename_i u hu
    split at h
    · rename_i k hk
      have hx:=bf fr x
      split at h
      · rename_i n hn
        rw[hn] at hx
        rw[hu,hk,← hx]
        dsimp only
        rw[← Tr.ae h,Iu]
      · rename_i n _ hn
        rw[hn] at hx
        rw[hu,hk,← hx]
        dsimp only
        rw[← Tr.ae h,Bc]
      · exact (Tr.ah h).elim
    · exact (Tr.ah h).elim
  · exact (Tr.ah h).elim
 case makeSlice t l c =>
  unfold evalOp;rw[ho];dsimp only
  have h1:=vw (dflt _ h)
  rw[bf,bf] at h1
  rw[nA hC.1]
  exact h1
 case slice t x lo hi mx =>
  unfold evalOp;rw[ho];dsimp only
  have e:∀ z:Option Operand,(z.map fun y=>(cA fr y).1)=z.map (b9 (strip fr)):=by
   intro z;cases z<;>simp[bf]
  rcases my h with ⟨_,h⟩ | ⟨_,h⟩
  · obtain ⟨v,h1,h2⟩:=Tr.bind_some h
    rw[di,bf,e,e,e] at h1
    rw[kpe h1,← Tr.ae h2]
  · obtain ⟨h1,h2⟩:=dkp _ h
    have h1:=Ft h1
    rw[bf] at h1
    rw[e,e,e] at h1
    rw[kpe h1,h2]
 case fieldAddr t x f =>
  unfold evalOp;rw[ho];dsimp only
  obtain ⟨v,h1,h⟩:=Tr.bind_some h
  have h1:=vm h1
  rw[bf] at h1
  rw[kpe h1,← Tr.ae h]
 case field t x f =>
  unfold evalOp;rw[ho];dsimp only
  obtain ⟨h1,h2⟩:=dkp _ h
  rw[di,bf] at h1
  rw[kpe h1,h2]
 case index t x i =>
  unfold evalOp;rw[ho];dsimp only
  rw[bf] at h
  split at h
  · rename_i k n hn
    obtain ⟨v,h1,h⟩:=Tr.bind_some h
    have h1:=Nx h1
    rw[bf] at h1
    rw[hn]
    dsimp only
    rw[kpe h1,← Tr.ae h]
  · exact (Tr.ah h).elim
 case indexAddr t x i =>
  unfold evalOp;rw[ho];dsimp only
  rw[bf] at h
  split at h
  · rename_i k n hn
    obtain ⟨v,h1,h⟩:=Tr.bind_some h
    have h1:=JB h1
    rw[bf] at h1
    rw[hn]
    dsimp only
    rw[kpe h1,← Tr.ae h]
  · exact (Tr.ah h).elim
 case extract t ix =>
  unfold evalOp;rw[ho];dsimp only
  rw[bf] at h
  split at h
  · rename_i l hl
    rw[hl]
    dsimp only
    rw[nh] at h
    split at h
    · rename_i v hv'
      rw[hv',← Tr.ae h]
    · exact (Tr.ah h).elim
  · exact (Tr.ah h).elim
 case call c =>
  unfold evalOp;rw[ho];dsimp only
  exact Ey hC h
 case makeMap t r =>
  unfold evalOp;rw[ho];try dsimp only
  cases r with
  | none =>
    dsimp only at h ⊢
    rw[nA hC.1,← Tr.ae h]
  | some r=>exact (Tr.ah h).elim
 case mapUpdate t m k x =>
  unfold evalOp;rw[ho];dsimp only
  obtain ⟨δ,h1,h⟩:=Tr.bind_some h
  have h1:=En h1
  rw[bf,bf,bf] at h1
  rw[h1,← Tr.ae h];rfl
 case insert t m k x =>
  unfold evalOp;rw[ho];dsimp only
  obtain ⟨δ,h1,h⟩:=Tr.bind_some h
  have h1:=En h1
  rw[bf,bf,bf] at h1
  rw[h1,← Tr.ae h];rfl
 all_goals
  have h1:=dflt _ h
  rw[di] at h1
  exact h1

end
end Go.Eng
