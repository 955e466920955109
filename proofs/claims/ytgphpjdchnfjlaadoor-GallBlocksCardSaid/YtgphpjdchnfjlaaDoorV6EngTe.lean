/- The engine as a tree: the other builtins; operations. -/
import Derived.Test.YtgphpjdchnfjlaaDoorV6EngTcx2
set_option linter.unusedVariables false
set_option linter.unusedSimpArgs false
namespace Go.Eng
noncomputable section

abbrev bt:=PN→List HV→ab→Tr (HV×ab)
def mw (l:List HV):List AV:=qX (fun x=>x.1) l
def bt.Ok (c:bt) (call:aK):Prop:=(∃ x,call .mode [] []=some x)∧∀ tgt args H x,(c tgt args H).run=some x→call tgt (mw args) H=some (x.1.1,x.2)
theorem mV {α:Type} {call:aK} (h:∃ x,call .mode [] []=some x) (a b:α):nf call a b=a:=by
 obtain ⟨x,h⟩:=h;unfold nf;rw[h]

def Ir (P:Program) (H:ab) (t:TypeId) (x:HV):Tr HV :=
 match P.underlying t with
 | some (.slice _)=>match x.1 with
   | .nils=>.ok (.int .i64 (Int.ofNat 0),some 1)
   | .slc _ _ _ _ _ len _=>.ok (.int .i64 (Int.ofNat len),x.2)
   | .slcT _ _ _ len _=>.ok (.int .i64 (Int.ofNat len),x.2)
   | _=>.bad
 | some (.array n _)=>.ok (.int .i64 (Int.ofNat n),some 1)
 | _=>(vI ((uI P H t x.1).map fun n=>AV.int .i64 n)).bind fun v=>.ok (v,none)
theorem Is {P:Program} {H:ab} {t:TypeId} {x v:HV} (h:(Ir P H t x).run=some v):(uI P H t x.1).map (AV.int .i64)=some v.1:=by
 unfold Ir at h;split at h
 · rename_i e hu;unfold uI;rw[hu];split at h
   · rename_i hx;rw[hx,← Tr.af h];rfl
   · rename_i hx;rw[hx,← Tr.af h];rfl
   · rename_i hx;rw[hx,← Tr.af h];rfl
   · exact (Tr.ah h).elim
 · rename_i hu;unfold uI;rw[hu,← Tr.af h];rfl
 · obtain ⟨u,h1,h⟩:=Tr.bind_some h;rw[c9] at h1;rw[h1,← Tr.af h]
def Fw    (P:Program) (H:ab) (t:TypeId) (s x:AV):Tr (AV×Delta) :=
 match P.underlying t with
 | some (.slice e)=>match bE P e with
   | some z=>match nL x with
     | some n=>match s with
       | .slc d i v off sz m cap=>(r5 H z (Iy n m) x).bind fun new=>cond (jF H d) .bad ((xg H d i v (some 0)).bind fun r=>cond (Nat.beq sz z) (match r with
          | .M l=>(GD l off none (jd d new)).bind fun r'=>.ok (.int .i64 (Int.ofNat (Iy n m)),.set d i (v,.row r'))
          | _=>.bad) .bad)
       | _=>.bad
     | none=>.bad
   | none=>.bad
 | _=>.bad
theorem Fx {P:Program} {H:ab} {t:TypeId} {s x:AV} {y:AV×Delta} (h:(Fw P H t s x).run=some y):copyV P H t s x=some y:=by
 unfold Fw at h;unfold copyV;split at h
 · rename_i e hu;split at h
   · rename_i z hs;split at h
     · rename_i n hn;split at h
       · rename_i d i v off sz m cap _ _;obtain ⟨new,h1,h⟩:=Tr.bind_some h;rw[gh] at h;obtain ⟨hl,h⟩:=Tr.jS h;obtain ⟨r,h2,h⟩:=Tr.bind_some h;obtain ⟨hz,h⟩:=Tr.aW h;have hz:=Nat.eq_of_beq_eq_true hz;have hcv:=pG h1;rw[CP] at hcv;have hcl:=r6 hcv;rw[hu];dsimp only;rw[hs,hn];dsimp only[nL];rw[hcv];dsimp only;rw[hl,if_neg (by simp),kS h2];dsimp only;split at h
         · rename_i l _;obtain ⟨r',h3,h⟩:=Tr.bind_some h;obtain ⟨k1,k2⟩:=w9 h3;rw[fe,hcl] at k1;rw[if_pos ⟨hz,by rw[hz];exact k1⟩,k2,← Tr.af h,CP];rfl
         · exact (Tr.ah h).elim
       · exact (Tr.ah h).elim
     · exact (Tr.ah h).elim
   · exact (Tr.ah h).elim
 · exact (Tr.ah h).elim
def xy (z:Row) (n:Nat):Row :=
 match z with
 | .I k l=>cond (xI l) (.M [.arr k (fun _=>0) (fD n (j4 l))]) (dM z n)
 | z=>dM z n
theorem vW (z:Row) (n:Nat):xy z n=dM z n:=by
 cases z with
 | I k l =>
   simp only[xy];cases h:xI l with
   | true=>simp only[cond_true,dM,h,if_true,cJ,ey]
   | false=>rfl
 | _=>rfl
def AN (P:Program) (H:ab) (t:TypeId) (s:AV):Tr (AV×Delta) :=
 match P.underlying t with
 | some (.slice e)=>match s with
   | .slc d i v off sz len _=>cond (jF H d) .bad (match (cX P e).bind AV.row with
     | some z=>match bE P e with
       | some n=>cond (Nat.beq n sz) (cond (Nat.beq (ie z) sz) (.req (bR 0 len) ((xg H d i v (some 0)).bind fun r=>match r with
          | .M l=>(GD l off none (xy z len)).bind fun r'=>.ok (.tup [],.set d i (v,.row r'))
          | _=>.bad)) .bad) .bad
       | none=>.bad
     | none=>.bad)
   | _=>.bad
 | _=>.bad
theorem BT (z:Row) (n:Nat):(dM z n).len=n*z.len:=by
 have fn:∀ l:List AV,(FK l n).len=n*l.length:=by
  intro l;unfold FK;split
  · split<;>simp[Row.len,dP]
  · simp[Row.len,dP]
 cases z with
 | I k l=>simp only[dM];split<;>simp[Row.len,ay,aP,dP]
 | _=>simp only[dM,fn,Row.bo]
theorem DO {P:Program} {H:ab} {t:TypeId} {s:AV} {y:AV×Delta} (h:(AN P H t s).run=some y):r9 P H t s=some y:=by
 unfold AN at h;unfold r9;split at h
 · rename_i e hu;split at h
   · rename_i d i v off sz len cap;rw[gh] at h;obtain ⟨hl,h⟩:=Tr.jS h;split at h
     · rename_i z hz;split at h
       · rename_i n hs;obtain ⟨hn,h⟩:=Tr.aW h;obtain ⟨hzl,h⟩:=Tr.aW h;have hn:=Nat.eq_of_beq_eq_true hn;rw[fb] at hzl;have hzl:=Nat.eq_of_beq_eq_true hzl;obtain ⟨h0,h⟩:=Tr.aT h;rw[gV,decide_eq_true_eq] at h0;obtain ⟨r,h2,h⟩:=Tr.bind_some h;rw[hu];dsimp only;rw[hl,if_neg (by simp),hz,kS h2];dsimp only;split at h
         · rename_i l _;obtain ⟨r',h3,h⟩:=Tr.bind_some h;obtain ⟨k1,k2⟩:=w9 h3;rw[vW] at k1 k2;rw[BT,hzl] at k1;rw[if_pos ⟨hzl,by rw[hs,hn],k1⟩,← Tr.af h];rw[if_neg wO];simp only[yo,if_true];rw[← k2]
         · exact (Tr.ah h).elim
       · exact (Tr.ah h).elim
     · exact (Tr.ah h).elim
   · exact (Tr.ah h).elim
 · exact (Tr.ah h).elim
def nN (P:Program) (nx:Nat) (t:TypeId) (l c:AV):Tr (AV×Delta) :=
 match P.underlying t with
 | some (.slice e)=>match l with
   | .int _ l=>match c with
     | .int _ c=>match P.info? e with
       | some inf=>match (cX P e).bind AV.row with
         | some z=>.req (Ec l c inf.bytes) (cond (Nat.beq (ie z) inf.size) (.ok (.slc 0 nx 0 0 inf.size (cg l) (some (cg c)),.push (.row (xy z (cg c))))) .bad)
         | none=>.bad
       | none=>.bad
     | _=>.bad
   | _=>.bad
 | _=>.bad
theorem uK {P:Program} {nx:Nat} {t:TypeId} {l c:AV} {y:AV×Delta} (h:(nN P nx t l c).run=some y):iT P true nx t l c=some y:=by
 unfold nN at h;unfold iT;split at h
 · rename_i e hu;split at h
   · split at h
     · split at h
       · rename_i inf hi;split at h
         · rename_i z hz;obtain ⟨hc,h⟩:=Tr.aT h;obtain ⟨hl,h⟩:=Tr.aW h;rw[wL,decide_eq_true_eq] at hc;rw[fb] at hl;have hl:=Nat.eq_of_beq_eq_true hl;rw[hu];dsimp only;rw[hi,hz];dsimp only;rw[if_pos ⟨hc.1,hc.2.1,hc.2.2.1,hc.2.2.2,hl⟩,← Tr.af h,vW,jK,jK];rfl
         · exact (Tr.ah h).elim
       · exact (Tr.ah h).elim
     · exact (Tr.ah h).elim
   · exact (Tr.ah h).elim
 · exact (Tr.ah h).elim

def hv (x:AV×Delta):Tr (HV×Delta):=.ok ((x.1,none),x.2)
theorem CA {x:AV×Delta} {y:HV×Delta} (h:(hv x).run=some y):y.1.1=x.1∧y.2=x.2:=by
 have:=Tr.af h;rw[← this];exact ⟨rfl,rfl⟩
def s9 (l:List AV):List HV:=qX (fun x=>(x,none)) l
theorem ny:∀ l:List AV,mw (s9 l)=l
 | []=>rfl
 | x::l=>by
   have e:mw (s9 (x::l))=x::mw (s9 l):=rfl;rw[e,ny l]
theorem vY:∀ a b:List HV,mw (qS a b)=mw a++mw b
 | [],b=>rfl
 | x::a,b=>by
   have e:mw (qS (x::a) b)=x.1::mw (qS a b):=rfl;rw[e,vY a b];rfl
def yR (fr:aD) (l:List Operand):List HV:=qX (fun x=>ct fr x) l
theorem tk (fr:aD):∀ l,mw (yR fr l)=kN (strip fr) l
 | []=>rfl
 | x::l=>by
   have e:mw (yR fr (x::l))=(ct fr x).1::mw (yR fr l):=rfl;rw[e,tk fr l,a8];rfl
def Js   (P:Program) (H:ab) (t:TypeId) (m key x:AV):Tr Delta :=
 match P.underlying t with
 | some (.map kt _)=>match m with
   | .map d i=>cond (aL H d) .bad (cond (jG P kt key) (match az H d i with
     | (0,.fmap q h g c)=>match uH q key with
       | some n=>match yP x with
         | some y=>.ok (.set d i (0,.fmap q (mj h n true) (ml g n y) (qp (h n) c)))
         | none=>.bad
       | none=>.bad
     | _=>.bad) .bad)
   | _=>.bad
 | _=>.bad
def Lq (P:Program) (H:ab) (t:TypeId) (m key:AV):Tr Delta :=
 match P.underlying t with
 | some (.map kt _)=>match m with
   | .map d i=>cond (aL H d) .bad (cond (jG P kt key) (match az H d i with
     | (0,.fmap q h g c)=>match uH q key with
       | some n=>.ok (.set d i (0,.fmap q (mj h n false) (ml g n 0) (xN (h n) c)))
       | none=>.bad
     | _=>.bad) .bad)
   | _=>.bad
 | _=>.bad
def L1 (fr:aD):Option Operand→Bool
 | none=>true
 | some y=>isLit (ct fr y)
theorem lH {α:Type} {b:Bool} {s t:Tr α} {x:α} (h:(cond b s t).run=some x):b=true∧s.run=some x∨b=false∧t.run=some x:=by
 cases b
 · exact .inr ⟨rfl,h⟩
 · exact .inl ⟨rfl,h⟩
theorem DB {P:Program} {H:ab} {t:TypeId} {m key x:AV} {δ:Delta} (h:(Js P H t m key x).run=some δ):jC P H t m key x=some δ:=by
 unfold Js at h;unfold jC;split at h
 · rename_i kt et hu;rw[hu];split at h
   · rename_i d i;dsimp only;rcases lH h with ⟨_,h⟩ | ⟨h1,h⟩
     · exact (Tr.ah h).elim
     · rcases lH h with ⟨h2,h⟩ | ⟨_,h⟩
       · rw[if_neg (by rw[h1];simp),if_pos h2];split at h
         · rename_i q f g c hg;rw[hg];try dsimp only
           split at h
           · rename_i n hn;split at h
             · rename_i y hy;simp only[hn,hy,← Tr.af h,gO,gP,lG]
             · exact (Tr.ah h).elim
           · exact (Tr.ah h).elim
         · exact (Tr.ah h).elim
       · exact (Tr.ah h).elim
   · exact (Tr.ah h).elim
 · exact (Tr.ah h).elim
theorem H6 {P:Program} {H:ab} {t:TypeId} {m key:AV} {δ:Delta} (h:(Lq P H t m key).run=some δ):oG P H t m key=some (.tup [],δ):=by
 unfold Lq at h;unfold oG;split at h
 · rename_i kt et hu;rw[hu];split at h
   · rename_i d i;dsimp only;rcases lH h with ⟨_,h⟩ | ⟨h1,h⟩
     · exact (Tr.ah h).elim
     · rcases lH h with ⟨h2,h⟩ | ⟨_,h⟩
       · rw[if_neg (by rw[h1];simp),if_pos h2];split at h
         · rename_i q f g c hg;rw[hg];try dsimp only
           split at h
           · rename_i n hn;simp only[hn,← Tr.af h,gO,gP,sa]
           · exact (Tr.ah h).elim
         · exact (Tr.ah h).elim
       · exact (Tr.ah h).elim
   · exact (Tr.ah h).elim
 · exact (Tr.ah h).elim
def AM (P:Program) (call:aK) (callR:bt) (fr:aD) (H:ab) (nx:Nat) (c:Call):Tr (HV×Delta) :=
 match c.callee with
 | .value f=>match (ct fr f).1 with
   | .fn (.func g) a b=>(callR (.fn g) (qS (s9 a) (qS (yR fr c.args.toList) (s9 b))) H).bind fun x=>.ok (x.1,.heap x.2)
   | .yld d i=>(callR (.round d i) (yR fr c.args.toList) H).bind fun x=>.ok (x.1,.heap x.2)
   | _=>.bad
 | .builtin .len=>match c.args.toList,c.argTypes.toList with
   | x::_,t::_=>(Ir P H t (ct fr x)).bind fun v=>.ok (v,.bA)
   | _,_=>.bad
 | .builtin .append=>match c.args.toList,c.argTypes.toList with
   | s::x::_,t::u::_=>(oA P H nx t u (ct fr s).1 (ct fr x).1).bind hv
   | _,_=>.bad
 | .builtin .copy=>match c.args.toList,c.argTypes.toList with
   | s::x::_,t::_=>(Fw P H t (ct fr s).1 (ct fr x).1).bind hv
   | _,_=>.bad
 | .builtin .clear=>match c.args.toList,c.argTypes.toList with
   | s::_,t::_=>(AN P H t (ct fr s).1).bind hv
   | _,_=>.bad
 | .builtin .min=>match yS fr c.args.toList with
   | .int k x::r=>(pb false k x r).bind fun v=>.ok ((v,none),.bA)
   | _=>.bad
 | .builtin .max=>match yS fr c.args.toList with
   | .int k x::r=>(pb true k x r).bind fun v=>.ok ((v,none),.bA)
   | _=>.bad
 | .builtin .delete=>match c.args.toList,c.argTypes.toList with
   | m::k::_,t::_=>(Lq P H t (ct fr m).1 (ct fr k).1).bind fun δ=>.ok ((.tup [],none),δ)
   | _,_=>.bad
 | _=>(vI (gF P call (strip fr) H nx c)).bind hv
theorem DM {P:Program} {call:aK} {callR:bt} (hC:callR.Ok call) {fr:aD} {H:ab} {nx:Nat} {c:Call} {y:HV×Delta} (h:(AM P call callR fr H nx c).run=some y):gF P call (strip fr) H nx c=some (y.1.1,y.2):=by
 have dflt:∀ (t:Tr (AV×Delta)),(t.bind hv).run=some y→t.run=some (y.1.1,y.2):=by
  intro t ht;obtain ⟨x,h1,h2⟩:=Tr.bind_some ht;obtain ⟨e1,e2⟩:=CA h2;rw[h1,e1,e2]
 unfold AM at h;split at h
 · rename_i f hf;unfold gF;rw[hf];dsimp only;rw[a8] at h;split at h
   · rename_i g a b ho;obtain ⟨x,h1,h⟩:=Tr.bind_some h;rw[ho];dsimp only;have:=hC.2 _ _ _ _ h1;rw[vY,vY,ny,ny,tk] at this;rw[this,← Tr.af h];rfl
   · rename_i d i ho;obtain ⟨x,h1,h⟩:=Tr.bind_some h;rw[ho];dsimp only;have:=hC.2 _ _ _ _ h1;rw[tk] at this;rw[this,← Tr.af h];rfl
   · exact (Tr.ah h).elim
 · rename_i hf;unfold gF;rw[hf];dsimp only;split at h
   · rename_i x _ t _ hx ht;obtain ⟨v,h1,h⟩:=Tr.bind_some h;rw[hx,ht];dsimp only;have:=Is h1;rw[a8] at this;obtain ⟨n,k1,k2⟩:=Option.map_eq_some_iff.1 this;rw[k1,← Tr.af h,← k2];rfl
   · exact (Tr.ah h).elim
 · rename_i hf;unfold gF;rw[hf];dsimp only;split at h
   · rename_i s x _ t u _ hx ht;rw[hx,ht];dsimp only;have h:=AF (dflt _ h);rw[a8,a8] at h;rw[mV hC.1];exact h
   · exact (Tr.ah h).elim
 · rename_i hf;unfold gF;rw[hf];dsimp only;split at h
   · rename_i s x _ t _ hx ht;rw[hx,ht];dsimp only;have h:=Fx (dflt _ h);rw[a8,a8] at h;exact h
   · exact (Tr.ah h).elim
 · rename_i hf;unfold gF;rw[hf];dsimp only;split at h
   · rename_i s _ t _ hx ht;rw[hx,ht];dsimp only;have h:=DO (dflt _ h);rw[a8] at h;exact h
   · exact (Tr.ah h).elim
 · rename_i hf;unfold gF;rw[hf];dsimp only;rw[tl] at h;split at h
   · rename_i k x r hx;obtain ⟨v,h1,h⟩:=Tr.bind_some h;rw[hx];dsimp only[nS];rw[nT _ _ _ h1,← Tr.af h];rfl
   · exact (Tr.ah h).elim
 · rename_i hf;unfold gF;rw[hf];dsimp only;rw[tl] at h;split at h
   · rename_i k x r hx;obtain ⟨v,h1,h⟩:=Tr.bind_some h;rw[hx];dsimp only[nS];rw[nT _ _ _ h1,← Tr.af h];rfl
   · exact (Tr.ah h).elim
 · rename_i hf;unfold gF;rw[hf];dsimp only;split at h
   · rename_i m k _ t _ hx ht;rw[hx,ht];dsimp only;obtain ⟨δ,h1,h⟩:=Tr.bind_some h;have h1:=H6 h1;rw[a8,a8] at h1;rw[h1,← Tr.af h]
   · exact (Tr.ah h).elim
 · have h:=dflt _ h;rw[c9] at h;exact h

def Lc (P:Program) (op:BinOp) (t:TypeId) (x y:HV):Tr HV :=
 cond (isLit x && isLit y) (match x.1,y.1 with
  | .int k a,.int k' b=>(vI (Fa P op t (.int k a) (.int k' b))).bind fun v=>.ok (v,some 1)
  | a,b=>(E0 P op t a b).bind fun v=>.ok (v,none))
 ((E0 P op t x.1 y.1).bind fun v=>.ok (v,none))
theorem HI {P:Program} {op:BinOp} {t:TypeId} {x y v:HV} (h:(Lc P op t x y).run=some v):jQ P op t x.1 y.1=some v.1:=by
 have gen:∀ a b,((E0 P op t a b).bind fun v=>Tr.ok ((v,none):HV)).run=some v→jQ P op t a b=some v.1:=by
  intro a b h;obtain ⟨u,h1,h⟩:=Tr.bind_some h;rw[HJ h1,← Tr.af h]
 unfold Lc at h;cases hb:isLit x && isLit y with
 | false=>rw[hb,cond_false] at h;exact gen _ _ h
 | true =>
   rw[hb,cond_true] at h;split at h
   · rename_i k a k' b hx hy;obtain ⟨u,h1,h⟩:=Tr.bind_some h;rw[c9,Fb] at h1;rw[hx,hy,h1,← Tr.af h]
   · exact gen _ _ h

def o7 (fr:aD) (l:List (Nat×Operand)):List (Nat×AV):=qX (fun p=>(p.1,(ct fr p.2).1)) l
theorem nQ (fr:aD):∀ l,o7 fr l=dS (strip fr) l
 | []=>rfl
 | (i,x)::l=>by
   have e:o7 fr ((i,x)::l)=(i,(ct fr x).1)::o7 fr l:=rfl;rw[e,nQ fr l,a8];rfl
def OR (op:Op):Oper→Program→aK→bt→aD→ab→Nat→Tr (HV×Delta) :=
 match op with
 | .move x=>fun _ _ _ _ fr _ _=>.ok (ct fr x,.bA)
 | .assign x=>fun _ _ _ _ fr _ _=>.ok (ct fr x,.bA)
 | .pick c a b=>fun _ _ _ _ fr _ _=>match ct fr c with
   | (.bool t,none)=>.ite t (.ok (ct fr a,.bA)) (.ok (ct fr b,.bA))
   | (.bool t,some _)=>cond t (.ok (ct fr a,.bA)) (.ok (ct fr b,.bA))
   | _=>.bad
 | .alloc t=>fun _ P _ _ _ _ nx=>match (cX P t).bind AV.row with
   | some z=>.ok ((.ptr 0 nx 0 0,none),.push (.row (ke z)))
   | none=>.bad
 | .box _ x=>fun _ _ _ _ fr _ nx=>match (ct fr x).1.row with
   | some r=>.ok ((.ptr 0 nx 0 0,none),.push (.row (ke r)))
   | none=>.bad
 | .build t parts=>fun _ P _ _ fr _ _=>(vI (wa P true t (o7 fr parts.toList))).bind fun v=>.ok ((v,none),.bA)
 | .buildSlice t len parts=>fun _ P _ _ fr _ nx=>(vI (jl P nx t len (o7 fr parts.toList))).bind fun x=>.ok ((x.1,some 1),x.2)
 | .load t a=>fun _ P _ _ fr H _=>(loadT P H t (ct fr a)).bind fun v=>.ok ((v,none),.bA)
 | .store t a x=>fun _ P _ _ fr H _=>(storeT P H t (ct fr a) (ct fr x).1).bind fun δ=>.ok ((.tup [],none),δ)
 | .nilCheck x=>fun _ _ _ _ fr _ _=>match (ct fr x).1 with
   | .ptr d i v off=>.ok (ct fr x,.bA)
   | .ptrT s r off=>.ok (ct fr x,.bA)
   | _=>.bad
 | .binOp op t x y _=>fun _ P _ _ fr _ _=>(Lc P op t (ct fr x) (ct fr y)).bind fun v=>.ok (v,.bA)
 | .unOp op _ x=>fun _ _ _ _ fr _ _=>match op,ct fr x with
   | .not,(.bool b,some _)=>.ok ((.bool (cond b false true),some 1),.bA)
   | op,x=>(S9 op x.1).bind fun v=>.ok ((v,none),.bA)
 | .convert src dst x=>fun _ P _ _ fr _ _=>match P.underlying src with
   | some _=>match P.underlying dst with
     | some (.int k)=>match ct fr x with
       | (.int _ n,none)=>.ok ((.int k (Tb k n),none),.bA)
       | (.int _ n,some _)=>.ok ((.int k (Ar k n),some 1),.bA)
       | _=>.bad
     | _=>.bad
   | none=>.bad
 | .makeSlice t l c=>fun _ P _ _ fr _ nx=>(nN P nx t (ct fr l).1 (ct fr c).1).bind hv
 | .slice t x lo hi mx=>fun _ P _ _ fr _ _=>cond (isLit (ct fr x) && (L1 fr lo && (L1 fr hi && L1 fr mx)))
   ((vI (qk P t (ct fr x).1 (lo.map fun y=>(ct fr y).1) (hi.map fun y=>(ct fr y).1) (mx.map fun y=>(ct fr y).1))).bind fun v=>.ok ((v,some 1),.bA))
   ((BE P t (ct fr x).1 (lo.map fun y=>(ct fr y).1) (hi.map fun y=>(ct fr y).1) (mx.map fun y=>(ct fr y).1)).bind fun v=>.ok ((v,none),.bA))
 | .fieldAddr t x f=>fun _ P _ _ fr _ _=>(nD P t (ct fr x) f).bind fun v=>.ok (v,.bA)
 | .field t x f=>fun _ P _ _ fr _ _=>(vI (wj P t (ct fr x).1 f)).bind fun v=>.ok ((v,none),.bA)
 | .indexAddr t x i=>fun _ P _ _ fr _ _=>match (ct fr i).1 with
   | .int _ n=>(LO P t (ct fr x) (isLit (ct fr i)) n).bind fun v=>.ok (v,.bA)
   | _=>.bad
 | .index t x i=>fun _ P _ _ fr _ _=>match (ct fr i).1 with
   | .int _ n=>(Qx P t (ct fr x).1 (isLit (ct fr i)) n).bind fun v=>.ok ((v,none),.bA)
   | _=>.bad
 | .extract t ix=>fun _ _ _ _ fr _ _=>match (ct fr t).1 with
   | .tup l=>match A4 l ix with
     | some v=>.ok ((v,none),.bA)
     | none=>.bad
   | _=>.bad
 | .call c=>fun _ P call callR fr H nx=>AM P call callR fr H nx c
 | .makeMap t r=>fun _ P _ _ _ _ nx=>match r with
   | none=>.ok ((.map 0 nx,none),.push (s8 P t))
   | some _=>.bad
 | .mapUpdate t m k x=>fun _ P _ _ fr H _=>(Js P H t (ct fr m).1 (ct fr k).1 (ct fr x).1).bind fun δ=>.ok ((.tup [],none),δ)
 | .insert t m k x=>fun _ P _ _ fr H _=>(Js P H t (ct fr m).1 (ct fr k).1 (ct fr x).1).bind fun δ=>.ok ((.tup [],none),δ)
 | _=>fun o P call _ fr H nx=>(vI (evalOp P call (strip fr) H nx o)).bind hv
theorem Bv {o:Oper} {P:Program} {call:aK} {callR:bt} (hC:callR.Ok call) {fr:aD} {H:ab} {nx:Nat} {y:HV×Delta} (h:(OR o.op o P call callR fr H nx).run=some y):evalOp P call (strip fr) H nx o=some (y.1.1,y.2):=by
 have dflt:∀ (t:Tr (AV×Delta)),(t.bind hv).run=some y→t.run=some (y.1.1,y.2):=by
  intro t ht;obtain ⟨x,h1,h2⟩:=Tr.bind_some ht;obtain ⟨e1,e2⟩:=CA h2;rw[h1,e1,e2]
 have dkp:∀ (t:Tr AV),(t.bind fun v=>Tr.ok (((v,none),.bA):HV×Delta)).run=some y→t.run=some y.1.1∧y.2=.bA:=by
  intro t ht;obtain ⟨x,h1,h2⟩:=Tr.bind_some ht;rw[h1,← Tr.af h2];exact ⟨rfl,rfl⟩
 have kpe:∀ {o:Option AV} {v:AV},o=some v→kp o=some (v,.bA):=by rintro o v rfl;rfl
 cases ho:o.op<;>rw[ho] at h<;>simp only[OR] at h;case move x =>
  unfold evalOp;rw[ho];dsimp only
  rw[← Tr.af h,← a8]
 case assign x =>
  unfold evalOp;rw[ho];dsimp only
  rw[← Tr.af h,← a8]
 case pick c a b =>
  unfold evalOp;rw[ho];dsimp only
  have hc':=a8 fr c
  split at h
  · rename_i t hc
    rw[hc] at hc'
    rw[← hc']
    dsimp only
    rcases Tr.jZ h with ⟨rfl,h⟩ | ⟨rfl,h⟩<;>rw[← Tr.af h,← a8,← a8]<;>rfl
  · rename_i t n hc
    rw[hc] at hc'
    rw[← hc']
    dsimp only
    cases t with
    | true=>rw[cond_true] at h;rw[← Tr.af h,← a8,← a8];rfl
    | false=>rw[cond_false] at h;rw[← Tr.af h,← a8,← a8];rfl
  · exact (Tr.ah h).elim
 case alloc t =>
  unfold evalOp;rw[ho];dsimp only
  split at h
  · rename_i z hz
    rw[hz,← Tr.af h,Option.map_some,mV hC.1]
  · exact (Tr.ah h).elim
 case box t x =>
  unfold evalOp;rw[ho];dsimp only
  rw[a8] at h
  split at h
  · rename_i z hz
    rw[hz,← Tr.af h,Option.map_some,mV hC.1]
  · exact (Tr.ah h).elim
 case build t parts =>
  unfold evalOp;rw[ho];dsimp only
  obtain ⟨h1,h2⟩:=dkp _ h
  rw[c9,nQ] at h1
  rw[mV hC.1,kpe h1,h2]
 case buildSlice t len parts =>
  unfold evalOp;rw[ho];dsimp only
  obtain ⟨x,h1,h⟩:=Tr.bind_some h
  rw[c9,nQ] at h1
  rw[h1,← Tr.af h]
 case load t a =>
  unfold evalOp;rw[ho];dsimp only
  obtain ⟨h1,h2⟩:=dkp _ h
  have h1:=yy h1
  rw[a8] at h1
  rw[kpe h1,h2]
 case store t a x =>
  unfold evalOp;rw[ho];dsimp only
  obtain ⟨δ,h1,h⟩:=Tr.bind_some h
  have h1:=EE h1
  rw[a8,a8] at h1
  rw[h1,← Tr.af h];rfl
 case nilCheck x =>
  unfold evalOp;rw[ho];dsimp only
  rw[← a8]
  split at h
  · rename_i d i v off hx
    rw[hx,← Tr.af h,hx]
  · rename_i s r off hx
    rw[hx,← Tr.af h,hx]
  · exact (Tr.ah h).elim
 case binOp op t x y' g =>
  unfold evalOp;rw[ho];dsimp only
  obtain ⟨v,h1,h⟩:=Tr.bind_some h
  have h1:=HI h1
  rw[a8,a8] at h1
  rw[kpe h1,← Tr.af h]
 case unOp op t x =>
  unfold evalOp;rw[ho];dsimp only
  split at h
  · rename_i b n hx
    have:b5 (strip fr) x=.bool b:=by rw[← a8,hx]
    rw[this,← Tr.af h]
    cases b<;>rfl
  · obtain ⟨h1,h2⟩:=dkp _ h
    have h1:=MS h1
    rw[a8] at h1
    rw[kpe h1,h2]
 case convert s d x =>
  unfold evalOp;rw[ho];dsimp only
  split at h
  · rename_i u hu
    split at h
    · rename_i k hk
      have hx:=a8 fr x
      split at h
      · rename_i n hn
        rw[hn] at hx
        rw[hu,hk,← hx]
        dsimp only
        rw[← Tr.af h,MU]
      · rename_i n _ hn
        rw[hn] at hx
        rw[hu,hk,← hx]
        dsimp only
        rw[← Tr.af h,Au]
      · exact (Tr.ah h).elim
    · exact (Tr.ah h).elim
  · exact (Tr.ah h).elim
 case makeSlice t l c =>
  unfold evalOp;rw[ho];dsimp only
  have h1:=uK (dflt _ h)
  rw[a8,a8] at h1
  rw[mV hC.1]
  exact h1
 case slice t x lo hi mx =>
  unfold evalOp;rw[ho];dsimp only
  have e:∀ z:Option Operand,(z.map fun y=>(ct fr y).1)=z.map (b5 (strip fr)):=by
   intro z;cases z<;>simp[a8]
  rcases lH h with ⟨_,h⟩ | ⟨_,h⟩
  · obtain ⟨v,h1,h2⟩:=Tr.bind_some h
    rw[c9,a8,e,e,e] at h1
    rw[kpe h1,← Tr.af h2]
  · obtain ⟨h1,h2⟩:=dkp _ h
    have h1:=Ew h1
    rw[a8] at h1
    rw[e,e,e] at h1
    rw[kpe h1,h2]
 case fieldAddr t x f =>
  unfold evalOp;rw[ho];dsimp only
  obtain ⟨v,h1,h⟩:=Tr.bind_some h
  have h1:=uw h1
  rw[a8] at h1
  rw[kpe h1,← Tr.af h]
 case field t x f =>
  unfold evalOp;rw[ho];dsimp only
  obtain ⟨h1,h2⟩:=dkp _ h
  rw[c9,a8] at h1
  rw[kpe h1,h2]
 case index t x i =>
  unfold evalOp;rw[ho];dsimp only
  rw[a8] at h
  split at h
  · rename_i k n hn
    obtain ⟨v,h1,h⟩:=Tr.bind_some h
    have h1:=LV h1
    rw[a8] at h1
    rw[hn]
    dsimp only
    rw[kpe h1,← Tr.af h]
  · exact (Tr.ah h).elim
 case indexAddr t x i =>
  unfold evalOp;rw[ho];dsimp only
  rw[a8] at h
  split at h
  · rename_i k n hn
    obtain ⟨v,h1,h⟩:=Tr.bind_some h
    have h1:=Ij h1
    rw[a8] at h1
    rw[hn]
    dsimp only
    rw[kpe h1,← Tr.af h]
  · exact (Tr.ah h).elim
 case extract t ix =>
  unfold evalOp;rw[ho];dsimp only
  rw[a8] at h
  split at h
  · rename_i l hl
    rw[hl]
    dsimp only
    rw[mG] at h
    split at h
    · rename_i v hv'
      rw[hv',← Tr.af h]
    · exact (Tr.ah h).elim
  · exact (Tr.ah h).elim
 case call c =>
  unfold evalOp;rw[ho];dsimp only
  exact DM hC h
 case makeMap t r =>
  unfold evalOp;rw[ho];try dsimp only
  cases r with
  | none =>
    dsimp only at h ⊢
    rw[mV hC.1,← Tr.af h]
  | some r=>exact (Tr.ah h).elim
 case mapUpdate t m k x =>
  unfold evalOp;rw[ho];dsimp only
  obtain ⟨δ,h1,h⟩:=Tr.bind_some h
  have h1:=DB h1
  rw[a8,a8,a8] at h1
  rw[h1,← Tr.af h];rfl
 case insert t m k x =>
  unfold evalOp;rw[ho];dsimp only
  obtain ⟨δ,h1,h⟩:=Tr.bind_some h
  have h1:=DB h1
  rw[a8,a8,a8] at h1
  rw[h1,← Tr.af h];rfl
 all_goals
  have h1:=dflt _ h
  rw[c9] at h1
  exact h1

end
end Go.Eng
