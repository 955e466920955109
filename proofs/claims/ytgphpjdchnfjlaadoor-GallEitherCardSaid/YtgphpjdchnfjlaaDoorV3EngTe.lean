/- The engine as a tree: the other builtins; operations. -/
import Derived.Test.YtgphpjdchnfjlaaDoorV3EngTcx2
set_option linter.unusedVariables false
set_option linter.unusedSimpArgs false
namespace Go.Eng
noncomputable section

abbrev bt:=Qm→List HV→ab→Tr (HV×ab)
def jU (l:List HV):List AV:=rF (fun x=>x.1) l
def bt.Ok (c:bt) (call:aO):Prop:=(∃ x,call .mode [] []=some x)∧∀ tgt args H x,(c tgt args H).run=some x→call tgt (jU args) H=some (x.1.1,x.2)
theorem nz {α:Type} {call:aO} (h:∃ x,call .mode [] []=some x) (a b:α):nJ call a b=a:=by
 obtain ⟨x,h⟩:=h;unfold nJ;rw[h]

def I1 (P:Program) (H:ab) (t:TypeId) (x:HV):Tr HV :=
 match P.underlying t with
 | some (.slice _)=>match x.1 with
   | .nils=>.ok (.int .i64 (Int.ofNat 0),some 1)
   | .slc _ _ _ _ _ len _=>.ok (.int .i64 (Int.ofNat len),x.2)
   | .slcT _ _ _ len _=>.ok (.int .i64 (Int.ofNat len),x.2)
   | _=>.bad
 | some (.array n _)=>.ok (.int .i64 (Int.ofNat n),some 1)
 | _=>(wb ((u9 P H t x.1).map fun n=>AV.int .i64 n)).bind fun v=>.ok (v,none)
theorem I2 {P:Program} {H:ab} {t:TypeId} {x v:HV} (h:(I1 P H t x).run=some v):(u9 P H t x.1).map (AV.int .i64)=some v.1:=by
 unfold I1 at h;split at h
 · rename_i e hu;unfold u9;rw[hu];split at h
   · rename_i hx;rw[hx,← Tr.af h];rfl
   · rename_i hx;rw[hx,← Tr.af h];rfl
   · rename_i hx;rw[hx,← Tr.af h];rfl
   · exact (Tr.ah h).elim
 · rename_i hu;unfold u9;rw[hu,← Tr.af h];rfl
 · obtain ⟨u,h1,h⟩:=Tr.bind_some h;rw[da] at h1;rw[h1,← Tr.af h]
def FT    (P:Program) (H:ab) (t:TypeId) (s x:AV):Tr (AV×Delta) :=
 match P.underlying t with
 | some (.slice e)=>match bH P e with
   | some z=>match ou x with
     | some n=>match s with
       | .slc d i v off sz m cap=>(sr H z (xk n m) x).bind fun new=>cond (jX H d) .bad ((xL H d i v (some 0)).bind fun r=>cond (Nat.beq sz z) (match r with
          | .M l=>(Hf l off none (jt d new)).bind fun r'=>.ok (.int .i64 (Int.ofNat (xk n m)),.set d i (v,.row r'))
          | _=>.bad) .bad)
       | _=>.bad
     | none=>.bad
   | none=>.bad
 | _=>.bad
theorem FU {P:Program} {H:ab} {t:TypeId} {s x:AV} {y:AV×Delta} (h:(FT P H t s x).run=some y):copyV P H t s x=some y:=by
 unfold FT at h;unfold copyV;split at h
 · rename_i e hu;split at h
   · rename_i z hs;split at h
     · rename_i n hn;split at h
       · rename_i d i v off sz m cap _ _;obtain ⟨new,h1,h⟩:=Tr.bind_some h;rw[gv] at h;obtain ⟨hl,h⟩:=Tr.kh h;obtain ⟨r,h2,h⟩:=Tr.bind_some h;obtain ⟨hz,h⟩:=Tr.aZ h;have hz:=Nat.eq_of_beq_eq_true hz;have hcv:=qe h1;rw[xl] at hcv;have hcl:=ss hcv;rw[hu];dsimp only;rw[hs,hn];dsimp only[ou];rw[hcv];dsimp only;rw[hl,if_neg (by simp),lB h2];dsimp only;split at h
         · rename_i l _;obtain ⟨r',h3,h⟩:=Tr.bind_some h;obtain ⟨k1,k2⟩:=xD h3;rw[ft,hcl] at k1;rw[if_pos ⟨hz,by rw[hz];exact k1⟩,k2,← Tr.af h,xl];rfl
         · exact (Tr.ah h).elim
       · exact (Tr.ah h).elim
     · exact (Tr.ah h).elim
   · exact (Tr.ah h).elim
 · exact (Tr.ah h).elim
def x3 (z:Row) (n:Nat):Row :=
 match z with
 | .I k l=>cond (yc l) (.M [.arr k (fun _=>0) (fP n (kz l))]) (dR z n)
 | z=>dR z n
theorem wB (z:Row) (n:Nat):x3 z n=dR z n:=by
 cases z with
 | I k l =>
   simp only[x3];cases h:yc l with
   | true=>simp only[cond_true,dR,h,if_true,cM,eE]
   | false=>rfl
 | _=>rfl
def Bf (P:Program) (H:ab) (t:TypeId) (s:AV):Tr (AV×Delta) :=
 match P.underlying t with
 | some (.slice e)=>match s with
   | .slc d i v off sz len _=>cond (jX H d) .bad (match (cY P e).bind AV.row with
     | some z=>match bH P e with
       | some n=>cond (Nat.beq n sz) (cond (Nat.beq (iD z) sz) (.req (bW 0 len) ((xL H d i v (some 0)).bind fun r=>match r with
          | .M l=>(Hf l off none (x3 z len)).bind fun r'=>.ok (.tup [],.set d i (v,.row r'))
          | _=>.bad)) .bad) .bad
       | none=>.bad
     | none=>.bad)
   | _=>.bad
 | _=>.bad
theorem Co (z:Row) (n:Nat):(dR z n).len=n*z.len:=by
 have fn:∀ l:List AV,(F7 l n).len=n*l.length:=by
  intro l;unfold F7;split
  · split<;>simp[Row.len,dT]
  · simp[Row.len,dT]
 cases z with
 | I k l=>simp only[dR];split<;>simp[Row.len,aC,aU,dT]
 | _=>simp only[dR,fn,Row.bz]
theorem Ec {P:Program} {H:ab} {t:TypeId} {s:AV} {y:AV×Delta} (h:(Bf P H t s).run=some y):sx P H t s=some y:=by
 unfold Bf at h;unfold sx;split at h
 · rename_i e hu;split at h
   · rename_i d i v off sz len cap;rw[gv] at h;obtain ⟨hl,h⟩:=Tr.kh h;split at h
     · rename_i z hz;split at h
       · rename_i n hs;obtain ⟨hn,h⟩:=Tr.aZ h;obtain ⟨hzl,h⟩:=Tr.aZ h;have hn:=Nat.eq_of_beq_eq_true hn;rw[fp] at hzl;have hzl:=Nat.eq_of_beq_eq_true hzl;obtain ⟨h0,h⟩:=Tr.aX h;rw[iy,decide_eq_true_eq] at h0;obtain ⟨r,h2,h⟩:=Tr.bind_some h;rw[hu];dsimp only;rw[hl,if_neg (by simp),hz,lB h2];dsimp only;split at h
         · rename_i l _;obtain ⟨r',h3,h⟩:=Tr.bind_some h;obtain ⟨k1,k2⟩:=xD h3;rw[wB] at k1 k2;rw[Co,hzl] at k1;rw[if_pos ⟨hzl,by rw[hs,hn],k1⟩,← Tr.af h];rw[if_neg (by omega)];simp only[yP,if_true];rw[← k2]
         · exact (Tr.ah h).elim
       · exact (Tr.ah h).elim
     · exact (Tr.ah h).elim
   · exact (Tr.ah h).elim
 · exact (Tr.ah h).elim
def ow (P:Program) (nx:Nat) (t:TypeId) (l c:AV):Tr (AV×Delta) :=
 match P.underlying t with
 | some (.slice e)=>match l with
   | .int _ l=>match c with
     | .int _ c=>match P.info? e with
       | some inf=>match (cY P e).bind AV.row with
         | some z=>.req (Dm l c inf.bytes) (cond (Nat.beq (iD z) inf.size) (.ok (.slc 0 nx 0 0 inf.size (b5 l) (some (b5 c)),.push (.row (x3 z (b5 c))))) .bad)
         | none=>.bad
       | none=>.bad
     | _=>.bad
   | _=>.bad
 | _=>.bad
theorem ve {P:Program} {nx:Nat} {t:TypeId} {l c:AV} {y:AV×Delta} (h:(ow P nx t l c).run=some y):jk P true nx t l c=some y:=by
 unfold ow at h;unfold jk;split at h
 · rename_i e hu;split at h
   · split at h
     · split at h
       · rename_i inf hi;split at h
         · rename_i z hz;obtain ⟨hc,h⟩:=Tr.aX h;obtain ⟨hl,h⟩:=Tr.aZ h;rw[BN,decide_eq_true_eq] at hc;rw[fp] at hl;have hl:=Nat.eq_of_beq_eq_true hl;rw[hu];dsimp only;rw[hi,hz];dsimp only;rw[if_pos ⟨hc.1,hc.2.1,hc.2.2.1,hc.2.2.2,hl⟩,← Tr.af h,wB,j6,j6];rfl
         · exact (Tr.ah h).elim
       · exact (Tr.ah h).elim
     · exact (Tr.ah h).elim
   · exact (Tr.ah h).elim
 · exact (Tr.ah h).elim

def hv (x:AV×Delta):Tr (HV×Delta):=.ok ((x.1,none),x.2)
theorem C5 {x:AV×Delta} {y:HV×Delta} (h:(hv x).run=some y):y.1.1=x.1∧y.2=x.2:=by
 have:=Tr.af h;rw[← this];exact ⟨rfl,rfl⟩
def tA (l:List AV):List HV:=rF (fun x=>(x,none)) l
theorem oa:∀ l:List AV,jU (tA l)=l
 | []=>rfl
 | x::l=>by
   have e:jU (tA (x::l))=x::jU (tA l):=rfl;rw[e,oa l]
theorem wD:∀ a b:List HV,jU (rA a b)=jU a++jU b
 | [],b=>rfl
 | x::a,b=>by
   have e:jU (rA (x::a) b)=x.1::jU (rA a b):=rfl;rw[e,wD a b];rfl
def zw (fr:aS) (l:List Operand):List HV:=rF (fun x=>cu fr x) l
theorem tJ (fr:aS):∀ l,jU (zw fr l)=lu (strip fr) l
 | []=>rfl
 | x::l=>by
   have e:jU (zw fr (x::l))=(cu fr x).1::jU (zw fr l):=rfl;rw[e,tJ fr l,bg];rfl
def JZ   (P:Program) (H:ab) (t:TypeId) (m key x:AV):Tr Delta :=
 match P.underlying t with
 | some (.map kt _)=>match m with
   | .map d i=>cond (aN H d) .bad (cond (jY P kt key) (match aA H d i with
     | (0,.fmap q h g c)=>match u0 q key with
       | some n=>match zt x with
         | some y=>.ok (.set d i (0,.fmap q (mR h n true) (mS g n y) (qU (h n) c)))
         | none=>.bad
       | none=>.bad
     | _=>.bad) .bad)
   | _=>.bad
 | _=>.bad
def LW (P:Program) (H:ab) (t:TypeId) (m key:AV):Tr Delta :=
 match P.underlying t with
 | some (.map kt _)=>match m with
   | .map d i=>cond (aN H d) .bad (cond (jY P kt key) (match aA H d i with
     | (0,.fmap q h g c)=>match u0 q key with
       | some n=>.ok (.set d i (0,.fmap q (mR h n false) (mS g n 0) (yi (h n) c)))
       | none=>.bad
     | _=>.bad) .bad)
   | _=>.bad
 | _=>.bad
def Mx (fr:aS):Option Operand→Bool
 | none=>true
 | some y=>isLit (cu fr y)
theorem mf {α:Type} {b:Bool} {s t:Tr α} {x:α} (h:(cond b s t).run=some x):b=true∧s.run=some x∨b=false∧t.run=some x:=by
 cases b
 · exact .inr ⟨rfl,h⟩
 · exact .inl ⟨rfl,h⟩
theorem DZ {P:Program} {H:ab} {t:TypeId} {m key x:AV} {δ:Delta} (h:(JZ P H t m key x).run=some δ):jS P H t m key x=some δ:=by
 unfold JZ at h;unfold jS;split at h
 · rename_i kt et hu;rw[hu];split at h
   · rename_i d i;dsimp only;rcases mf h with ⟨_,h⟩ | ⟨h1,h⟩
     · exact (Tr.ah h).elim
     · rcases mf h with ⟨h2,h⟩ | ⟨_,h⟩
       · rw[if_neg (by rw[h1];simp),if_pos h2];split at h
         · rename_i q f g c hg;rw[hg];try dsimp only
           split at h
           · rename_i n hn;split at h
             · rename_i y hy;simp only[hn,hy,← Tr.af h,ig,ij,me]
             · exact (Tr.ah h).elim
           · exact (Tr.ah h).elim
         · exact (Tr.ah h).elim
       · exact (Tr.ah h).elim
   · exact (Tr.ah h).elim
 · exact (Tr.ah h).elim
theorem IG {P:Program} {H:ab} {t:TypeId} {m key:AV} {δ:Delta} (h:(LW P H t m key).run=some δ):o6 P H t m key=some (.tup [],δ):=by
 unfold LW at h;unfold o6;split at h
 · rename_i kt et hu;rw[hu];split at h
   · rename_i d i;dsimp only;rcases mf h with ⟨_,h⟩ | ⟨h1,h⟩
     · exact (Tr.ah h).elim
     · rcases mf h with ⟨h2,h⟩ | ⟨_,h⟩
       · rw[if_neg (by rw[h1];simp),if_pos h2];split at h
         · rename_i q f g c hg;rw[hg];try dsimp only
           split at h
           · rename_i n hn;simp only[hn,← Tr.af h,ig,ij,sA]
           · exact (Tr.ah h).elim
         · exact (Tr.ah h).elim
       · exact (Tr.ah h).elim
   · exact (Tr.ah h).elim
 · exact (Tr.ah h).elim
def Be (P:Program) (call:aO) (callR:bt) (fr:aS) (H:ab) (nx:Nat) (c:Call):Tr (HV×Delta) :=
 match c.callee with
 | .value f=>match (cu fr f).1 with
   | .fn (.func g) a b=>(callR (.fn g) (rA (tA a) (rA (zw fr c.args.toList) (tA b))) H).bind fun x=>.ok (x.1,.heap x.2)
   | .yld d i=>(callR (.round d i) (zw fr c.args.toList) H).bind fun x=>.ok (x.1,.heap x.2)
   | _=>.bad
 | .builtin .len=>match c.args.toList,c.argTypes.toList with
   | x::_,t::_=>(I1 P H t (cu fr x)).bind fun v=>.ok (v,.bE)
   | _,_=>.bad
 | .builtin .append=>match c.args.toList,c.argTypes.toList with
   | s::x::_,t::u::_=>(oV P H nx t u (cu fr s).1 (cu fr x).1).bind hv
   | _,_=>.bad
 | .builtin .copy=>match c.args.toList,c.argTypes.toList with
   | s::x::_,t::_=>(FT P H t (cu fr s).1 (cu fr x).1).bind hv
   | _,_=>.bad
 | .builtin .clear=>match c.args.toList,c.argTypes.toList with
   | s::_,t::_=>(Bf P H t (cu fr s).1).bind hv
   | _,_=>.bad
 | .builtin .min=>match zx fr c.args.toList with
   | .int k x::r=>(pE false k x r).bind fun v=>.ok ((v,none),.bE)
   | _=>.bad
 | .builtin .max=>match zx fr c.args.toList with
   | .int k x::r=>(pE true k x r).bind fun v=>.ok ((v,none),.bE)
   | _=>.bad
 | .builtin .delete=>match c.args.toList,c.argTypes.toList with
   | m::k::_,t::_=>(LW P H t (cu fr m).1 (cu fr k).1).bind fun δ=>.ok ((.tup [],none),δ)
   | _,_=>.bad
 | _=>(wb (gS P call (strip fr) H nx c)).bind hv
theorem Ea {P:Program} {call:aO} {callR:bt} (hC:callR.Ok call) {fr:aS} {H:ab} {nx:Nat} {c:Call} {y:HV×Delta} (h:(Be P call callR fr H nx c).run=some y):gS P call (strip fr) H nx c=some (y.1.1,y.2):=by
 have dflt:∀ (t:Tr (AV×Delta)),(t.bind hv).run=some y→t.run=some (y.1.1,y.2):=by
  intro t ht;obtain ⟨x,h1,h2⟩:=Tr.bind_some ht;obtain ⟨e1,e2⟩:=C5 h2;rw[h1,e1,e2]
 unfold Be at h;split at h
 · rename_i f hf;unfold gS;rw[hf];dsimp only;rw[bg] at h;split at h
   · rename_i g a b ho;obtain ⟨x,h1,h⟩:=Tr.bind_some h;rw[ho];dsimp only;have:=hC.2 _ _ _ _ h1;rw[wD,wD,oa,oa,tJ] at this;rw[this,← Tr.af h];rfl
   · rename_i d i ho;obtain ⟨x,h1,h⟩:=Tr.bind_some h;rw[ho];dsimp only;have:=hC.2 _ _ _ _ h1;rw[tJ] at this;rw[this,← Tr.af h];rfl
   · exact (Tr.ah h).elim
 · rename_i hf;unfold gS;rw[hf];dsimp only;split at h
   · rename_i x _ t _ hx ht;obtain ⟨v,h1,h⟩:=Tr.bind_some h;rw[hx,ht];dsimp only;have:=I2 h1;rw[bg] at this;obtain ⟨n,k1,k2⟩:=Option.map_eq_some_iff.1 this;rw[k1,← Tr.af h,← k2];rfl
   · exact (Tr.ah h).elim
 · rename_i hf;unfold gS;rw[hf];dsimp only;split at h
   · rename_i s x _ t u _ hx ht;rw[hx,ht];dsimp only;have h:=A5 (dflt _ h);rw[bg,bg] at h;rw[nz hC.1];exact h
   · exact (Tr.ah h).elim
 · rename_i hf;unfold gS;rw[hf];dsimp only;split at h
   · rename_i s x _ t _ hx ht;rw[hx,ht];dsimp only;have h:=FU (dflt _ h);rw[bg,bg] at h;exact h
   · exact (Tr.ah h).elim
 · rename_i hf;unfold gS;rw[hf];dsimp only;split at h
   · rename_i s _ t _ hx ht;rw[hx,ht];dsimp only;have h:=Ec (dflt _ h);rw[bg] at h;exact h
   · exact (Tr.ah h).elim
 · rename_i hf;unfold gS;rw[hf];dsimp only;rw[tK] at h;split at h
   · rename_i k x r hx;obtain ⟨v,h1,h⟩:=Tr.bind_some h;rw[hx];dsimp only[oB];rw[oC _ _ _ h1,← Tr.af h];rfl
   · exact (Tr.ah h).elim
 · rename_i hf;unfold gS;rw[hf];dsimp only;rw[tK] at h;split at h
   · rename_i k x r hx;obtain ⟨v,h1,h⟩:=Tr.bind_some h;rw[hx];dsimp only[oB];rw[oC _ _ _ h1,← Tr.af h];rfl
   · exact (Tr.ah h).elim
 · rename_i hf;unfold gS;rw[hf];dsimp only;split at h
   · rename_i m k _ t _ hx ht;rw[hx,ht];dsimp only;obtain ⟨δ,h1,h⟩:=Tr.bind_some h;have h1:=IG h1;rw[bg,bg] at h1;rw[h1,← Tr.af h]
   · exact (Tr.ah h).elim
 · have h:=dflt _ h;rw[da] at h;exact h

def LJ (P:Program) (op:BinOp) (t:TypeId) (x y:HV):Tr HV :=
 cond (isLit x && isLit y) (match x.1,y.1 with
  | .int k a,.int k' b=>(wb (Fz P op t (.int k a) (.int k' b))).bind fun v=>.ok (v,some 1)
  | a,b=>(Fy P op t a b).bind fun v=>.ok (v,none))
 ((Fy P op t x.1 y.1).bind fun v=>.ok (v,none))
theorem Iq {P:Program} {op:BinOp} {t:TypeId} {x y v:HV} (h:(LJ P op t x y).run=some v):ke P op t x.1 y.1=some v.1:=by
 have gen:∀ a b,((Fy P op t a b).bind fun v=>Tr.ok ((v,none):HV)).run=some v→ke P op t a b=some v.1:=by
  intro a b h;obtain ⟨u,h1,h⟩:=Tr.bind_some h;rw[Ir h1,← Tr.af h]
 unfold LJ at h;cases hb:isLit x && isLit y with
 | false=>rw[hb,cond_false] at h;exact gen _ _ h
 | true =>
   rw[hb,cond_true] at h;split at h
   · rename_i k a k' b hx hy;obtain ⟨u,h1,h⟩:=Tr.bind_some h;rw[da,FA] at h1;rw[hx,hy,h1,← Tr.af h]
   · exact gen _ _ h

def pC (fr:aS) (l:List (Nat×Operand)):List (Nat×AV):=rF (fun p=>(p.1,(cu fr p.2).1)) l
theorem oz (fr:aS):∀ l,pC fr l=dW (strip fr) l
 | []=>rfl
 | (i,x)::l=>by
   have e:pC fr ((i,x)::l)=(i,(cu fr x).1)::pC fr l:=rfl;rw[e,oz fr l,bg];rfl
def Pk (op:Op):Oper→Program→aO→bt→aS→ab→Nat→Tr (HV×Delta) :=
 match op with
 | .move x=>fun _ _ _ _ fr _ _=>.ok (cu fr x,.bE)
 | .assign x=>fun _ _ _ _ fr _ _=>.ok (cu fr x,.bE)
 | .pick c a b=>fun _ _ _ _ fr _ _=>match cu fr c with
   | (.bool t,none)=>.ite t (.ok (cu fr a,.bE)) (.ok (cu fr b,.bE))
   | (.bool t,some _)=>cond t (.ok (cu fr a,.bE)) (.ok (cu fr b,.bE))
   | _=>.bad
 | .alloc t=>fun _ P _ _ _ _ nx=>match (cY P t).bind AV.row with
   | some z=>.ok ((.ptr 0 nx 0 0,none),.push (.row (kK z)))
   | none=>.bad
 | .box _ x=>fun _ _ _ _ fr _ nx=>match (cu fr x).1.row with
   | some r=>.ok ((.ptr 0 nx 0 0,none),.push (.row (kK r)))
   | none=>.bad
 | .build t parts=>fun _ P _ _ fr _ _=>(wb (wI P true t (pC fr parts.toList))).bind fun v=>.ok ((v,none),.bE)
 | .buildSlice t len parts=>fun _ P _ _ fr _ nx=>(wb (jB P nx t len (pC fr parts.toList))).bind fun x=>.ok ((x.1,some 1),x.2)
 | .load t a=>fun _ P _ _ fr H _=>(loadT P H t (cu fr a)).bind fun v=>.ok ((v,none),.bE)
 | .store t a x=>fun _ P _ _ fr H _=>(storeT P H t (cu fr a) (cu fr x).1).bind fun δ=>.ok ((.tup [],none),δ)
 | .nilCheck x=>fun _ _ _ _ fr _ _=>match (cu fr x).1 with
   | .ptr d i v off=>.ok (cu fr x,.bE)
   | .ptrT s r off=>.ok (cu fr x,.bE)
   | _=>.bad
 | .binOp op t x y _=>fun _ P _ _ fr _ _=>(LJ P op t (cu fr x) (cu fr y)).bind fun v=>.ok (v,.bE)
 | .unOp op _ x=>fun _ _ _ _ fr _ _=>match op,cu fr x with
   | .not,(.bool b,some _)=>.ok ((.bool (cond b false true),some 1),.bE)
   | op,x=>(T3 op x.1).bind fun v=>.ok ((v,none),.bE)
 | .convert src dst x=>fun _ P _ _ fr _ _=>match P.underlying src with
   | some _=>match P.underlying dst with
     | some (.int k)=>match cu fr x with
       | (.int _ n,none)=>.ok ((.int k (T7 k n),none),.bE)
       | (.int _ n,some _)=>.ok ((.int k (AW k n),some 1),.bE)
       | _=>.bad
     | _=>.bad
   | none=>.bad
 | .makeSlice t l c=>fun _ P _ _ fr _ nx=>(ow P nx t (cu fr l).1 (cu fr c).1).bind hv
 | .slice t x lo hi mx=>fun _ P _ _ fr _ _=>cond (isLit (cu fr x) && (Mx fr lo && (Mx fr hi && Mx fr mx)))
   ((wb (qP P t (cu fr x).1 (lo.map fun y=>(cu fr y).1) (hi.map fun y=>(cu fr y).1) (mx.map fun y=>(cu fr y).1))).bind fun v=>.ok ((v,some 1),.bE))
   ((Ca P t (cu fr x).1 (lo.map fun y=>(cu fr y).1) (hi.map fun y=>(cu fr y).1) (mx.map fun y=>(cu fr y).1)).bind fun v=>.ok ((v,none),.bE))
 | .fieldAddr t x f=>fun _ P _ _ fr _ _=>(og P t (cu fr x) f).bind fun v=>.ok (v,.bE)
 | .field t x f=>fun _ P _ _ fr _ _=>(wb (wS P t (cu fr x).1 f)).bind fun v=>.ok ((v,none),.bE)
 | .indexAddr t x i=>fun _ P _ _ fr _ _=>match (cu fr i).1 with
   | .int _ n=>(Mk P t (cu fr x) (isLit (cu fr i)) n).bind fun v=>.ok (v,.bE)
   | _=>.bad
 | .index t x i=>fun _ P _ _ fr _ _=>match (cu fr i).1 with
   | .int _ n=>(Ra P t (cu fr x).1 (isLit (cu fr i)) n).bind fun v=>.ok ((v,none),.bE)
   | _=>.bad
 | .extract t ix=>fun _ _ _ _ fr _ _=>match (cu fr t).1 with
   | .tup l=>match By l ix with
     | some v=>.ok ((v,none),.bE)
     | none=>.bad
   | _=>.bad
 | .call c=>fun _ P call callR fr H nx=>Be P call callR fr H nx c
 | .makeMap t r=>fun _ P _ _ _ _ nx=>match r with
   | none=>.ok ((.map 0 nx,none),.push (tx P t))
   | some _=>.bad
 | .mapUpdate t m k x=>fun _ P _ _ fr H _=>(JZ P H t (cu fr m).1 (cu fr k).1 (cu fr x).1).bind fun δ=>.ok ((.tup [],none),δ)
 | .insert t m k x=>fun _ P _ _ fr H _=>(JZ P H t (cu fr m).1 (cu fr k).1 (cu fr x).1).bind fun δ=>.ok ((.tup [],none),δ)
 | _=>fun o P call _ fr H nx=>(wb (evalOp P call (strip fr) H nx o)).bind hv
theorem BV {o:Oper} {P:Program} {call:aO} {callR:bt} (hC:callR.Ok call) {fr:aS} {H:ab} {nx:Nat} {y:HV×Delta} (h:(Pk o.op o P call callR fr H nx).run=some y):evalOp P call (strip fr) H nx o=some (y.1.1,y.2):=by
 have dflt:∀ (t:Tr (AV×Delta)),(t.bind hv).run=some y→t.run=some (y.1.1,y.2):=by
  intro t ht;obtain ⟨x,h1,h2⟩:=Tr.bind_some ht;obtain ⟨e1,e2⟩:=C5 h2;rw[h1,e1,e2]
 have dkp:∀ (t:Tr AV),(t.bind fun v=>Tr.ok (((v,none),.bE):HV×Delta)).run=some y→t.run=some y.1.1∧y.2=.bE:=by
  intro t ht;obtain ⟨x,h1,h2⟩:=Tr.bind_some ht;rw[h1,← Tr.af h2];exact ⟨rfl,rfl⟩
 have kpe:∀ {o:Option AV} {v:AV},o=some v→kp o=some (v,.bE):=by rintro o v rfl;rfl
 cases ho:o.op<;>rw[ho] at h<;>simp only[Pk] at h;case move x =>
  unfold evalOp;rw[ho];dsimp only
  rw[← Tr.af h,← bg]
 case assign x =>
  unfold evalOp;rw[ho];dsimp only
  rw[← Tr.af h,← bg]
 case pick c a b =>
  unfold evalOp;rw[ho];dsimp only
  have hc':=bg fr c
  split at h
  · rename_i t hc
    rw[hc] at hc'
    rw[← hc']
    dsimp only
    rcases Tr.kx h with ⟨rfl,h⟩ | ⟨rfl,h⟩<;>rw[← Tr.af h,← bg,← bg]<;>rfl
  · rename_i t n hc
    rw[hc] at hc'
    rw[← hc']
    dsimp only
    cases t with
    | true=>rw[cond_true] at h;rw[← Tr.af h,← bg,← bg];rfl
    | false=>rw[cond_false] at h;rw[← Tr.af h,← bg,← bg];rfl
  · exact (Tr.ah h).elim
 case alloc t =>
  unfold evalOp;rw[ho];dsimp only
  split at h
  · rename_i z hz
    rw[hz,← Tr.af h,Option.map_some,nz hC.1]
  · exact (Tr.ah h).elim
 case box t x =>
  unfold evalOp;rw[ho];dsimp only
  rw[bg] at h
  split at h
  · rename_i z hz
    rw[hz,← Tr.af h,Option.map_some,nz hC.1]
  · exact (Tr.ah h).elim
 case build t parts =>
  unfold evalOp;rw[ho];dsimp only
  obtain ⟨h1,h2⟩:=dkp _ h
  rw[da,oz] at h1
  rw[nz hC.1,kpe h1,h2]
 case buildSlice t len parts =>
  unfold evalOp;rw[ho];dsimp only
  obtain ⟨x,h1,h⟩:=Tr.bind_some h
  rw[da,oz] at h1
  rw[h1,← Tr.af h]
 case load t a =>
  unfold evalOp;rw[ho];dsimp only
  obtain ⟨h1,h2⟩:=dkp _ h
  have h1:=yY h1
  rw[bg] at h1
  rw[kpe h1,h2]
 case store t a x =>
  unfold evalOp;rw[ho];dsimp only
  obtain ⟨δ,h1,h⟩:=Tr.bind_some h
  have h1:=Fa h1
  rw[bg,bg] at h1
  rw[h1,← Tr.af h];rfl
 case nilCheck x =>
  unfold evalOp;rw[ho];dsimp only
  rw[← bg]
  split at h
  · rename_i d i v off hx
    rw[hx,← Tr.af h,hx]
  · rename_i s r off hx
    rw[hx,← Tr.af h,hx]
  · exact (Tr.ah h).elim
 case binOp op t x y' g =>
  unfold evalOp;rw[ho];dsimp only
  obtain ⟨v,h1,h⟩:=Tr.bind_some h
  have h1:=Iq h1
  rw[bg,bg] at h1
  rw[kpe h1,← Tr.af h]
 case unOp op t x =>
  unfold evalOp;rw[ho];dsimp only
  split at h
  · rename_i b n hx
    have:bZ (strip fr) x=.bool b:=by rw[← bg,hx]
    rw[this,← Tr.af h]
    cases b<;>rfl
  · obtain ⟨h1,h2⟩:=dkp _ h
    have h1:=Nr h1
    rw[bg] at h1
    rw[kpe h1,h2]
 case convert s d x =>
  unfold evalOp;rw[ho];dsimp only
  split at h
  · rename_i u hu
    split at h
    · rename_i k hk
      have hx:=bg fr x
      split at h
      · rename_i n hn
        rw[hn] at hx
        rw[hu,hk,← hx]
        dsimp only
        rw[← Tr.af h,Nu]
      · rename_i n _ hn
        rw[hn] at hx
        rw[hu,hk,← hx]
        dsimp only
        rw[← Tr.af h,AX]
      · exact (Tr.ah h).elim
    · exact (Tr.ah h).elim
  · exact (Tr.ah h).elim
 case makeSlice t l c =>
  unfold evalOp;rw[ho];dsimp only
  have h1:=ve (dflt _ h)
  rw[bg,bg] at h1
  rw[nz hC.1]
  exact h1
 case slice t x lo hi mx =>
  unfold evalOp;rw[ho];dsimp only
  have e:∀ z:Option Operand,(z.map fun y=>(cu fr y).1)=z.map (bZ (strip fr)):=by
   intro z;cases z<;>simp[bg]
  rcases mf h with ⟨_,h⟩ | ⟨_,h⟩
  · obtain ⟨v,h1,h2⟩:=Tr.bind_some h
    rw[da,bg,e,e,e] at h1
    rw[kpe h1,← Tr.af h2]
  · obtain ⟨h1,h2⟩:=dkp _ h
    have h1:=EU h1
    rw[bg] at h1
    rw[e,e,e] at h1
    rw[kpe h1,h2]
 case fieldAddr t x f =>
  unfold evalOp;rw[ho];dsimp only
  obtain ⟨v,h1,h⟩:=Tr.bind_some h
  have h1:=uS h1
  rw[bg] at h1
  rw[kpe h1,← Tr.af h]
 case field t x f =>
  unfold evalOp;rw[ho];dsimp only
  obtain ⟨h1,h2⟩:=dkp _ h
  rw[da,bg] at h1
  rw[kpe h1,h2]
 case index t x i =>
  unfold evalOp;rw[ho];dsimp only
  rw[bg] at h
  split at h
  · rename_i k n hn
    obtain ⟨v,h1,h⟩:=Tr.bind_some h
    have h1:=Mq h1
    rw[bg] at h1
    rw[hn]
    dsimp only
    rw[kpe h1,← Tr.af h]
  · exact (Tr.ah h).elim
 case indexAddr t x i =>
  unfold evalOp;rw[ho];dsimp only
  rw[bg] at h
  split at h
  · rename_i k n hn
    obtain ⟨v,h1,h⟩:=Tr.bind_some h
    have h1:=IU h1
    rw[bg] at h1
    rw[hn]
    dsimp only
    rw[kpe h1,← Tr.af h]
  · exact (Tr.ah h).elim
 case extract t ix =>
  unfold evalOp;rw[ho];dsimp only
  rw[bg] at h
  split at h
  · rename_i l hl
    rw[hl]
    dsimp only
    rw[m8] at h
    split at h
    · rename_i v hv'
      rw[hv',← Tr.af h]
    · exact (Tr.ah h).elim
  · exact (Tr.ah h).elim
 case call c =>
  unfold evalOp;rw[ho];dsimp only
  exact Ea hC h
 case makeMap t r =>
  unfold evalOp;rw[ho];try dsimp only
  cases r with
  | none =>
    dsimp only at h ⊢
    rw[nz hC.1,← Tr.af h]
  | some r=>exact (Tr.ah h).elim
 case mapUpdate t m k x =>
  unfold evalOp;rw[ho];dsimp only
  obtain ⟨δ,h1,h⟩:=Tr.bind_some h
  have h1:=DZ h1
  rw[bg,bg,bg] at h1
  rw[h1,← Tr.af h];rfl
 case insert t m k x =>
  unfold evalOp;rw[ho];dsimp only
  obtain ⟨δ,h1,h⟩:=Tr.bind_some h
  have h1:=DZ h1
  rw[bg,bg,bg] at h1
  rw[h1,← Tr.af h];rfl
 all_goals
  have h1:=dflt _ h
  rw[da] at h1
  exact h1

end
end Go.Eng
