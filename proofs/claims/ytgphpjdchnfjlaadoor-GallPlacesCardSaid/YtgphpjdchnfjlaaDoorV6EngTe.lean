/- The engine as a tree: the other builtins; operations. -/
import Derived.Test.YtgphpjdchnfjlaaDoorV6EngTcx2
set_option linter.unusedVariables false
set_option linter.unusedSimpArgs false
namespace Go.Eng
noncomputable section

abbrev bt:=PR→List HV→ab→Tr (HV×ab)
def lJ (l:List HV):List AV:=qW (fun x=>x.1) l
def bt.Ok (c:bt) (call:aJ):Prop:=(∃ x,call .mode [] []=some x)∧∀ tgt args H x,(c tgt args H).run=some x→call tgt (lJ args) H=some (x.1.1,x.2)
theorem m4 {α:Type} {call:aJ} (h:∃ x,call .mode [] []=some x) (a b:α):nf call a b=a:=by
 obtain ⟨x,h⟩:=h;unfold nf;rw[h]

def IE (P:Program) (H:ab) (t:TypeId) (x:HV):Tr HV :=
 match P.underlying t with
 | some (.slice _)=>match x.1 with
   | .nils=>.ok (.int .i64 (Int.ofNat 0),some 1)
   | .slc _ _ _ _ _ len _=>.ok (.int .i64 (Int.ofNat len),x.2)
   | .slcT _ _ _ len _=>.ok (.int .i64 (Int.ofNat len),x.2)
   | _=>.bad
 | some (.array n _)=>.ok (.int .i64 (Int.ofNat n),some 1)
 | _=>(vG ((uJ P H t x.1).map fun n=>AV.int .i64 n)).bind fun v=>.ok (v,none)
theorem IF {P:Program} {H:ab} {t:TypeId} {x v:HV} (h:(IE P H t x).run=some v):(uJ P H t x.1).map (AV.int .i64)=some v.1:=by
 unfold IE at h;split at h
 · rename_i e hu;unfold uJ;rw[hu];split at h
   · rename_i hx;rw[hx,← Tr.ae h];rfl
   · rename_i hx;rw[hx,← Tr.ae h];rfl
   · rename_i hx;rw[hx,← Tr.ae h];rfl
   · exact (Tr.ah h).elim
 · rename_i hu;unfold uJ;rw[hu,← Tr.ae h];rfl
 · obtain ⟨u,h1,h⟩:=Tr.bind_some h;rw[dg] at h1;rw[h1,← Tr.ae h]
def FC    (P:Program) (H:ab) (t:TypeId) (s x:AV):Tr (AV×Delta) :=
 match P.underlying t with
 | some (.slice e)=>match bD P e with
   | some z=>match nJ x with
     | some n=>match s with
       | .slc d i v off sz m cap=>(r8 H z (IL n m) x).bind fun new=>cond (jP H d) .bad ((xe H d i v (some 0)).bind fun r=>cond (Nat.beq sz z) (match r with
          | .M l=>(GS l off none (jq d new)).bind fun r'=>.ok (.int .i64 (Int.ofNat (IL n m)),.set d i (v,.row r'))
          | _=>.bad) .bad)
       | _=>.bad
     | none=>.bad
   | none=>.bad
 | _=>.bad
theorem FD {P:Program} {H:ab} {t:TypeId} {s x:AV} {y:AV×Delta} (h:(FC P H t s x).run=some y):copyV P H t s x=some y:=by
 unfold FC at h;unfold copyV;split at h
 · rename_i e hu;split at h
   · rename_i z hs;split at h
     · rename_i n hn;split at h
       · rename_i d i v off sz m cap _ _;obtain ⟨new,h1,h⟩:=Tr.bind_some h;rw[gq] at h;obtain ⟨hl,h⟩:=Tr.j7 h;obtain ⟨r,h2,h⟩:=Tr.bind_some h;obtain ⟨hz,h⟩:=Tr.aX h;have hz:=Nat.eq_of_beq_eq_true hz;have hcv:=pG h1;rw[CP] at hcv;have hcl:=r9 hcv;rw[hu];dsimp only;rw[hs,hn];dsimp only[nJ];rw[hcv];dsimp only;rw[hl,if_neg (by simp),lq h2];dsimp only;split at h
         · rename_i l _;obtain ⟨r',h3,h⟩:=Tr.bind_some h;obtain ⟨k1,k2⟩:=w6 h3;rw[fj,hcl] at k1;rw[if_pos ⟨hz,by rw[hz];exact k1⟩,k2,← Tr.ae h,CP];rfl
         · exact (Tr.ah h).elim
       · exact (Tr.ah h).elim
     · exact (Tr.ah h).elim
   · exact (Tr.ah h).elim
 · exact (Tr.ah h).elim
def xv (z:Row) (n:Nat):Row :=
 match z with
 | .I k l=>cond (xE l) (.M [.arr k (fun _=>0) (fK n (kj l))]) (dO z n)
 | z=>dO z n
theorem vT (z:Row) (n:Nat):xv z n=dO z n:=by
 cases z with
 | I k l =>
   simp only[xv];cases h:xE l with
   | true=>simp only[cond_true,dO,h,if_true,cP,eh]
   | false=>rfl
 | _=>rfl
def AJ (P:Program) (H:ab) (t:TypeId) (s:AV):Tr (AV×Delta) :=
 match P.underlying t with
 | some (.slice e)=>match s with
   | .slc d i v off sz len _=>cond (jP H d) .bad (match (c7 P e).bind AV.row with
     | some z=>match bD P e with
       | some n=>cond (Nat.beq n sz) (cond (Nat.beq (iw z) sz) (.req (cK 0 len) ((xe H d i v (some 0)).bind fun r=>match r with
          | .M l=>(GS l off none (xv z len)).bind fun r'=>.ok (.tup [],.set d i (v,.row r'))
          | _=>.bad)) .bad) .bad
       | none=>.bad
     | none=>.bad)
   | _=>.bad
 | _=>.bad
theorem BW (z:Row) (n:Nat):(dO z n).len=n*z.len:=by
 have fn:∀ l:List AV,(FR l n).len=n*l.length:=by
  intro l;unfold FR;split
  · split<;>simp[Row.len,dP]
  · simp[Row.len,dP]
 cases z with
 | I k l=>simp only[dO];split<;>simp[Row.len,aA,aT,dP]
 | _=>simp only[dO,fn,Row.br]
theorem DP {P:Program} {H:ab} {t:TypeId} {s:AV} {y:AV×Delta} (h:(AJ P H t s).run=some y):sd P H t s=some y:=by
 unfold AJ at h;unfold sd;split at h
 · rename_i e hu;split at h
   · rename_i d i v off sz len cap;rw[gq] at h;obtain ⟨hl,h⟩:=Tr.j7 h;split at h
     · rename_i z hz;split at h
       · rename_i n hs;obtain ⟨hn,h⟩:=Tr.aX h;obtain ⟨hzl,h⟩:=Tr.aX h;have hn:=Nat.eq_of_beq_eq_true hn;rw[fi] at hzl;have hzl:=Nat.eq_of_beq_eq_true hzl;obtain ⟨h0,h⟩:=Tr.aU h;rw[ik,decide_eq_true_eq] at h0;obtain ⟨r,h2,h⟩:=Tr.bind_some h;rw[hu];dsimp only;rw[hl,if_neg (by simp),hz,lq h2];dsimp only;split at h
         · rename_i l _;obtain ⟨r',h3,h⟩:=Tr.bind_some h;obtain ⟨k1,k2⟩:=w6 h3;rw[vT] at k1 k2;rw[BW,hzl] at k1;rw[if_pos ⟨hzl,by rw[hs,hn],k1⟩,← Tr.ae h];rw[if_neg wO];simp only[yi,if_true];rw[← k2]
         · exact (Tr.ah h).elim
       · exact (Tr.ah h).elim
     · exact (Tr.ah h).elim
   · exact (Tr.ah h).elim
 · exact (Tr.ah h).elim
def nL (P:Program) (nx:Nat) (t:TypeId) (l c:AV):Tr (AV×Delta) :=
 match P.underlying t with
 | some (.slice e)=>match l with
   | .int _ l=>match c with
     | .int _ c=>match P.info? e with
       | some inf=>match (c7 P e).bind AV.row with
         | some z=>.req (Ec l c inf.bytes) (cond (Nat.beq (iw z) inf.size) (.ok (.slc 0 nx 0 0 inf.size (bY l) (some (bY c)),.push (.row (xv z (bY c))))) .bad)
         | none=>.bad
       | none=>.bad
     | _=>.bad
   | _=>.bad
 | _=>.bad
theorem uK {P:Program} {nx:Nat} {t:TypeId} {l c:AV} {y:AV×Delta} (h:(nL P nx t l c).run=some y):jb P true nx t l c=some y:=by
 unfold nL at h;unfold jb;split at h
 · rename_i e hu;split at h
   · split at h
     · split at h
       · rename_i inf hi;split at h
         · rename_i z hz;obtain ⟨hc,h⟩:=Tr.aU h;obtain ⟨hl,h⟩:=Tr.aX h;rw[wH,decide_eq_true_eq] at hc;rw[fi] at hl;have hl:=Nat.eq_of_beq_eq_true hl;rw[hu];dsimp only;rw[hi,hz];dsimp only;rw[if_pos ⟨hc.1,hc.2.1,hc.2.2.1,hc.2.2.2,hl⟩,← Tr.ae h,vT,jV,jV];rfl
         · exact (Tr.ah h).elim
       · exact (Tr.ah h).elim
     · exact (Tr.ah h).elim
   · exact (Tr.ah h).elim
 · exact (Tr.ah h).elim

def hv (x:AV×Delta):Tr (HV×Delta):=.ok ((x.1,none),x.2)
theorem CC {x:AV×Delta} {y:HV×Delta} (h:(hv x).run=some y):y.1.1=x.1∧y.2=x.2:=by
 have:=Tr.ae h;rw[← this];exact ⟨rfl,rfl⟩
def te (l:List AV):List HV:=qW (fun x=>(x,none)) l
theorem nr:∀ l:List AV,lJ (te l)=l
 | []=>rfl
 | x::l=>by
   have e:lJ (te (x::l))=x::lJ (te l):=rfl;rw[e,nr l]
theorem vV:∀ a b:List HV,lJ (qR a b)=lJ a++lJ b
 | [],b=>rfl
 | x::a,b=>by
   have e:lJ (qR (x::a) b)=x.1::lJ (qR a b):=rfl;rw[e,vV a b];rfl
def yN (fr:aH) (l:List Operand):List HV:=qW (fun x=>b8 fr x) l
theorem tp (fr:aH):∀ l,lJ (yN fr l)=lj (strip fr) l
 | []=>rfl
 | x::l=>by
   have e:lJ (yN fr (x::l))=(b8 fr x).1::lJ (yN fr l):=rfl;rw[e,tp fr l,bf];rfl
def JJ   (P:Program) (H:ab) (t:TypeId) (m key x:AV):Tr Delta :=
 match P.underlying t with
 | some (.map kt _)=>match m with
   | .map d i=>cond (aK H d) .bad (cond (jR P kt key) (match az H d i with
     | (0,.fmap q h g c)=>match uI q key with
       | some n=>match yL x with
         | some y=>.ok (.set d i (0,.fmap q (mE h n true) (mF g n y) (qn (h n) c)))
         | none=>.bad
       | none=>.bad
     | _=>.bad) .bad)
   | _=>.bad
 | _=>.bad
def LD (P:Program) (H:ab) (t:TypeId) (m key:AV):Tr Delta :=
 match P.underlying t with
 | some (.map kt _)=>match m with
   | .map d i=>cond (aK H d) .bad (cond (jR P kt key) (match az H d i with
     | (0,.fmap q h g c)=>match uI q key with
       | some n=>.ok (.set d i (0,.fmap q (mE h n false) (mF g n 0) (xJ (h n) c)))
       | none=>.bad
     | _=>.bad) .bad)
   | _=>.bad
 | _=>.bad
def Mb (fr:aH):Option Operand→Bool
 | none=>true
 | some y=>isLit (b8 fr y)
theorem lV {α:Type} {b:Bool} {s t:Tr α} {x:α} (h:(cond b s t).run=some x):b=true∧s.run=some x∨b=false∧t.run=some x:=by
 cases b
 · exact .inr ⟨rfl,h⟩
 · exact .inl ⟨rfl,h⟩
theorem DE {P:Program} {H:ab} {t:TypeId} {m key x:AV} {δ:Delta} (h:(JJ P H t m key x).run=some δ):jJ P H t m key x=some δ:=by
 unfold JJ at h;unfold jJ;split at h
 · rename_i kt et hu;rw[hu];split at h
   · rename_i d i;dsimp only;rcases lV h with ⟨_,h⟩ | ⟨h1,h⟩
     · exact (Tr.ah h).elim
     · rcases lV h with ⟨h2,h⟩ | ⟨_,h⟩
       · rw[if_neg (by rw[h1];simp),if_pos h2];split at h
         · rename_i q f g c hg;rw[hg];try dsimp only
           split at h
           · rename_i n hn;split at h
             · rename_i y hy;simp only[hn,hy,← Tr.ae h,gY,gZ,lU]
             · exact (Tr.ah h).elim
           · exact (Tr.ah h).elim
         · exact (Tr.ah h).elim
       · exact (Tr.ah h).elim
   · exact (Tr.ah h).elim
 · exact (Tr.ah h).elim
theorem Il {P:Program} {H:ab} {t:TypeId} {m key:AV} {δ:Delta} (h:(LD P H t m key).run=some δ):oF P H t m key=some (.tup [],δ):=by
 unfold LD at h;unfold oF;split at h
 · rename_i kt et hu;rw[hu];split at h
   · rename_i d i;dsimp only;rcases lV h with ⟨_,h⟩ | ⟨h1,h⟩
     · exact (Tr.ah h).elim
     · rcases lV h with ⟨h2,h⟩ | ⟨_,h⟩
       · rw[if_neg (by rw[h1];simp),if_pos h2];split at h
         · rename_i q f g c hg;rw[hg];try dsimp only
           split at h
           · rename_i n hn;simp only[hn,← Tr.ae h,gY,gZ,se]
           · exact (Tr.ah h).elim
         · exact (Tr.ah h).elim
       · exact (Tr.ah h).elim
   · exact (Tr.ah h).elim
 · exact (Tr.ah h).elim
def AI (P:Program) (call:aJ) (callR:bt) (fr:aH) (H:ab) (nx:Nat) (c:Call):Tr (HV×Delta) :=
 match c.callee with
 | .value f=>match (b8 fr f).1 with
   | .fn (.func g) a b=>(callR (.fn g) (qR (te a) (qR (yN fr c.args.toList) (te b))) H).bind fun x=>.ok (x.1,.heap x.2)
   | .yld d i=>(callR (.round d i) (yN fr c.args.toList) H).bind fun x=>.ok (x.1,.heap x.2)
   | _=>.bad
 | .builtin .len=>match c.args.toList,c.argTypes.toList with
   | x::_,t::_=>(IE P H t (b8 fr x)).bind fun v=>.ok (v,.bC)
   | _,_=>.bad
 | .builtin .append=>match c.args.toList,c.argTypes.toList with
   | s::x::_,t::u::_=>(oz P H nx t u (b8 fr s).1 (b8 fr x).1).bind hv
   | _,_=>.bad
 | .builtin .copy=>match c.args.toList,c.argTypes.toList with
   | s::x::_,t::_=>(FC P H t (b8 fr s).1 (b8 fr x).1).bind hv
   | _,_=>.bad
 | .builtin .clear=>match c.args.toList,c.argTypes.toList with
   | s::_,t::_=>(AJ P H t (b8 fr s).1).bind hv
   | _,_=>.bad
 | .builtin .min=>match yO fr c.args.toList with
   | .int k x::r=>(pb false k x r).bind fun v=>.ok ((v,none),.bC)
   | _=>.bad
 | .builtin .max=>match yO fr c.args.toList with
   | .int k x::r=>(pb true k x r).bind fun v=>.ok ((v,none),.bC)
   | _=>.bad
 | .builtin .delete=>match c.args.toList,c.argTypes.toList with
   | m::k::_,t::_=>(LD P H t (b8 fr m).1 (b8 fr k).1).bind fun δ=>.ok ((.tup [],none),δ)
   | _,_=>.bad
 | _=>(vG (gN P call (strip fr) H nx c)).bind hv
theorem DN {P:Program} {call:aJ} {callR:bt} (hC:callR.Ok call) {fr:aH} {H:ab} {nx:Nat} {c:Call} {y:HV×Delta} (h:(AI P call callR fr H nx c).run=some y):gN P call (strip fr) H nx c=some (y.1.1,y.2):=by
 have dflt:∀ (t:Tr (AV×Delta)),(t.bind hv).run=some y→t.run=some (y.1.1,y.2):=by
  intro t ht;obtain ⟨x,h1,h2⟩:=Tr.bind_some ht;obtain ⟨e1,e2⟩:=CC h2;rw[h1,e1,e2]
 unfold AI at h;split at h
 · rename_i f hf;unfold gN;rw[hf];dsimp only;rw[bf] at h;split at h
   · rename_i g a b ho;obtain ⟨x,h1,h⟩:=Tr.bind_some h;rw[ho];dsimp only;have:=hC.2 _ _ _ _ h1;rw[vV,vV,nr,nr,tp] at this;rw[this,← Tr.ae h];rfl
   · rename_i d i ho;obtain ⟨x,h1,h⟩:=Tr.bind_some h;rw[ho];dsimp only;have:=hC.2 _ _ _ _ h1;rw[tp] at this;rw[this,← Tr.ae h];rfl
   · exact (Tr.ah h).elim
 · rename_i hf;unfold gN;rw[hf];dsimp only;split at h
   · rename_i x _ t _ hx ht;obtain ⟨v,h1,h⟩:=Tr.bind_some h;rw[hx,ht];dsimp only;have:=IF h1;rw[bf] at this;obtain ⟨n,k1,k2⟩:=Option.map_eq_some_iff.1 this;rw[k1,← Tr.ae h,← k2];rfl
   · exact (Tr.ah h).elim
 · rename_i hf;unfold gN;rw[hf];dsimp only;split at h
   · rename_i s x _ t u _ hx ht;rw[hx,ht];dsimp only;have h:=AB (dflt _ h);rw[bf,bf] at h;rw[m4 hC.1];exact h
   · exact (Tr.ah h).elim
 · rename_i hf;unfold gN;rw[hf];dsimp only;split at h
   · rename_i s x _ t _ hx ht;rw[hx,ht];dsimp only;have h:=FD (dflt _ h);rw[bf,bf] at h;exact h
   · exact (Tr.ah h).elim
 · rename_i hf;unfold gN;rw[hf];dsimp only;split at h
   · rename_i s _ t _ hx ht;rw[hx,ht];dsimp only;have h:=DP (dflt _ h);rw[bf] at h;exact h
   · exact (Tr.ah h).elim
 · rename_i hf;unfold gN;rw[hf];dsimp only;rw[tr] at h;split at h
   · rename_i k x r hx;obtain ⟨v,h1,h⟩:=Tr.bind_some h;rw[hx];dsimp only[nQ];rw[nR _ _ _ h1,← Tr.ae h];rfl
   · exact (Tr.ah h).elim
 · rename_i hf;unfold gN;rw[hf];dsimp only;rw[tr] at h;split at h
   · rename_i k x r hx;obtain ⟨v,h1,h⟩:=Tr.bind_some h;rw[hx];dsimp only[nQ];rw[nR _ _ _ h1,← Tr.ae h];rfl
   · exact (Tr.ah h).elim
 · rename_i hf;unfold gN;rw[hf];dsimp only;split at h
   · rename_i m k _ t _ hx ht;rw[hx,ht];dsimp only;obtain ⟨δ,h1,h⟩:=Tr.bind_some h;have h1:=Il h1;rw[bf,bf] at h1;rw[h1,← Tr.ae h]
   · exact (Tr.ah h).elim
 · have h:=dflt _ h;rw[dg] at h;exact h

def Lu (P:Program) (op:BinOp) (t:TypeId) (x y:HV):Tr HV :=
 cond (isLit x && isLit y) (match x.1,y.1 with
  | .int k a,.int k' b=>(vG (Fi P op t (.int k a) (.int k' b))).bind fun v=>.ok (v,some 1)
  | a,b=>(Fh P op t a b).bind fun v=>.ok (v,none))
 ((Fh P op t x.1 y.1).bind fun v=>.ok (v,none))
theorem HU {P:Program} {op:BinOp} {t:TypeId} {x y v:HV} (h:(Lu P op t x y).run=some v):j5 P op t x.1 y.1=some v.1:=by
 have gen:∀ a b,((Fh P op t a b).bind fun v=>Tr.ok ((v,none):HV)).run=some v→j5 P op t a b=some v.1:=by
  intro a b h;obtain ⟨u,h1,h⟩:=Tr.bind_some h;rw[HW h1,← Tr.ae h]
 unfold Lu at h;cases hb:isLit x && isLit y with
 | false=>rw[hb,cond_false] at h;exact gen _ _ h
 | true =>
   rw[hb,cond_true] at h;split at h
   · rename_i k a k' b hx hy;obtain ⟨u,h1,h⟩:=Tr.bind_some h;rw[dg,Fj] at h1;rw[hx,hy,h1,← Tr.ae h]
   · exact gen _ _ h

def o7 (fr:aH) (l:List (Nat×Operand)):List (Nat×AV):=qW (fun p=>(p.1,(b8 fr p.2).1)) l
theorem nM (fr:aH):∀ l,o7 fr l=dS (strip fr) l
 | []=>rfl
 | (i,x)::l=>by
   have e:o7 fr ((i,x)::l)=(i,(b8 fr x).1)::o7 fr l:=rfl;rw[e,nM fr l,bf];rfl
def OW (op:Op):Oper→Program→aJ→bt→aH→ab→Nat→Tr (HV×Delta) :=
 match op with
 | .move x=>fun _ _ _ _ fr _ _=>.ok (b8 fr x,.bC)
 | .assign x=>fun _ _ _ _ fr _ _=>.ok (b8 fr x,.bC)
 | .pick c a b=>fun _ _ _ _ fr _ _=>match b8 fr c with
   | (.bool t,none)=>.ite t (.ok (b8 fr a,.bC)) (.ok (b8 fr b,.bC))
   | (.bool t,some _)=>cond t (.ok (b8 fr a,.bC)) (.ok (b8 fr b,.bC))
   | _=>.bad
 | .alloc t=>fun _ P _ _ _ _ nx=>match (c7 P t).bind AV.row with
   | some z=>.ok ((.ptr 0 nx 0 0,none),.push (.row (kC z)))
   | none=>.bad
 | .box _ x=>fun _ _ _ _ fr _ nx=>match (b8 fr x).1.row with
   | some r=>.ok ((.ptr 0 nx 0 0,none),.push (.row (kC r)))
   | none=>.bad
 | .build t parts=>fun _ P _ _ fr _ _=>(vG (vX P true t (o7 fr parts.toList))).bind fun v=>.ok ((v,none),.bC)
 | .buildSlice t len parts=>fun _ P _ _ fr _ nx=>(vG (jv P nx t len (o7 fr parts.toList))).bind fun x=>.ok ((x.1,some 1),x.2)
 | .load t a=>fun _ P _ _ fr H _=>(loadT P H t (b8 fr a)).bind fun v=>.ok ((v,none),.bC)
 | .store t a x=>fun _ P _ _ fr H _=>(storeT P H t (b8 fr a) (b8 fr x).1).bind fun δ=>.ok ((.tup [],none),δ)
 | .nilCheck x=>fun _ _ _ _ fr _ _=>match (b8 fr x).1 with
   | .ptr d i v off=>.ok (b8 fr x,.bC)
   | .ptrT s r off=>.ok (b8 fr x,.bC)
   | _=>.bad
 | .binOp op t x y _=>fun _ P _ _ fr _ _=>(Lu P op t (b8 fr x) (b8 fr y)).bind fun v=>.ok (v,.bC)
 | .unOp op _ x=>fun _ _ _ _ fr _ _=>match op,b8 fr x with
   | .not,(.bool b,some _)=>.ok ((.bool (cond b false true),some 1),.bC)
   | op,x=>(Tt op x.1).bind fun v=>.ok ((v,none),.bC)
 | .convert src dst x=>fun _ P _ _ fr _ _=>match P.underlying src with
   | some _=>match P.underlying dst with
     | some (.int k)=>match b8 fr x with
       | (.int _ n,none)=>.ok ((.int k (Tv k n),none),.bC)
       | (.int _ n,some _)=>.ok ((.int k (Aq k n),some 1),.bC)
       | _=>.bad
     | _=>.bad
   | none=>.bad
 | .makeSlice t l c=>fun _ P _ _ fr _ nx=>(nL P nx t (b8 fr l).1 (b8 fr c).1).bind hv
 | .slice t x lo hi mx=>fun _ P _ _ fr _ _=>cond (isLit (b8 fr x) && (Mb fr lo && (Mb fr hi && Mb fr mx)))
   ((vG (qi P t (b8 fr x).1 (lo.map fun y=>(b8 fr y).1) (hi.map fun y=>(b8 fr y).1) (mx.map fun y=>(b8 fr y).1))).bind fun v=>.ok ((v,some 1),.bC))
   ((BG P t (b8 fr x).1 (lo.map fun y=>(b8 fr y).1) (hi.map fun y=>(b8 fr y).1) (mx.map fun y=>(b8 fr y).1)).bind fun v=>.ok ((v,none),.bC))
 | .fieldAddr t x f=>fun _ P _ _ fr _ _=>(nB P t (b8 fr x) f).bind fun v=>.ok (v,.bC)
 | .field t x f=>fun _ P _ _ fr _ _=>(vG (wg P t (b8 fr x).1 f)).bind fun v=>.ok ((v,none),.bC)
 | .indexAddr t x i=>fun _ P _ _ fr _ _=>match (b8 fr i).1 with
   | .int _ n=>(L2 P t (b8 fr x) (isLit (b8 fr i)) n).bind fun v=>.ok (v,.bC)
   | _=>.bad
 | .index t x i=>fun _ P _ _ fr _ _=>match (b8 fr i).1 with
   | .int _ n=>(QF P t (b8 fr x).1 (isLit (b8 fr i)) n).bind fun v=>.ok ((v,none),.bC)
   | _=>.bad
 | .extract t ix=>fun _ _ _ _ fr _ _=>match (b8 fr t).1 with
   | .tup l=>match A0 l ix with
     | some v=>.ok ((v,none),.bC)
     | none=>.bad
   | _=>.bad
 | .call c=>fun _ P call callR fr H nx=>AI P call callR fr H nx c
 | .makeMap t r=>fun _ P _ _ _ _ nx=>match r with
   | none=>.ok ((.map 0 nx,none),.push (ta P t))
   | some _=>.bad
 | .mapUpdate t m k x=>fun _ P _ _ fr H _=>(JJ P H t (b8 fr m).1 (b8 fr k).1 (b8 fr x).1).bind fun δ=>.ok ((.tup [],none),δ)
 | .insert t m k x=>fun _ P _ _ fr H _=>(JJ P H t (b8 fr m).1 (b8 fr k).1 (b8 fr x).1).bind fun δ=>.ok ((.tup [],none),δ)
 | _=>fun o P call _ fr H nx=>(vG (evalOp P call (strip fr) H nx o)).bind hv
theorem Bt {o:Oper} {P:Program} {call:aJ} {callR:bt} (hC:callR.Ok call) {fr:aH} {H:ab} {nx:Nat} {y:HV×Delta} (h:(OW o.op o P call callR fr H nx).run=some y):evalOp P call (strip fr) H nx o=some (y.1.1,y.2):=by
 have dflt:∀ (t:Tr (AV×Delta)),(t.bind hv).run=some y→t.run=some (y.1.1,y.2):=by
  intro t ht;obtain ⟨x,h1,h2⟩:=Tr.bind_some ht;obtain ⟨e1,e2⟩:=CC h2;rw[h1,e1,e2]
 have dkp:∀ (t:Tr AV),(t.bind fun v=>Tr.ok (((v,none),.bC):HV×Delta)).run=some y→t.run=some y.1.1∧y.2=.bC:=by
  intro t ht;obtain ⟨x,h1,h2⟩:=Tr.bind_some ht;rw[h1,← Tr.ae h2];exact ⟨rfl,rfl⟩
 have kpe:∀ {o:Option AV} {v:AV},o=some v→kp o=some (v,.bC):=by rintro o v rfl;rfl
 cases ho:o.op<;>rw[ho] at h<;>simp only[OW] at h;case move x =>
  unfold evalOp;rw[ho];dsimp only
  rw[← Tr.ae h,← bf]
 case assign x =>
  unfold evalOp;rw[ho];dsimp only
  rw[← Tr.ae h,← bf]
 case pick c a b =>
  unfold evalOp;rw[ho];dsimp only
  have hc':=bf fr c
  split at h
  · rename_i t hc
    rw[hc] at hc'
    rw[← hc']
    dsimp only
    rcases Tr.kh h with ⟨rfl,h⟩ | ⟨rfl,h⟩<;>rw[← Tr.ae h,← bf,← bf]<;>rfl
  · rename_i t n hc
    rw[hc] at hc'
    rw[← hc']
    dsimp only
    cases t with
    | true=>rw[cond_true] at h;rw[← Tr.ae h,← bf,← bf];rfl
    | false=>rw[cond_false] at h;rw[← Tr.ae h,← bf,← bf];rfl
  · exact (Tr.ah h).elim
 case alloc t =>
  unfold evalOp;rw[ho];dsimp only
  split at h
  · rename_i z hz
    rw[hz,← Tr.ae h,Option.map_some,m4 hC.1]
  · exact (Tr.ah h).elim
 case box t x =>
  unfold evalOp;rw[ho];dsimp only
  rw[bf] at h
  split at h
  · rename_i z hz
    rw[hz,← Tr.ae h,Option.map_some,m4 hC.1]
  · exact (Tr.ah h).elim
 case build t parts =>
  unfold evalOp;rw[ho];dsimp only
  obtain ⟨h1,h2⟩:=dkp _ h
  rw[dg,nM] at h1
  rw[m4 hC.1,kpe h1,h2]
 case buildSlice t len parts =>
  unfold evalOp;rw[ho];dsimp only
  obtain ⟨x,h1,h⟩:=Tr.bind_some h
  rw[dg,nM] at h1
  rw[h1,← Tr.ae h]
 case load t a =>
  unfold evalOp;rw[ho];dsimp only
  obtain ⟨h1,h2⟩:=dkp _ h
  have h1:=yt h1
  rw[bf] at h1
  rw[kpe h1,h2]
 case store t a x =>
  unfold evalOp;rw[ho];dsimp only
  obtain ⟨δ,h1,h⟩:=Tr.bind_some h
  have h1:=ED h1
  rw[bf,bf] at h1
  rw[h1,← Tr.ae h];rfl
 case nilCheck x =>
  unfold evalOp;rw[ho];dsimp only
  rw[← bf]
  split at h
  · rename_i d i v off hx
    rw[hx,← Tr.ae h,hx]
  · rename_i s r off hx
    rw[hx,← Tr.ae h,hx]
  · exact (Tr.ah h).elim
 case binOp op t x y' g =>
  unfold evalOp;rw[ho];dsimp only
  obtain ⟨v,h1,h⟩:=Tr.bind_some h
  have h1:=HU h1
  rw[bf,bf] at h1
  rw[kpe h1,← Tr.ae h]
 case unOp op t x =>
  unfold evalOp;rw[ho];dsimp only
  split at h
  · rename_i b n hx
    have:bU (strip fr) x=.bool b:=by rw[← bf,hx]
    rw[this,← Tr.ae h]
    cases b<;>rfl
  · obtain ⟨h1,h2⟩:=dkp _ h
    have h1:=M7 h1
    rw[bf] at h1
    rw[kpe h1,h2]
 case convert s d x =>
  unfold evalOp;rw[ho];dsimp only
  split at h
  · rename_i u hu
    split at h
    · rename_i k hk
      have hx:=bf fr x
      split at h
      · rename_i n hn
        rw[hn] at hx
        rw[hu,hk,← hx]
        dsimp only
        rw[← Tr.ae h,M9]
      · rename_i n _ hn
        rw[hn] at hx
        rw[hu,hk,← hx]
        dsimp only
        rw[← Tr.ae h,Ar]
      · exact (Tr.ah h).elim
    · exact (Tr.ah h).elim
  · exact (Tr.ah h).elim
 case makeSlice t l c =>
  unfold evalOp;rw[ho];dsimp only
  have h1:=uK (dflt _ h)
  rw[bf,bf] at h1
  rw[m4 hC.1]
  exact h1
 case slice t x lo hi mx =>
  unfold evalOp;rw[ho];dsimp only
  have e:∀ z:Option Operand,(z.map fun y=>(b8 fr y).1)=z.map (bU (strip fr)):=by
   intro z;cases z<;>simp[bf]
  rcases lV h with ⟨_,h⟩ | ⟨_,h⟩
  · obtain ⟨v,h1,h2⟩:=Tr.bind_some h
    rw[dg,bf,e,e,e] at h1
    rw[kpe h1,← Tr.ae h2]
  · obtain ⟨h1,h2⟩:=dkp _ h
    have h1:=Ew h1
    rw[bf] at h1
    rw[e,e,e] at h1
    rw[kpe h1,h2]
 case fieldAddr t x f =>
  unfold evalOp;rw[ho];dsimp only
  obtain ⟨v,h1,h⟩:=Tr.bind_some h
  have h1:=uA h1
  rw[bf] at h1
  rw[kpe h1,← Tr.ae h]
 case field t x f =>
  unfold evalOp;rw[ho];dsimp only
  obtain ⟨h1,h2⟩:=dkp _ h
  rw[dg,bf] at h1
  rw[kpe h1,h2]
 case index t x i =>
  unfold evalOp;rw[ho];dsimp only
  rw[bf] at h
  split at h
  · rename_i k n hn
    obtain ⟨v,h1,h⟩:=Tr.bind_some h
    have h1:=L8 h1
    rw[bf] at h1
    rw[hn]
    dsimp only
    rw[kpe h1,← Tr.ae h]
  · exact (Tr.ah h).elim
 case indexAddr t x i =>
  unfold evalOp;rw[ho];dsimp only
  rw[bf] at h
  split at h
  · rename_i k n hn
    obtain ⟨v,h1,h⟩:=Tr.bind_some h
    have h1:=Iy h1
    rw[bf] at h1
    rw[hn]
    dsimp only
    rw[kpe h1,← Tr.ae h]
  · exact (Tr.ah h).elim
 case extract t ix =>
  unfold evalOp;rw[ho];dsimp only
  rw[bf] at h
  split at h
  · rename_i l hl
    rw[hl]
    dsimp only
    rw[mO] at h
    split at h
    · rename_i v hv'
      rw[hv',← Tr.ae h]
    · exact (Tr.ah h).elim
  · exact (Tr.ah h).elim
 case call c =>
  unfold evalOp;rw[ho];dsimp only
  exact DN hC h
 case makeMap t r =>
  unfold evalOp;rw[ho];try dsimp only
  cases r with
  | none =>
    dsimp only at h ⊢
    rw[m4 hC.1,← Tr.ae h]
  | some r=>exact (Tr.ah h).elim
 case mapUpdate t m k x =>
  unfold evalOp;rw[ho];dsimp only
  obtain ⟨δ,h1,h⟩:=Tr.bind_some h
  have h1:=DE h1
  rw[bf,bf,bf] at h1
  rw[h1,← Tr.ae h];rfl
 case insert t m k x =>
  unfold evalOp;rw[ho];dsimp only
  obtain ⟨δ,h1,h⟩:=Tr.bind_some h
  have h1:=DE h1
  rw[bf,bf,bf] at h1
  rw[h1,← Tr.ae h];rfl
 all_goals
  have h1:=dflt _ h
  rw[dg] at h1
  exact h1

end
end Go.Eng
