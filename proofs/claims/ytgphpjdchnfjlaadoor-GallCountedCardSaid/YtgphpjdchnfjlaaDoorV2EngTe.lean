/- The engine as a tree: the other builtins; operations. -/
import Derived.Test.YtgphpjdchnfjlaaDoorV2EngTcx2
set_option linter.unusedVariables false
set_option linter.unusedSimpArgs false
namespace Go.Eng
noncomputable section

abbrev bo:=NW→List HV→aa→Tr (HV×aa)
def mz (l:List HV):List AV:=nC (fun x=>x.1) l
def bo.Ok (c:bo) (call:aB):Prop:=(∃ x,call .mode [] []=some x)∧∀ tgt args H x,(c tgt args H).run=some x→call tgt (mz args) H=some (x.1.1,x.2)
theorem mR {α:Type} {call:aB} (h:∃ x,call .mode [] []=some x) (a b:α):lr call a b=a:=by
 obtain ⟨x,h⟩:=h
 unfold lr
 rw[h]

def Hc (P:Program) (H:aa) (t:TypeId) (x:HV):Tr HV :=
 match P.underlying t with
 | some (.slice _)=>match x.1 with
   | .nils=>.ok (.int .i64 (Int.ofNat 0),some 1)
   | .slc _ _ _ _ _ len _=>.ok (.int .i64 (Int.ofNat len),x.2)
   | .slcT _ _ _ len _=>.ok (.int .i64 (Int.ofNat len),x.2)
   | _=>.bad
 | some (.array n _)=>.ok (.int .i64 (Int.ofNat n),some 1)
 | _=>(vm ((uh P H t x.1).map fun n=>AV.int .i64 n)).bind fun v=>.ok (v,none)
theorem Hd {P:Program} {H:aa} {t:TypeId} {x v:HV} (h:(Hc P H t x).run=some v):(uh P H t x.1).map (AV.int .i64)=some v.1:=by
 unfold Hc at h
 split at h
 · rename_i e hu
   unfold uh
   rw[hu]
   split at h
   · rename_i hx;rw[hx,← Tr.ae h];rfl
   · rename_i hx;rw[hx,← Tr.ae h];rfl
   · rename_i hx;rw[hx,← Tr.ae h];rfl
   · exact (Tr.ag h).elim
 · rename_i hu
   unfold uh
   rw[hu,← Tr.ae h];rfl
 · obtain ⟨u,h1,h⟩:=Tr.bind_some h
   rw[cN] at h1
   rw[h1,← Tr.ae h]
def Ej    (P:Program) (H:aa) (t:TypeId) (s x:AV):Tr (AV×Delta) :=
 match P.underlying t with
 | some (.slice e)=>match bn P e with
   | some z=>match nw x with
     | some n=>match s with
       | .slc d i v off sz m cap=>(rQ H z (Hh n m) x).bind fun new=>cond (ff H d) .bad ((wG H d i v (some 0)).bind fun r=>cond (Nat.beq sz z) (match r with
          | .M l=>(FD l off none (jn d new)).bind fun r'=>.ok (.int .i64 (Int.ofNat (Hh n m)),.set d i (v,.row r'))
          | _=>.bad) .bad)
       | _=>.bad
     | none=>.bad
   | none=>.bad
 | _=>.bad
theorem Ek {P:Program} {H:aa} {t:TypeId} {s x:AV} {y:AV×Delta} (h:(Ej P H t s x).run=some y):copyV P H t s x=some y:=by
 unfold Ej at h
 unfold copyV
 split at h
 · rename_i e hu
   split at h
   · rename_i z hs
     split at h
     · rename_i n hn
       split at h
       · rename_i d i v off sz m cap _ _
         obtain ⟨new,h1,h⟩:=Tr.bind_some h
         rw[dK] at h
         obtain ⟨hl,h⟩:=Tr.jW h
         obtain ⟨r,h2,h⟩:=Tr.bind_some h
         obtain ⟨hz,h⟩:=Tr.aP h
         have hz:=Nat.eq_of_beq_eq_true hz
         have hcv:=pr h1
         rw[BZ] at hcv
         have hcl:=rR hcv
         rw[hu]
         dsimp only
         rw[hs,hn]
         dsimp only[nw]
         rw[hcv]
         dsimp only
         rw[hl,if_neg (by simp),kW h2]
         dsimp only
         split at h
         · rename_i l _
           obtain ⟨r',h3,h⟩:=Tr.bind_some h
           obtain ⟨k1,k2⟩:=wA h3
           rw[eY,hcl] at k1
           rw[if_pos ⟨hz,by rw[hz];exact k1⟩,k2,← Tr.ae h,BZ]
           rfl
         · exact (Tr.ag h).elim
       · exact (Tr.ag h).elim
     · exact (Tr.ag h).elim
   · exact (Tr.ag h).elim
 · exact (Tr.ag h).elim
def wU (z:Row) (n:Nat):Row :=
 match z with
 | .I k l=>cond (w8 l) (.M [.arr k (fun _=>0) (fE n (iE l))]) (dx z n)
 | z=>dx z n
theorem vF (z:Row) (n:Nat):wU z n=dx z n:=by
 cases z with
 | I k l =>
   simp only[wU]
   cases h:w8 l with
   | true=>simp only[cond_true,dx,h,if_true,cC,df]
   | false=>rfl
 | _=>rfl
def zV (P:Program) (H:aa) (t:TypeId) (s:AV):Tr (AV×Delta) :=
 match P.underlying t with
 | some (.slice e)=>match s with
   | .slc d i v off sz len _=>cond (ff H d) .bad (match (cA P e).bind AV.row with
     | some z=>match bn P e with
       | some n=>cond (Nat.beq n sz) (cond (Nat.beq (iy z) sz) (.req (cZ 0 len) ((wG H d i v (some 0)).bind fun r=>match r with
          | .M l=>(FD l off none (wU z len)).bind fun r'=>.ok (.tup [],.set d i (v,.row r'))
          | _=>.bad)) .bad) .bad
       | none=>.bad
     | none=>.bad)
   | _=>.bad
 | _=>.bad
theorem A6 (z:Row) (n:Nat):(dx z n).len=n*z.len:=by
 have fn:∀ l:List AV,(Ev l n).len=n*l.length:=by
  intro l
  unfold Ev
  split
  · split<;>simp[Row.len,dz]
  · simp[Row.len,dz]
 cases z with
 | I k l=>simp only[dx];split<;>simp[Row.len,ay,aG,dz]
 | _=>simp only[dx,fn,Row.bh]
theorem CQ {P:Program} {H:aa} {t:TypeId} {s:AV} {y:AV×Delta} (h:(zV P H t s).run=some y):rV P H t s=some y:=by
 unfold zV at h
 unfold rV
 split at h
 · rename_i e hu
   split at h
   · rename_i d i v off sz len cap
     rw[dK] at h
     obtain ⟨hl,h⟩:=Tr.jW h
     split at h
     · rename_i z hz
       split at h
       · rename_i n hs
         obtain ⟨hn,h⟩:=Tr.aP h
         obtain ⟨hzl,h⟩:=Tr.aP h
         have hn:=Nat.eq_of_beq_eq_true hn
         rw[eV] at hzl
         have hzl:=Nat.eq_of_beq_eq_true hzl
         obtain ⟨h0,h⟩:=Tr.aL h
         rw[ij,decide_eq_true_eq] at h0
         obtain ⟨r,h2,h⟩:=Tr.bind_some h
         rw[hu]
         dsimp only
         rw[hl,if_neg (by simp),hz,kW h2]
         dsimp only
         split at h
         · rename_i l _
           obtain ⟨r',h3,h⟩:=Tr.bind_some h
           obtain ⟨k1,k2⟩:=wA h3
           rw[vF] at k1 k2
           rw[A6,hzl] at k1
           rw[if_pos ⟨hzl,by rw[hs,hn],k1⟩,← Tr.ae h]
           rw[if_neg (by omega)]
           simp only[xO,if_true]
           rw[← k2]
         · exact (Tr.ag h).elim
       · exact (Tr.ag h).elim
     · exact (Tr.ag h).elim
   · exact (Tr.ag h).elim
 · exact (Tr.ag h).elim
def nz (P:Program) (nx:Nat) (t:TypeId) (l c:AV):Tr (AV×Delta) :=
 match P.underlying t with
 | some (.slice e)=>match l with
   | .int _ l=>match c with
     | .int _ c=>match P.info? e with
       | some inf=>match (cA P e).bind AV.row with
         | some z=>.req (DP l c inf.bytes) (cond (Nat.beq (iy z) inf.size) (.ok (.slc 0 nx 0 0 inf.size (bR l) (some (bR c)),.push (.row (wU z (bR c))))) .bad)
         | none=>.bad
       | none=>.bad
     | _=>.bad
   | _=>.bad
 | _=>.bad
theorem ui {P:Program} {nx:Nat} {t:TypeId} {l c:AV} {y:AV×Delta} (h:(nz P nx t l c).run=some y):ja P true nx t l c=some y:=by
 unfold nz at h
 unfold ja
 split at h
 · rename_i e hu
   split at h
   · split at h
     · split at h
       · rename_i inf hi
         split at h
         · rename_i z hz
           obtain ⟨hc,h⟩:=Tr.aL h
           obtain ⟨hl,h⟩:=Tr.aP h
           rw[Ay,decide_eq_true_eq] at hc
           rw[eV] at hl
           have hl:=Nat.eq_of_beq_eq_true hl
           rw[hu]
           dsimp only
           rw[hi,hz]
           dsimp only
           rw[if_pos ⟨hc.1,hc.2.1,hc.2.2.1,hc.2.2.2,hl⟩,← Tr.ae h,vF,lf,lf]
           rfl
         · exact (Tr.ag h).elim
       · exact (Tr.ag h).elim
     · exact (Tr.ag h).elim
   · exact (Tr.ag h).elim
 · exact (Tr.ag h).elim

def hv (x:AV×Delta):Tr (HV×Delta):=.ok ((x.1,none),x.2)
theorem BK {x:AV×Delta} {y:HV×Delta} (h:(hv x).run=some y):y.1.1=x.1∧y.2=x.2:=by
 have:=Tr.ae h
 rw[← this]
 exact ⟨rfl,rfl⟩
def sO (l:List AV):List HV:=nC (fun x=>(x,none)) l
theorem nf:∀ l:List AV,mz (sO l)=l
 | []=>rfl
 | x::l=>by
   have e:mz (sO (x::l))=x::mz (sO l):=rfl
   rw[e,nf l]
theorem vH:∀ a b:List HV,mz (mT a b)=mz a++mz b
 | [],b=>rfl
 | x::a,b=>by
   have e:mz (mT (x::a) b)=x.1::mz (mT a b):=rfl
   rw[e,vH a b];rfl
def yl (fr:aI) (l:List Operand):List HV:=nC (fun x=>bU fr x) l
theorem sU (fr:aI):∀ l,mz (yl fr l)=jL (strip fr) l
 | []=>rfl
 | x::l=>by
   have e:mz (yl fr (x::l))=(bU fr x).1::mz (yl fr l):=rfl
   rw[e,sU fr l,aU];rfl
def Im   (P:Program) (H:aa) (t:TypeId) (m key x:AV):Tr Delta :=
 match P.underlying t with
 | some (.map kt _)=>match m with
   | .map d i=>cond (aE H d) .bad (cond (jK P kt key) (match aw H d i with
     | (0,.fmap q h g c)=>match ug q key with
       | some n=>match yh x with
         | some y=>.ok (.set d i (0,.fmap q (mn h n true) (mq g n y) (qd (h n) c)))
         | none=>.bad
       | none=>.bad
     | _=>.bad) .bad)
   | _=>.bad
 | _=>.bad
def Ka (P:Program) (H:aa) (t:TypeId) (m key:AV):Tr Delta :=
 match P.underlying t with
 | some (.map kt _)=>match m with
   | .map d i=>cond (aE H d) .bad (cond (jK P kt key) (match aw H d i with
     | (0,.fmap q h g c)=>match ug q key with
       | some n=>.ok (.set d i (0,.fmap q (mn h n false) (mq g n 0) (xg (h n) c)))
       | none=>.bad
     | _=>.bad) .bad)
   | _=>.bad
 | _=>.bad
def KH (fr:aI):Option Operand→Bool
 | none=>true
 | some y=>isLit (bU fr y)
theorem lG {α:Type} {b:Bool} {s t:Tr α} {x:α} (h:(cond b s t).run=some x):b=true∧s.run=some x∨b=false∧t.run=some x:=by
 cases b
 · exact .inr ⟨rfl,h⟩
 · exact .inl ⟨rfl,h⟩
theorem CG {P:Program} {H:aa} {t:TypeId} {m key x:AV} {δ:Delta} (h:(Im P H t m key x).run=some δ):jF P H t m key x=some δ:=by
 unfold Im at h
 unfold jF
 split at h
 · rename_i kt et hu
   rw[hu]
   split at h
   · rename_i d i
     dsimp only
     rcases lG h with ⟨_,h⟩ | ⟨h1,h⟩
     · exact (Tr.ag h).elim
     · rcases lG h with ⟨h2,h⟩ | ⟨_,h⟩
       · rw[if_neg (by rw[h1];simp),if_pos h2]
         split at h
         · rename_i q f g c hg
           rw[hg]
           try dsimp only
           split at h
           · rename_i n hn
             split at h
             · rename_i y hy
               simp only[hn,hy,← Tr.ae h,gU,gY,lF]
             · exact (Tr.ag h).elim
           · exact (Tr.ag h).elim
         · exact (Tr.ag h).elim
       · exact (Tr.ag h).elim
   · exact (Tr.ag h).elim
 · exact (Tr.ag h).elim
theorem GS {P:Program} {H:aa} {t:TypeId} {m key:AV} {δ:Delta} (h:(Ka P H t m key).run=some δ):ot P H t m key=some (.tup [],δ):=by
 unfold Ka at h
 unfold ot
 split at h
 · rename_i kt et hu
   rw[hu]
   split at h
   · rename_i d i
     dsimp only
     rcases lG h with ⟨_,h⟩ | ⟨h1,h⟩
     · exact (Tr.ag h).elim
     · rcases lG h with ⟨h2,h⟩ | ⟨_,h⟩
       · rw[if_neg (by rw[h1];simp),if_pos h2]
         split at h
         · rename_i q f g c hg
           rw[hg]
           try dsimp only
           split at h
           · rename_i n hn
             simp only[hn,← Tr.ae h,gU,gY,rW]
           · exact (Tr.ag h).elim
         · exact (Tr.ag h).elim
       · exact (Tr.ag h).elim
   · exact (Tr.ag h).elim
 · exact (Tr.ag h).elim
def zT (P:Program) (call:aB) (callR:bo) (fr:aI) (H:aa) (nx:Nat) (c:Call):Tr (HV×Delta) :=
 match c.callee with
 | .value f=>match (bU fr f).1 with
   | .fn (.func g) a b=>(callR (.fn g) (mT (sO a) (mT (yl fr c.args.toList) (sO b))) H).bind fun x=>.ok (x.1,.heap x.2)
   | .yld d i=>(callR (.round d i) (yl fr c.args.toList) H).bind fun x=>.ok (x.1,.heap x.2)
   | _=>.bad
 | .builtin .len=>match c.args.toList,c.argTypes.toList with
   | x::_,t::_=>(Hc P H t (bU fr x)).bind fun v=>.ok (v,.bk)
   | _,_=>.bad
 | .builtin .append=>match c.args.toList,c.argTypes.toList with
   | s::x::_,t::u::_=>(oh P H nx t u (bU fr s).1 (bU fr x).1).bind hv
   | _,_=>.bad
 | .builtin .copy=>match c.args.toList,c.argTypes.toList with
   | s::x::_,t::_=>(Ej P H t (bU fr s).1 (bU fr x).1).bind hv
   | _,_=>.bad
 | .builtin .clear=>match c.args.toList,c.argTypes.toList with
   | s::_,t::_=>(zV P H t (bU fr s).1).bind hv
   | _,_=>.bad
 | .builtin .min=>match ym fr c.args.toList with
   | .int k x::r=>(oR false k x r).bind fun v=>.ok ((v,none),.bk)
   | _=>.bad
 | .builtin .max=>match ym fr c.args.toList with
   | .int k x::r=>(oR true k x r).bind fun v=>.ok ((v,none),.bk)
   | _=>.bad
 | .builtin .delete=>match c.args.toList,c.argTypes.toList with
   | m::k::_,t::_=>(Ka P H t (bU fr m).1 (bU fr k).1).bind fun δ=>.ok ((.tup [],none),δ)
   | _,_=>.bad
 | _=>(vm (ft P call (strip fr) H nx c)).bind hv
theorem CO {P:Program} {call:aB} {callR:bo} (hC:callR.Ok call) {fr:aI} {H:aa} {nx:Nat} {c:Call} {y:HV×Delta} (h:(zT P call callR fr H nx c).run=some y):ft P call (strip fr) H nx c=some (y.1.1,y.2):=by
 have dflt:∀ (t:Tr (AV×Delta)),(t.bind hv).run=some y→t.run=some (y.1.1,y.2):=by
  intro t ht
  obtain ⟨x,h1,h2⟩:=Tr.bind_some ht
  obtain ⟨e1,e2⟩:=BK h2
  rw[h1,e1,e2]
 unfold zT at h
 split at h
 · rename_i f hf
   unfold ft
   rw[hf]
   dsimp only
   rw[aU] at h
   split at h
   · rename_i g a b ho
     obtain ⟨x,h1,h⟩:=Tr.bind_some h
     rw[ho]
     dsimp only
     have:=hC.2 _ _ _ _ h1
     rw[vH,vH,nf,nf,sU] at this
     rw[this,← Tr.ae h];rfl
   · rename_i d i ho
     obtain ⟨x,h1,h⟩:=Tr.bind_some h
     rw[ho]
     dsimp only
     have:=hC.2 _ _ _ _ h1
     rw[sU] at this
     rw[this,← Tr.ae h];rfl
   · exact (Tr.ag h).elim
 · rename_i hf
   unfold ft
   rw[hf]
   dsimp only
   split at h
   · rename_i x _ t _ hx ht
     obtain ⟨v,h1,h⟩:=Tr.bind_some h
     rw[hx,ht]
     dsimp only
     have:=Hd h1
     rw[aU] at this
     obtain ⟨n,k1,k2⟩:=Option.map_eq_some_iff.1 this
     rw[k1,← Tr.ae h,← k2];rfl
   · exact (Tr.ag h).elim
 · rename_i hf
   unfold ft
   rw[hf]
   dsimp only
   split at h
   · rename_i s x _ t u _ hx ht
     rw[hx,ht]
     dsimp only
     have h:=zN (dflt _ h)
     rw[aU,aU] at h
     rw[mR hC.1]
     exact h
   · exact (Tr.ag h).elim
 · rename_i hf
   unfold ft
   rw[hf]
   dsimp only
   split at h
   · rename_i s x _ t _ hx ht
     rw[hx,ht]
     dsimp only
     have h:=Ek (dflt _ h)
     rw[aU,aU] at h
     exact h
   · exact (Tr.ag h).elim
 · rename_i hf
   unfold ft
   rw[hf]
   dsimp only
   split at h
   · rename_i s _ t _ hx ht
     rw[hx,ht]
     dsimp only
     have h:=CQ (dflt _ h)
     rw[aU] at h
     exact h
   · exact (Tr.ag h).elim
 · rename_i hf
   unfold ft
   rw[hf]
   dsimp only
   rw[sV] at h
   split at h
   · rename_i k x r hx
     obtain ⟨v,h1,h⟩:=Tr.bind_some h
     rw[hx]
     dsimp only[nE]
     rw[nF _ _ _ h1,← Tr.ae h];rfl
   · exact (Tr.ag h).elim
 · rename_i hf
   unfold ft
   rw[hf]
   dsimp only
   rw[sV] at h
   split at h
   · rename_i k x r hx
     obtain ⟨v,h1,h⟩:=Tr.bind_some h
     rw[hx]
     dsimp only[nE]
     rw[nF _ _ _ h1,← Tr.ae h];rfl
   · exact (Tr.ag h).elim
 · rename_i hf
   unfold ft
   rw[hf]
   dsimp only
   split at h
   · rename_i m k _ t _ hx ht
     rw[hx,ht]
     dsimp only
     obtain ⟨δ,h1,h⟩:=Tr.bind_some h
     have h1:=GS h1
     rw[aU,aU] at h1
     rw[h1,← Tr.ae h]
   · exact (Tr.ag h).elim
 · have h:=dflt _ h
   rw[cN] at h;exact h

def J1 (P:Program) (op:BinOp) (t:TypeId) (x y:HV):Tr HV :=
 cond (isLit x && isLit y) (match x.1,y.1 with
  | .int k a,.int k' b=>(vm (Bi P op t (.int k a) (.int k' b))).bind fun v=>.ok (v,some 1)
  | a,b=>(D2 P op t a b).bind fun v=>.ok (v,none))
 ((D2 P op t x.1 y.1).bind fun v=>.ok (v,none))
theorem GC {P:Program} {op:BinOp} {t:TypeId} {x y v:HV} (h:(J1 P op t x y).run=some v):jU P op t x.1 y.1=some v.1:=by
 have gen:∀ a b,((D2 P op t a b).bind fun v=>Tr.ok ((v,none):HV)).run=some v→jU P op t a b=some v.1:=by
  intro a b h
  obtain ⟨u,h1,h⟩:=Tr.bind_some h
  rw[GD h1,← Tr.ae h]
 unfold J1 at h
 cases hb:isLit x && isLit y with
 | false=>rw[hb,cond_false] at h;exact gen _ _ h
 | true =>
   rw[hb,cond_true] at h
   split at h
   · rename_i k a k' b hx hy
     obtain ⟨u,h1,h⟩:=Tr.bind_some h
     rw[cN,rL] at h1
     rw[hx,hy,h1,← Tr.ae h]
   · exact gen _ _ h

def oP (fr:aI) (l:List (Nat×Operand)):List (Nat×AV):=nC (fun p=>(p.1,(bU fr p.2).1)) l
theorem nA (fr:aI):∀ l,oP fr l=dC (strip fr) l
 | []=>rfl
 | (i,x)::l=>by
   have e:oP fr ((i,x)::l)=(i,(bU fr x).1)::oP fr l:=rfl
   rw[e,nA fr l,aU];rfl
def Nc (op:Op):Oper→Program→aB→bo→aI→aa→Nat→Tr (HV×Delta) :=
 match op with
 | .move x=>fun _ _ _ _ fr _ _=>.ok (bU fr x,.bk)
 | .assign x=>fun _ _ _ _ fr _ _=>.ok (bU fr x,.bk)
 | .pick c a b=>fun _ _ _ _ fr _ _=>match bU fr c with
   | (.bool t,none)=>.ite t (.ok (bU fr a,.bk)) (.ok (bU fr b,.bk))
   | (.bool t,some _)=>cond t (.ok (bU fr a,.bk)) (.ok (bU fr b,.bk))
   | _=>.bad
 | .alloc t=>fun _ P _ _ _ _ nx=>match (cA P t).bind AV.row with
   | some z=>.ok ((.ptr 0 nx 0 0,none),.push (.row (jr z)))
   | none=>.bad
 | .box _ x=>fun _ _ _ _ fr _ nx=>match (bU fr x).1.row with
   | some r=>.ok ((.ptr 0 nx 0 0,none),.push (.row (jr r)))
   | none=>.bad
 | .build t parts=>fun _ P _ _ fr _ _=>(vm (vK P true t (oP fr parts.toList))).bind fun v=>.ok ((v,none),.bk)
 | .buildSlice t len parts=>fun _ P _ _ fr _ nx=>(vm (ju P nx t len (oP fr parts.toList))).bind fun x=>.ok ((x.1,some 1),x.2)
 | .load t a=>fun _ P _ _ fr H _=>(loadT P H t (bU fr a)).bind fun v=>.ok ((v,none),.bk)
 | .store t a x=>fun _ P _ _ fr H _=>(storeT P H t (bU fr a) (bU fr x).1).bind fun δ=>.ok ((.tup [],none),δ)
 | .nilCheck x=>fun _ _ _ _ fr _ _=>match (bU fr x).1 with
   | .ptr d i v off=>.ok (bU fr x,.bk)
   | .ptrT s r off=>.ok (bU fr x,.bk)
   | _=>.bad
 | .binOp op t x y _=>fun _ P _ _ fr _ _=>(J1 P op t (bU fr x) (bU fr y)).bind fun v=>.ok (v,.bk)
 | .unOp op _ x=>fun _ _ _ _ fr _ _=>match op,bU fr x with
   | .not,(.bool b,some _)=>.ok ((.bool (cond b false true),some 1),.bk)
   | op,x=>(QM op x.1).bind fun v=>.ok ((v,none),.bk)
 | .convert src dst x=>fun _ P _ _ fr _ _=>match P.underlying src with
   | some _=>match P.underlying dst with
     | some (.int k)=>match bU fr x with
       | (.int _ n,none)=>.ok ((.int k (CI k n),none),.bk)
       | (.int _ n,some _)=>.ok ((.int k (vE k n),some 1),.bk)
       | _=>.bad
     | _=>.bad
   | none=>.bad
 | .makeSlice t l c=>fun _ P _ _ fr _ nx=>(nz P nx t (bU fr l).1 (bU fr c).1).bind hv
 | .slice t x lo hi mx=>fun _ P _ _ fr _ _=>cond (isLit (bU fr x) && (KH fr lo && (KH fr hi && KH fr mx)))
   ((vm (p8 P t (bU fr x).1 (lo.map fun y=>(bU fr y).1) (hi.map fun y=>(bU fr y).1) (mx.map fun y=>(bU fr y).1))).bind fun v=>.ok ((v,some 1),.bk))
   ((AP P t (bU fr x).1 (lo.map fun y=>(bU fr y).1) (hi.map fun y=>(bU fr y).1) (mx.map fun y=>(bU fr y).1)).bind fun v=>.ok ((v,none),.bk))
 | .fieldAddr t x f=>fun _ P _ _ fr _ _=>(nk P t (bU fr x) f).bind fun v=>.ok (v,.bk)
 | .field t x f=>fun _ P _ _ fr _ _=>(vm (sa P t (bU fr x).1 f)).bind fun v=>.ok ((v,none),.bk)
 | .indexAddr t x i=>fun _ P _ _ fr _ _=>match (bU fr i).1 with
   | .int _ n=>(Kx P t (bU fr x) (isLit (bU fr i)) n).bind fun v=>.ok (v,.bk)
   | _=>.bad
 | .index t x i=>fun _ P _ _ fr _ _=>match (bU fr i).1 with
   | .int _ n=>(Ox P t (bU fr x).1 (isLit (bU fr i)) n).bind fun v=>.ok ((v,none),.bk)
   | _=>.bad
 | .extract t ix=>fun _ _ _ _ fr _ _=>match (bU fr t).1 with
   | .tup l=>match xC l ix with
     | some v=>.ok ((v,none),.bk)
     | none=>.bad
   | _=>.bad
 | .call c=>fun _ P call callR fr H nx=>zT P call callR fr H nx c
 | .makeMap t r=>fun _ P _ _ _ _ nx=>match r with
   | none=>.ok ((.map 0 nx,none),.push (sM P t))
   | some _=>.bad
 | .mapUpdate t m k x=>fun _ P _ _ fr H _=>(Im P H t (bU fr m).1 (bU fr k).1 (bU fr x).1).bind fun δ=>.ok ((.tup [],none),δ)
 | .insert t m k x=>fun _ P _ _ fr H _=>(Im P H t (bU fr m).1 (bU fr k).1 (bU fr x).1).bind fun δ=>.ok ((.tup [],none),δ)
 | _=>fun o P call _ fr H nx=>(vm (evalOp P call (strip fr) H nx o)).bind hv
theorem AG {o:Oper} {P:Program} {call:aB} {callR:bo} (hC:callR.Ok call) {fr:aI} {H:aa} {nx:Nat} {y:HV×Delta} (h:(Nc o.op o P call callR fr H nx).run=some y):evalOp P call (strip fr) H nx o=some (y.1.1,y.2):=by
 have dflt:∀ (t:Tr (AV×Delta)),(t.bind hv).run=some y→t.run=some (y.1.1,y.2):=by
  intro t ht
  obtain ⟨x,h1,h2⟩:=Tr.bind_some ht
  obtain ⟨e1,e2⟩:=BK h2
  rw[h1,e1,e2]
 have dkp:∀ (t:Tr AV),(t.bind fun v=>Tr.ok (((v,none),.bk):HV×Delta)).run=some y→t.run=some y.1.1∧y.2=.bk:=by
  intro t ht
  obtain ⟨x,h1,h2⟩:=Tr.bind_some ht
  rw[h1,← Tr.ae h2];exact ⟨rfl,rfl⟩
 have kpe:∀ {o:Option AV} {v:AV},o=some v→kp o=some (v,.bk):=by rintro o v rfl;rfl
 cases ho:o.op<;>rw[ho] at h<;>simp only[Nc] at h
 case move x =>
  unfold evalOp;rw[ho];dsimp only
  rw[← Tr.ae h,← aU]
 case assign x =>
  unfold evalOp;rw[ho];dsimp only
  rw[← Tr.ae h,← aU]
 case pick c a b =>
  unfold evalOp;rw[ho];dsimp only
  have hc':=aU fr c
  split at h
  · rename_i t hc
    rw[hc] at hc'
    rw[← hc']
    dsimp only
    rcases Tr.j7 h with ⟨rfl,h⟩ | ⟨rfl,h⟩<;>rw[← Tr.ae h,← aU,← aU]<;>rfl
  · rename_i t n hc
    rw[hc] at hc'
    rw[← hc']
    dsimp only
    cases t with
    | true=>rw[cond_true] at h;rw[← Tr.ae h,← aU,← aU];rfl
    | false=>rw[cond_false] at h;rw[← Tr.ae h,← aU,← aU];rfl
  · exact (Tr.ag h).elim
 case alloc t =>
  unfold evalOp;rw[ho];dsimp only
  split at h
  · rename_i z hz
    rw[hz,← Tr.ae h,Option.map_some,mR hC.1]
  · exact (Tr.ag h).elim
 case box t x =>
  unfold evalOp;rw[ho];dsimp only
  rw[aU] at h
  split at h
  · rename_i z hz
    rw[hz,← Tr.ae h,Option.map_some,mR hC.1]
  · exact (Tr.ag h).elim
 case build t parts =>
  unfold evalOp;rw[ho];dsimp only
  obtain ⟨h1,h2⟩:=dkp _ h
  rw[cN,nA] at h1
  rw[mR hC.1,kpe h1,h2]
 case buildSlice t len parts =>
  unfold evalOp;rw[ho];dsimp only
  obtain ⟨x,h1,h⟩:=Tr.bind_some h
  rw[cN,nA] at h1
  rw[h1,← Tr.ae h]
 case load t a =>
  unfold evalOp;rw[ho];dsimp only
  obtain ⟨h1,h2⟩:=dkp _ h
  have h1:=xY h1
  rw[aU] at h1
  rw[kpe h1,h2]
 case store t a x =>
  unfold evalOp;rw[ho];dsimp only
  obtain ⟨δ,h1,h⟩:=Tr.bind_some h
  have h1:=DG h1
  rw[aU,aU] at h1
  rw[h1,← Tr.ae h];rfl
 case nilCheck x =>
  unfold evalOp;rw[ho];dsimp only
  rw[← aU]
  split at h
  · rename_i d i v off hx
    rw[hx,← Tr.ae h,hx]
  · rename_i s r off hx
    rw[hx,← Tr.ae h,hx]
  · exact (Tr.ag h).elim
 case binOp op t x y' g =>
  unfold evalOp;rw[ho];dsimp only
  obtain ⟨v,h1,h⟩:=Tr.bind_some h
  have h1:=GC h1
  rw[aU,aU] at h1
  rw[kpe h1,← Tr.ae h]
 case unOp op t x =>
  unfold evalOp;rw[ho];dsimp only
  split at h
  · rename_i b n hx
    have:bG (strip fr) x=.bool b:=by rw[← aU,hx]
    rw[this,← Tr.ae h]
    cases b<;>rfl
  · obtain ⟨h1,h2⟩:=dkp _ h
    have h1:=Lt h1
    rw[aU] at h1
    rw[kpe h1,h2]
 case convert s d x =>
  unfold evalOp;rw[ho];dsimp only
  split at h
  · rename_i u hu
    split at h
    · rename_i k hk
      have hx:=aU fr x
      split at h
      · rename_i n hn
        rw[hn] at hx
        rw[hu,hk,← hx]
        dsimp only
        rw[← Tr.ae h,Gb]
      · rename_i n _ hn
        rw[hn] at hx
        rw[hu,hk,← hx]
        dsimp only
        rw[← Tr.ae h,tF]
      · exact (Tr.ag h).elim
    · exact (Tr.ag h).elim
  · exact (Tr.ag h).elim
 case makeSlice t l c =>
  unfold evalOp;rw[ho];dsimp only
  have h1:=ui (dflt _ h)
  rw[aU,aU] at h1
  rw[mR hC.1]
  exact h1
 case slice t x lo hi mx =>
  unfold evalOp;rw[ho];dsimp only
  have e:∀ z:Option Operand,(z.map fun y=>(bU fr y).1)=z.map (bG (strip fr)):=by
   intro z;cases z<;>simp[aU]
  rcases lG h with ⟨_,h⟩ | ⟨_,h⟩
  · obtain ⟨v,h1,h2⟩:=Tr.bind_some h
    rw[cN,aU,e,e,e] at h1
    rw[kpe h1,← Tr.ae h2]
  · obtain ⟨h1,h2⟩:=dkp _ h
    have h1:=DA h1
    rw[aU] at h1
    rw[e,e,e] at h1
    rw[kpe h1,h2]
 case fieldAddr t x f =>
  unfold evalOp;rw[ho];dsimp only
  obtain ⟨v,h1,h⟩:=Tr.bind_some h
  have h1:=tY h1
  rw[aU] at h1
  rw[kpe h1,← Tr.ae h]
 case field t x f =>
  unfold evalOp;rw[ho];dsimp only
  obtain ⟨h1,h2⟩:=dkp _ h
  rw[cN,aU] at h1
  rw[kpe h1,h2]
 case index t x i =>
  unfold evalOp;rw[ho];dsimp only
  rw[aU] at h
  split at h
  · rename_i k n hn
    obtain ⟨v,h1,h⟩:=Tr.bind_some h
    have h1:=KE h1
    rw[aU] at h1
    rw[hn]
    dsimp only
    rw[kpe h1,← Tr.ae h]
  · exact (Tr.ag h).elim
 case indexAddr t x i =>
  unfold evalOp;rw[ho];dsimp only
  rw[aU] at h
  split at h
  · rename_i k n hn
    obtain ⟨v,h1,h⟩:=Tr.bind_some h
    have h1:=G4 h1
    rw[aU] at h1
    rw[hn]
    dsimp only
    rw[kpe h1,← Tr.ae h]
  · exact (Tr.ag h).elim
 case extract t ix =>
  unfold evalOp;rw[ho];dsimp only
  rw[aU] at h
  split at h
  · rename_i l hl
    rw[hl]
    dsimp only
    rw[kJ] at h
    split at h
    · rename_i v hv'
      rw[hv',← Tr.ae h]
    · exact (Tr.ag h).elim
  · exact (Tr.ag h).elim
 case call c =>
  unfold evalOp;rw[ho];dsimp only
  exact CO hC h
 case makeMap t r =>
  unfold evalOp;rw[ho];try dsimp only
  cases r with
  | none =>
    dsimp only at h ⊢
    rw[mR hC.1,← Tr.ae h]
  | some r=>exact (Tr.ag h).elim
 case mapUpdate t m k x =>
  unfold evalOp;rw[ho];dsimp only
  obtain ⟨δ,h1,h⟩:=Tr.bind_some h
  have h1:=CG h1
  rw[aU,aU,aU] at h1
  rw[h1,← Tr.ae h];rfl
 case insert t m k x =>
  unfold evalOp;rw[ho];dsimp only
  obtain ⟨δ,h1,h⟩:=Tr.bind_some h
  have h1:=CG h1
  rw[aU,aU,aU] at h1
  rw[h1,← Tr.ae h];rfl
 all_goals
  have h1:=dflt _ h
  rw[cN] at h1
  exact h1

end
end Go.Eng
