/- The engine as a tree: the other builtins; operations. -/
import Derived.Test.YtoomemfhcbajoaaV7EngTcx2
set_option linter.unusedVariables false
set_option linter.unusedSimpArgs false
namespace Go.Eng
noncomputable section

abbrev bD:=Nw→List HV→aa→Tr (HV×aa)
def pR (l:List HV):List AV:=n5 (fun x=>x.1) l
def bD.Ok (c:bD) (call:aU):Prop:=(∃ x,call .mode [] []=some x)∧∀ tgt args H x,(c tgt args H).run=some x→call tgt (pR args) H=some (x.1.1,x.2)
theorem m9 {α:Type} {call:aU} (h:∃ x,call .mode [] []=some x) (a b:α):lU call a b=a:=by
 obtain ⟨x,h⟩:=h
 unfold lU
 rw[h]

def Hw (P:Program) (H:aa) (t:TypeId) (x:HV):Tr HV :=
 match P.underlying t with
 | some (.slice _)=>match x.1 with
   | .nils=>.ok (.int .i64 (Int.ofNat 0),some 1)
   | .slc _ _ _ _ _ len _=>.ok (.int .i64 (Int.ofNat len),x.2)
   | .slcT _ _ _ len _=>.ok (.int .i64 (Int.ofNat len),x.2)
   | _=>.bad
 | some (.array n _)=>.ok (.int .i64 (Int.ofNat n),some 1)
 | _=>(vU ((uH P H t x.1).map fun n=>AV.int .i64 n)).bind fun v=>.ok (v,none)
theorem Hy {P:Program} {H:aa} {t:TypeId} {x v:HV} (h:(Hw P H t x).run=some v):(uH P H t x.1).map (AV.int .i64)=some v.1:=by
 unfold Hw at h
 split at h
 · rename_i e hu
   unfold uH
   rw[hu]
   split at h
   · rename_i hx;rw[hx,← Tr.ab h];rfl
   · rename_i hx;rw[hx,← Tr.ab h];rfl
   · rename_i hx;rw[hx,← Tr.ab h];rfl
   · exact (Tr.ae h).elim
 · rename_i hu
   unfold uH
   rw[hu,← Tr.ab h];rfl
 · obtain ⟨u,h1,h⟩:=Tr.bind_some h
   rw[cU] at h1
   rw[h1,← Tr.ab h]
def EO    (P:Program) (H:aa) (t:TypeId) (s x:AV):Tr (AV×Delta) :=
 match P.underlying t with
 | some (.slice e)=>match bk P e with
   | some z=>match nR x with
     | some n=>match s with
       | .slc d i v off sz m cap=>(sn H z (qv n m) x).bind fun new=>cond (fH H d) .bad ((xE H d i v (some 0)).bind fun r=>cond (Nat.beq sz z) (match r with
          | .M l=>(F6 l off none (lI d new)).bind fun r'=>.ok (.int .i64 (Int.ofNat (qv n m)),.set d i (v,.row r'))
          | _=>.bad) .bad)
       | _=>.bad
     | none=>.bad
   | none=>.bad
 | _=>.bad
theorem EP {P:Program} {H:aa} {t:TypeId} {s x:AV} {y:AV×Delta} (h:(EO P H t s x).run=some y):copyV P H t s x=some y:=by
 unfold EO at h
 unfold copyV
 split at h
 · rename_i e hu
   split at h
   · rename_i z hs
     split at h
     · rename_i n hn
       split at h
       · rename_i d i v off sz m cap _ _
         obtain ⟨new,h1,h⟩:=Tr.bind_some h
         rw[ep] at h
         obtain ⟨hl,h⟩:=Tr.jZ h
         obtain ⟨r,h2,h⟩:=Tr.bind_some h
         obtain ⟨hz,h⟩:=Tr.aR h
         have hz:=Nat.eq_of_beq_eq_true hz
         have hcv:=pT h1
         rw[po] at hcv
         have hcl:=so hcv
         rw[hu]
         dsimp only
         rw[hs,hn]
         dsimp only[nR]
         rw[hcv]
         dsimp only
         rw[hl,if_neg (by simp),lx h2]
         dsimp only
         split at h
         · rename_i l _
           obtain ⟨r',h3,h⟩:=Tr.bind_some h
           obtain ⟨k1,k2⟩:=xy h3
           rw[fA,hcl] at k1
           rw[if_pos ⟨hz,by rw[hz];exact k1⟩,k2,← Tr.ab h,po]
           rfl
         · exact (Tr.ae h).elim
       · exact (Tr.ae h).elim
     · exact (Tr.ae h).elim
   · exact (Tr.ae h).elim
 · exact (Tr.ae h).elim
def xT (z:Row) (n:Nat):Row :=
 match z with
 | .I k l=>cond (x7 l) (.M [.arr k (fun _=>0) (jk n (iP l))]) (dG z n)
 | z=>dG z n
theorem wk (z:Row) (n:Nat):xT z n=dG z n:=by
 cases z with
 | I k l =>
   simp only[xT]
   cases h:x7 l with
   | true=>simp only[cond_true,dG,h,if_true,cr,dk]
   | false=>rfl
 | _=>rfl
def AG (P:Program) (H:aa) (t:TypeId) (s:AV):Tr (AV×Delta) :=
 match P.underlying t with
 | some (.slice e)=>match s with
   | .slc d i v off sz len _=>cond (fH H d) .bad (match (cE P e).bind AV.row with
     | some z=>match bk P e with
       | some n=>cond (Nat.beq n sz) (cond (Nat.beq (iJ z) sz) (.req (cw 0 len) ((xE H d i v (some 0)).bind fun r=>match r with
          | .M l=>(F6 l off none (xT z len)).bind fun r'=>.ok (.tup [],.set d i (v,.row r'))
          | _=>.bad)) .bad) .bad
       | none=>.bad
     | none=>.bad)
   | _=>.bad
 | _=>.bad
theorem Bx (z:Row) (n:Nat):(dG z n).len=n*z.len:=by
 have fn:∀ l:List AV,(Fg l n).len=n*l.length:=by
  intro l
  unfold Fg
  split
  · split<;>simp[Row.len,dM]
  · simp[Row.len,dM]
 cases z with
 | I k l=>simp only[dG];split<;>simp[Row.len,ay,aO,dM]
 | _=>simp only[dG,fn,Row.bj]
theorem Dl {P:Program} {H:aa} {t:TypeId} {s:AV} {y:AV×Delta} (h:(AG P H t s).run=some y):ss P H t s=some y:=by
 unfold AG at h
 unfold ss
 split at h
 · rename_i e hu
   split at h
   · rename_i d i v off sz len cap
     rw[ep] at h
     obtain ⟨hl,h⟩:=Tr.jZ h
     split at h
     · rename_i z hz
       split at h
       · rename_i n hs
         obtain ⟨hn,h⟩:=Tr.aR h
         obtain ⟨hzl,h⟩:=Tr.aR h
         have hn:=Nat.eq_of_beq_eq_true hn
         rw[fz] at hzl
         have hzl:=Nat.eq_of_beq_eq_true hzl
         obtain ⟨h0,h⟩:=Tr.aP h
         rw[gw,decide_eq_true_eq] at h0
         obtain ⟨r,h2,h⟩:=Tr.bind_some h
         rw[hu]
         dsimp only
         rw[hl,if_neg (by simp),hz,lx h2]
         dsimp only
         split at h
         · rename_i l _
           obtain ⟨r',h3,h⟩:=Tr.bind_some h
           obtain ⟨k1,k2⟩:=xy h3
           rw[wk] at k1 k2
           rw[Bx,hzl] at k1
           rw[if_pos ⟨hzl,by rw[hs,hn],k1⟩,← Tr.ab h]
           rw[if_neg (by omega)]
           simp only[yO,if_true]
           rw[← k2]
         · exact (Tr.ae h).elim
       · exact (Tr.ae h).elim
     · exact (Tr.ae h).elim
   · exact (Tr.ae h).elim
 · exact (Tr.ae h).elim
def nX (P:Program) (nx:Nat) (t:TypeId) (l c:AV):Tr (AV×Delta) :=
 match P.underlying t with
 | some (.slice e)=>match l with
   | .int _ l=>match c with
     | .int _ c=>match P.info? e with
       | some inf=>match (cE P e).bind AV.row with
         | some z=>.req (DN l c inf.bytes) (cond (Nat.beq (iJ z) inf.size) (.ok (.slc 0 nx 0 0 inf.size (dw l) (some (dw c)),.push (.row (xT z (dw c))))) .bad)
         | none=>.bad
       | none=>.bad
     | _=>.bad
   | _=>.bad
 | _=>.bad
theorem uM {P:Program} {nx:Nat} {t:TypeId} {l c:AV} {y:AV×Delta} (h:(nX P nx t l c).run=some y):ji P true nx t l c=some y:=by
 unfold nX at h
 unfold ji
 split at h
 · rename_i e hu
   split at h
   · split at h
     · split at h
       · rename_i inf hi
         split at h
         · rename_i z hz
           obtain ⟨hc,h⟩:=Tr.aP h
           obtain ⟨hl,h⟩:=Tr.aR h
           rw[w9,decide_eq_true_eq] at hc
           rw[fz] at hl
           have hl:=Nat.eq_of_beq_eq_true hl
           rw[hu]
           dsimp only
           rw[hi,hz]
           dsimp only
           rw[if_pos ⟨hc.1,hc.2.1,hc.2.2.1,hc.2.2.2,hl⟩,← Tr.ab h,wk,mJ,mJ]
           rfl
         · exact (Tr.ae h).elim
       · exact (Tr.ae h).elim
     · exact (Tr.ae h).elim
   · exact (Tr.ae h).elim
 · exact (Tr.ae h).elim

def hv (x:AV×Delta):Tr (HV×Delta):=.ok ((x.1,none),x.2)
theorem B5 {x:AV×Delta} {y:HV×Delta} (h:(hv x).run=some y):y.1.1=x.1∧y.2=x.2:=by
 have:=Tr.ab h
 rw[← this]
 exact ⟨rfl,rfl⟩
def ti (l:List AV):List HV:=n5 (fun x=>(x,none)) l
theorem nF:∀ l:List AV,pR (ti l)=l
 | []=>rfl
 | x::l=>by
   have e:pR (ti (x::l))=x::pR (ti l):=rfl
   rw[e,nF l]
theorem wu:∀ a b:List HV,pR (nf a b)=pR a++pR b
 | [],b=>rfl
 | x::a,b=>by
   have e:pR (nf (x::a) b)=x.1::pR (nf a b):=rfl
   rw[e,wu a b];rfl
def zw (fr:aN) (l:List Operand):List HV:=n5 (fun x=>bW fr x) l
theorem tx (fr:aN):∀ l,pR (zw fr l)=jP (strip fr) l
 | []=>rfl
 | x::l=>by
   have e:pR (zw fr (x::l))=(bW fr x).1::pR (zw fr l):=rfl
   rw[e,tx fr l,aS];rfl
def Iy   (P:Program) (H:aa) (t:TypeId) (m key x:AV):Tr Delta :=
 match P.underlying t with
 | some (.map kt _)=>match m with
   | .map d i=>cond (av H d) .bad (cond (jO P kt key) (match aq H d i with
     | (0,.fmap q h g c)=>match uF q key with
       | some n=>match zt x with
         | some y=>.ok (.set d i (0,.fmap q (mF h n true) (mH g n y) (su (h n) c)))
         | none=>.bad
       | none=>.bad
     | _=>.bad) .bad)
   | _=>.bad
 | _=>.bad
def JP (P:Program) (H:aa) (t:TypeId) (m key:AV):Tr Delta :=
 match P.underlying t with
 | some (.map kt _)=>match m with
   | .map d i=>cond (av H d) .bad (cond (jO P kt key) (match aq H d i with
     | (0,.fmap q h g c)=>match uF q key with
       | some n=>.ok (.set d i (0,.fmap q (mF h n false) (mH g n 0) (vl (h n) c)))
       | none=>.bad
     | _=>.bad) .bad)
   | _=>.bad
 | _=>.bad
def Ke (fr:aN):Option Operand→Bool
 | none=>true
 | some y=>isLit (bW fr y)
theorem lZ {α:Type} {b:Bool} {s t:Tr α} {x:α} (h:(cond b s t).run=some x):b=true∧s.run=some x∨b=false∧t.run=some x:=by
 cases b
 · exact .inr ⟨rfl,h⟩
 · exact .inl ⟨rfl,h⟩
theorem C6 {P:Program} {H:aa} {t:TypeId} {m key x:AV} {δ:Delta} (h:(Iy P H t m key x).run=some δ):jK P H t m key x=some δ:=by
 unfold Iy at h
 unfold jK
 split at h
 · rename_i kt et hu
   rw[hu]
   split at h
   · rename_i d i
     dsimp only
     rcases lZ h with ⟨_,h⟩ | ⟨h1,h⟩
     · exact (Tr.ae h).elim
     · rcases lZ h with ⟨h2,h⟩ | ⟨_,h⟩
       · rw[if_neg (by rw[h1];simp),if_pos h2]
         split at h
         · rename_i q f g c hg
           rw[hg]
           try dsimp only
           split at h
           · rename_i n hn
             split at h
             · rename_i y hy
               simp only[hn,hy,← Tr.ab h,zU,zY,yc]
             · exact (Tr.ae h).elim
           · exact (Tr.ae h).elim
         · exact (Tr.ae h).elim
       · exact (Tr.ae h).elim
   · exact (Tr.ae h).elim
 · exact (Tr.ae h).elim
theorem Ha {P:Program} {H:aa} {t:TypeId} {m key:AV} {δ:Delta} (h:(JP P H t m key).run=some δ):oL P H t m key=some (.tup [],δ):=by
 unfold JP at h
 unfold oL
 split at h
 · rename_i kt et hu
   rw[hu]
   split at h
   · rename_i d i
     dsimp only
     rcases lZ h with ⟨_,h⟩ | ⟨h1,h⟩
     · exact (Tr.ae h).elim
     · rcases lZ h with ⟨h2,h⟩ | ⟨_,h⟩
       · rw[if_neg (by rw[h1];simp),if_pos h2]
         split at h
         · rename_i q f g c hg
           rw[hg]
           try dsimp only
           split at h
           · rename_i n hn
             simp only[hn,← Tr.ab h,zU,zY,yd]
           · exact (Tr.ae h).elim
         · exact (Tr.ae h).elim
       · exact (Tr.ae h).elim
   · exact (Tr.ae h).elim
 · exact (Tr.ae h).elim
def AE (P:Program) (call:aU) (callR:bD) (fr:aN) (H:aa) (nx:Nat) (c:Call):Tr (HV×Delta) :=
 match c.callee with
 | .value f=>match (bW fr f).1 with
   | .fn (.func g) a b=>(callR (.fn g) (nf (ti a) (nf (zw fr c.args.toList) (ti b))) H).bind fun x=>.ok (x.1,.heap x.2)
   | .yld d i=>(callR (.round d i) (zw fr c.args.toList) H).bind fun x=>.ok (x.1,.heap x.2)
   | _=>.bad
 | .builtin .len=>match c.args.toList,c.argTypes.toList with
   | x::_,t::_=>(Hw P H t (bW fr x)).bind fun v=>.ok (v,.bc)
   | _,_=>.bad
 | .builtin .append=>match c.args.toList,c.argTypes.toList with
   | s::x::_,t::u::_=>(oE P H nx t u (bW fr s).1 (bW fr x).1).bind hv
   | _,_=>.bad
 | .builtin .copy=>match c.args.toList,c.argTypes.toList with
   | s::x::_,t::_=>(EO P H t (bW fr s).1 (bW fr x).1).bind hv
   | _,_=>.bad
 | .builtin .clear=>match c.args.toList,c.argTypes.toList with
   | s::_,t::_=>(AG P H t (bW fr s).1).bind hv
   | _,_=>.bad
 | .builtin .min=>match zx fr c.args.toList with
   | .int k x::r=>(pq false k x r).bind fun v=>.ok ((v,none),.bc)
   | _=>.bad
 | .builtin .max=>match zx fr c.args.toList with
   | .int k x::r=>(pq true k x r).bind fun v=>.ok ((v,none),.bc)
   | _=>.bad
 | .builtin .delete=>match c.args.toList,c.argTypes.toList with
   | m::k::_,t::_=>(JP P H t (bW fr m).1 (bW fr k).1).bind fun δ=>.ok ((.tup [],none),δ)
   | _,_=>.bad
 | _=>(vU (fQ P call (strip fr) H nx c)).bind hv
theorem Di {P:Program} {call:aU} {callR:bD} (hC:callR.Ok call) {fr:aN} {H:aa} {nx:Nat} {c:Call} {y:HV×Delta} (h:(AE P call callR fr H nx c).run=some y):fQ P call (strip fr) H nx c=some (y.1.1,y.2):=by
 have dflt:∀ (t:Tr (AV×Delta)),(t.bind hv).run=some y→t.run=some (y.1.1,y.2):=by
  intro t ht
  obtain ⟨x,h1,h2⟩:=Tr.bind_some ht
  obtain ⟨e1,e2⟩:=B5 h2
  rw[h1,e1,e2]
 unfold AE at h
 split at h
 · rename_i f hf
   unfold fQ
   rw[hf]
   dsimp only
   rw[aS] at h
   split at h
   · rename_i g a b ho
     obtain ⟨x,h1,h⟩:=Tr.bind_some h
     rw[ho]
     dsimp only
     have:=hC.2 _ _ _ _ h1
     rw[wu,wu,nF,nF,tx] at this
     rw[this,← Tr.ab h];rfl
   · rename_i d i ho
     obtain ⟨x,h1,h⟩:=Tr.bind_some h
     rw[ho]
     dsimp only
     have:=hC.2 _ _ _ _ h1
     rw[tx] at this
     rw[this,← Tr.ab h];rfl
   · exact (Tr.ae h).elim
 · rename_i hf
   unfold fQ
   rw[hf]
   dsimp only
   split at h
   · rename_i x _ t _ hx ht
     obtain ⟨v,h1,h⟩:=Tr.bind_some h
     rw[hx,ht]
     dsimp only
     have:=Hy h1
     rw[aS] at this
     obtain ⟨n,k1,k2⟩:=Option.map_eq_some_iff.1 this
     rw[k1,← Tr.ab h,← k2];rfl
   · exact (Tr.ae h).elim
 · rename_i hf
   unfold fQ
   rw[hf]
   dsimp only
   split at h
   · rename_i s x _ t u _ hx ht
     rw[hx,ht]
     dsimp only
     have h:=Ay (dflt _ h)
     rw[aS,aS] at h
     rw[m9 hC.1]
     exact h
   · exact (Tr.ae h).elim
 · rename_i hf
   unfold fQ
   rw[hf]
   dsimp only
   split at h
   · rename_i s x _ t _ hx ht
     rw[hx,ht]
     dsimp only
     have h:=EP (dflt _ h)
     rw[aS,aS] at h
     exact h
   · exact (Tr.ae h).elim
 · rename_i hf
   unfold fQ
   rw[hf]
   dsimp only
   split at h
   · rename_i s _ t _ hx ht
     rw[hx,ht]
     dsimp only
     have h:=Dl (dflt _ h)
     rw[aS] at h
     exact h
   · exact (Tr.ae h).elim
 · rename_i hf
   unfold fQ
   rw[hf]
   dsimp only
   rw[tz] at h
   split at h
   · rename_i k x r hx
     obtain ⟨v,h1,h⟩:=Tr.bind_some h
     rw[hx]
     dsimp only[n7]
     rw[n8 _ _ _ h1,← Tr.ab h];rfl
   · exact (Tr.ae h).elim
 · rename_i hf
   unfold fQ
   rw[hf]
   dsimp only
   rw[tz] at h
   split at h
   · rename_i k x r hx
     obtain ⟨v,h1,h⟩:=Tr.bind_some h
     rw[hx]
     dsimp only[n7]
     rw[n8 _ _ _ h1,← Tr.ab h];rfl
   · exact (Tr.ae h).elim
 · rename_i hf
   unfold fQ
   rw[hf]
   dsimp only
   split at h
   · rename_i m k _ t _ hx ht
     rw[hx,ht]
     dsimp only
     obtain ⟨δ,h1,h⟩:=Tr.bind_some h
     have h1:=Ha h1
     rw[aS,aS] at h1
     rw[h1,← Tr.ab h]
   · exact (Tr.ae h).elim
 · have h:=dflt _ h
   rw[cU] at h;exact h

def JC (P:Program) (op:BinOp) (t:TypeId) (x y:HV):Tr HV :=
 cond (isLit x && isLit y) (match x.1,y.1 with
  | .int k a,.int k' b=>(vU (BH P op t (.int k a) (.int k' b))).bind fun v=>.ok (v,some 1)
  | a,b=>(EC P op t a b).bind fun v=>.ok (v,none))
 ((EC P op t x.1 y.1).bind fun v=>.ok (v,none))
theorem GX {P:Program} {op:BinOp} {t:TypeId} {x y v:HV} (h:(JC P op t x y).run=some v):jX P op t x.1 y.1=some v.1:=by
 have gen:∀ a b,((EC P op t a b).bind fun v=>Tr.ok ((v,none):HV)).run=some v→jX P op t a b=some v.1:=by
  intro a b h
  obtain ⟨u,h1,h⟩:=Tr.bind_some h
  rw[GY h1,← Tr.ab h]
 unfold JC at h
 cases hb:isLit x && isLit y with
 | false=>rw[hb,cond_false] at h;exact gen _ _ h
 | true =>
   rw[hb,cond_true] at h
   split at h
   · rename_i k a k' b hx hy
     obtain ⟨u,h1,h⟩:=Tr.bind_some h
     rw[cU,sj] at h1
     rw[hx,hy,h1,← Tr.ab h]
   · exact gen _ _ h

def pk (fr:aN) (l:List (Nat×Operand)):List (Nat×AV):=n5 (fun p=>(p.1,(bW fr p.2).1)) l
theorem nY (fr:aN):∀ l,pk fr l=dR (strip fr) l
 | []=>rfl
 | (i,x)::l=>by
   have e:pk fr ((i,x)::l)=(i,(bW fr x).1)::pk fr l:=rfl
   rw[e,nY fr l,aS];rfl
def Mk (op:Op):Oper→Program→aU→bD→aN→aa→Nat→Tr (HV×Delta) :=
 match op with
 | .move x=>fun _ _ _ _ fr _ _=>.ok (bW fr x,.bc)
 | .assign x=>fun _ _ _ _ fr _ _=>.ok (bW fr x,.bc)
 | .pick c a b=>fun _ _ _ _ fr _ _=>match bW fr c with
   | (.bool t,none)=>.ite t (.ok (bW fr a,.bc)) (.ok (bW fr b,.bc))
   | (.bool t,some _)=>cond t (.ok (bW fr a,.bc)) (.ok (bW fr b,.bc))
   | _=>.bad
 | .alloc t=>fun _ P _ _ _ _ nx=>match (cE P t).bind AV.row with
   | some z=>.ok ((.ptr 0 nx 0 0,none),.push (.row (js z)))
   | none=>.bad
 | .box _ x=>fun _ _ _ _ fr _ nx=>match (bW fr x).1.row with
   | some r=>.ok ((.ptr 0 nx 0 0,none),.push (.row (js r)))
   | none=>.bad
 | .build t parts=>fun _ P _ _ fr _ _=>(vU (wv P true t (pk fr parts.toList))).bind fun v=>.ok ((v,none),.bc)
 | .buildSlice t len parts=>fun _ P _ _ fr _ nx=>(vU (jy P nx t len (pk fr parts.toList))).bind fun x=>.ok ((x.1,some 1),x.2)
 | .load t a=>fun _ P _ _ fr H _=>(loadT P H t (bW fr a)).bind fun v=>.ok ((v,none),.bc)
 | .store t a x=>fun _ P _ _ fr H _=>(storeT P H t (bW fr a) (bW fr x).1).bind fun δ=>.ok ((.tup [],none),δ)
 | .nilCheck x=>fun _ _ _ _ fr _ _=>match (bW fr x).1 with
   | .ptr d i v off=>.ok (bW fr x,.bc)
   | .ptrT s r off=>.ok (bW fr x,.bc)
   | _=>.bad
 | .binOp op t x y _=>fun _ P _ _ fr _ _=>(JC P op t (bW fr x) (bW fr y)).bind fun v=>.ok (v,.bc)
 | .unOp op _ x=>fun _ _ _ _ fr _ _=>match op,bW fr x with
   | .not,(.bool b,some _)=>.ok ((.bool (cond b false true),some 1),.bc)
   | op,x=>(Qi op x.1).bind fun v=>.ok ((v,none),.bc)
 | .convert src dst x=>fun _ P _ _ fr _ _=>match P.underlying src with
   | some _=>match P.underlying dst with
     | some (.int k)=>match bW fr x with
       | (.int _ n,none)=>.ok ((.int k (Ar k n),none),.bc)
       | (.int _ n,some _)=>.ok ((.int k (wj k n),some 1),.bc)
       | _=>.bad
     | _=>.bad
   | none=>.bad
 | .makeSlice t l c=>fun _ P _ _ fr _ nx=>(nX P nx t (bW fr l).1 (bW fr c).1).bind hv
 | .slice t x lo hi mx=>fun _ P _ _ fr _ _=>cond (isLit (bW fr x) && (Ke fr lo && (Ke fr hi && Ke fr mx)))
   ((vU (qE P t (bW fr x).1 (lo.map fun y=>(bW fr y).1) (hi.map fun y=>(bW fr y).1) (mx.map fun y=>(bW fr y).1))).bind fun v=>.ok ((v,some 1),.bc))
   ((Bo P t (bW fr x).1 (lo.map fun y=>(bW fr y).1) (hi.map fun y=>(bW fr y).1) (mx.map fun y=>(bW fr y).1)).bind fun v=>.ok ((v,none),.bc))
 | .fieldAddr t x f=>fun _ P _ _ fr _ _=>(nK P t (bW fr x) f).bind fun v=>.ok (v,.bc)
 | .field t x f=>fun _ P _ _ fr _ _=>(vU (sF P t (bW fr x).1 f)).bind fun v=>.ok ((v,none),.bc)
 | .indexAddr t x i=>fun _ P _ _ fr _ _=>match (bW fr i).1 with
   | .int _ n=>(J1 P t (bW fr x) (isLit (bW fr i)) n).bind fun v=>.ok (v,.bc)
   | _=>.bad
 | .index t x i=>fun _ P _ _ fr _ _=>match (bW fr i).1 with
   | .int _ n=>(Oe P t (bW fr x).1 (isLit (bW fr i)) n).bind fun v=>.ok ((v,none),.bc)
   | _=>.bad
 | .extract t ix=>fun _ _ _ _ fr _ _=>match (bW fr t).1 with
   | .tup l=>match yA l ix with
     | some v=>.ok ((v,none),.bc)
     | none=>.bad
   | _=>.bad
 | .call c=>fun _ P call callR fr H nx=>AE P call callR fr H nx c
 | .makeMap t r=>fun _ P _ _ _ _ nx=>match r with
   | none=>.ok ((.map 0 nx,none),.push (th P t))
   | some _=>.bad
 | .mapUpdate t m k x=>fun _ P _ _ fr H _=>(Iy P H t (bW fr m).1 (bW fr k).1 (bW fr x).1).bind fun δ=>.ok ((.tup [],none),δ)
 | .insert t m k x=>fun _ P _ _ fr H _=>(Iy P H t (bW fr m).1 (bW fr k).1 (bW fr x).1).bind fun δ=>.ok ((.tup [],none),δ)
 | _=>fun o P call _ fr H nx=>(vU (evalOp P call (strip fr) H nx o)).bind hv
theorem Be {o:Oper} {P:Program} {call:aU} {callR:bD} (hC:callR.Ok call) {fr:aN} {H:aa} {nx:Nat} {y:HV×Delta} (h:(Mk o.op o P call callR fr H nx).run=some y):evalOp P call (strip fr) H nx o=some (y.1.1,y.2):=by
 have dflt:∀ (t:Tr (AV×Delta)),(t.bind hv).run=some y→t.run=some (y.1.1,y.2):=by
  intro t ht
  obtain ⟨x,h1,h2⟩:=Tr.bind_some ht
  obtain ⟨e1,e2⟩:=B5 h2
  rw[h1,e1,e2]
 have dkp:∀ (t:Tr AV),(t.bind fun v=>Tr.ok (((v,none),.bc):HV×Delta)).run=some y→t.run=some y.1.1∧y.2=.bc:=by
  intro t ht
  obtain ⟨x,h1,h2⟩:=Tr.bind_some ht
  rw[h1,← Tr.ab h2];exact ⟨rfl,rfl⟩
 have kpe:∀ {o:Option AV} {v:AV},o=some v→kp o=some (v,.bc):=by rintro o v rfl;rfl
 cases ho:o.op<;>rw[ho] at h<;>simp only[Mk] at h
 case move x =>
  unfold evalOp;rw[ho];dsimp only
  rw[← Tr.ab h,← aS]
 case assign x =>
  unfold evalOp;rw[ho];dsimp only
  rw[← Tr.ab h,← aS]
 case pick c a b =>
  unfold evalOp;rw[ho];dsimp only
  have hc':=aS fr c
  split at h
  · rename_i t hc
    rw[hc] at hc'
    rw[← hc']
    dsimp only
    rcases Tr.im h with ⟨rfl,h⟩ | ⟨rfl,h⟩<;>rw[← Tr.ab h,← aS,← aS]<;>rfl
  · rename_i t n hc
    rw[hc] at hc'
    rw[← hc']
    dsimp only
    cases t with
    | true=>rw[cond_true] at h;rw[← Tr.ab h,← aS,← aS];rfl
    | false=>rw[cond_false] at h;rw[← Tr.ab h,← aS,← aS];rfl
  · exact (Tr.ae h).elim
 case alloc t =>
  unfold evalOp;rw[ho];dsimp only
  split at h
  · rename_i z hz
    rw[hz,← Tr.ab h,Option.map_some,m9 hC.1]
  · exact (Tr.ae h).elim
 case box t x =>
  unfold evalOp;rw[ho];dsimp only
  rw[aS] at h
  split at h
  · rename_i z hz
    rw[hz,← Tr.ab h,Option.map_some,m9 hC.1]
  · exact (Tr.ae h).elim
 case build t parts =>
  unfold evalOp;rw[ho];dsimp only
  obtain ⟨h1,h2⟩:=dkp _ h
  rw[cU,nY] at h1
  rw[m9 hC.1,kpe h1,h2]
 case buildSlice t len parts =>
  unfold evalOp;rw[ho];dsimp only
  obtain ⟨x,h1,h⟩:=Tr.bind_some h
  rw[cU,nY] at h1
  rw[h1,← Tr.ab h]
 case load t a =>
  unfold evalOp;rw[ho];dsimp only
  obtain ⟨h1,h2⟩:=dkp _ h
  have h1:=za h1
  rw[aS] at h1
  rw[kpe h1,h2]
 case store t a x =>
  unfold evalOp;rw[ho];dsimp only
  obtain ⟨δ,h1,h⟩:=Tr.bind_some h
  have h1:=Eb h1
  rw[aS,aS] at h1
  rw[h1,← Tr.ab h];rfl
 case nilCheck x =>
  unfold evalOp;rw[ho];dsimp only
  rw[← aS]
  split at h
  · rename_i d i v off hx
    rw[hx,← Tr.ab h,hx]
  · rename_i s r off hx
    rw[hx,← Tr.ab h,hx]
  · exact (Tr.ae h).elim
 case binOp op t x y' g =>
  unfold evalOp;rw[ho];dsimp only
  obtain ⟨v,h1,h⟩:=Tr.bind_some h
  have h1:=GX h1
  rw[aS,aS] at h1
  rw[kpe h1,← Tr.ab h]
 case unOp op t x =>
  unfold evalOp;rw[ho];dsimp only
  split at h
  · rename_i b n hx
    have:bI (strip fr) x=.bool b:=by rw[← aS,hx]
    rw[this,← Tr.ab h]
    cases b<;>rfl
  · obtain ⟨h1,h2⟩:=dkp _ h
    have h1:=KZ h1
    rw[aS] at h1
    rw[kpe h1,h2]
 case convert s d x =>
  unfold evalOp;rw[ho];dsimp only
  split at h
  · rename_i u hu
    split at h
    · rename_i k hk
      have hx:=aS fr x
      split at h
      · rename_i n hn
        rw[hn] at hx
        rw[hu,hk,← hx]
        dsimp only
        rw[← Tr.ab h,Bw]
      · rename_i n _ hn
        rw[hn] at hx
        rw[hu,hk,← hx]
        dsimp only
        rw[← Tr.ab h,ui]
      · exact (Tr.ae h).elim
    · exact (Tr.ae h).elim
  · exact (Tr.ae h).elim
 case makeSlice t l c =>
  unfold evalOp;rw[ho];dsimp only
  have h1:=uM (dflt _ h)
  rw[aS,aS] at h1
  rw[m9 hC.1]
  exact h1
 case slice t x lo hi mx =>
  unfold evalOp;rw[ho];dsimp only
  have e:∀ z:Option Operand,(z.map fun y=>(bW fr y).1)=z.map (bI (strip fr)):=by
   intro z;cases z<;>simp[aS]
  rcases lZ h with ⟨_,h⟩ | ⟨_,h⟩
  · obtain ⟨v,h1,h2⟩:=Tr.bind_some h
    rw[cU,aS,e,e,e] at h1
    rw[kpe h1,← Tr.ab h2]
  · obtain ⟨h1,h2⟩:=dkp _ h
    have h1:=D7 h1
    rw[aS] at h1
    rw[e,e,e] at h1
    rw[kpe h1,h2]
 case fieldAddr t x f =>
  unfold evalOp;rw[ho];dsimp only
  obtain ⟨v,h1,h⟩:=Tr.bind_some h
  have h1:=uz h1
  rw[aS] at h1
  rw[kpe h1,← Tr.ab h]
 case field t x f =>
  unfold evalOp;rw[ho];dsimp only
  obtain ⟨h1,h2⟩:=dkp _ h
  rw[cU,aS] at h1
  rw[kpe h1,h2]
 case index t x i =>
  unfold evalOp;rw[ho];dsimp only
  rw[aS] at h
  split at h
  · rename_i k n hn
    obtain ⟨v,h1,h⟩:=Tr.bind_some h
    have h1:=J7 h1
    rw[aS] at h1
    rw[hn]
    dsimp only
    rw[kpe h1,← Tr.ab h]
  · exact (Tr.ae h).elim
 case indexAddr t x i =>
  unfold evalOp;rw[ho];dsimp only
  rw[aS] at h
  split at h
  · rename_i k n hn
    obtain ⟨v,h1,h⟩:=Tr.bind_some h
    have h1:=Hn h1
    rw[aS] at h1
    rw[hn]
    dsimp only
    rw[kpe h1,← Tr.ab h]
  · exact (Tr.ae h).elim
 case extract t ix =>
  unfold evalOp;rw[ho];dsimp only
  rw[aS] at h
  split at h
  · rename_i l hl
    rw[hl]
    dsimp only
    rw[kV] at h
    split at h
    · rename_i v hv'
      rw[hv',← Tr.ab h]
    · exact (Tr.ae h).elim
  · exact (Tr.ae h).elim
 case call c =>
  unfold evalOp;rw[ho];dsimp only
  exact Di hC h
 case makeMap t r =>
  unfold evalOp;rw[ho];try dsimp only
  cases r with
  | none =>
    dsimp only at h ⊢
    rw[m9 hC.1,← Tr.ab h]
  | some r=>exact (Tr.ae h).elim
 case mapUpdate t m k x =>
  unfold evalOp;rw[ho];dsimp only
  obtain ⟨δ,h1,h⟩:=Tr.bind_some h
  have h1:=C6 h1
  rw[aS,aS,aS] at h1
  rw[h1,← Tr.ab h];rfl
 case insert t m k x =>
  unfold evalOp;rw[ho];dsimp only
  obtain ⟨δ,h1,h⟩:=Tr.bind_some h
  have h1:=C6 h1
  rw[aS,aS,aS] at h1
  rw[h1,← Tr.ab h];rfl
 all_goals
  have h1:=dflt _ h
  rw[cU] at h1
  exact h1

end
end Go.Eng
