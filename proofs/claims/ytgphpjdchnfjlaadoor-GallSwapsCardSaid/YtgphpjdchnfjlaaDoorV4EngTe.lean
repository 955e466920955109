/- The engine as a tree: the other builtins; operations. -/
import Derived.Test.YtgphpjdchnfjlaaDoorV4EngTcx2
set_option linter.unusedVariables false
set_option linter.unusedSimpArgs false
namespace Go.Eng
noncomputable section

abbrev bj:=Mr→List HV→aa→Tr (HV×aa)
def jZ (l:List HV):List AV:=m4 (fun x=>x.1) l
def bj.Ok (c:bj) (call:aA):Prop:=(∃ x,call .mode [] []=some x)∧∀ tgt args H x,(c tgt args H).run=some x→call tgt (jZ args) H=some (x.1.1,x.2)
theorem mi {α:Type} {call:aA} (h:∃ x,call .mode [] []=some x) (a b:α):kW call a b=a:=by
 obtain ⟨x,h⟩:=h
 unfold kW
 rw[h]

def F7 (P:Program) (H:aa) (t:TypeId) (x:HV):Tr HV :=
 match P.underlying t with
 | some (.slice _)=>match x.1 with
   | .nils=>.ok (.int .i64 (Int.ofNat 0),some 1)
   | .slc _ _ _ _ _ len _=>.ok (.int .i64 (Int.ofNat len),x.2)
   | .slcT _ _ _ len _=>.ok (.int .i64 (Int.ofNat len),x.2)
   | _=>.bad
 | some (.array n _)=>.ok (.int .i64 (Int.ofNat n),some 1)
 | _=>(uo ((tc P H t x.1).map fun n=>AV.int .i64 n)).bind fun v=>.ok (v,none)
theorem F8 {P:Program} {H:aa} {t:TypeId} {x v:HV} (h:(F7 P H t x).run=some v):(tc P H t x.1).map (AV.int .i64)=some v.1:=by
 unfold F7 at h
 split at h
 · rename_i e hu
   unfold tc
   rw[hu]
   split at h
   · rename_i hx;rw[hx,← Tr.ab h];rfl
   · rename_i hx;rw[hx,← Tr.ab h];rfl
   · rename_i hx;rw[hx,← Tr.ab h];rfl
   · exact (Tr.af h).elim
 · rename_i hu
   unfold tc
   rw[hu,← Tr.ab h];rfl
 · obtain ⟨u,h1,h⟩:=Tr.bind_some h
   rw[cJ] at h1
   rw[h1,← Tr.ab h]
def Dl    (P:Program) (H:aa) (t:TypeId) (s x:AV):Tr (AV×Delta) :=
 match P.underlying t with
 | some (.slice e)=>match bn P e with
   | some z=>match mU x with
     | some n=>match s with
       | .slc d i v off sz m cap=>(q8 H z (Gc n m) x).bind fun new=>cond (eY H d) .bad ((vK H d i v (some 0)).bind fun r=>cond (Nat.beq sz z) (match r with
          | .M l=>(Et l off none (iS d new)).bind fun r'=>.ok (.int .i64 (Int.ofNat (Gc n m)),.set d i (v,.row r'))
          | _=>.bad) .bad)
       | _=>.bad
     | none=>.bad
   | none=>.bad
 | _=>.bad
theorem Dm {P:Program} {H:aa} {t:TypeId} {s x:AV} {y:AV×Delta} (h:(Dl P H t s x).run=some y):copyV P H t s x=some y:=by
 unfold Dl at h
 unfold copyV
 split at h
 · rename_i e hu
   split at h
   · rename_i z hs
     split at h
     · rename_i n hn
       split at h
       · rename_i d i v off sz m cap _ _
         obtain ⟨new,h1,h⟩:=Tr.bind_some h
         rw[dN] at h
         obtain ⟨hl,h⟩:=Tr.jE h
         obtain ⟨r,h2,h⟩:=Tr.bind_some h
         obtain ⟨hz,h⟩:=Tr.aO h
         have hz:=Nat.eq_of_beq_eq_true hz
         have hcv:=oR h1
         rw[AZ] at hcv
         have hcl:=q9 hcv
         rw[hu]
         dsimp only
         rw[hs,hn]
         dsimp only[mU]
         rw[hcv]
         dsimp only
         rw[hl,if_neg (by simp),kH h2]
         dsimp only
         split at h
         · rename_i l _
           obtain ⟨r',h3,h⟩:=Tr.bind_some h
           obtain ⟨k1,k2⟩:=vF h3
           rw[eU,hcl] at k1
           rw[if_pos ⟨hz,by rw[hz];exact k1⟩,k2,← Tr.ab h,AZ]
           rfl
         · exact (Tr.af h).elim
       · exact (Tr.af h).elim
     · exact (Tr.af h).elim
   · exact (Tr.af h).elim
 · exact (Tr.af h).elim
def vW (z:Row) (n:Nat):Row :=
 match z with
 | .I k l=>cond (wa l) (.M [.arr k (fun _=>0) (fw n (ia l))]) (dx z n)
 | z=>dx z n
theorem uK (z:Row) (n:Nat):vW z n=dx z n:=by
 cases z with
 | I k l =>
   simp only[vW]
   cases h:wa l with
   | true=>simp only[cond_true,dx,h,if_true,ct,db]
   | false=>rfl
 | _=>rfl
def yY (P:Program) (H:aa) (t:TypeId) (s:AV):Tr (AV×Delta) :=
 match P.underlying t with
 | some (.slice e)=>match s with
   | .slc d i v off sz len _=>cond (eY H d) .bad (match (cq P e).bind AV.row with
     | some z=>match bn P e with
       | some n=>cond (Nat.beq n sz) (cond (Nat.beq (gT z) sz) (.req (cI 0 len) ((vK H d i v (some 0)).bind fun r=>match r with
          | .M l=>(Et l off none (vW z len)).bind fun r'=>.ok (.tup [],.set d i (v,.row r'))
          | _=>.bad)) .bad) .bad
       | none=>.bad
     | none=>.bad)
   | _=>.bad
 | _=>.bad
theorem Ab (z:Row) (n:Nat):(dx z n).len=n*z.len:=by
 have fn:∀ l:List AV,(Dy l n).len=n*l.length:=by
  intro l
  unfold Dy
  split
  · split<;>simp[Row.len,dz]
  · simp[Row.len,dz]
 cases z with
 | I k l=>simp only[dx];split<;>simp[Row.len,av,aH,dz]
 | _=>simp only[dx,fn,Row.bh]
theorem BO {P:Program} {H:aa} {t:TypeId} {s:AV} {y:AV×Delta} (h:(yY P H t s).run=some y):re P H t s=some y:=by
 unfold yY at h
 unfold re
 split at h
 · rename_i e hu
   split at h
   · rename_i d i v off sz len cap
     rw[dN] at h
     obtain ⟨hl,h⟩:=Tr.jE h
     split at h
     · rename_i z hz
       split at h
       · rename_i n hs
         obtain ⟨hn,h⟩:=Tr.aO h
         obtain ⟨hzl,h⟩:=Tr.aO h
         have hn:=Nat.eq_of_beq_eq_true hn
         rw[eT] at hzl
         have hzl:=Nat.eq_of_beq_eq_true hzl
         obtain ⟨h0,h⟩:=Tr.aK h
         rw[gO,decide_eq_true_eq] at h0
         obtain ⟨r,h2,h⟩:=Tr.bind_some h
         rw[hu]
         dsimp only
         rw[hl,if_neg (by simp),hz,kH h2]
         dsimp only
         split at h
         · rename_i l _
           obtain ⟨r',h3,h⟩:=Tr.bind_some h
           obtain ⟨k1,k2⟩:=vF h3
           rw[uK] at k1 k2
           rw[Ab,hzl] at k1
           rw[if_pos ⟨hzl,by rw[hs,hn],k1⟩,← Tr.ab h]
           rw[if_neg (by omega)]
           simp only[wT,if_true]
           rw[← k2]
         · exact (Tr.af h).elim
       · exact (Tr.af h).elim
     · exact (Tr.af h).elim
   · exact (Tr.af h).elim
 · exact (Tr.af h).elim
def mX (P:Program) (nx:Nat) (t:TypeId) (l c:AV):Tr (AV×Delta) :=
 match P.underlying t with
 | some (.slice e)=>match l with
   | .int _ l=>match c with
     | .int _ c=>match P.info? e with
       | some inf=>match (cq P e).bind AV.row with
         | some z=>.req (CN l c inf.bytes) (cond (Nat.beq (gT z) inf.size) (.ok (.slc 0 nx 0 0 inf.size (b8 l) (some (b8 c)),.push (.row (vW z (b8 c))))) .bad)
         | none=>.bad
       | none=>.bad
     | _=>.bad
   | _=>.bad
 | _=>.bad
theorem te {P:Program} {nx:Nat} {t:TypeId} {l c:AV} {y:AV×Delta} (h:(mX P nx t l c).run=some y):iI P true nx t l c=some y:=by
 unfold mX at h
 unfold iI
 split at h
 · rename_i e hu
   split at h
   · split at h
     · split at h
       · rename_i inf hi
         split at h
         · rename_i z hz
           obtain ⟨hc,h⟩:=Tr.aK h
           obtain ⟨hl,h⟩:=Tr.aO h
           rw[zC,decide_eq_true_eq] at hc
           rw[eT] at hl
           have hl:=Nat.eq_of_beq_eq_true hl
           rw[hu]
           dsimp only
           rw[hi,hz]
           dsimp only
           rw[if_pos ⟨hc.1,hc.2.1,hc.2.2.1,hc.2.2.2,hl⟩,← Tr.ab h,uK,lW,lW]
           rfl
         · exact (Tr.af h).elim
       · exact (Tr.af h).elim
     · exact (Tr.af h).elim
   · exact (Tr.af h).elim
 · exact (Tr.af h).elim

def hv (x:AV×Delta):Tr (HV×Delta):=.ok ((x.1,none),x.2)
theorem AK {x:AV×Delta} {y:HV×Delta} (h:(hv x).run=some y):y.1.1=x.1∧y.2=x.2:=by
 have:=Tr.ab h
 rw[← this]
 exact ⟨rfl,rfl⟩
def rZ (l:List AV):List HV:=m4 (fun x=>(x,none)) l
theorem mJ:∀ l:List AV,jZ (rZ l)=l
 | []=>rfl
 | x::l=>by
   have e:jZ (rZ (x::l))=x::jZ (rZ l):=rfl
   rw[e,mJ l]
theorem uM:∀ a b:List HV,jZ (mn a b)=jZ a++jZ b
 | [],b=>rfl
 | x::a,b=>by
   have e:jZ (mn (x::a) b)=x.1::jZ (mn a b):=rfl
   rw[e,uM a b];rfl
def xt (fr:aN) (l:List Operand):List HV:=m4 (fun x=>bR fr x) l
theorem r8 (fr:aN):∀ l,jZ (xt fr l)=jr (strip fr) l
 | []=>rfl
 | x::l=>by
   have e:jZ (xt fr (x::l))=(bR fr x).1::jZ (xt fr l):=rfl
   rw[e,r8 fr l,aU];rfl
def G3   (P:Program) (H:aa) (t:TypeId) (m key x:AV):Tr Delta :=
 match P.underlying t with
 | some (.map kt _)=>match m with
   | .map d i=>cond (aD H d) .bad (cond (jq P kt key) (match ar H d i with
     | (0,.fmap q h g c)=>match tb q key with
       | some n=>match xo x with
         | some y=>.ok (.set d i (0,.fmap q (lS h n true) (lT g n y) (pI (h n) c)))
         | none=>.bad
       | none=>.bad
     | _=>.bad) .bad)
   | _=>.bad
 | _=>.bad
def IT (P:Program) (H:aa) (t:TypeId) (m key:AV):Tr Delta :=
 match P.underlying t with
 | some (.map kt _)=>match m with
   | .map d i=>cond (aD H d) .bad (cond (jq P kt key) (match ar H d i with
     | (0,.fmap q h g c)=>match tb q key with
       | some n=>.ok (.set d i (0,.fmap q (lS h n false) (lT g n 0) (wh (h n) c)))
       | none=>.bad
     | _=>.bad) .bad)
   | _=>.bad
 | _=>.bad
def Jn (fr:aN):Option Operand→Bool
 | none=>true
 | some y=>isLit (bR fr y)
theorem lf {α:Type} {b:Bool} {s t:Tr α} {x:α} (h:(cond b s t).run=some x):b=true∧s.run=some x∨b=false∧t.run=some x:=by
 cases b
 · exact .inr ⟨rfl,h⟩
 · exact .inl ⟨rfl,h⟩
theorem BE {P:Program} {H:aa} {t:TypeId} {m key x:AV} {δ:Delta} (h:(G3 P H t m key x).run=some δ):jl P H t m key x=some δ:=by
 unfold G3 at h
 unfold jl
 split at h
 · rename_i kt et hu
   rw[hu]
   split at h
   · rename_i d i
     dsimp only
     rcases lf h with ⟨_,h⟩ | ⟨h1,h⟩
     · exact (Tr.af h).elim
     · rcases lf h with ⟨h2,h⟩ | ⟨_,h⟩
       · rw[if_neg (by rw[h1];simp),if_pos h2]
         split at h
         · rename_i q f g c hg
           rw[hg]
           try dsimp only
           split at h
           · rename_i n hn
             split at h
             · rename_i y hy
               simp only[hn,hy,← Tr.ab h,gF,gG,ld]
             · exact (Tr.af h).elim
           · exact (Tr.af h).elim
         · exact (Tr.af h).elim
       · exact (Tr.af h).elim
   · exact (Tr.af h).elim
 · exact (Tr.af h).elim
theorem FN {P:Program} {H:aa} {t:TypeId} {m key:AV} {δ:Delta} (h:(IT P H t m key).run=some δ):nJ P H t m key=some (.tup [],δ):=by
 unfold IT at h
 unfold nJ
 split at h
 · rename_i kt et hu
   rw[hu]
   split at h
   · rename_i d i
     dsimp only
     rcases lf h with ⟨_,h⟩ | ⟨h1,h⟩
     · exact (Tr.af h).elim
     · rcases lf h with ⟨h2,h⟩ | ⟨_,h⟩
       · rw[if_neg (by rw[h1];simp),if_pos h2]
         split at h
         · rename_i q f g c hg
           rw[hg]
           try dsimp only
           split at h
           · rename_i n hn
             simp only[hn,← Tr.ab h,gF,gG,rf]
           · exact (Tr.af h).elim
         · exact (Tr.af h).elim
       · exact (Tr.af h).elim
   · exact (Tr.af h).elim
 · exact (Tr.af h).elim
def yW (P:Program) (call:aA) (callR:bj) (fr:aN) (H:aa) (nx:Nat) (c:Call):Tr (HV×Delta) :=
 match c.callee with
 | .value f=>match (bR fr f).1 with
   | .fn (.func g) a b=>(callR (.fn g) (mn (rZ a) (mn (xt fr c.args.toList) (rZ b))) H).bind fun x=>.ok (x.1,.heap x.2)
   | .yld d i=>(callR (.round d i) (xt fr c.args.toList) H).bind fun x=>.ok (x.1,.heap x.2)
   | _=>.bad
 | .builtin .len=>match c.args.toList,c.argTypes.toList with
   | x::_,t::_=>(F7 P H t (bR fr x)).bind fun v=>.ok (v,.bk)
   | _,_=>.bad
 | .builtin .append=>match c.args.toList,c.argTypes.toList with
   | s::x::_,t::u::_=>(nC P H nx t u (bR fr s).1 (bR fr x).1).bind hv
   | _,_=>.bad
 | .builtin .copy=>match c.args.toList,c.argTypes.toList with
   | s::x::_,t::_=>(Dl P H t (bR fr s).1 (bR fr x).1).bind hv
   | _,_=>.bad
 | .builtin .clear=>match c.args.toList,c.argTypes.toList with
   | s::_,t::_=>(yY P H t (bR fr s).1).bind hv
   | _,_=>.bad
 | .builtin .min=>match xu fr c.args.toList with
   | .int k x::r=>(om false k x r).bind fun v=>.ok ((v,none),.bk)
   | _=>.bad
 | .builtin .max=>match xu fr c.args.toList with
   | .int k x::r=>(om true k x r).bind fun v=>.ok ((v,none),.bk)
   | _=>.bad
 | .builtin .delete=>match c.args.toList,c.argTypes.toList with
   | m::k::_,t::_=>(IT P H t (bR fr m).1 (bR fr k).1).bind fun δ=>.ok ((.tup [],none),δ)
   | _,_=>.bad
 | _=>(uo (fg P call (strip fr) H nx c)).bind hv
theorem BM {P:Program} {call:aA} {callR:bj} (hC:callR.Ok call) {fr:aN} {H:aa} {nx:Nat} {c:Call} {y:HV×Delta} (h:(yW P call callR fr H nx c).run=some y):fg P call (strip fr) H nx c=some (y.1.1,y.2):=by
 have dflt:∀ (t:Tr (AV×Delta)),(t.bind hv).run=some y→t.run=some (y.1.1,y.2):=by
  intro t ht
  obtain ⟨x,h1,h2⟩:=Tr.bind_some ht
  obtain ⟨e1,e2⟩:=AK h2
  rw[h1,e1,e2]
 unfold yW at h
 split at h
 · rename_i f hf
   unfold fg
   rw[hf]
   dsimp only
   rw[aU] at h
   split at h
   · rename_i g a b ho
     obtain ⟨x,h1,h⟩:=Tr.bind_some h
     rw[ho]
     dsimp only
     have:=hC.2 _ _ _ _ h1
     rw[uM,uM,mJ,mJ,r8] at this
     rw[this,← Tr.ab h];rfl
   · rename_i d i ho
     obtain ⟨x,h1,h⟩:=Tr.bind_some h
     rw[ho]
     dsimp only
     have:=hC.2 _ _ _ _ h1
     rw[r8] at this
     rw[this,← Tr.ab h];rfl
   · exact (Tr.af h).elim
 · rename_i hf
   unfold fg
   rw[hf]
   dsimp only
   split at h
   · rename_i x _ t _ hx ht
     obtain ⟨v,h1,h⟩:=Tr.bind_some h
     rw[hx,ht]
     dsimp only
     have:=F8 h1
     rw[aU] at this
     obtain ⟨n,k1,k2⟩:=Option.map_eq_some_iff.1 this
     rw[k1,← Tr.ab h,← k2];rfl
   · exact (Tr.af h).elim
 · rename_i hf
   unfold fg
   rw[hf]
   dsimp only
   split at h
   · rename_i s x _ t u _ hx ht
     rw[hx,ht]
     dsimp only
     have h:=yQ (dflt _ h)
     rw[aU,aU] at h
     rw[mi hC.1]
     exact h
   · exact (Tr.af h).elim
 · rename_i hf
   unfold fg
   rw[hf]
   dsimp only
   split at h
   · rename_i s x _ t _ hx ht
     rw[hx,ht]
     dsimp only
     have h:=Dm (dflt _ h)
     rw[aU,aU] at h
     exact h
   · exact (Tr.af h).elim
 · rename_i hf
   unfold fg
   rw[hf]
   dsimp only
   split at h
   · rename_i s _ t _ hx ht
     rw[hx,ht]
     dsimp only
     have h:=BO (dflt _ h)
     rw[aU] at h
     exact h
   · exact (Tr.af h).elim
 · rename_i hf
   unfold fg
   rw[hf]
   dsimp only
   rw[r9] at h
   split at h
   · rename_i k x r hx
     obtain ⟨v,h1,h⟩:=Tr.bind_some h
     rw[hx]
     dsimp only[m6]
     rw[m7 _ _ _ h1,← Tr.ab h];rfl
   · exact (Tr.af h).elim
 · rename_i hf
   unfold fg
   rw[hf]
   dsimp only
   rw[r9] at h
   split at h
   · rename_i k x r hx
     obtain ⟨v,h1,h⟩:=Tr.bind_some h
     rw[hx]
     dsimp only[m6]
     rw[m7 _ _ _ h1,← Tr.ab h];rfl
   · exact (Tr.af h).elim
 · rename_i hf
   unfold fg
   rw[hf]
   dsimp only
   split at h
   · rename_i m k _ t _ hx ht
     rw[hx,ht]
     dsimp only
     obtain ⟨δ,h1,h⟩:=Tr.bind_some h
     have h1:=FN h1
     rw[aU,aU] at h1
     rw[h1,← Tr.ab h]
   · exact (Tr.af h).elim
 · have h:=dflt _ h
   rw[cJ] at h;exact h

def IH (P:Program) (op:BinOp) (t:TypeId) (x y:HV):Tr HV :=
 cond (isLit x && isLit y) (match x.1,y.1 with
  | .int k a,.int k' b=>(uo (Ak P op t (.int k a) (.int k' b))).bind fun v=>.ok (v,some 1)
  | a,b=>(CZ P op t a b).bind fun v=>.ok (v,none))
 ((CZ P op t x.1 y.1).bind fun v=>.ok (v,none))
theorem Fy {P:Program} {op:BinOp} {t:TypeId} {x y v:HV} (h:(IH P op t x y).run=some v):jC P op t x.1 y.1=some v.1:=by
 have gen:∀ a b,((CZ P op t a b).bind fun v=>Tr.ok ((v,none):HV)).run=some v→jC P op t a b=some v.1:=by
  intro a b h
  obtain ⟨u,h1,h⟩:=Tr.bind_some h
  rw[Fz h1,← Tr.ab h]
 unfold IH at h
 cases hb:isLit x && isLit y with
 | false=>rw[hb,cond_false] at h;exact gen _ _ h
 | true =>
   rw[hb,cond_true] at h
   split at h
   · rename_i k a k' b hx hy
     obtain ⟨u,h1,h⟩:=Tr.bind_some h
     rw[cJ,qX] at h1
     rw[hx,hy,h1,← Tr.ab h]
   · exact gen _ _ h

def oh (fr:aN) (l:List (Nat×Operand)):List (Nat×AV):=m4 (fun p=>(p.1,(bR fr p.2).1)) l
theorem mY (fr:aN):∀ l,oh fr l=dE (strip fr) l
 | []=>rfl
 | (i,x)::l=>by
   have e:oh fr ((i,x)::l)=(i,(bR fr x).1)::oh fr l:=rfl
   rw[e,mY fr l,aU];rfl
def Ly (op:Op):Oper→Program→aA→bj→aN→aa→Nat→Tr (HV×Delta) :=
 match op with
 | .move x=>fun _ _ _ _ fr _ _=>.ok (bR fr x,.bk)
 | .assign x=>fun _ _ _ _ fr _ _=>.ok (bR fr x,.bk)
 | .pick c a b=>fun _ _ _ _ fr _ _=>match bR fr c with
   | (.bool t,none)=>.ite t (.ok (bR fr a,.bk)) (.ok (bR fr b,.bk))
   | (.bool t,some _)=>cond t (.ok (bR fr a,.bk)) (.ok (bR fr b,.bk))
   | _=>.bad
 | .alloc t=>fun _ P _ _ _ _ nx=>match (cq P t).bind AV.row with
   | some z=>.ok ((.ptr 0 nx 0 0,none),.push (.row (iY z)))
   | none=>.bad
 | .box _ x=>fun _ _ _ _ fr _ nx=>match (bR fr x).1.row with
   | some r=>.ok ((.ptr 0 nx 0 0,none),.push (.row (iY r)))
   | none=>.bad
 | .build t parts=>fun _ P _ _ fr _ _=>(uo (uO P true t (oh fr parts.toList))).bind fun v=>.ok ((v,none),.bk)
 | .buildSlice t len parts=>fun _ P _ _ fr _ nx=>(uo (jd P nx t len (oh fr parts.toList))).bind fun x=>.ok ((x.1,some 1),x.2)
 | .load t a=>fun _ P _ _ fr H _=>(loadT P H t (bR fr a)).bind fun v=>.ok ((v,none),.bk)
 | .store t a x=>fun _ P _ _ fr H _=>(storeT P H t (bR fr a) (bR fr x).1).bind fun δ=>.ok ((.tup [],none),δ)
 | .nilCheck x=>fun _ _ _ _ fr _ _=>match (bR fr x).1 with
   | .ptr d i v off=>.ok (bR fr x,.bk)
   | .ptrT s r off=>.ok (bR fr x,.bk)
   | _=>.bad
 | .binOp op t x y _=>fun _ P _ _ fr _ _=>(IH P op t (bR fr x) (bR fr y)).bind fun v=>.ok (v,.bk)
 | .unOp op _ x=>fun _ _ _ _ fr _ _=>match op,bR fr x with
   | .not,(.bool b,some _)=>.ok ((.bool (cond b false true),some 1),.bk)
   | op,x=>(Pv op x.1).bind fun v=>.ok ((v,none),.bk)
 | .convert src dst x=>fun _ P _ _ fr _ _=>match P.underlying src with
   | some _=>match P.underlying dst with
     | some (.int k)=>match bR fr x with
       | (.int _ n,none)=>.ok ((.int k (kU k n),none),.bk)
       | (.int _ n,some _)=>.ok ((.int k (uH k n),some 1),.bk)
       | _=>.bad
     | _=>.bad
   | none=>.bad
 | .makeSlice t l c=>fun _ P _ _ fr _ nx=>(mX P nx t (bR fr l).1 (bR fr c).1).bind hv
 | .slice t x lo hi mx=>fun _ P _ _ fr _ _=>cond (isLit (bR fr x) && (Jn fr lo && (Jn fr hi && Jn fr mx)))
   ((uo (pD P t (bR fr x).1 (lo.map fun y=>(bR fr y).1) (hi.map fun y=>(bR fr y).1) (mx.map fun y=>(bR fr y).1))).bind fun v=>.ok ((v,some 1),.bk))
   ((zT P t (bR fr x).1 (lo.map fun y=>(bR fr y).1) (hi.map fun y=>(bR fr y).1) (mx.map fun y=>(bR fr y).1)).bind fun v=>.ok ((v,none),.bk))
 | .fieldAddr t x f=>fun _ P _ _ fr _ _=>(mN P t (bR fr x) f).bind fun v=>.ok (v,.bk)
 | .field t x f=>fun _ P _ _ fr _ _=>(uo (rr P t (bR fr x).1 f)).bind fun v=>.ok ((v,none),.bk)
 | .indexAddr t x i=>fun _ P _ _ fr _ _=>match (bR fr i).1 with
   | .int _ n=>(Jc P t (bR fr x) (isLit (bR fr i)) n).bind fun v=>.ok (v,.bk)
   | _=>.bad
 | .index t x i=>fun _ P _ _ fr _ _=>match (bR fr i).1 with
   | .int _ n=>(Na P t (bR fr x).1 (isLit (bR fr i)) n).bind fun v=>.ok ((v,none),.bk)
   | _=>.bad
 | .extract t ix=>fun _ _ _ _ fr _ _=>match (bR fr t).1 with
   | .tup l=>match wI l ix with
     | some v=>.ok ((v,none),.bk)
     | none=>.bad
   | _=>.bad
 | .call c=>fun _ P call callR fr H nx=>yW P call callR fr H nx c
 | .makeMap t r=>fun _ P _ _ _ _ nx=>match r with
   | none=>.ok ((.map 0 nx,none),.push (rY P t))
   | some _=>.bad
 | .mapUpdate t m k x=>fun _ P _ _ fr H _=>(G3 P H t (bR fr m).1 (bR fr k).1 (bR fr x).1).bind fun δ=>.ok ((.tup [],none),δ)
 | .insert t m k x=>fun _ P _ _ fr H _=>(G3 P H t (bR fr m).1 (bR fr k).1 (bR fr x).1).bind fun δ=>.ok ((.tup [],none),δ)
 | _=>fun o P call _ fr H nx=>(uo (evalOp P call (strip fr) H nx o)).bind hv
theorem zJ {o:Oper} {P:Program} {call:aA} {callR:bj} (hC:callR.Ok call) {fr:aN} {H:aa} {nx:Nat} {y:HV×Delta} (h:(Ly o.op o P call callR fr H nx).run=some y):evalOp P call (strip fr) H nx o=some (y.1.1,y.2):=by
 have dflt:∀ (t:Tr (AV×Delta)),(t.bind hv).run=some y→t.run=some (y.1.1,y.2):=by
  intro t ht
  obtain ⟨x,h1,h2⟩:=Tr.bind_some ht
  obtain ⟨e1,e2⟩:=AK h2
  rw[h1,e1,e2]
 have dkp:∀ (t:Tr AV),(t.bind fun v=>Tr.ok (((v,none),.bk):HV×Delta)).run=some y→t.run=some y.1.1∧y.2=.bk:=by
  intro t ht
  obtain ⟨x,h1,h2⟩:=Tr.bind_some ht
  rw[h1,← Tr.ab h2];exact ⟨rfl,rfl⟩
 have kpe:∀ {o:Option AV} {v:AV},o=some v→kp o=some (v,.bk):=by rintro o v rfl;rfl
 cases ho:o.op<;>rw[ho] at h<;>simp only[Ly] at h
 case move x =>
  unfold evalOp;rw[ho];dsimp only
  rw[← Tr.ab h,← aU]
 case assign x =>
  unfold evalOp;rw[ho];dsimp only
  rw[← Tr.ab h,← aU]
 case pick c a b =>
  unfold evalOp;rw[ho];dsimp only
  have hc':=aU fr c
  split at h
  · rename_i t hc
    rw[hc] at hc'
    rw[← hc']
    dsimp only
    rcases Tr.fL h with ⟨rfl,h⟩ | ⟨rfl,h⟩<;>rw[← Tr.ab h,← aU,← aU]<;>rfl
  · rename_i t n hc
    rw[hc] at hc'
    rw[← hc']
    dsimp only
    cases t with
    | true=>rw[cond_true] at h;rw[← Tr.ab h,← aU,← aU];rfl
    | false=>rw[cond_false] at h;rw[← Tr.ab h,← aU,← aU];rfl
  · exact (Tr.af h).elim
 case alloc t =>
  unfold evalOp;rw[ho];dsimp only
  split at h
  · rename_i z hz
    rw[hz,← Tr.ab h,Option.map_some,mi hC.1]
  · exact (Tr.af h).elim
 case box t x =>
  unfold evalOp;rw[ho];dsimp only
  rw[aU] at h
  split at h
  · rename_i z hz
    rw[hz,← Tr.ab h,Option.map_some,mi hC.1]
  · exact (Tr.af h).elim
 case build t parts =>
  unfold evalOp;rw[ho];dsimp only
  obtain ⟨h1,h2⟩:=dkp _ h
  rw[cJ,mY] at h1
  rw[mi hC.1,kpe h1,h2]
 case buildSlice t len parts =>
  unfold evalOp;rw[ho];dsimp only
  obtain ⟨x,h1,h⟩:=Tr.bind_some h
  rw[cJ,mY] at h1
  rw[h1,← Tr.ab h]
 case load t a =>
  unfold evalOp;rw[ho];dsimp only
  obtain ⟨h1,h2⟩:=dkp _ h
  have h1:=w8 h1
  rw[aU] at h1
  rw[kpe h1,h2]
 case store t a x =>
  unfold evalOp;rw[ho];dsimp only
  obtain ⟨δ,h1,h⟩:=Tr.bind_some h
  have h1:=CF h1
  rw[aU,aU] at h1
  rw[h1,← Tr.ab h];rfl
 case nilCheck x =>
  unfold evalOp;rw[ho];dsimp only
  rw[← aU]
  split at h
  · rename_i d i v off hx
    rw[hx,← Tr.ab h,hx]
  · rename_i s r off hx
    rw[hx,← Tr.ab h,hx]
  · exact (Tr.af h).elim
 case binOp op t x y' g =>
  unfold evalOp;rw[ho];dsimp only
  obtain ⟨v,h1,h⟩:=Tr.bind_some h
  have h1:=Fy h1
  rw[aU,aU] at h1
  rw[kpe h1,← Tr.ab h]
 case unOp op t x =>
  unfold evalOp;rw[ho];dsimp only
  split at h
  · rename_i b n hx
    have:bD (strip fr) x=.bool b:=by rw[← aU,hx]
    rw[this,← Tr.ab h]
    cases b<;>rfl
  · obtain ⟨h1,h2⟩:=dkp _ h
    have h1:=J6 h1
    rw[aU] at h1
    rw[kpe h1,h2]
 case convert s d x =>
  unfold evalOp;rw[ho];dsimp only
  split at h
  · rename_i u hu
    split at h
    · rename_i k hk
      have hx:=aU fr x
      split at h
      · rename_i n hn
        rw[hn] at hx
        rw[hu,hk,← hx]
        dsimp only
        rw[← Tr.ab h,Fb]
      · rename_i n _ hn
        rw[hn] at hx
        rw[hu,hk,← hx]
        dsimp only
        rw[← Tr.ab h,sH]
      · exact (Tr.af h).elim
    · exact (Tr.af h).elim
  · exact (Tr.af h).elim
 case makeSlice t l c =>
  unfold evalOp;rw[ho];dsimp only
  have h1:=te (dflt _ h)
  rw[aU,aU] at h1
  rw[mi hC.1]
  exact h1
 case slice t x lo hi mx =>
  unfold evalOp;rw[ho];dsimp only
  have e:∀ z:Option Operand,(z.map fun y=>(bR fr y).1)=z.map (bD (strip fr)):=by
   intro z;cases z<;>simp[aU]
  rcases lf h with ⟨_,h⟩ | ⟨_,h⟩
  · obtain ⟨v,h1,h2⟩:=Tr.bind_some h
    rw[cJ,aU,e,e,e] at h1
    rw[kpe h1,← Tr.ab h2]
  · obtain ⟨h1,h2⟩:=dkp _ h
    have h1:=CA h1
    rw[aU] at h1
    rw[e,e,e] at h1
    rw[kpe h1,h2]
 case fieldAddr t x f =>
  unfold evalOp;rw[ho];dsimp only
  obtain ⟨v,h1,h⟩:=Tr.bind_some h
  have h1:=sY h1
  rw[aU] at h1
  rw[kpe h1,← Tr.ab h]
 case field t x f =>
  unfold evalOp;rw[ho];dsimp only
  obtain ⟨h1,h2⟩:=dkp _ h
  rw[cJ,aU] at h1
  rw[kpe h1,h2]
 case index t x i =>
  unfold evalOp;rw[ho];dsimp only
  rw[aU] at h
  split at h
  · rename_i k n hn
    obtain ⟨v,h1,h⟩:=Tr.bind_some h
    have h1:=Jj h1
    rw[aU] at h1
    rw[hn]
    dsimp only
    rw[kpe h1,← Tr.ab h]
  · exact (Tr.af h).elim
 case indexAddr t x i =>
  unfold evalOp;rw[ho];dsimp only
  rw[aU] at h
  split at h
  · rename_i k n hn
    obtain ⟨v,h1,h⟩:=Tr.bind_some h
    have h1:=F1 h1
    rw[aU] at h1
    rw[hn]
    dsimp only
    rw[kpe h1,← Tr.ab h]
  · exact (Tr.af h).elim
 case extract t ix =>
  unfold evalOp;rw[ho];dsimp only
  rw[aU] at h
  split at h
  · rename_i l hl
    rw[hl]
    dsimp only
    rw[kj] at h
    split at h
    · rename_i v hv'
      rw[hv',← Tr.ab h]
    · exact (Tr.af h).elim
  · exact (Tr.af h).elim
 case call c =>
  unfold evalOp;rw[ho];dsimp only
  exact BM hC h
 case makeMap t r =>
  unfold evalOp;rw[ho];try dsimp only
  cases r with
  | none =>
    dsimp only at h ⊢
    rw[mi hC.1,← Tr.ab h]
  | some r=>exact (Tr.af h).elim
 case mapUpdate t m k x =>
  unfold evalOp;rw[ho];dsimp only
  obtain ⟨δ,h1,h⟩:=Tr.bind_some h
  have h1:=BE h1
  rw[aU,aU,aU] at h1
  rw[h1,← Tr.ab h];rfl
 case insert t m k x =>
  unfold evalOp;rw[ho];dsimp only
  obtain ⟨δ,h1,h⟩:=Tr.bind_some h
  have h1:=BE h1
  rw[aU,aU,aU] at h1
  rw[h1,← Tr.ab h];rfl
 all_goals
  have h1:=dflt _ h
  rw[cJ] at h1
  exact h1

end
end Go.Eng
