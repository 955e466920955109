/- The engine as a tree: the other builtins; operations. -/
import Derived.Test.YtjmjkhpfipglcaaV7EngTcx2
namespace Go.Eng
set_option linter.unusedVariables false
set_option linter.unusedSimpArgs false
noncomputable section

abbrev cr:=Lx→List HV→ae→Tr (HV×ae)
def py (l:List HV):List AV:=qk (fun x=>x.1) l
def cr.Ok (c:cr) (call:bG):Prop:=(∃ x,call .mode [] []=some x)∧∀ tgt args H x,(c tgt args H).run=some x→call tgt (py args) H=some (x.1.1,x.2)
theorem mg {α:Type} {call:bG} (h:∃ x,call .mode [] []=some x) (a b:α):mw call a b=a:=by
 obtain ⟨x,h⟩:=h
 unfold mw
 rw[h]

def EC (P:Program) (H:ae) (t:TypeId) (x:HV):Tr HV :=
 match P.underlying t with
 | some (.slice _)=>match x.1 with
   | .nils=>.ok (.int .i64 (Int.ofNat 0),some 1)
   | .slc _ _ _ _ _ len _=>.ok (.int .i64 (Int.ofNat len),x.2)
   | .slcT _ _ _ len _=>.ok (.int .i64 (Int.ofNat len),x.2)
   | _=>.bad
 | some (.array n _)=>.ok (.int .i64 (Int.ofNat n),some 1)
 | _=>(uW ((sZ P H t x.1).map fun n=>AV.int .i64 n)).bind fun v=>.ok (v,none)
theorem ED {P:Program} {H:ae} {t:TypeId} {x v:HV} (h:(EC P H t x).run=some v):(sZ P H t x.1).map (AV.int .i64)=some v.1:=by
 unfold EC at h
 split at h
 · rename_i e hu
   unfold sZ
   rw[hu]
   split at h
   · rename_i hx;rw[hx,← Tr.ab h];rfl
   · rename_i hx;rw[hx,← Tr.ab h];rfl
   · rename_i hx;rw[hx,← Tr.ab h];rfl
   · exact (Tr.ag h).elim
 · rename_i hu
   unfold sZ
   rw[hu,← Tr.ab h];rfl
 · obtain ⟨u,h1,h⟩:=Tr.bind_some h
   rw[dw] at h1
   rw[h1,← Tr.ab h]
def BW    (P:Program) (H:ae) (t:TypeId) (s x:AV):Tr (AV×Delta) :=
 match P.underlying t with
 | some (.slice e)=>match bR P e with
   | some z=>match mX x with
     | some n=>match s with
       | .slc d i v off sz m cap=>(qQ H z (uS n m) x).bind fun new=>cond (jB H d) .bad ((vk H d i v (match cap with | some _=>none | none=>some 0)).bind fun r=>cond (Nat.beq sz z) (match r with
          | .M l=>(CT l off none (mz d new)).bind fun r'=>.ok (.int .i64 (Int.ofNat (uS n m)),.set d i (v,.row r'))
          | _=>.bad) .bad)
       | _=>.bad
     | none=>.bad
   | none=>.bad
 | _=>.bad
theorem BX {P:Program} {H:ae} {t:TypeId} {s x:AV} {y:AV×Delta} (h:(BW P H t s x).run=some y):copyV P H t s x=some y:=by
 unfold BW at h
 unfold copyV
 split at h
 · rename_i e hu
   split at h
   · rename_i z hs
     split at h
     · rename_i n hn
       split at h
       · rename_i d i v off sz m cap _ _
         obtain ⟨new,h1,h⟩:=Tr.bind_some h
         rw[gA] at h
         obtain ⟨hl,h⟩:=Tr.jO h
         obtain ⟨r,h2,h⟩:=Tr.bind_some h
         obtain ⟨hz,h⟩:=Tr.bg h
         have hz:=Nat.eq_of_beq_eq_true hz
         have hcv:=oP h1
         rw[uT] at hcv
         have hcl:=qR hcv
         rw[hu]
         dsimp only
         rw[hs,hn]
         dsimp only[mX]
         rw[hcv]
         dsimp only
         rw[hl,if_neg (by simp),kH h2]
         dsimp only
         split at h
         · rename_i l _
           obtain ⟨r',h3,h⟩:=Tr.bind_some h
           obtain ⟨k1,k2⟩:=vc h3
           rw[fB,hcl] at k1
           rw[if_pos ⟨hz,by rw[hz];exact k1⟩,k2,← Tr.ab h,uT]
           rfl
         · exact (Tr.ag h).elim
       · exact (Tr.ag h).elim
     · exact (Tr.ag h).elim
   · exact (Tr.ag h).elim
 · exact (Tr.ag h).elim
def x9 (P:Program) (H:ae) (t:TypeId) (s:AV):Tr (AV×Delta) :=
 match P.underlying t with
 | some (.slice e)=>match s with
   | .slc d i v off sz (len+1) _=>cond (jB H d) .bad (match (dr P e).bind AV.row with
     | some z=>match bR P e with
       | some n=>cond (Nat.beq n sz) (cond (Nat.beq (iu z) sz) ((vk H d i v none).bind fun r=>match r with
          | .M l=>(CT l off none (dL z (Nat.succ len))).bind fun r'=>.ok (.tup [],.set d i (v,.row r'))
          | _=>.bad) .bad) .bad
       | none=>.bad
     | none=>.bad)
   | _=>.bad
 | _=>.bad
theorem yR (z:Row) (n:Nat):(dL z n).len=n*z.len:=by
 have fn:∀ l:List AV,(Cd l n).len=n*l.length:=by
  intro l
  unfold Cd
  split
  · split<;>simp[Row.len,dS]
  · simp[Row.len,dS]
 cases z with
 | I k l=>simp only[dL];split<;>simp[Row.len,aM,aT,dS]
 | _=>simp only[dL,fn,Row.bC]
theorem AI {P:Program} {H:ae} {t:TypeId} {s:AV} {y:AV×Delta} (h:(x9 P H t s).run=some y):qU P H t s=some y:=by
 unfold x9 at h
 unfold qU
 split at h
 · rename_i e hu
   split at h
   · rename_i d i v off sz len cap
     rw[gA] at h
     obtain ⟨hl,h⟩:=Tr.jO h
     split at h
     · rename_i z hz
       split at h
       · rename_i n hs
         obtain ⟨hn,h⟩:=Tr.bg h
         obtain ⟨hzl,h⟩:=Tr.bg h
         have hn:=Nat.eq_of_beq_eq_true hn
         rw[fz] at hzl
         have hzl:=Nat.eq_of_beq_eq_true hzl
         obtain ⟨r,h2,h⟩:=Tr.bind_some h
         rw[hu]
         dsimp only
         rw[hl,if_neg (by simp),hz,kH h2]
         dsimp only
         split at h
         · rename_i l _
           obtain ⟨r',h3,h⟩:=Tr.bind_some h
           obtain ⟨k1,k2⟩:=vc h3
           rw[yR,hzl] at k1
           rw[if_pos ⟨hzl,by rw[hs,hn],k1⟩,← Tr.ab h]
           rw[if_neg (by omega)]
           simp only[wE,if_true]
           rw[← k2]
         · exact (Tr.ag h).elim
       · exact (Tr.ag h).elim
     · exact (Tr.ag h).elim
   · exact (Tr.ag h).elim
 · exact (Tr.ag h).elim
def yT (z:Row) (n:Nat):Row :=
 match z with
 | .I k l=>cond (vL l) (.M [.arr k (fun _=>0) (iS n (kA l))]) (dL z n)
 | z=>dL z n
theorem Bv (z:Row) (n:Nat):yT z n=dL z n:=by
 cases z with
 | I k l =>
   simp only[yT]
   cases h:vL l with
   | true=>simp only[cond_true,dL,h,if_true,cT,fa]
   | false=>rfl
 | _=>rfl
def m3 (P:Program) (nx:Nat) (t:TypeId) (l c:AV):Tr (AV×Delta) :=
 match P.underlying t with
 | some (.slice e)=>match l with
   | .int _ l=>match c with
     | .int _ c=>match P.info? e with
       | some inf=>match (dr P e).bind AV.row with
         | some z=>.req (Gj l c inf.bytes) (cond (Nat.beq (iu z) inf.size) (.ok (.slc 0 nx 0 0 inf.size (fi l) (some (fi c)),.push (.row (yT z (fi c))))) .bad)
         | none=>.bad
       | none=>.bad
     | _=>.bad
   | _=>.bad
 | _=>.bad
theorem s8 {P:Program} {nx:Nat} {t:TypeId} {l c:AV} {y:AV×Delta} (h:(m3 P nx t l c).run=some y):iR P true nx t l c=some y:=by
 unfold m3 at h
 unfold iR
 split at h
 · rename_i e hu
   split at h
   · split at h
     · split at h
       · rename_i inf hi
         split at h
         · rename_i z hz
           obtain ⟨hc,h⟩:=Tr.aZ h
           obtain ⟨hl,h⟩:=Tr.bg h
           rw[yu,decide_eq_true_eq] at hc
           rw[fz] at hl
           have hl:=Nat.eq_of_beq_eq_true hl
           rw[hu]
           dsimp only
           rw[hi,hz]
           dsimp only
           rw[if_pos ⟨hc.1,hc.2.1,hc.2.2.1,hc.2.2.2,hl⟩,← Tr.ab h,Bv,ir,ir]
           rfl
         · exact (Tr.ag h).elim
       · exact (Tr.ag h).elim
     · exact (Tr.ag h).elim
   · exact (Tr.ag h).elim
 · exact (Tr.ag h).elim

def hv (x:AV×Delta):Tr (HV×Delta):=.ok ((x.1,none),x.2)
theorem zE {x:AV×Delta} {y:HV×Delta} (h:(hv x).run=some y):y.1.1=x.1∧y.2=x.2:=by
 have:=Tr.ab h
 rw[← this]
 exact ⟨rfl,rfl⟩
def r5 (l:List AV):List HV:=qk (fun x=>(x,none)) l
theorem mK:∀ l:List AV,py (r5 l)=l
 | []=>rfl
 | x::l=>by
   have e:py (r5 (x::l))=x::py (r5 l):=rfl
   rw[e,mK l]
theorem uv:∀ a b:List HV,py (qf a b)=py a++py b
 | [],b=>rfl
 | x::a,b=>by
   have e:py (qf (x::a) b)=x.1::py (qf a b):=rfl
   rw[e,uv a b];rfl
def w9 (fr:a8) (l:List Operand):List HV:=qk (fun x=>cI fr x) l
theorem r9 (fr:a8):∀ l,py (w9 fr l)=kF (strip fr) l
 | []=>rfl
 | x::l=>by
   have e:py (w9 fr (x::l))=(cI fr x).1::py (w9 fr l):=rfl
   rw[e,r9 fr l,ba];rfl
def FR   (P:Program) (H:ae) (t:TypeId) (m key x:AV):Tr Delta :=
 match P.underlying t with
 | some (.map kt _)=>match m with
   | .map d i=>cond (aY H d) .bad (cond (jC P kt key) (match aN H d i with
     | (0,.fmap h g c)=>match rL key with
       | some n=>match w6 x with
         | some y=>.ok (.set d i (0,.fmap (df h n true) (dF g n y) (fP (h n) c)))
         | none=>.bad
       | none=>.bad
     | _=>.bad) .bad)
   | _=>.bad
 | _=>.bad
def GW (P:Program) (H:ae) (t:TypeId) (m key:AV):Tr Delta :=
 match P.underlying t with
 | some (.map kt _)=>match m with
   | .map d i=>cond (aY H d) .bad (cond (jC P kt key) (match aN H d i with
     | (0,.fmap h g c)=>match rL key with
       | some n=>.ok (.set d i (0,.fmap (df h n false) (dF g n 0) (lf (h n) c)))
       | none=>.bad
     | _=>.bad) .bad)
   | _=>.bad
 | _=>.bad
def Hv (fr:a8):Option Operand→Bool
 | none=>true
 | some y=>isLit (cI fr y)
theorem lg {α:Type} {b:Bool} {s t:Tr α} {x:α} (h:(cond b s t).run=some x):b=true∧s.run=some x∨b=false∧t.run=some x:=by
 cases b
 · exact .inr ⟨rfl,h⟩
 · exact .inl ⟨rfl,h⟩
theorem Au {P:Program} {H:ae} {t:TypeId} {m key x:AV} {δ:Delta} (h:(FR P H t m key x).run=some δ):jv P H t m key x=some δ:=by
 unfold FR at h
 unfold jv
 split at h
 · rename_i kt et hu
   rw[hu]
   split at h
   · rename_i d i
     dsimp only
     rcases lg h with ⟨_,h⟩ | ⟨h1,h⟩
     · exact (Tr.ag h).elim
     · rcases lg h with ⟨h2,h⟩ | ⟨_,h⟩
       · rw[if_neg (by rw[h1];simp),if_pos h2]
         split at h
         · rename_i f g c hg
           rw[hg]
           try dsimp only
           split at h
           · rename_i n hn
             split at h
             · rename_i y hy
               simp only[hn,hy,← Tr.ab h,g9,j7,nE]
             · exact (Tr.ag h).elim
           · exact (Tr.ag h).elim
         · exact (Tr.ag h).elim
       · exact (Tr.ag h).elim
   · exact (Tr.ag h).elim
 · exact (Tr.ag h).elim
theorem Eb {P:Program} {H:ae} {t:TypeId} {m key:AV} {δ:Delta} (h:(GW P H t m key).run=some δ):nF P H t m key=some (.tup [],δ):=by
 unfold GW at h
 unfold nF
 split at h
 · rename_i kt et hu
   rw[hu]
   split at h
   · rename_i d i
     dsimp only
     rcases lg h with ⟨_,h⟩ | ⟨h1,h⟩
     · exact (Tr.ag h).elim
     · rcases lg h with ⟨h2,h⟩ | ⟨_,h⟩
       · rw[if_neg (by rw[h1];simp),if_pos h2]
         split at h
         · rename_i f g c hg
           rw[hg]
           try dsimp only
           split at h
           · rename_i n hn
             simp only[hn,← Tr.ab h,g9,j7,vP]
           · exact (Tr.ag h).elim
         · exact (Tr.ag h).elim
       · exact (Tr.ag h).elim
   · exact (Tr.ag h).elim
 · exact (Tr.ag h).elim
def x8 (P:Program) (call:bG) (callR:cr) (fr:a8) (H:ae) (nx:Nat) (c:Call):Tr (HV×Delta) :=
 match c.callee with
 | .value f=>match (cI fr f).1 with
   | .fn (.func g) a b=>(callR (.fn g) (qf (r5 a) (qf (w9 fr c.args.toList) (r5 b))) H).bind fun x=>.ok (x.1,.heap x.2)
   | .yld d i=>(callR (.round d i) (w9 fr c.args.toList) H).bind fun x=>.ok (x.1,.heap x.2)
   | _=>.bad
 | .builtin .len=>match c.args.toList,c.argTypes.toList with
   | x::_,t::_=>(EC P H t (cI fr x)).bind fun v=>.ok (v,.bO)
   | _,_=>.bad
 | .builtin .append=>match c.args.toList,c.argTypes.toList with
   | s::x::_,t::u::_=>(nA P H nx t u (cI fr s).1 (cI fr x).1).bind hv
   | _,_=>.bad
 | .builtin .copy=>match c.args.toList,c.argTypes.toList with
   | s::x::_,t::_=>(BW P H t (cI fr s).1 (cI fr x).1).bind hv
   | _,_=>.bad
 | .builtin .clear=>match c.args.toList,c.argTypes.toList with
   | s::_,t::_=>(x9 P H t (cI fr s).1).bind hv
   | _,_=>.bad
 | .builtin .min=>match xa fr c.args.toList with
   | .int k x::r=>(ow false k x r).bind fun v=>.ok ((v,none),.bO)
   | _=>.bad
 | .builtin .max=>match xa fr c.args.toList with
   | .int k x::r=>(ow true k x r).bind fun v=>.ok ((v,none),.bO)
   | _=>.bad
 | .builtin .delete=>match c.args.toList,c.argTypes.toList with
   | m::k::_,t::_=>(GW P H t (cI fr m).1 (cI fr k).1).bind fun δ=>.ok ((.tup [],none),δ)
   | _,_=>.bad
 | _=>(uW (gR P call (strip fr) H nx c)).bind hv
theorem AG {P:Program} {call:bG} {callR:cr} (hC:callR.Ok call) {fr:a8} {H:ae} {nx:Nat} {c:Call} {y:HV×Delta} (h:(x8 P call callR fr H nx c).run=some y):gR P call (strip fr) H nx c=some (y.1.1,y.2):=by
 have dflt:∀ (t:Tr (AV×Delta)),(t.bind hv).run=some y→t.run=some (y.1.1,y.2):=by
  intro t ht
  obtain ⟨x,h1,h2⟩:=Tr.bind_some ht
  obtain ⟨e1,e2⟩:=zE h2
  rw[h1,e1,e2]
 unfold x8 at h
 split at h
 · rename_i f hf
   unfold gR
   rw[hf]
   dsimp only
   rw[ba] at h
   split at h
   · rename_i g a b ho
     obtain ⟨x,h1,h⟩:=Tr.bind_some h
     rw[ho]
     dsimp only
     have:=hC.2 _ _ _ _ h1
     rw[uv,uv,mK,mK,r9] at this
     rw[this,← Tr.ab h];rfl
   · rename_i d i ho
     obtain ⟨x,h1,h⟩:=Tr.bind_some h
     rw[ho]
     dsimp only
     have:=hC.2 _ _ _ _ h1
     rw[r9] at this
     rw[this,← Tr.ab h];rfl
   · exact (Tr.ag h).elim
 · rename_i hf
   unfold gR
   rw[hf]
   dsimp only
   split at h
   · rename_i x _ t _ hx ht
     obtain ⟨v,h1,h⟩:=Tr.bind_some h
     rw[hx,ht]
     dsimp only
     have:=ED h1
     rw[ba] at this
     obtain ⟨n,k1,k2⟩:=Option.map_eq_some_iff.1 this
     rw[k1,← Tr.ab h,← k2];rfl
   · exact (Tr.ag h).elim
 · rename_i hf
   unfold gR
   rw[hf]
   dsimp only
   split at h
   · rename_i s x _ t u _ hx ht
     rw[hx,ht]
     dsimp only
     have h:=x4 (dflt _ h)
     rw[ba,ba] at h
     rw[mg hC.1]
     exact h
   · exact (Tr.ag h).elim
 · rename_i hf
   unfold gR
   rw[hf]
   dsimp only
   split at h
   · rename_i s x _ t _ hx ht
     rw[hx,ht]
     dsimp only
     have h:=BX (dflt _ h)
     rw[ba,ba] at h
     exact h
   · exact (Tr.ag h).elim
 · rename_i hf
   unfold gR
   rw[hf]
   dsimp only
   split at h
   · rename_i s _ t _ hx ht
     rw[hx,ht]
     dsimp only
     have h:=AI (dflt _ h)
     rw[ba] at h
     exact h
   · exact (Tr.ag h).elim
 · rename_i hf
   unfold gR
   rw[hf]
   dsimp only
   rw[sa] at h
   split at h
   · rename_i k x r hx
     obtain ⟨v,h1,h⟩:=Tr.bind_some h
     rw[hx]
     dsimp only[m6]
     rw[m7 _ _ _ h1,← Tr.ab h];rfl
   · exact (Tr.ag h).elim
 · rename_i hf
   unfold gR
   rw[hf]
   dsimp only
   rw[sa] at h
   split at h
   · rename_i k x r hx
     obtain ⟨v,h1,h⟩:=Tr.bind_some h
     rw[hx]
     dsimp only[m6]
     rw[m7 _ _ _ h1,← Tr.ab h];rfl
   · exact (Tr.ag h).elim
 · rename_i hf
   unfold gR
   rw[hf]
   dsimp only
   split at h
   · rename_i m k _ t _ hx ht
     rw[hx,ht]
     dsimp only
     obtain ⟨δ,h1,h⟩:=Tr.bind_some h
     have h1:=Eb h1
     rw[ba,ba] at h1
     rw[h1,← Tr.ab h]
   · exact (Tr.ag h).elim
 · have h:=dflt _ h
   rw[dw] at h;exact h

def GF (P:Program) (op:BinOp) (t:TypeId) (x y:HV):Tr HV :=
 cond (isLit x && isLit y) (match x.1,y.1 with
  | .int k a,.int k' b=>(uW (BN P op t (.int k a) (.int k' b))).bind fun v=>.ok (v,some 1)
  | a,b=>(BM P op t a b).bind fun v=>.ok (v,none))
 ((BM P op t x.1 y.1).bind fun v=>.ok (v,none))
theorem DX {P:Program} {op:BinOp} {t:TypeId} {x y v:HV} (h:(GF P op t x y).run=some v):jM P op t x.1 y.1=some v.1:=by
 have gen:∀ a b,((BM P op t a b).bind fun v=>Tr.ok ((v,none):HV)).run=some v→jM P op t a b=some v.1:=by
  intro a b h
  obtain ⟨u,h1,h⟩:=Tr.bind_some h
  rw[DY h1,← Tr.ab h]
 unfold GF at h
 cases hb:isLit x && isLit y with
 | false=>rw[hb,cond_false] at h;exact gen _ _ h
 | true =>
   rw[hb,cond_true] at h
   split at h
   · rename_i k a k' b hx hy
     obtain ⟨u,h1,h⟩:=Tr.bind_some h
     rw[dw,BO] at h1
     rw[hx,hy,h1,← Tr.ab h]
   · exact gen _ _ h

def ou (fr:a8) (l:List (Nat×Operand)):List (Nat×AV):=qk (fun p=>(p.1,(cI fr p.2).1)) l
theorem m4 (fr:a8):∀ l,ou fr l=dY (strip fr) l
 | []=>rfl
 | (i,x)::l=>by
   have e:ou fr ((i,x)::l)=(i,(cI fr x).1)::ou fr l:=rfl
   rw[e,m4 fr l,ba];rfl
def J1 (op:Op):Oper→Program→bG→cr→a8→ae→Nat→Tr (HV×Delta) :=
 match op with
 | .move x=>fun _ _ _ _ fr _ _=>.ok (cI fr x,.bO)
 | .assign x=>fun _ _ _ _ fr _ _=>.ok (cI fr x,.bO)
 | .pick c a b=>fun _ _ _ _ fr _ _=>match cI fr c with
   | (.bool t,none)=>.ite t (.ok (cI fr a,.bO)) (.ok (cI fr b,.bO))
   | (.bool t,some _)=>cond t (.ok (cI fr a,.bO)) (.ok (cI fr b,.bO))
   | _=>.bad
 | .alloc t=>fun _ P _ _ _ _ nx=>match (dr P t).bind AV.row with
   | some z=>.ok ((.ptr 0 nx 0 0,none),.push (.row (j6 z)))
   | none=>.bad
 | .box _ x=>fun _ _ _ _ fr _ nx=>match (cI fr x).1.row with
   | some r=>.ok ((.ptr 0 nx 0 0,none),.push (.row (j6 r)))
   | none=>.bad
 | .build t parts=>fun _ P _ _ fr _ _=>(uW (ux P true t (ou fr parts.toList))).bind fun v=>.ok ((v,none),.bO)
 | .buildSlice t len parts=>fun _ P _ _ fr _ nx=>(uW (jf P nx t len (ou fr parts.toList))).bind fun x=>.ok ((x.1,some 1),x.2)
 | .load t a=>fun _ P _ _ fr H _=>(loadT P H t (cI fr a)).bind fun v=>.ok ((v,none),.bO)
 | .store t a x=>fun _ P _ _ fr H _=>(storeT P H t (cI fr a) (cI fr x).1).bind fun δ=>.ok ((.tup [],none),δ)
 | .nilCheck x=>fun _ _ _ _ fr _ _=>match (cI fr x).1 with
   | .ptr d i v off=>.ok (cI fr x,.bO)
   | .ptrT s r off=>.ok (cI fr x,.bO)
   | _=>.bad
 | .binOp op t x y _=>fun _ P _ _ fr _ _=>(GF P op t (cI fr x) (cI fr y)).bind fun v=>.ok (v,.bO)
 | .unOp op _ x=>fun _ _ _ _ fr _ _=>match op,cI fr x with
   | .not,(.bool b,some _)=>.ok ((.bool (cond b false true),some 1),.bO)
   | op,x=>(O5 op x.1).bind fun v=>.ok ((v,none),.bO)
 | .convert src dst x=>fun _ P _ _ fr _ _=>match P.underlying src with
   | some _=>match P.underlying dst with
     | some (.int k)=>match cI fr x with
       | (.int _ n,none)=>.ok ((.int k (qH k n),none),.bO)
       | (.int _ n,some _)=>.ok ((.int k (xN k n),some 1),.bO)
       | _=>.bad
     | _=>.bad
   | none=>.bad
 | .makeSlice t l c=>fun _ P _ _ fr _ nx=>(m3 P nx t (cI fr l).1 (cI fr c).1).bind hv
 | .slice t x lo hi mx=>fun _ P _ _ fr _ _=>cond (isLit (cI fr x) && (Hv fr lo && (Hv fr hi && Hv fr mx)))
   ((uW (pt P t (cI fr x).1 (lo.map fun y=>(cI fr y).1) (hi.map fun y=>(cI fr y).1) (mx.map fun y=>(cI fr y).1))).bind fun v=>.ok ((v,some 1),.bO))
   ((yF P t (cI fr x).1 (lo.map fun y=>(cI fr y).1) (hi.map fun y=>(cI fr y).1) (mx.map fun y=>(cI fr y).1)).bind fun v=>.ok ((v,none),.bO))
 | .fieldAddr t x f=>fun _ P _ _ fr _ _=>(mS P t (cI fr x) f).bind fun v=>.ok (v,.bO)
 | .field t x f=>fun _ P _ _ fr _ _=>(uW (uD P t (cI fr x).1 f)).bind fun v=>.ok ((v,none),.bO)
 | .indexAddr t x i=>fun _ P _ _ fr _ _=>match (cI fr i).1 with
   | .int _ n=>(Hl P t (cI fr x) (isLit (cI fr i)) n).bind fun v=>.ok (v,.bO)
   | _=>.bad
 | .extract t ix=>fun _ _ _ _ fr _ _=>match (cI fr t).1 with
   | .tup l=>match yh l ix with
     | some v=>.ok ((v,none),.bO)
     | none=>.bad
   | _=>.bad
 | .call c=>fun _ P call callR fr H nx=>x8 P call callR fr H nx c
 | .makeMap t r=>fun _ P _ _ _ _ nx=>match r with
   | none=>.ok ((.map 0 nx,none),.push (r4 P t))
   | some _=>.bad
 | .mapUpdate t m k x=>fun _ P _ _ fr H _=>(FR P H t (cI fr m).1 (cI fr k).1 (cI fr x).1).bind fun δ=>.ok ((.tup [],none),δ)
 | .insert t m k x=>fun _ P _ _ fr H _=>(FR P H t (cI fr m).1 (cI fr k).1 (cI fr x).1).bind fun δ=>.ok ((.tup [],none),δ)
 | _=>fun o P call _ fr H nx=>(uW (evalOp P call (strip fr) H nx o)).bind hv
theorem yx {o:Oper} {P:Program} {call:bG} {callR:cr} (hC:callR.Ok call) {fr:a8} {H:ae} {nx:Nat} {y:HV×Delta} (h:(J1 o.op o P call callR fr H nx).run=some y):evalOp P call (strip fr) H nx o=some (y.1.1,y.2):=by
 have dflt:∀ (t:Tr (AV×Delta)),(t.bind hv).run=some y→t.run=some (y.1.1,y.2):=by
  intro t ht
  obtain ⟨x,h1,h2⟩:=Tr.bind_some ht
  obtain ⟨e1,e2⟩:=zE h2
  rw[h1,e1,e2]
 have dkp:∀ (t:Tr AV),(t.bind fun v=>Tr.ok (((v,none),.bO):HV×Delta)).run=some y→t.run=some y.1.1∧y.2=.bO:=by
  intro t ht
  obtain ⟨x,h1,h2⟩:=Tr.bind_some ht
  rw[h1,← Tr.ab h2];exact ⟨rfl,rfl⟩
 have kpe:∀ {o:Option AV} {v:AV},o=some v→kp o=some (v,.bO):=by rintro o v rfl;rfl
 cases ho:o.op<;>rw[ho] at h<;>simp only[J1] at h
 case move x =>
  unfold evalOp;rw[ho];dsimp only
  rw[← Tr.ab h,← ba]
 case assign x =>
  unfold evalOp;rw[ho];dsimp only
  rw[← Tr.ab h,← ba]
 case pick c a b =>
  unfold evalOp;rw[ho];dsimp only
  have hc':=ba fr c
  split at h
  · rename_i t hc
    rw[hc] at hc'
    rw[← hc']
    dsimp only
    rcases Tr.bH h with ⟨rfl,h⟩ | ⟨rfl,h⟩<;>rw[← Tr.ab h,← ba,← ba]<;>rfl
  · rename_i t n hc
    rw[hc] at hc'
    rw[← hc']
    dsimp only
    cases t with
    | true=>rw[cond_true] at h;rw[← Tr.ab h,← ba,← ba];rfl
    | false=>rw[cond_false] at h;rw[← Tr.ab h,← ba,← ba];rfl
  · exact (Tr.ag h).elim
 case alloc t =>
  unfold evalOp;rw[ho];dsimp only
  split at h
  · rename_i z hz
    rw[hz,← Tr.ab h,Option.map_some,mg hC.1]
  · exact (Tr.ag h).elim
 case box t x =>
  unfold evalOp;rw[ho];dsimp only
  rw[ba] at h
  split at h
  · rename_i z hz
    rw[hz,← Tr.ab h,Option.map_some,mg hC.1]
  · exact (Tr.ag h).elim
 case build t parts =>
  unfold evalOp;rw[ho];dsimp only
  obtain ⟨h1,h2⟩:=dkp _ h
  rw[dw,m4] at h1
  rw[mg hC.1,kpe h1,h2]
 case buildSlice t len parts =>
  unfold evalOp;rw[ho];dsimp only
  obtain ⟨x,h1,h⟩:=Tr.bind_some h
  rw[dw,m4] at h1
  rw[h1,← Tr.ab h]
 case load t a =>
  unfold evalOp;rw[ho];dsimp only
  obtain ⟨h1,h2⟩:=dkp _ h
  have h1:=wL h1
  rw[ba] at h1
  rw[kpe h1,h2]
 case store t a x =>
  unfold evalOp;rw[ho];dsimp only
  obtain ⟨δ,h1,h⟩:=Tr.bind_some h
  have h1:=Bo h1
  rw[ba,ba] at h1
  rw[h1,← Tr.ab h];rfl
 case nilCheck x =>
  unfold evalOp;rw[ho];dsimp only
  rw[← ba]
  split at h
  · rename_i d i v off hx
    rw[hx,← Tr.ab h,hx]
  · rename_i s r off hx
    rw[hx,← Tr.ab h,hx]
  · exact (Tr.ag h).elim
 case binOp op t x y' g =>
  unfold evalOp;rw[ho];dsimp only
  obtain ⟨v,h1,h⟩:=Tr.bind_some h
  have h1:=DX h1
  rw[ba,ba] at h1
  rw[kpe h1,← Tr.ab h]
 case unOp op t x =>
  unfold evalOp;rw[ho];dsimp only
  split at h
  · rename_i b n hx
    have:cq (strip fr) x=.bool b:=by rw[← ba,hx]
    rw[this,← Tr.ab h]
    cases b<;>rfl
  · obtain ⟨h1,h2⟩:=dkp _ h
    have h1:=Iv h1
    rw[ba] at h1
    rw[kpe h1,h2]
 case convert s d x =>
  unfold evalOp;rw[ho];dsimp only
  split at h
  · rename_i u hu
    split at h
    · rename_i k hk
      have hx:=ba fr x
      split at h
      · rename_i n hn
        rw[hn] at hx
        rw[hu,hk,← hx]
        dsimp only
        rw[← Tr.ab h,sH]
      · rename_i n _ hn
        rw[hn] at hx
        rw[hu,hk,← hx]
        dsimp only
        rw[← Tr.ab h,xO]
      · exact (Tr.ag h).elim
    · exact (Tr.ag h).elim
  · exact (Tr.ag h).elim
 case makeSlice t l c =>
  unfold evalOp;rw[ho];dsimp only
  have h1:=s8 (dflt _ h)
  rw[ba,ba] at h1
  rw[mg hC.1]
  exact h1
 case slice t x lo hi mx =>
  unfold evalOp;rw[ho];dsimp only
  have e:∀ z:Option Operand,(z.map fun y=>(cI fr y).1)=z.map (cq (strip fr)):=by
   intro z;cases z<;>simp[ba]
  rcases lg h with ⟨_,h⟩ | ⟨_,h⟩
  · obtain ⟨v,h1,h2⟩:=Tr.bind_some h
    rw[dw,ba,e,e,e] at h1
    rw[kpe h1,← Tr.ab h2]
  · obtain ⟨h1,h2⟩:=dkp _ h
    have h1:=Bk h1
    rw[ba] at h1
    rw[e,e,e] at h1
    rw[kpe h1,h2]
 case fieldAddr t x f =>
  unfold evalOp;rw[ho];dsimp only
  obtain ⟨v,h1,h⟩:=Tr.bind_some h
  have h1:=sU h1
  rw[ba] at h1
  rw[kpe h1,← Tr.ab h]
 case field t x f =>
  unfold evalOp;rw[ho];dsimp only
  obtain ⟨h1,h2⟩:=dkp _ h
  rw[dw,ba] at h1
  rw[kpe h1,h2]
 case indexAddr t x i =>
  unfold evalOp;rw[ho];dsimp only
  rw[ba] at h
  split at h
  · rename_i k n hn
    obtain ⟨v,h1,h⟩:=Tr.bind_some h
    have h1:=Eu h1
    rw[ba] at h1
    rw[hn]
    dsimp only
    rw[kpe h1,← Tr.ab h]
  · exact (Tr.ag h).elim
 case extract t ix =>
  unfold evalOp;rw[ho];dsimp only
  rw[ba] at h
  split at h
  · rename_i l hl
    rw[hl]
    dsimp only
    rw[lW] at h
    split at h
    · rename_i v hv'
      rw[hv',← Tr.ab h]
    · exact (Tr.ag h).elim
  · exact (Tr.ag h).elim
 case call c =>
  unfold evalOp;rw[ho];dsimp only
  exact AG hC h
 case makeMap t r =>
  unfold evalOp;rw[ho];try dsimp only
  cases r with
  | none =>
    dsimp only at h ⊢
    rw[mg hC.1,← Tr.ab h]
  | some r=>exact (Tr.ag h).elim
 case mapUpdate t m k x =>
  unfold evalOp;rw[ho];dsimp only
  obtain ⟨δ,h1,h⟩:=Tr.bind_some h
  have h1:=Au h1
  rw[ba,ba,ba] at h1
  rw[h1,← Tr.ab h];rfl
 case insert t m k x =>
  unfold evalOp;rw[ho];dsimp only
  obtain ⟨δ,h1,h⟩:=Tr.bind_some h
  have h1:=Au h1
  rw[ba,ba,ba] at h1
  rw[h1,← Tr.ab h];rfl
 all_goals
  have h1:=dflt _ h
  rw[dw] at h1
  exact h1

end
end Go.Eng
