/- The engine: tables of calls that are known beforehand. -/
import Derived.Test.YtigmfpmabgekoaaGreatV6EngXx3
set_option linter.unusedVariables false
set_option linter.unusedSimpArgs false
section
namespace Go.Eng

def Qt (f:AV→Bool) (r:Row):Bool :=
 match r with
 | .I ..=>true
 | .G l=>l.all f
 | .F ..=>true
 | .M l=>fw l
def qA:Nat→AV→Bool
 | 0,_=>false
 | n+1,v=>match v with
   | .undef | .bool _ | .int _ _ | .str _ | .nilp | .nils | .nilm | .nilf=>true
   | .ptrT none _ _=>true
   | .slcT none _ _ _ _=>true
   | .agg r=>Qt (qA n) r
   | .tup l=>l.all (qA n)
   | .fn _ a b=>a.all (qA n) && b.all (qA n)
   | _=>false
theorem fA {f:AV→Bool}:∀ {l:List AV} {j:Nat},l.all f=true→j<l.length→f (l.getD j .undef)=true
 | [],j,_,h=>by simp at h
 | x::l,0,h,_=>by simp at h;simpa using h.1
 | x::l,j+1,h,hj=>by
   simp only[List.all_cons,Bool.and_eq_true] at h
   rw[List.getD_cons_succ]
   exact fA h.2 (by simpa using hj)
theorem g9 {p:aC} {M N:Mu}:∀ (n:Nat) {v:AV} {c:Value},qA n v=true→ai p M v c→ai p N v c
 | 0,v,c,h,_=>by simp[qA] at h
 | n + 1,v,c,h,hv=>by
   have ih:=@g9 p M N n
   cases hv with
   | undef c=>exact .undef c
   | bool b=>exact .bool b
   | int k n=>exact .int k n
   | str s=>exact .str s
   | nilp=>exact .nilp
   | nils=>exact .nils
   | nilm=>exact .nilm
   | nilf=>exact .nilf
   | ptr h0=>simp[qA] at h
   | slc h0=>simp[qA] at h
   | map h0=>simp[qA] at h
   | yld h0=>simp[qA] at h
   | ptrT vs h0 h1 hv =>
     rename_i s r off b o
     cases s with
     | some s=>simp[qA] at h
     | none=>exact .ptrT vs h0 h1 hv
   | slcT vs h0 h1 hv hl hf hx =>
     rename_i s r sz len b o x cc full
     cases s with
     | some s=>simp[qA] at h
     | none=>exact .slcT vs h0 h1 hv hl hf hx
   | slcN=>exact .slcN
   | fn ha hb va vb =>
     simp only[qA,Bool.and_eq_true] at h
     exact .fn ha hb (fun j hj=>ih (fA h.1 hj) (va j hj)) (fun j hj=>ih (fA h.2 hj) (vb j hj))
   | agg hs h1 hv =>
     rename_i r cs
     simp only[qA] at h
     cases r with
     | I k l=>exact .agg hs h1 (fun j hj=>(hv j hj).br _ _)
     | F f m=>exact .agg hs h1 hv
     | M l=>exact .agg hs h1 (aU.fw h hv)
     | G l=>exact .agg hs h1 (fun j hj=>ih (fA (f:=qA n) h hj) (hv j hj))
   | tup hs hv =>
     simp only[qA] at h
     exact .tup hs (fun j hj=>ih (fA h hj) (hv j hj))

structure iQ where
 f:FuncId
 args:List AV
 v:AV
def bM (P:Program) (e:iQ):Prop:=∀ (H:aa),H≠[]→∀ (p:aC) (M:Mu) (w:World) (cargs:Array Value),aS p M H w→fU p M e.args cargs →
 (∃ fn,P.funcs[e.f]?=some fn∧fn.body.isNone=false)∧CallsIn Fence.wide 0 P e.f cargs w (ji p M H w e.v H)

theorem ya {P:Program} {call:aJ} (hC:bD P call) {e:iQ} {H':aa} (h:call (.fn e.f) e.args [⟨true,[]⟩]=some (e.v,H')) (hn:e.args.all (qA 9)=true):bM P e:=by
 intro H hne p M w cargs hH hA
 have hH0:aS p Mu.no [⟨true,[]⟩] w:=⟨hH.pers,(fun d i v B hg hB=>by
  cases d<;>simp[ao,ak] at hg<;>exact absurd hg.2.symm hB),(fun d i v B d' i' v' B' b o t o' t' hg hB hg' hB' hm hm'=>by cases hm),(fun d i v t hm=>by cases hm)⟩
 have hA0:fU p Mu.no e.args cargs:=⟨hA.1,fun j hj=>g9 9 (fA hn hj) (hA.2 j hj)⟩
 obtain ⟨h1,h2⟩:=hC (.fn e.f) e.args _ e.v H' h (by simp) p Mu.no w cargs hH0 hA0
 refine ⟨h1,h2.mono ?_⟩
 rintro en w' ⟨cv,rfl,st,p',M',hE,hv⟩
 have hM:Mu.le M' M:=fun d i v t hm=>by
  have h3:=(hE.rel.dom d i v t hm).1
  have h4:aw [⟨true,[]⟩] d=true:=by cases d<;>rfl
  rw[st.next d h4] at h3
  cases d<;>simp[ah] at h3
 have all:∀ b,Go.Eng.aX Mu.no [⟨true,[]⟩] b:=fun b d i u B _ _ _ o t hm=>by cases hm
 have no:∀ {b:Nat},¬ (aw [⟨true,[]⟩] 0=false∧∃ i u o' t',Mu.no 0 i u=some (b,o',t')):=fun h=>by have:=h.1;cases this
 refine ⟨cv,rfl,Still.refl H,p',M,{ bL.refl hH with pst:=hE.pst,rel:=⟨hE.rel.pers,?_,hH.apart,hH.dom⟩,stay:=hE.stay.weaken (fun b _ _=>all b),fresh:=fun b o v hv=>(hE.fresh b o v hv).imp_right fun h=>h.elim .inl fun h=>(no h).elim },hv.mono (aC.le.refl _) hM⟩
 intro d i u B hg hB
 obtain ⟨b,o,t,k1,k2,k3⟩:=hH.live d i u B hg hB
 have hlt:=k2.lt hB
 refine ⟨b,o,t,k1,k2.mono hE.pst (Mu.le.refl _) (hE.stay.block b hlt (all b)),fun x=>?_⟩
 cases hx:p' b x with
 | none=>rfl
 | some y =>
   rcases hE.fresh b x y hx with h | h | ⟨h,_⟩
   · rw[k3] at h;cases h
   · omega
   · cases h

noncomputable def tA (f:AV→AV→Bool) (r s:Row):Bool :=
 match r,s with
 | .I k l,.I k' l'=>fY k k' && listEqI l l'
 | .G l,.G l'=>listEqV f l l'
 | _,_=>false
where
 listEqI:List Int→List Int→Bool
  | [],[]=>true
  | x::a,y::b=>EN x y && listEqI a b
  | _,_=>false
 listEqV (f:AV→AV→Bool):List AV→List AV→Bool
  | [],[]=>true
  | x::a,y::b=>f x y && listEqV f a b
  | _,_=>false
def zg:Option Nat→Option Nat→Bool
 | none,none=>true
 | some a,some b=>Nat.beq a b
 | _,_=>false
noncomputable def HP:Nat→AV→AV→Bool
 | 0,_,_=>false
 | n+1,v,u=>match v,u with
   | .bool a,.bool b=>a == b
   | .int k a,.int k' b=>fY k k' && EN a b
   | .nilp,.nilp=>true
   | .nils,.nils=>true
   | .nilm,.nilm=>true
   | .ptrT s r o,.ptrT s' r' o'=>zg s s' && (tA (HP n) r r' && Nat.beq o o')
   | .slcT s r z l b,.slcT s' r' z' l' b'=>zg s s' && (tA (HP n) r r' && (Nat.beq z z' && (Nat.beq l l' && b == b')))
   | .agg r,.agg r'=>tA (HP n) r r'
   | _,_=>false
theorem sr:∀ (l m:List Int),tA.listEqI l m=true→l=m
 | [],[],_=>rfl
 | [],_::_,h=>by simp[tA.listEqI] at h
 | _::_,[],h=>by simp[tA.listEqI] at h
 | x::a,y::b,h=>by
   simp only[tA.listEqI,Bool.and_eq_true,vz,beq_iff_eq] at h
   rw[h.1,sr a b h.2]
theorem gk {f:AV→AV→Bool} (hf:∀ x y,f x y=true→x=y):∀ (l m:List AV),tA.listEqV f l m=true→l=m
 | [],[],_=>rfl
 | [],_::_,h=>by simp[tA.listEqV] at h
 | _::_,[],h=>by simp[tA.listEqV] at h
 | x::a,y::b,h=>by
   simp only[tA.listEqV,Bool.and_eq_true] at h
   rw[hf _ _ h.1,gk hf a b h.2]
theorem m4 {f:AV→AV→Bool} (hf:∀ x y,f x y=true→x=y) (r s:Row) (h:tA f r s=true):r=s:=by
 cases r<;>cases s<;>simp only[tA,Bool.and_eq_true,ev,decide_eq_true_eq] at h<;>try (simp at h;done)
 · rw[h.1,sr _ _ h.2]
 · rw[gk hf _ _ h]
theorem od (a b:Option Nat) (h:zg a b=true):a=b:=by
 cases a<;>cases b<;>simp[zg] at h ⊢;exact h
theorem C7:∀ (n:Nat) (x y:AV),HP n x y=true→x=y
 | 0,x,y,h=>by simp[HP] at h
 | n+1,x,y,h=>by
   have ih:=C7 n
   cases x<;>cases y<;>simp only[HP,Bool.and_eq_true,ev,vz,decide_eq_true_eq,beq_iff_eq] at h<;>try (first | rfl | (simp at h;done))
   case bool.bool=>rw[h]
   case int.int=>rw[h.1,h.2]
   case ptrT.ptrT=>rw[od _ _ h.1,m4 ih _ _ h.2.1,Nat.eq_of_beq_eq_true h.2.2]
   case slcT.slcT=>rw[od _ _ h.1,m4 ih _ _ h.2.1,Nat.eq_of_beq_eq_true h.2.2.1,Nat.eq_of_beq_eq_true h.2.2.2.1,h.2.2.2.2]
   case agg.agg=>rw[m4 ih _ _ h]

noncomputable def zI:List iQ→aJ→FuncId→List AV→aa→Option (AV×aa)
 | [],_,_,_,_=>none
 | e::r,c,f,args,H=>if Nat.beq e.f f && tA.listEqV (HP 9) e.args args then some (e.v,H) else zI r c f args H
theorem vU {P:Program}:∀ (tab:List iQ),(∀ e ∈ tab,bM P e)→tS P (zI tab)
 | [],_=>fun call _ f args H v H' h=>by simp[zI] at h
 | e :: r,hT=>fun call hC f args H v H' h=>by
   simp only[zI] at h
   split at h
   · rename_i hc
     simp only[Bool.and_eq_true] at hc
     have e1:=Nat.eq_of_beq_eq_true hc.1
     have e2:=gk (C7 9) _ _ hc.2
     have e3:=Option.some.inj h
     simp only[Prod.mk.injEq] at e3
     obtain ⟨e3,e4⟩:=e3
     subst e1;subst e2;subst e3;subst e4
     exact hT e (by simp) H
   · exact vU r (fun e' he=>hT e' (List.mem_cons_of_mem _ he)) call hC f args H v H' h

end Go.Eng
end
section
namespace Go.Eng
noncomputable section

inductive Tr (α:Type) where
 | ok (a:α)
 | bad
 | ite (c:Bool) (t e:Tr α)
 | req (c:Bool) (t:Tr α)
 | reqP (p:Prop) (t:Tr α)
open Classical in
def Tr.run {α:Type}:Tr α→Option α
 | .ok a=>some a
 | .bad=>none
 | .ite c t e=>cond c t.run e.run
 | .req c t=>cond c t.run none
 | .reqP p t=>if p then t.run else none
def Tr.bind {α β:Type} (t:Tr α) (f:α→Tr β):Tr β:=Tr.rec (motive:=fun _=>Tr β) f .bad (fun c _ _ a b=>.ite c a b) (fun c _ a=>.req c a) (fun p _ a=>.reqP p a) t
theorem Tr.CR {α β:Type} (t:Tr α) (f:α→Tr β):(t.bind f).run=t.run.bind fun a=>(f a).run:=by
 induction t with
 | ok a=>rfl
 | bad=>rfl
 | ite c a b iha ihb =>
   have e:(Tr.ite c a b).bind f=.ite c (a.bind f) (b.bind f):=rfl
   rw[e];simp only[Tr.run,iha,ihb];cases c<;>rfl
 | req c a ih =>
   have e:(Tr.req c a).bind f=.req c (a.bind f):=rfl
   rw[e];simp only[Tr.run,ih];cases c<;>rfl
 | reqP p a ih =>
   have e:(Tr.reqP p a).bind f=.reqP p (a.bind f):=rfl
   rw[e];simp only[Tr.run,ih]
   by_cases hp:p
   · rw[if_pos hp,if_pos hp]
   · rw[if_neg hp,if_neg hp];rfl
theorem Tr.dO {α:Type} {p:Prop} {t:Tr α} {x:α} (h:(Tr.reqP p t).run=some x):p∧t.run=some x:=by
 simp only[Tr.run] at h
 by_cases hp:p
 · rw[if_pos hp] at h;exact ⟨hp,h⟩
 · rw[if_neg hp] at h;cases h
theorem Tr.El {α:Type} {p:Prop} {a:Tr α} (h:p):(Tr.reqP p a).run=a.run:=by simp only[Tr.run];rw[if_pos h]
theorem Tr.bind_some {α β:Type} {t:Tr α} {f:α→Tr β} {y:β} (h:(t.bind f).run=some y):∃ x,t.run=some x∧(f x).run=some y:=by
 rw[Tr.CR] at h
 exact Option.bind_eq_some_iff.1 h
theorem Tr.aI {α:Type} {c:Bool} {t:Tr α} {x:α} (h:(Tr.req c t).run=some x):c=true∧t.run=some x:=by
 cases c with
 | true=>exact ⟨rfl,h⟩
 | false=>simp[Tr.run] at h
theorem Tr.fK {α:Type} {c:Bool} {t e:Tr α} {x:α} (h:(Tr.ite c t e).run=some x):(c=true∧t.run=some x)∨(c=false∧e.run=some x):=by
 cases c with
 | true=>exact .inl ⟨rfl,h⟩
 | false=>exact .inr ⟨rfl,h⟩
theorem Tr.ab {α:Type} {a x:α} (h:(Tr.ok a).run=some x):a=x:=Option.some.inj h
theorem Tr.ae {α:Type} {x:α} (h:(Tr.bad:Tr α).run=some x):False:=by simp[Tr.run] at h
def uN {α:Type} (o:Option α):Tr α:=Option.rec (motive:=fun _=>Tr α) .bad .ok o
theorem cN {α:Type} (o:Option α):(uN o).run=o:=by cases o<;>rfl
theorem cO {α:Type} (f:α):∃ g,g=f:=⟨f,rfl⟩

def bk:IntKind→Int→Int→Int:=Classical.choose (cO (α:=IntKind→Int→Int→Int) (fun k x y=>k.wrap (x+y)))
theorem ER:bk=(fun k x y=>k.wrap (x+y)):=Classical.choose_spec (cO (α:=IntKind→Int→Int→Int) (fun k x y=>k.wrap (x+y)))
theorem dB (k x y):bk k x y=k.wrap (x+y):=by rw[ER]
def cD:IntKind→Int→Int→Int:=Classical.choose (cO (α:=IntKind→Int→Int→Int) (fun k x y=>k.wrap (x-y)))
theorem GK:cD=(fun k x y=>k.wrap (x-y)):=Classical.choose_spec (cO (α:=IntKind→Int→Int→Int) (fun k x y=>k.wrap (x-y)))
theorem db (k x y):cD k x y=k.wrap (x-y):=by rw[GK]
def F5:IntKind→Int→Int→Int:=Classical.choose (cO (α:=IntKind→Int→Int→Int) (fun k x y=>k.wrap (x*y)))
theorem F6:F5=(fun k x y=>k.wrap (x*y)):=Classical.choose_spec (cO (α:=IntKind→Int→Int→Int) (fun k x y=>k.wrap (x*y)))
theorem re (k x y):F5 k x y=k.wrap (x*y):=by rw[F6]
def II:IntKind→Int→Int→Int:=Classical.choose (cO (α:=IntKind→Int→Int→Int) (fun k x y=>k.wrap (x.tdiv y)))
theorem Gp:II=(fun k x y=>k.wrap (x.tdiv y)):=Classical.choose_spec (cO (α:=IntKind→Int→Int→Int) (fun k x y=>k.wrap (x.tdiv y)))
theorem Gn (k x y):II k x y=k.wrap (x.tdiv y):=by rw[Gp]
def IL:IntKind→Int→Int→Int:=Classical.choose (cO (α:=IntKind→Int→Int→Int) (fun k x y=>x.tmod y))
theorem Gt:IL=(fun k x y=>x.tmod y):=Classical.choose_spec (cO (α:=IntKind→Int→Int→Int) (fun k x y=>x.tmod y))
theorem Gs (k x y):IL k x y=x.tmod y:=by rw[Gt]
def yV:IntKind→Int→Int→Int:=Classical.choose (cO (α:=IntKind→Int→Int→Int) (fun k x y=>k.wrap (BitVec.ofInt k.bits x &&& BitVec.ofInt k.bits y).toNat))
theorem EY:yV=(fun k x y=>k.wrap (BitVec.ofInt k.bits x &&& BitVec.ofInt k.bits y).toNat):=Classical.choose_spec (cO (α:=IntKind→Int→Int→Int) (fun k x y=>k.wrap (BitVec.ofInt k.bits x &&& BitVec.ofInt k.bits y).toNat))
theorem qU (k x y):yV k x y=k.wrap (BitVec.ofInt k.bits x &&& BitVec.ofInt k.bits y).toNat:=by rw[EY]
def M7:IntKind→Int→Int→Int:=Classical.choose (cO (α:=IntKind→Int→Int→Int) (fun k x y=>k.wrap (BitVec.ofInt k.bits x ||| BitVec.ofInt k.bits y).toNat))
theorem IC:M7=(fun k x y=>k.wrap (BitVec.ofInt k.bits x ||| BitVec.ofInt k.bits y).toNat):=Classical.choose_spec (cO (α:=IntKind→Int→Int→Int) (fun k x y=>k.wrap (BitVec.ofInt k.bits x ||| BitVec.ofInt k.bits y).toNat))
theorem zH (k x y):M7 k x y=k.wrap (BitVec.ofInt k.bits x ||| BitVec.ofInt k.bits y).toNat:=by rw[IC]
def I5:IntKind→Int→Int→Int:=Classical.choose (cO (α:=IntKind→Int→Int→Int) (fun k x y=>k.wrap (BitVec.ofInt k.bits x ^^^ BitVec.ofInt k.bits y).toNat))
theorem GV:I5=(fun k x y=>k.wrap (BitVec.ofInt k.bits x ^^^ BitVec.ofInt k.bits y).toNat):=Classical.choose_spec (cO (α:=IntKind→Int→Int→Int) (fun k x y=>k.wrap (BitVec.ofInt k.bits x ^^^ BitVec.ofInt k.bits y).toNat))
theorem wz (k x y):I5 k x y=k.wrap (BitVec.ofInt k.bits x ^^^ BitVec.ofInt k.bits y).toNat:=by rw[GV]
def Lc:IntKind→Int→Int→Int:=Classical.choose (cO (α:=IntKind→Int→Int→Int) (fun k x y=>k.wrap (BitVec.ofInt k.bits x &&& ~~~(BitVec.ofInt k.bits y)).toNat))
theorem Hu:Lc=(fun k x y=>k.wrap (BitVec.ofInt k.bits x &&& ~~~(BitVec.ofInt k.bits y)).toNat):=Classical.choose_spec (cO (α:=IntKind→Int→Int→Int) (fun k x y=>k.wrap (BitVec.ofInt k.bits x &&& ~~~(BitVec.ofInt k.bits y)).toNat))
theorem yU (k x y):Lc k x y=k.wrap (BitVec.ofInt k.bits x &&& ~~~(BitVec.ofInt k.bits y)).toNat:=by rw[Hu]
def yE:IntKind→Int→Int→Int:=Classical.choose (cO (α:=IntKind→Int→Int→Int) (fun k x y=>k.wrap (x*2 ^ (min y.toNat k.bits))))
theorem GF:yE=(fun k x y=>k.wrap (x*2 ^ (min y.toNat k.bits))):=Classical.choose_spec (cO (α:=IntKind→Int→Int→Int) (fun k x y=>k.wrap (x*2 ^ (min y.toNat k.bits))))
theorem A9 (k x y):yE k x y=k.wrap (x*2 ^ (min y.toNat k.bits)):=by rw[GF]
def zQ:IntKind→Int→Int→Int:=Classical.choose (cO (α:=IntKind→Int→Int→Int) (fun k x y=>x.fdiv (2 ^ (min y.toNat k.bits))))
theorem GH:zQ=(fun k x y=>x.fdiv (2 ^ (min y.toNat k.bits))):=Classical.choose_spec (cO (α:=IntKind→Int→Int→Int) (fun k x y=>x.fdiv (2 ^ (min y.toNat k.bits))))
theorem Ba (k x y):zQ k x y=x.fdiv (2 ^ (min y.toNat k.bits)):=by rw[GH]
def NW:IntKind→Int→Int:=Classical.choose (cO (α:=IntKind→Int→Int) (fun k x=>k.wrap x))
theorem I4:NW=(fun k x=>k.wrap x):=Classical.choose_spec (cO (α:=IntKind→Int→Int) (fun k x=>k.wrap x))
theorem I3 (k x):NW k x=k.wrap x:=by rw[I4]
def Ix:IntKind→Int→Int:=Classical.choose (cO (α:=IntKind→Int→Int) (fun k x=>k.wrap (0-x)))
theorem Gc:Ix=(fun k x=>k.wrap (0-x)):=Classical.choose_spec (cO (α:=IntKind→Int→Int) (fun k x=>k.wrap (0-x)))
theorem Gb (k x):Ix k x=k.wrap (0-x):=by rw[Gc]
def eU:Int→Int→Bool:=Classical.choose (cO (α:=Int→Int→Bool) (fun x y=>(x == y)))
theorem HS:eU=(fun x y=>(x == y)):=Classical.choose_spec (cO (α:=Int→Int→Bool) (fun x y=>(x == y)))
theorem bR (x y):eU x y=(x == y):=by rw[HS]
def cP:Int→Int→Bool:=Classical.choose (cO (α:=Int→Int→Bool) (fun x y=>decide (x<y)))
theorem Io:cP=(fun x y=>decide (x<y)):=Classical.choose_spec (cO (α:=Int→Int→Bool) (fun x y=>decide (x<y)))
theorem ew (x y):cP x y=decide (x<y):=by rw[Io]
def mK:Int→Int→Bool:=Classical.choose (cO (α:=Int→Int→Bool) (fun x y=>decide (x≤y)))
theorem Ij:mK=(fun x y=>decide (x≤y)):=Classical.choose_spec (cO (α:=Int→Int→Bool) (fun x y=>decide (x≤y)))
theorem lR (x y):mK x y=decide (x≤y):=by rw[Ij]
def dQ:Bool→Bool:=Classical.choose (cO (α:=Bool→Bool) (fun b=>(!b)))
theorem Ge:dQ=(fun b=>(!b)):=Classical.choose_spec (cO (α:=Bool→Bool) (fun b=>(!b)))
theorem hY (b):dQ b=(!b):=by rw[Ge]
def fB:Bool→Bool→Bool:=Classical.choose (cO (α:=Bool→Bool→Bool) (fun a b=>(a && b)))
theorem EX:fB=(fun a b=>(a && b)):=Classical.choose_spec (cO (α:=Bool→Bool→Bool) (fun a b=>(a && b)))
theorem nK (a b):fB a b=(a && b):=by rw[EX]
def LC:Bool→Bool→Bool:=Classical.choose (cO (α:=Bool→Bool→Bool) (fun a b=>(a == b)))
theorem HR:LC=(fun a b=>(a == b)):=Classical.choose_spec (cO (α:=Bool→Bool→Bool) (fun a b=>(a == b)))
theorem HQ (a b):LC a b=(a == b):=by rw[HR]
def DJ:Int→Int→Int:=Classical.choose (cO (α:=Int→Int→Int) (fun x y=>if y<x then y else x))
theorem FQ:DJ=(fun x y=>if y<x then y else x):=Classical.choose_spec (cO (α:=Int→Int→Int) (fun x y=>if y<x then y else x))
theorem AQ (x y):DJ x y=if y<x then y else x:=by rw[FQ]
def vP:Int→Int→Int:=Classical.choose (cO (α:=Int→Int→Int) (fun x y=>if y > x then y else x))
theorem FN:vP=(fun x y=>if y > x then y else x):=Classical.choose_spec (cO (α:=Int→Int→Int) (fun x y=>if y > x then y else x))
theorem vQ (x y):vP x y=if y > x then y else x:=by rw[FN]
def dY:Int→Nat→Bool:=Classical.choose (cO (α:=Int→Nat→Bool) (fun (i:Int) (n:Nat)=>decide (0≤i∧i<(n:Int))))
theorem Ib:dY=(fun (i:Int) (n:Nat)=>decide (0≤i∧i<(n:Int))):=Classical.choose_spec (cO (α:=Int→Nat→Bool) (fun (i:Int) (n:Nat)=>decide (0≤i∧i<(n:Int))))
theorem pG (i n):dY i n=decide (0≤i∧i<(n:Int)):=by rw[Ib]
def nT:Int→Nat→Bool:=Classical.choose (cO (α:=Int→Nat→Bool) (fun (i:Int) (n:Nat)=>decide (0≤i∧i≤(n:Int))))
theorem Fi:nT=(fun (i:Int) (n:Nat)=>decide (0≤i∧i≤(n:Int))):=Classical.choose_spec (cO (α:=Int→Nat→Bool) (fun (i:Int) (n:Nat)=>decide (0≤i∧i≤(n:Int))))
theorem An (i n):nT i n=decide (0≤i∧i≤(n:Int)):=by rw[Fi]
def Is:Int→Int→Nat→Bool:=Classical.choose (cO (α:=Int→Int→Nat→Bool) (fun l c b=>decide (0≤l∧l≤c∧c.toNat*b≤room∧c.toNat≤room)))
theorem It:Is=(fun l c b=>decide (0≤l∧l≤c∧c.toNat*b≤room∧c.toNat≤room)):=Classical.choose_spec (cO (α:=Int→Int→Nat→Bool) (fun l c b=>decide (0≤l∧l≤c∧c.toNat*b≤room∧c.toNat≤room)))
theorem zx (l c b):Is l c b=decide (0≤l∧l≤c∧c.toNat*b≤room∧c.toNat≤room):=by rw[It]
def gI:Int→Nat:=Classical.choose (cO (α:=Int→Nat) (fun i=>i.toNat))
theorem I0:gI=(fun i=>i.toNat):=Classical.choose_spec (cO (α:=Int→Nat) (fun i=>i.toNat))
theorem iN (i):gI i=i.toNat:=by rw[I0]
def aD:Nat→Int→Nat→Nat:=Classical.choose (cO (α:=Nat→Int→Nat→Nat) (fun o i s=>o+i.toNat*s))
theorem H9:aD=(fun o i s=>o+i.toNat*s):=Classical.choose_spec (cO (α:=Nat→Int→Nat→Nat) (fun o i s=>o+i.toNat*s))
theorem bS (o i s):aD o i s=o+i.toNat*s:=by rw[H9]
def aq:Nat→Nat→Nat:=Classical.choose (cO (α:=Nat→Nat→Nat) (fun a b=>a+b))
theorem ES:aq=(fun a b=>a+b):=Classical.choose_spec (cO (α:=Nat→Nat→Nat) (fun a b=>a+b))
theorem ba (a b):aq a b=a+b:=by rw[ES]
def p8:Nat→Nat→Nat:=Classical.choose (cO (α:=Nat→Nat→Nat) (fun a b=>a-b))
theorem GM:p8=(fun a b=>a-b):=Classical.choose_spec (cO (α:=Nat→Nat→Nat) (fun a b=>a-b))
theorem kN (a b):p8 a b=a-b:=by rw[GM]
def bg:Nat→Nat→Nat:=Classical.choose (cO (α:=Nat→Nat→Nat) (fun a b=>a*b))
theorem F7:bg=(fun a b=>a*b):=Classical.choose_spec (cO (α:=Nat→Nat→Nat) (fun a b=>a*b))
theorem g8 (a b):bg a b=a*b:=by rw[F7]
def FO:Nat→Nat→Nat:=Classical.choose (cO (α:=Nat→Nat→Nat) (fun a b=>min a b))
theorem FP:FO=(fun a b=>min a b):=Classical.choose_spec (cO (α:=Nat→Nat→Nat) (fun a b=>min a b))
theorem AP (a b):FO a b=min a b:=by rw[FP]
def bX:Nat→Nat→Bool:=Classical.choose (cO (α:=Nat→Nat→Bool) (fun a b=>decide (a<b)))
theorem Ip:bX=(fun a b=>decide (a<b)):=Classical.choose_spec (cO (α:=Nat→Nat→Bool) (fun a b=>decide (a<b)))
theorem gQ (a b):bX a b=decide (a<b):=by rw[Ip]
def gi:Nat→Nat→Bool:=Classical.choose (cO (α:=Nat→Nat→Bool) (fun a b=>decide (a≤b)))
theorem Ik:gi=(fun a b=>decide (a≤b)):=Classical.choose_spec (cO (α:=Nat→Nat→Bool) (fun a b=>decide (a≤b)))
theorem kB (a b):gi a b=decide (a≤b):=by rw[Ik]
def dJ:Nat→Nat→Bool:=Classical.choose (cO (α:=Nat→Nat→Bool) (fun a b=>decide (a=b)))
theorem HT:dJ=(fun a b=>decide (a=b)):=Classical.choose_spec (cO (α:=Nat→Nat→Bool) (fun a b=>decide (a=b)))
theorem gb (a b):dJ a b=decide (a=b):=by rw[HT]
def qu:Nat→Nat→Nat→Nat→Bool:=Classical.choose (cO (α:=Nat→Nat→Nat→Nat→Bool) (fun o m p n=>decide (p≤o∧o+m≤p+n)))
theorem Ic:qu=(fun o m p n=>decide (p≤o∧o+m≤p+n)):=Classical.choose_spec (cO (α:=Nat→Nat→Nat→Nat→Bool) (fun o m p n=>decide (p≤o∧o+m≤p+n)))
theorem jk (o m p n):qu o m p n=decide (p≤o∧o+m≤p+n):=by rw[Ic]
def Ht:(Nat→AV)→IntKind→Nat→Bool→Prop:=Classical.choose (cO (α:=(Nat→AV)→IntKind→Nat→Bool→Prop) (fun f k sz full=>∀ j,∃ z n m,f j=AV.slcT none (Row.M [aW.arr k z n]) sz m full))
theorem EU:Ht=(fun f k sz full=>∀ j,∃ z n m,f j=AV.slcT none (Row.M [aW.arr k z n]) sz m full):=Classical.choose_spec (cO (α:=(Nat→AV)→IntKind→Nat→Bool→Prop) (fun f k sz full=>∀ j,∃ z n m,f j=AV.slcT none (Row.M [aW.arr k z n]) sz m full))
theorem ET (f k sz full):Ht f k sz full=∀ j,∃ z n m,f j=AV.slcT none (Row.M [aW.arr k z n]) sz m full:=by rw[EU]
def IQ:Bool→(Nat→Int)→(Nat→Int)→Nat→Int:=Classical.choose (cO (α:=Bool→(Nat→Int)→(Nat→Int)→Nat→Int) (fun b x y=>cond b x y))
theorem GC:IQ=(fun b x y=>cond b x y):=Classical.choose_spec (cO (α:=Bool→(Nat→Int)→(Nat→Int)→Nat→Int) (fun b x y=>cond b x y))
theorem GB (b x y):IQ b x y=cond b x y:=by rw[GC]
def Gy:Bool→Nat→Nat→Nat:=Classical.choose (cO (α:=Bool→Nat→Nat→Nat) (fun b x y=>cond b x y))
theorem GA:Gy=(fun b x y=>cond b x y):=Classical.choose_spec (cO (α:=Bool→Nat→Nat→Nat) (fun b x y=>cond b x y))
theorem Gz (b x y):Gy b x y=cond b x y:=by rw[GA]
def fO:Nat→Nat→Nat→Bool:=Classical.choose (cO (α:=Nat→Nat→Nat→Bool) (fun m n b=>decide ((m+n)*b≤room∧m+n≤room)))
theorem Ei:fO=(fun m n b=>decide ((m+n)*b≤room∧m+n≤room)):=Classical.choose_spec (cO (α:=Nat→Nat→Nat→Bool) (fun m n b=>decide ((m+n)*b≤room∧m+n≤room)))
theorem yw (m n b):fO m n b=decide ((m+n)*b≤room∧m+n≤room):=by rw[Ei]
def fS:(Nat→Int)→Nat→Int→Nat→Int:=Classical.choose (cO (α:=(Nat→Int)→Nat→Int→Nat→Int) (fun z i x=>fun j=>if j=i then x else z j))
theorem kS:fS=(fun z i x=>fun j=>if j=i then x else z j):=Classical.choose_spec (cO (α:=(Nat→Int)→Nat→Int→Nat→Int) (fun z i x=>fun j=>if j=i then x else z j))
theorem rp (z i x):fS z i x=fun j=>if j=i then x else z j:=by rw[kS]
def qL:(Nat→Int)→Nat→Nat→Int:=Classical.choose (cO (α:=(Nat→Int)→Nat→Nat→Int) (fun z o=>fun j=>z (o+j)))
theorem jx:qL=(fun z o=>fun j=>z (o+j)):=Classical.choose_spec (cO (α:=(Nat→Int)→Nat→Nat→Int) (fun z o=>fun j=>z (o+j)))
def gN:(Nat→Int)→Nat→(Nat→Int)→Nat→Nat→Int:=Classical.choose (cO (α:=(Nat→Int)→Nat→(Nat→Int)→Nat→Nat→Int) (fun z o z' n=>tz z o z' n))
theorem Fo:gN=(fun z o z' n=>tz z o z' n):=Classical.choose_spec (cO (α:=(Nat→Int)→Nat→(Nat→Int)→Nat→Nat→Int) (fun z o z' n=>tz z o z' n))
theorem nZ (z o z' n):gN z o z' n=tz z o z' n:=by rw[Fo]
def qN:(Nat→Int)→Nat→(Nat→Int)→Nat→Int:=Classical.choose (cO (α:=(Nat→Int)→Nat→(Nat→Int)→Nat→Int) (fun z n z'=>fun i=>if i<n then z i else z' (i-n)))
theorem nN:qN=(fun z n z'=>fun i=>if i<n then z i else z' (i-n)):=Classical.choose_spec (cO (α:=(Nat→Int)→Nat→(Nat→Int)→Nat→Int) (fun z n z'=>fun i=>if i<n then z i else z' (i-n)))
def Il:List Int→Nat:=Classical.choose (cO (α:=List Int→Nat) (fun l=>l.length))
theorem FI:Il=(fun l=>l.length):=Classical.choose_spec (cO (α:=List Int→Nat) (fun l=>l.length))
theorem FH (l):Il l=l.length:=by rw[FI]
def aL:List Int→Nat→Int:=Classical.choose (cO (α:=List Int→Nat→Int) (fun l=>fun j=>l.getD j 0))
theorem kD:aL=(fun l=>fun j=>l.getD j 0):=Classical.choose_spec (cO (α:=List Int→Nat→Int) (fun l=>fun j=>l.getD j 0))
theorem gx (l):aL l=fun j=>l.getD j 0:=by rw[kD]
def kd:(Nat→Int)→(Nat→Int)→Nat→Bool:=Classical.choose (cO (α:=(Nat→Int)→(Nat→Int)→Nat→Bool) (fun z z' n=>allEq z z' n))
theorem tV:kd=(fun z z' n=>allEq z z' n):=Classical.choose_spec (cO (α:=(Nat→Int)→(Nat→Int)→Nat→Bool) (fun z z' n=>allEq z z' n))
theorem Bx (z z' n):kd z z' n=allEq z z' n:=by rw[tV]
def l7:(List Int→Bool)→List Int→Bool→List Int→Bool:=Classical.choose (cO (α:=(List Int→Bool)→List Int→Bool→List Int→Bool) (fun h n b=>dh h n b))
theorem Er:l7=(fun h n b=>dh h n b):=Classical.choose_spec (cO (α:=(List Int→Bool)→List Int→Bool→List Int→Bool) (fun h n b=>dh h n b))
theorem oT (h n b):l7 h n b=dh h n b:=by rw[Er]
def mR:(List Int→Int)→List Int→Int→List Int→Int:=Classical.choose (cO (α:=(List Int→Int)→List Int→Int→List Int→Int) (fun g n x=>eZ g n x))
theorem Es:mR=(fun g n x=>eZ g n x):=Classical.choose_spec (cO (α:=(List Int→Int)→List Int→Int→List Int→Int) (fun g n x=>eZ g n x))
theorem oU (g n x):mR g n x=eZ g n x:=by rw[Es]
def qd:Bool→Nat→Nat:=Classical.choose (cO (α:=Bool→Nat→Nat) (fun b c=>nU b c))
theorem CY:qd=(fun b c=>nU b c):=Classical.choose_spec (cO (α:=Bool→Nat→Nat) (fun b c=>nU b c))
theorem rS (b c):qd b c=nU b c:=by rw[CY]
def Aq:Bool→Nat→Nat:=Classical.choose (cO (α:=Bool→Nat→Nat) (fun b c=>wK b c))
theorem CZ:Aq=(fun b c=>wK b c):=Classical.choose_spec (cO (α:=Bool→Nat→Nat) (fun b c=>wK b c))
theorem wL (b c):Aq b c=wK b c:=by rw[CZ]

end
end Go.Eng
end
