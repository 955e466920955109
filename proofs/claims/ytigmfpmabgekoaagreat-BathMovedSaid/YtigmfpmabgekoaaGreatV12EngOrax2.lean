/- The engine: tables of calls that are known beforehand. -/
import Derived.Test.YtigmfpmabgekoaaGreatV12EngXx3
set_option linter.unusedVariables false
set_option linter.unusedSimpArgs false
section
namespace Go.Eng

def T8 (f:AV→Bool) (r:Row):Bool :=
 match r with
 | .I ..=>true
 | .G l=>l.all f
 | .F ..=>true
 | .M l=>gd l
def rI:Nat→AV→Bool
 | 0,_=>false
 | n+1,v=>match v with
   | .undef | .bool _ | .int _ _ | .str _ | .nilp | .nils | .nilm | .nilf=>true
   | .ptrT none _ _=>true
   | .slcT none _ _ _ _=>true
   | .agg r=>T8 (rI n) r
   | .tup l=>l.all (rI n)
   | .fn _ a b=>a.all (rI n) && b.all (rI n)
   | _=>false
theorem gn {f:AV→Bool}:∀ {l:List AV} {j:Nat},l.all f=true→j<l.length→f (l.getD j .undef)=true
 | [],j,_,h=>by simp at h
 | x::l,0,h,_=>by simp at h;simpa using h.1
 | x::l,j+1,h,hj=>by
   simp only[List.all_cons,Bool.and_eq_true] at h
   rw[List.getD_cons_succ]
   exact gn h.2 (by simpa using hj)
theorem iU {p:aH} {M N:Mu}:∀ (n:Nat) {v:AV} {c:Value},rI n v=true→aj p M v c→aj p N v c
 | 0,v,c,h,_=>by simp[rI] at h
 | n + 1,v,c,h,hv=>by
   have ih:=@iU p M N n
   cases hv with
   | undef c=>exact .undef c
   | bool b=>exact .bool b
   | int k n=>exact .int k n
   | str s=>exact .str s
   | nilp=>exact .nilp
   | nils=>exact .nils
   | nilm=>exact .nilm
   | nilf=>exact .nilf
   | ptr h0=>simp[rI] at h
   | slc h0=>simp[rI] at h
   | map h0=>simp[rI] at h
   | yld h0=>simp[rI] at h
   | ptrT vs h0 h1 hv =>
     rename_i s r off b o
     cases s with
     | some s=>simp[rI] at h
     | none=>exact .ptrT vs h0 h1 hv
   | slcT vs h0 h1 hv hl hf hx =>
     rename_i s r sz len b o x cc full
     cases s with
     | some s=>simp[rI] at h
     | none=>exact .slcT vs h0 h1 hv hl hf hx
   | slcN=>exact .slcN
   | fn ha hb va vb =>
     simp only[rI,Bool.and_eq_true] at h
     exact .fn ha hb (fun j hj=>ih (gn h.1 hj) (va j hj)) (fun j hj=>ih (gn h.2 hj) (vb j hj))
   | agg hs h1 hv =>
     rename_i r cs
     simp only[rI] at h
     cases r with
     | I k l=>exact .agg hs h1 (fun j hj=>(hv j hj).bA _ _)
     | F f m=>exact .agg hs h1 hv
     | M l=>exact .agg hs h1 (a7.gd h hv)
     | G l=>exact .agg hs h1 (fun j hj=>ih (gn (f:=rI n) h hj) (hv j hj))
   | tup hs hv =>
     simp only[rI] at h
     exact .tup hs (fun j hj=>ih (gn h hj) (hv j hj))

structure jK where
 f:FuncId
 args:List AV
 v:AV
def bV (P:Program) (e:jK):Prop:=∀ (H:aa),H≠[]→∀ (p:aH) (M:Mu) (w:World) (cargs:Array Value),a6 p M H w→gI p M e.args cargs →
 (∃ fn,P.funcs[e.f]?=some fn∧fn.body.isNone=false)∧CallsIn Fence.wide 0 P e.f cargs w (j8 p M H w e.v H)

theorem zH {P:Program} {call:aS} (hC:bL P call) {e:jK} {H':aa} (h:call (.fn e.f) e.args [⟨true,[]⟩]=some (e.v,H')) (hn:e.args.all (rI 9)=true):bV P e:=by
 intro H hne p M w cargs hH hA
 have hH0:a6 p Mu.no [⟨true,[]⟩] w:=⟨hH.pers,(fun d i v B hg hB=>by
  cases d<;>simp[ar,an] at hg<;>exact absurd hg.2.symm hB),(fun d i v B d' i' v' B' b o t o' t' hg hB hg' hB' hm hm'=>by cases hm),(fun d i v t hm=>by cases hm)⟩
 have hA0:gI p Mu.no e.args cargs:=⟨hA.1,fun j hj=>iU 9 (gn hn hj) (hA.2 j hj)⟩
 obtain ⟨h1,h2⟩:=hC (.fn e.f) e.args _ e.v H' h (by simp) p Mu.no w cargs hH0 hA0
 refine ⟨h1,h2.mono ?_⟩
 rintro en w' ⟨cv,rfl,st,p',M',hE,hv⟩
 have hM:Mu.le M' M:=fun d i v t hm=>by
  have h3:=(hE.rel.dom d i v t hm).1
  have h4:aA [⟨true,[]⟩] d=true:=by cases d<;>rfl
  rw[st.next d h4] at h3
  cases d<;>simp[ai] at h3
 have all:∀ b,Go.Eng.bf Mu.no [⟨true,[]⟩] b:=fun b d i u B _ _ _ o t hm=>by cases hm
 have no:∀ {b:Nat},¬ (aA [⟨true,[]⟩] 0=false∧∃ i u o' t',Mu.no 0 i u=some (b,o',t')):=fun h=>by have:=h.1;cases this
 refine ⟨cv,rfl,Still.refl H,p',M,{ bU.refl hH with pst:=hE.pst,rel:=⟨hE.rel.pers,?_,hH.apart,hH.dom⟩,stay:=hE.stay.weaken (fun b _ _=>all b),fresh:=fun b o v hv=>(hE.fresh b o v hv).imp_right fun h=>h.elim .inl fun h=>(no h).elim },hv.mono (aH.le.refl _) hM⟩
 intro d i u B hg hB
 obtain ⟨b,o,t,k1,k2,k3⟩:=hH.live d i u B hg hB
 have hlt:=k2.lt hB
 refine ⟨b,o,t,k1,k2.mono hE.pst (Mu.le.refl _) (hE.stay.block b hlt (all b)),fun x=>?_⟩
 cases hx:p' b x with
 | none=>rfl
 | some y =>
   rcases hE.fresh b x y hx with h | h | ⟨h,_⟩
   · rw[k3] at h;cases h
   · omega
   · cases h

noncomputable def uP (f:AV→AV→Bool) (r s:Row):Bool :=
 match r,s with
 | .I k l,.I k' l'=>gN k k' && listEqI l l'
 | .G l,.G l'=>listEqV f l l'
 | _,_=>false
where
 listEqI:List Int→List Int→Bool
  | [],[]=>true
  | x::a,y::b=>GP x y && listEqI a b
  | _,_=>false
 listEqV (f:AV→AV→Bool):List AV→List AV→Bool
  | [],[]=>true
  | x::a,y::b=>f x y && listEqV f a b
  | _,_=>false
def AR:Option Nat→Option Nat→Bool
 | none,none=>true
 | some a,some b=>Nat.beq a b
 | _,_=>false
noncomputable def J6:Nat→AV→AV→Bool
 | 0,_,_=>false
 | n+1,v,u=>match v,u with
   | .bool a,.bool b=>a == b
   | .int k a,.int k' b=>gN k k' && GP a b
   | .nilp,.nilp=>true
   | .nils,.nils=>true
   | .nilm,.nilm=>true
   | .ptrT s r o,.ptrT s' r' o'=>AR s s' && (uP (J6 n) r r' && Nat.beq o o')
   | .slcT s r z l b,.slcT s' r' z' l' b'=>AR s s' && (uP (J6 n) r r' && (Nat.beq z z' && (Nat.beq l l' && b == b')))
   | .agg r,.agg r'=>uP (J6 n) r r'
   | _,_=>false
theorem tG:∀ (l m:List Int),uP.listEqI l m=true→l=m
 | [],[],_=>rfl
 | [],_::_,h=>by simp[uP.listEqI] at h
 | _::_,[],h=>by simp[uP.listEqI] at h
 | x::a,y::b,h=>by
   simp only[uP.listEqI,Bool.and_eq_true,w9,beq_iff_eq] at h
   rw[h.1,tG a b h.2]
theorem gU {f:AV→AV→Bool} (hf:∀ x y,f x y=true→x=y):∀ (l m:List AV),uP.listEqV f l m=true→l=m
 | [],[],_=>rfl
 | [],_::_,h=>by simp[uP.listEqV] at h
 | _::_,[],h=>by simp[uP.listEqV] at h
 | x::a,y::b,h=>by
   simp only[uP.listEqV,Bool.and_eq_true] at h
   rw[hf _ _ h.1,gU hf a b h.2]
theorem oh {f:AV→AV→Bool} (hf:∀ x y,f x y=true→x=y) (r s:Row) (h:uP f r s=true):r=s:=by
 cases r<;>cases s<;>simp only[uP,Bool.and_eq_true,eZ,decide_eq_true_eq] at h<;>try (simp at h;done)
 · rw[h.1,tG _ _ h.2]
 · rw[gU hf _ _ h]
theorem pn (a b:Option Nat) (h:AR a b=true):a=b:=by
 cases a<;>cases b<;>simp[AR] at h ⊢;exact h
theorem EU:∀ (n:Nat) (x y:AV),J6 n x y=true→x=y
 | 0,x,y,h=>by simp[J6] at h
 | n+1,x,y,h=>by
   have ih:=EU n
   cases x<;>cases y<;>simp only[J6,Bool.and_eq_true,eZ,w9,decide_eq_true_eq,beq_iff_eq] at h<;>try (first | rfl | (simp at h;done))
   case bool.bool=>rw[h]
   case int.int=>rw[h.1,h.2]
   case ptrT.ptrT=>rw[pn _ _ h.1,oh ih _ _ h.2.1,Nat.eq_of_beq_eq_true h.2.2]
   case slcT.slcT=>rw[pn _ _ h.1,oh ih _ _ h.2.1,Nat.eq_of_beq_eq_true h.2.2.1,Nat.eq_of_beq_eq_true h.2.2.2.1,h.2.2.2.2]
   case agg.agg=>rw[oh ih _ _ h]

noncomputable def Bg:List jK→aS→FuncId→List AV→aa→Option (AV×aa)
 | [],_,_,_,_=>none
 | e::r,c,f,args,H=>if Nat.beq e.f f && uP.listEqV (J6 9) e.args args then some (e.v,H) else Bg r c f args H
theorem xI {P:Program}:∀ (tab:List jK),(∀ e ∈ tab,bV P e)→vm P (Bg tab)
 | [],_=>fun call _ f args H v H' h=>by simp[Bg] at h
 | e :: r,hT=>fun call hC f args H v H' h=>by
   simp only[Bg] at h
   split at h
   · rename_i hc
     simp only[Bool.and_eq_true] at hc
     have e1:=Nat.eq_of_beq_eq_true hc.1
     have e2:=gU (EU 9) _ _ hc.2
     have e3:=Option.some.inj h
     simp only[Prod.mk.injEq] at e3
     obtain ⟨e3,e4⟩:=e3
     subst e1;subst e2;subst e3;subst e4
     exact hT e (by simp) H
   · exact xI r (fun e' he=>hT e' (List.mem_cons_of_mem _ he)) call hC f args H v H' h

end Go.Eng
end
section
namespace Go.Eng
noncomputable section

inductive Tr (α:Type) where
 | ok (a:α)
 | bad
 | ite (c:Bool) (t e:Tr α)
 | req (c:Bool) (t:Tr α)
 | reqP (p:Prop) (t:Tr α)
open Classical in
def Tr.run {α:Type}:Tr α→Option α
 | .ok a=>some a
 | .bad=>none
 | .ite c t e=>cond c t.run e.run
 | .req c t=>cond c t.run none
 | .reqP p t=>if p then t.run else none
def Tr.bind {α β:Type} (t:Tr α) (f:α→Tr β):Tr β:=Tr.rec (motive:=fun _=>Tr β) f .bad (fun c _ _ a b=>.ite c a b) (fun c _ a=>.req c a) (fun p _ a=>.reqP p a) t
theorem Tr.ED {α β:Type} (t:Tr α) (f:α→Tr β):(t.bind f).run=t.run.bind fun a=>(f a).run:=by
 induction t with
 | ok a=>rfl
 | bad=>rfl
 | ite c a b iha ihb =>
   have e:(Tr.ite c a b).bind f=.ite c (a.bind f) (b.bind f):=rfl
   rw[e];simp only[Tr.run,iha,ihb];cases c<;>rfl
 | req c a ih =>
   have e:(Tr.req c a).bind f=.req c (a.bind f):=rfl
   rw[e];simp only[Tr.run,ih];cases c<;>rfl
 | reqP p a ih =>
   have e:(Tr.reqP p a).bind f=.reqP p (a.bind f):=rfl
   rw[e];simp only[Tr.run,ih]
   by_cases hp:p
   · rw[if_pos hp,if_pos hp]
   · rw[if_neg hp,if_neg hp];rfl
theorem Tr.cY {α:Type} {p:Prop} {t:Tr α} {x:α} (h:(Tr.reqP p t).run=some x):p∧t.run=some x:=by
 simp only[Tr.run] at h
 by_cases hp:p
 · rw[if_pos hp] at h;exact ⟨hp,h⟩
 · rw[if_neg hp] at h;cases h
theorem Tr.Gm {α:Type} {p:Prop} {a:Tr α} (h:p):(Tr.reqP p a).run=a.run:=by simp only[Tr.run];rw[if_pos h]
theorem Tr.bind_some {α β:Type} {t:Tr α} {f:α→Tr β} {y:β} (h:(t.bind f).run=some y):∃ x,t.run=some x∧(f x).run=some y:=by
 rw[Tr.ED] at h
 exact Option.bind_eq_some_iff.1 h
theorem Tr.aQ {α:Type} {c:Bool} {t:Tr α} {x:α} (h:(Tr.req c t).run=some x):c=true∧t.run=some x:=by
 cases c with
 | true=>exact ⟨rfl,h⟩
 | false=>simp[Tr.run] at h
theorem Tr.gz {α:Type} {c:Bool} {t e:Tr α} {x:α} (h:(Tr.ite c t e).run=some x):(c=true∧t.run=some x)∨(c=false∧e.run=some x):=by
 cases c with
 | true=>exact .inl ⟨rfl,h⟩
 | false=>exact .inr ⟨rfl,h⟩
theorem Tr.ab {α:Type} {a x:α} (h:(Tr.ok a).run=some x):a=x:=Option.some.inj h
theorem Tr.ae {α:Type} {x:α} (h:(Tr.bad:Tr α).run=some x):False:=by simp[Tr.run] at h
def wc {α:Type} (o:Option α):Tr α:=Option.rec (motive:=fun _=>Tr α) .bad .ok o
theorem cW {α:Type} (o:Option α):(wc o).run=o:=by cases o<;>rfl
theorem cX {α:Type} (f:α):∃ g,g=f:=⟨f,rfl⟩

def aK:IntKind→Int→Int→Int:=Classical.choose (cX (α:=IntKind→Int→Int→Int) (fun k x y=>k.wrap (x+y)))
theorem GV:aK=(fun k x y=>k.wrap (x+y)):=Classical.choose_spec (cX (α:=IntKind→Int→Int→Int) (fun k x y=>k.wrap (x+y)))
theorem bH (k x y):aK k x y=k.wrap (x+y):=by rw[GV]
def eO:IntKind→Int→Int→Int:=Classical.choose (cX (α:=IntKind→Int→Int→Int) (fun k x y=>k.wrap (x-y)))
theorem IH:eO=(fun k x y=>k.wrap (x-y)):=Classical.choose_spec (cX (α:=IntKind→Int→Int→Int) (fun k x y=>k.wrap (x-y)))
theorem gE (k x y):eO k x y=k.wrap (x-y):=by rw[IH]
def oG:IntKind→Int→Int→Int:=Classical.choose (cX (α:=IntKind→Int→Int→Int) (fun k x y=>k.wrap (x*y)))
theorem HZ:oG=(fun k x y=>k.wrap (x*y)):=Classical.choose_spec (cX (α:=IntKind→Int→Int→Int) (fun k x y=>k.wrap (x*y)))
theorem iT (k x y):oG k x y=k.wrap (x*y):=by rw[HZ]
def KR:IntKind→Int→Int→Int:=Classical.choose (cX (α:=IntKind→Int→Int→Int) (fun k x y=>k.wrap (x.tdiv y)))
theorem Io:KR=(fun k x y=>k.wrap (x.tdiv y)):=Classical.choose_spec (cX (α:=IntKind→Int→Int→Int) (fun k x y=>k.wrap (x.tdiv y)))
theorem Im (k x y):KR k x y=k.wrap (x.tdiv y):=by rw[Io]
def dq:IntKind→Int→Int→Int:=Classical.choose (cX (α:=IntKind→Int→Int→Int) (fun k x y=>x.tmod y))
theorem Ir:dq=(fun k x y=>x.tmod y):=Classical.choose_spec (cX (α:=IntKind→Int→Int→Int) (fun k x y=>x.tmod y))
theorem CJ (k x y):dq k x y=x.tmod y:=by rw[Ir]
def JL:IntKind→Int→Int→Int:=Classical.choose (cX (α:=IntKind→Int→Int→Int) (fun k x y=>k.wrap (BitVec.ofInt k.bits x &&& BitVec.ofInt k.bits y).toNat))
theorem G1:JL=(fun k x y=>k.wrap (BitVec.ofInt k.bits x &&& BitVec.ofInt k.bits y).toNat):=Classical.choose_spec (cX (α:=IntKind→Int→Int→Int) (fun k x y=>k.wrap (BitVec.ofInt k.bits x &&& BitVec.ofInt k.bits y).toNat))
theorem wN (k x y):JL k x y=k.wrap (BitVec.ofInt k.bits x &&& BitVec.ofInt k.bits y).toNat:=by rw[G1]
def Qk:IntKind→Int→Int→Int:=Classical.choose (cX (α:=IntKind→Int→Int→Int) (fun k x y=>k.wrap (BitVec.ofInt k.bits x ||| BitVec.ofInt k.bits y).toNat))
theorem KL:Qk=(fun k x y=>k.wrap (BitVec.ofInt k.bits x ||| BitVec.ofInt k.bits y).toNat):=Classical.choose_spec (cX (α:=IntKind→Int→Int→Int) (fun k x y=>k.wrap (BitVec.ofInt k.bits x ||| BitVec.ofInt k.bits y).toNat))
theorem Bf (k x y):Qk k x y=k.wrap (BitVec.ofInt k.bits x ||| BitVec.ofInt k.bits y).toNat:=by rw[KL]
def Ld:IntKind→Int→Int→Int:=Classical.choose (cX (α:=IntKind→Int→Int→Int) (fun k x y=>k.wrap (BitVec.ofInt k.bits x ^^^ BitVec.ofInt k.bits y).toNat))
theorem IV:Ld=(fun k x y=>k.wrap (BitVec.ofInt k.bits x ^^^ BitVec.ofInt k.bits y).toNat):=Classical.choose_spec (cX (α:=IntKind→Int→Int→Int) (fun k x y=>k.wrap (BitVec.ofInt k.bits x ^^^ BitVec.ofInt k.bits y).toNat))
theorem yd (k x y):Ld k x y=k.wrap (BitVec.ofInt k.bits x ^^^ BitVec.ofInt k.bits y).toNat:=by rw[IV]
def Oh:IntKind→Int→Int→Int:=Classical.choose (cX (α:=IntKind→Int→Int→Int) (fun k x y=>k.wrap (BitVec.ofInt k.bits x &&& ~~~(BitVec.ofInt k.bits y)).toNat))
theorem JI:Oh=(fun k x y=>k.wrap (BitVec.ofInt k.bits x &&& ~~~(BitVec.ofInt k.bits y)).toNat):=Classical.choose_spec (cX (α:=IntKind→Int→Int→Int) (fun k x y=>k.wrap (BitVec.ofInt k.bits x &&& ~~~(BitVec.ofInt k.bits y)).toNat))
theorem AF (k x y):Oh k x y=k.wrap (BitVec.ofInt k.bits x &&& ~~~(BitVec.ofInt k.bits y)).toNat:=by rw[JI]
def K1:IntKind→Int→Int→Int:=Classical.choose (cX (α:=IntKind→Int→Int→Int) (fun k x y=>k.wrap (x*2 ^ (min y.toNat k.bits))))
theorem ID:K1=(fun k x y=>k.wrap (x*2 ^ (min y.toNat k.bits))):=Classical.choose_spec (cX (α:=IntKind→Int→Int→Int) (fun k x y=>k.wrap (x*2 ^ (min y.toNat k.bits))))
theorem IC (k x y):K1 k x y=k.wrap (x*2 ^ (min y.toNat k.bits)):=by rw[ID]
def K2:IntKind→Int→Int→Int:=Classical.choose (cX (α:=IntKind→Int→Int→Int) (fun k x y=>x.fdiv (2 ^ (min y.toNat k.bits))))
theorem IF:K2=(fun k x y=>x.fdiv (2 ^ (min y.toNat k.bits))):=Classical.choose_spec (cX (α:=IntKind→Int→Int→Int) (fun k x y=>x.fdiv (2 ^ (min y.toNat k.bits))))
theorem IE (k x y):K2 k x y=x.fdiv (2 ^ (min y.toNat k.bits)):=by rw[IF]
def iZ:IntKind→Int→Int:=Classical.choose (cX (α:=IntKind→Int→Int) (fun k x=>k.wrap x))
theorem Lc:iZ=(fun k x=>k.wrap x):=Classical.choose_spec (cX (α:=IntKind→Int→Int) (fun k x=>k.wrap x))
theorem GL (k x):iZ k x=k.wrap x:=by rw[Lc]
def KE:IntKind→Int→Int:=Classical.choose (cX (α:=IntKind→Int→Int) (fun k x=>k.wrap (0-x)))
theorem H9:KE=(fun k x=>k.wrap (0-x)):=Classical.choose_spec (cX (α:=IntKind→Int→Int) (fun k x=>k.wrap (0-x)))
theorem H8 (k x):KE k x=k.wrap (0-x):=by rw[H9]
def dD:Int→Int→Bool:=Classical.choose (cX (α:=Int→Int→Bool) (fun x y=>(x == y)))
theorem J9:dD=(fun x y=>(x == y)):=Classical.choose_spec (cX (α:=Int→Int→Bool) (fun x y=>(x == y)))
theorem cn (x y):dD x y=(x == y):=by rw[J9]
def df:Int→Int→Bool:=Classical.choose (cX (α:=Int→Int→Bool) (fun x y=>decide (x<y)))
theorem Kw:df=(fun x y=>decide (x<y)):=Classical.choose_spec (cX (α:=Int→Int→Bool) (fun x y=>decide (x<y)))
theorem fa (x y):df x y=decide (x<y):=by rw[Kw]
def nM:Int→Int→Bool:=Classical.choose (cX (α:=Int→Int→Bool) (fun x y=>decide (x≤y)))
theorem Ks:nM=(fun x y=>decide (x≤y)):=Classical.choose_spec (cX (α:=Int→Int→Bool) (fun x y=>decide (x≤y)))
theorem iG (x y):nM x y=decide (x≤y):=by rw[Ks]
def bG:Bool→Bool:=Classical.choose (cX (α:=Bool→Bool) (fun b=>(!b)))
theorem Ib:bG=(fun b=>(!b)):=Classical.choose_spec (cX (α:=Bool→Bool) (fun b=>(!b)))
theorem iV (b):bG b=(!b):=by rw[Ib]
def gJ:Bool→Bool→Bool:=Classical.choose (cX (α:=Bool→Bool→Bool) (fun a b=>(a && b)))
theorem G0:gJ=(fun a b=>(a && b)):=Classical.choose_spec (cX (α:=Bool→Bool→Bool) (fun a b=>(a && b)))
theorem oX (a b):gJ a b=(a && b):=by rw[G0]
def OM:Bool→Bool→Bool:=Classical.choose (cX (α:=Bool→Bool→Bool) (fun a b=>(a == b)))
theorem J8:OM=(fun a b=>(a == b)):=Classical.choose_spec (cX (α:=Bool→Bool→Bool) (fun a b=>(a == b)))
theorem J7 (a b):OM a b=(a == b):=by rw[J8]
def FQ:Int→Int→Int:=Classical.choose (cX (α:=Int→Int→Int) (fun x y=>if y<x then y else x))
theorem HK:FQ=(fun x y=>if y<x then y else x):=Classical.choose_spec (cX (α:=Int→Int→Int) (fun x y=>if y<x then y else x))
theorem Cs (x y):FQ x y=if y<x then y else x:=by rw[HK]
def FO:Int→Int→Int:=Classical.choose (cX (α:=Int→Int→Int) (fun x y=>if y > x then y else x))
theorem HI:FO=(fun x y=>if y > x then y else x):=Classical.choose_spec (cX (α:=Int→Int→Int) (fun x y=>if y > x then y else x))
theorem Cr (x y):FO x y=if y > x then y else x:=by rw[HI]
def dR:Int→Nat→Bool:=Classical.choose (cX (α:=Int→Nat→Bool) (fun (i:Int) (n:Nat)=>decide (0≤i∧i<(n:Int))))
theorem Km:dR=(fun (i:Int) (n:Nat)=>decide (0≤i∧i<(n:Int))):=Classical.choose_spec (cX (α:=Int→Nat→Bool) (fun (i:Int) (n:Nat)=>decide (0≤i∧i<(n:Int))))
theorem qB (i n):dR i n=decide (0≤i∧i<(n:Int)):=by rw[Km]
def jk:Int→Nat→Bool:=Classical.choose (cX (α:=Int→Nat→Bool) (fun (i:Int) (n:Nat)=>decide (0≤i∧i≤(n:Int))))
theorem G8:jk=(fun (i:Int) (n:Nat)=>decide (0≤i∧i≤(n:Int))):=Classical.choose_spec (cX (α:=Int→Nat→Bool) (fun (i:Int) (n:Nat)=>decide (0≤i∧i≤(n:Int))))
theorem BR (i n):jk i n=decide (0≤i∧i≤(n:Int)):=by rw[G8]
def Kz:Int→Int→Nat→Bool:=Classical.choose (cX (α:=Int→Int→Nat→Bool) (fun l c b=>decide (0≤l∧l≤c∧c.toNat*b≤room∧c.toNat≤room)))
theorem KA:Kz=(fun l c b=>decide (0≤l∧l≤c∧c.toNat*b≤room∧c.toNat≤room)):=Classical.choose_spec (cX (α:=Int→Int→Nat→Bool) (fun l c b=>decide (0≤l∧l≤c∧c.toNat*b≤room∧c.toNat≤room)))
theorem A8 (l c b):Kz l c b=decide (0≤l∧l≤c∧c.toNat*b≤room∧c.toNat≤room):=by rw[KA]
def dB:Int→Nat:=Classical.choose (cX (α:=Int→Nat) (fun i=>i.toNat))
theorem K7:dB=(fun i=>i.toNat):=Classical.choose_spec (cX (α:=Int→Nat) (fun i=>i.toNat))
theorem fR (i):dB i=i.toNat:=by rw[K7]
def au:Nat→Int→Nat→Nat:=Classical.choose (cX (α:=Nat→Int→Nat→Nat) (fun o i s=>o+i.toNat*s))
theorem Kk:au=(fun o i s=>o+i.toNat*s):=Classical.choose_spec (cX (α:=Nat→Int→Nat→Nat) (fun o i s=>o+i.toNat*s))
theorem bB (o i s):au o i s=o+i.toNat*s:=by rw[Kk]
def ah:Nat→Nat→Nat:=Classical.choose (cX (α:=Nat→Nat→Nat) (fun a b=>a+b))
theorem GW:ah=(fun a b=>a+b):=Classical.choose_spec (cX (α:=Nat→Nat→Nat) (fun a b=>a+b))
theorem aU (a b):ah a b=a+b:=by rw[GW]
def dg:Nat→Nat→Nat:=Classical.choose (cX (α:=Nat→Nat→Nat) (fun a b=>a-b))
theorem IJ:dg=(fun a b=>a-b):=Classical.choose_spec (cX (α:=Nat→Nat→Nat) (fun a b=>a-b))
theorem gF (a b):dg a b=a-b:=by rw[IJ]
def aq:Nat→Nat→Nat:=Classical.choose (cX (α:=Nat→Nat→Nat) (fun a b=>a*b))
theorem H4:aq=(fun a b=>a*b):=Classical.choose_spec (cX (α:=Nat→Nat→Nat) (fun a b=>a*b))
theorem eL (a b):aq a b=a*b:=by rw[H4]
def xB:Nat→Nat→Nat:=Classical.choose (cX (α:=Nat→Nat→Nat) (fun a b=>min a b))
theorem HJ:xB=(fun a b=>min a b):=Classical.choose_spec (cX (α:=Nat→Nat→Nat) (fun a b=>min a b))
theorem xC (a b):xB a b=min a b:=by rw[HJ]
def bx:Nat→Nat→Bool:=Classical.choose (cX (α:=Nat→Nat→Bool) (fun a b=>decide (a<b)))
theorem Kx:bx=(fun a b=>decide (a<b)):=Classical.choose_spec (cX (α:=Nat→Nat→Bool) (fun a b=>decide (a<b)))
theorem iI (a b):bx a b=decide (a<b):=by rw[Kx]
def fA:Nat→Nat→Bool:=Classical.choose (cX (α:=Nat→Nat→Bool) (fun a b=>decide (a≤b)))
theorem Kt:fA=(fun a b=>decide (a≤b)):=Classical.choose_spec (cX (α:=Nat→Nat→Bool) (fun a b=>decide (a≤b)))
theorem lJ (a b):fA a b=decide (a≤b):=by rw[Kt]
def cM:Nat→Nat→Bool:=Classical.choose (cX (α:=Nat→Nat→Bool) (fun a b=>decide (a=b)))
theorem Ka:cM=(fun a b=>decide (a=b)):=Classical.choose_spec (cX (α:=Nat→Nat→Bool) (fun a b=>decide (a=b)))
theorem gq (a b):cM a b=decide (a=b):=by rw[Ka]
def la:Nat→Nat→Nat→Nat→Bool:=Classical.choose (cX (α:=Nat→Nat→Nat→Nat→Bool) (fun o m p n=>decide (p≤o∧o+m≤p+n)))
theorem Kn:la=(fun o m p n=>decide (p≤o∧o+m≤p+n)):=Classical.choose_spec (cX (α:=Nat→Nat→Nat→Nat→Bool) (fun o m p n=>decide (p≤o∧o+m≤p+n)))
theorem kf (o m p n):la o m p n=decide (p≤o∧o+m≤p+n):=by rw[Kn]
def JH:(Nat→AV)→IntKind→Nat→Bool→Prop:=Classical.choose (cX (α:=(Nat→AV)→IntKind→Nat→Bool→Prop) (fun f k sz full=>∀ j,∃ z n m,f j=AV.slcT none (Row.M [aL.arr k z n]) sz m full))
theorem GY:JH=(fun f k sz full=>∀ j,∃ z n m,f j=AV.slcT none (Row.M [aL.arr k z n]) sz m full):=Classical.choose_spec (cX (α:=(Nat→AV)→IntKind→Nat→Bool→Prop) (fun f k sz full=>∀ j,∃ z n m,f j=AV.slcT none (Row.M [aL.arr k z n]) sz m full))
theorem GX (f k sz full):JH f k sz full=∀ j,∃ z n m,f j=AV.slcT none (Row.M [aL.arr k z n]) sz m full:=by rw[GY]
def KY:Bool→(Nat→Int)→(Nat→Int)→Nat→Int:=Classical.choose (cX (α:=Bool→(Nat→Int)→(Nat→Int)→Nat→Int) (fun b x y=>cond b x y))
theorem IA:KY=(fun b x y=>cond b x y):=Classical.choose_spec (cX (α:=Bool→(Nat→Int)→(Nat→Int)→Nat→Int) (fun b x y=>cond b x y))
theorem Iz (b x y):KY b x y=cond b x y:=by rw[IA]
def Iw:Bool→Nat→Nat→Nat:=Classical.choose (cX (α:=Bool→Nat→Nat→Nat) (fun b x y=>cond b x y))
theorem Iy:Iw=(fun b x y=>cond b x y):=Classical.choose_spec (cX (α:=Bool→Nat→Nat→Nat) (fun b x y=>cond b x y))
theorem Ix (b x y):Iw b x y=cond b x y:=by rw[Iy]
def dJ:Nat→Nat→Nat→Bool:=Classical.choose (cX (α:=Nat→Nat→Nat→Bool) (fun m n b=>decide ((m+n)*b≤room∧m+n≤room)))
theorem Gj:dJ=(fun m n b=>decide ((m+n)*b≤room∧m+n≤room)):=Classical.choose_spec (cX (α:=Nat→Nat→Nat→Bool) (fun m n b=>decide ((m+n)*b≤room∧m+n≤room)))
theorem Aa (m n b):dJ m n b=decide ((m+n)*b≤room∧m+n≤room):=by rw[Gj]
def iw:(Nat→Int)→Nat→Int→Nat→Int:=Classical.choose (cX (α:=(Nat→Int)→Nat→Int→Nat→Int) (fun z i x=>fun j=>if j=i then x else z j))
theorem j5:iw=(fun z i x=>fun j=>if j=i then x else z j):=Classical.choose_spec (cX (α:=(Nat→Int)→Nat→Int→Nat→Int) (fun z i x=>fun j=>if j=i then x else z j))
theorem Da (z i x):iw z i x=fun j=>if j=i then x else z j:=by rw[j5]
def fE:(Nat→Int)→Nat→Nat→Int:=Classical.choose (cX (α:=(Nat→Int)→Nat→Nat→Int) (fun z o=>fun j=>z (o+j)))
theorem jE:fE=(fun z o=>fun j=>z (o+j)):=Classical.choose_spec (cX (α:=(Nat→Int)→Nat→Nat→Int) (fun z o=>fun j=>z (o+j)))
theorem K0 (z o):fE z o=fun j=>z (o+j):=by rw[jE]
def fK:(Nat→Int)→Nat→(Nat→Int)→Nat→Nat→Int:=Classical.choose (cX (α:=(Nat→Int)→Nat→(Nat→Int)→Nat→Nat→Int) (fun z o z' n=>qk z o z' n))
theorem Hd:fK=(fun z o z' n=>qk z o z' n):=Classical.choose_spec (cX (α:=(Nat→Int)→Nat→(Nat→Int)→Nat→Nat→Int) (fun z o z' n=>qk z o z' n))
theorem jR (z o z' n):fK z o z' n=qk z o z' n:=by rw[Hd]
def iE:(Nat→Int)→Nat→(Nat→Int)→Nat→Int:=Classical.choose (cX (α:=(Nat→Int)→Nat→(Nat→Int)→Nat→Int) (fun z n z'=>fun i=>if i<n then z i else z' (i-n)))
theorem jN:iE=(fun z n z'=>fun i=>if i<n then z i else z' (i-n)):=Classical.choose_spec (cX (α:=(Nat→Int)→Nat→(Nat→Int)→Nat→Int) (fun z n z'=>fun i=>if i<n then z i else z' (i-n)))
def Ku:List Int→Nat:=Classical.choose (cX (α:=List Int→Nat) (fun l=>l.length))
theorem Hy:Ku=(fun l=>l.length):=Classical.choose_spec (cX (α:=List Int→Nat) (fun l=>l.length))
theorem Hw (l):Ku l=l.length:=by rw[Hy]
def aB:List Int→Nat→Int:=Classical.choose (cX (α:=List Int→Nat→Int) (fun l=>fun j=>l.getD j 0))
theorem lL:aB=(fun l=>fun j=>l.getD j 0):=Classical.choose_spec (cX (α:=List Int→Nat→Int) (fun l=>fun j=>l.getD j 0))
theorem fI (l):aB l=fun j=>l.getD j 0:=by rw[lL]
def lg:(Nat→Int)→(Nat→Int)→Nat→Bool:=Classical.choose (cX (α:=(Nat→Int)→(Nat→Int)→Nat→Bool) (fun z z' n=>allEq z z' n))
theorem vo:lg=(fun z z' n=>allEq z z' n):=Classical.choose_spec (cX (α:=(Nat→Int)→(Nat→Int)→Nat→Bool) (fun z z' n=>allEq z z' n))
theorem Dh (z z' n):lg z z' n=allEq z z' n:=by rw[vo]
def ni:(List Int→Bool)→List Int→Bool→List Int→Bool:=Classical.choose (cX (α:=(List Int→Bool)→List Int→Bool→List Int→Bool) (fun h n b=>dz h n b))
theorem Gu:ni=(fun h n b=>dz h n b):=Classical.choose_spec (cX (α:=(List Int→Bool)→List Int→Bool→List Int→Bool) (fun h n b=>dz h n b))
theorem pW (h n b):ni h n b=dz h n b:=by rw[Gu]
def oa:(List Int→Int)→List Int→Int→List Int→Int:=Classical.choose (cX (α:=(List Int→Int)→List Int→Int→List Int→Int) (fun g n x=>fD g n x))
theorem Gv:oa=(fun g n x=>fD g n x):=Classical.choose_spec (cX (α:=(List Int→Int)→List Int→Int→List Int→Int) (fun g n x=>fD g n x))
theorem pX (g n x):oa g n x=fD g n x:=by rw[Gv]
def re:Bool→Nat→Nat:=Classical.choose (cX (α:=Bool→Nat→Nat) (fun b c=>pe b c))
theorem EK:re=(fun b c=>pe b c):=Classical.choose_spec (cX (α:=Bool→Nat→Nat) (fun b c=>pe b c))
theorem sZ (b c):re b c=pe b c:=by rw[EK]
def BW:Bool→Nat→Nat:=Classical.choose (cX (α:=Bool→Nat→Nat) (fun b c=>yp b c))
theorem EL:BW=(fun b c=>yp b c):=Classical.choose_spec (cX (α:=Bool→Nat→Nat) (fun b c=>yp b c))
theorem yq (b c):BW b c=yp b c:=by rw[EL]

end
end Go.Eng
end
