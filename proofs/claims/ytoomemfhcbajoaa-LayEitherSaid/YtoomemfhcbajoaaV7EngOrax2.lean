/- The engine: tables of calls that are known beforehand. -/
import Derived.Test.YtoomemfhcbajoaaV7EngXx3
set_option linter.unusedVariables false
set_option linter.unusedSimpArgs false
section
namespace Go.Eng

def Tq (f:AV→Bool) (r:Row):Bool :=
 match r with
 | .I ..=>true
 | .G l=>l.all f
 | .F ..=>true
 | .M l=>gk l
def re:Nat→AV→Bool
 | 0,_=>false
 | n+1,v=>match v with
   | .undef | .bool _ | .int _ _ | .str _ | .nilp | .nils | .nilm | .nilf=>true
   | .ptrT none _ _=>true
   | .slcT none _ _ _ _=>true
   | .agg r=>Tq (re n) r
   | .tup l=>l.all (re n)
   | .fn _ a b=>a.all (re n) && b.all (re n)
   | _=>false
theorem gi {f:AV→Bool}:∀ {l:List AV} {j:Nat},l.all f=true→j<l.length→f (l.getD j .undef)=true
 | [],j,_,h=>by simp at h
 | x::l,0,h,_=>by simp at h;simpa using h.1
 | x::l,j+1,h,hj=>by
   simp only[List.all_cons,Bool.and_eq_true] at h
   rw[List.getD_cons_succ]
   exact gi h.2 (by simpa using hj)
theorem mZ {p:aE} {M N:Mu}:∀ (n:Nat) {v:AV} {c:Value},re n v=true→ai p M v c→ai p N v c
 | 0,v,c,h,_=>by simp[re] at h
 | n + 1,v,c,h,hv=>by
   have ih:=@mZ p M N n
   cases hv with
   | undef c=>exact .undef c
   | bool b=>exact .bool b
   | int k n=>exact .int k n
   | str s=>exact .str s
   | nilp=>exact .nilp
   | nils=>exact .nils
   | nilm=>exact .nilm
   | nilf=>exact .nilf
   | ptr h0=>simp[re] at h
   | slc h0=>simp[re] at h
   | map h0=>simp[re] at h
   | yld h0=>simp[re] at h
   | ptrT vs h0 h1 hv =>
     rename_i s r off b o
     cases s with
     | some s=>simp[re] at h
     | none=>exact .ptrT vs h0 h1 hv
   | slcT vs h0 h1 hv hl hf hx =>
     rename_i s r sz len b o x cc full
     cases s with
     | some s=>simp[re] at h
     | none=>exact .slcT vs h0 h1 hv hl hf hx
   | slcN=>exact .slcN
   | fn ha hb va vb =>
     simp only[re,Bool.and_eq_true] at h
     exact .fn ha hb (fun j hj=>ih (gi h.1 hj) (va j hj)) (fun j hj=>ih (gi h.2 hj) (vb j hj))
   | agg hs h1 hv =>
     rename_i r cs
     simp only[re] at h
     cases r with
     | I k l=>exact .agg hs h1 (fun j hj=>(hv j hj).bB _ _)
     | F f m=>exact .agg hs h1 hv
     | M l=>exact .agg hs h1 (aW.gk h hv)
     | G l=>exact .agg hs h1 (fun j hj=>ih (gi (f:=re n) h hj) (hv j hj))
   | tup hs hv =>
     simp only[re] at h
     exact .tup hs (fun j hj=>ih (gi h hj) (hv j hj))

structure gb where
 f:FuncId
 args:List AV
 v:AV
def bx (P:Program) (e:gb):Prop:=∀ (H:aa),H≠[]→∀ (p:aE) (M:Mu) (w:World) (cargs:Array Value),aZ p M H w→ja p M e.args cargs →
 (∃ fn,P.funcs[e.f]?=some fn∧fn.body.isNone=false)∧CallsIn Fence.wide 0 P e.f cargs w (pO p M H w e.v H)

theorem zu {P:Program} {call:aU} (hC:cg P call) {e:gb} {H':aa} (h:call (.fn e.f) e.args [⟨true,[]⟩]=some (e.v,H')) (hn:e.args.all (re 9)=true):bx P e:=by
 intro H hne p M w cargs hH hA
 have hH0:aZ p Mu.no [⟨true,[]⟩] w:=⟨hH.pers,(fun d i v B hg hB=>by
  cases d<;>simp[aq,an] at hg<;>exact absurd hg.2.symm hB),(fun d i v B d' i' v' B' b o t o' t' hg hB hg' hB' hm hm'=>by cases hm),(fun d i v t hm=>by cases hm)⟩
 have hA0:ja p Mu.no e.args cargs:=⟨hA.1,fun j hj=>mZ 9 (gi hn hj) (hA.2 j hj)⟩
 obtain ⟨h1,h2⟩:=hC (.fn e.f) e.args _ e.v H' h (by simp) p Mu.no w cargs hH0 hA0
 refine ⟨h1,h2.mono ?_⟩
 rintro en w' ⟨cv,rfl,st,p',M',hE,hv⟩
 have hM:Mu.le M' M:=fun d i v t hm=>by
  have h3:=(hE.rel.dom d i v t hm).1
  have h4:av [⟨true,[]⟩] d=true:=by cases d<;>rfl
  rw[st.next d h4] at h3
  cases d<;>simp[ak] at h3
 have all:∀ b,Go.Eng.bc Mu.no [⟨true,[]⟩] b:=fun b d i u B _ _ _ o t hm=>by cases hm
 have no:∀ {b:Nat},¬ (av [⟨true,[]⟩] 0=false∧∃ i u o' t',Mu.no 0 i u=some (b,o',t')):=fun h=>by have:=h.1;cases this
 refine ⟨cv,rfl,Still.refl H,p',M,{ bU.refl hH with pst:=hE.pst,rel:=⟨hE.rel.pers,?_,hH.apart,hH.dom⟩,stay:=hE.stay.weaken (fun b _ _=>all b),fresh:=fun b o v hv=>(hE.fresh b o v hv).imp_right fun h=>h.elim .inl fun h=>(no h).elim },hv.mono (aE.le.refl _) hM⟩
 intro d i u B hg hB
 obtain ⟨b,o,t,k1,k2,k3⟩:=hH.live d i u B hg hB
 have hlt:=k2.lt hB
 refine ⟨b,o,t,k1,k2.mono hE.pst (Mu.le.refl _) (hE.stay.block b hlt (all b)),fun x=>?_⟩
 cases hx:p' b x with
 | none=>rfl
 | some y =>
   rcases hE.fresh b x y hx with h | h | ⟨h,_⟩
   · rw[k3] at h;cases h
   · omega
   · cases h

noncomputable def ux (f:AV→AV→Bool) (r s:Row):Bool :=
 match r,s with
 | .I k l,.I k' l'=>gG k k' && listEqI l l'
 | .G l,.G l'=>listEqV f l l'
 | _,_=>false
where
 listEqI:List Int→List Int→Bool
  | [],[]=>true
  | x::a,y::b=>GI x y && listEqI a b
  | _,_=>false
 listEqV (f:AV→AV→Bool):List AV→List AV→Bool
  | [],[]=>true
  | x::a,y::b=>f x y && listEqV f a b
  | _,_=>false
def AN:Option Nat→Option Nat→Bool
 | none,none=>true
 | some a,some b=>Nat.beq a b
 | _,_=>false
noncomputable def JQ:Nat→AV→AV→Bool
 | 0,_,_=>false
 | n+1,v,u=>match v,u with
   | .bool a,.bool b=>a == b
   | .int k a,.int k' b=>gG k k' && GI a b
   | .nilp,.nilp=>true
   | .nils,.nils=>true
   | .nilm,.nilm=>true
   | .ptrT s r o,.ptrT s' r' o'=>AN s s' && (ux (JQ n) r r' && Nat.beq o o')
   | .slcT s r z l b,.slcT s' r' z' l' b'=>AN s s' && (ux (JQ n) r r' && (Nat.beq z z' && (Nat.beq l l' && b == b')))
   | .agg r,.agg r'=>ux (JQ n) r r'
   | _,_=>false
theorem sZ:∀ (l m:List Int),ux.listEqI l m=true→l=m
 | [],[],_=>rfl
 | [],_::_,h=>by simp[ux.listEqI] at h
 | _::_,[],h=>by simp[ux.listEqI] at h
 | x::a,y::b,h=>by
   simp only[ux.listEqI,Bool.and_eq_true,wJ,beq_iff_eq] at h
   rw[h.1,sZ a b h.2]
theorem gS {f:AV→AV→Bool} (hf:∀ x y,f x y=true→x=y):∀ (l m:List AV),ux.listEqV f l m=true→l=m
 | [],[],_=>rfl
 | [],_::_,h=>by simp[ux.listEqV] at h
 | _::_,[],h=>by simp[ux.listEqV] at h
 | x::a,y::b,h=>by
   simp only[ux.listEqV,Bool.and_eq_true] at h
   rw[hf _ _ h.1,gS hf a b h.2]
theorem nJ {f:AV→AV→Bool} (hf:∀ x y,f x y=true→x=y) (r s:Row) (h:ux f r s=true):r=s:=by
 cases r<;>cases s<;>simp only[ux,Bool.and_eq_true,eS,decide_eq_true_eq] at h<;>try (simp at h;done)
 · rw[h.1,sZ _ _ h.2]
 · rw[gS hf _ _ h]
theorem oO (a b:Option Nat) (h:AN a b=true):a=b:=by
 cases a<;>cases b<;>simp[AN] at h ⊢;exact h
theorem E0:∀ (n:Nat) (x y:AV),JQ n x y=true→x=y
 | 0,x,y,h=>by simp[JQ] at h
 | n+1,x,y,h=>by
   have ih:=E0 n
   cases x<;>cases y<;>simp only[JQ,Bool.and_eq_true,eS,wJ,decide_eq_true_eq,beq_iff_eq] at h<;>try (first | rfl | (simp at h;done))
   case bool.bool=>rw[h]
   case int.int=>rw[h.1,h.2]
   case ptrT.ptrT=>rw[oO _ _ h.1,nJ ih _ _ h.2.1,Nat.eq_of_beq_eq_true h.2.2]
   case slcT.slcT=>rw[oO _ _ h.1,nJ ih _ _ h.2.1,Nat.eq_of_beq_eq_true h.2.2.1,Nat.eq_of_beq_eq_true h.2.2.2.1,h.2.2.2.2]
   case agg.agg=>rw[nJ ih _ _ h]

noncomputable def Bg:List gb→aU→FuncId→List AV→aa→Option (AV×aa)
 | [],_,_,_,_=>none
 | e::r,c,f,args,H=>if Nat.beq e.f f && ux.listEqV (JQ 9) e.args args then some (e.v,H) else Bg r c f args H
theorem xg {P:Program}:∀ (tab:List gb),(∀ e ∈ tab,bx P e)→uW P (Bg tab)
 | [],_=>fun call _ f args H v H' h=>by simp[Bg] at h
 | e :: r,hT=>fun call hC f args H v H' h=>by
   simp only[Bg] at h
   split at h
   · rename_i hc
     simp only[Bool.and_eq_true] at hc
     have e1:=Nat.eq_of_beq_eq_true hc.1
     have e2:=gS (E0 9) _ _ hc.2
     have e3:=Option.some.inj h
     simp only[Prod.mk.injEq] at e3
     obtain ⟨e3,e4⟩:=e3
     subst e1;subst e2;subst e3;subst e4
     exact hT e (by simp) H
   · exact xg r (fun e' he=>hT e' (List.mem_cons_of_mem _ he)) call hC f args H v H' h

end Go.Eng
end
section
namespace Go.Eng
noncomputable section

inductive Tr (α:Type) where
 | ok (a:α)
 | bad
 | ite (c:Bool) (t e:Tr α)
 | req (c:Bool) (t:Tr α)
 | reqP (p:Prop) (t:Tr α)
open Classical in
def Tr.run {α:Type}:Tr α→Option α
 | .ok a=>some a
 | .bad=>none
 | .ite c t e=>cond c t.run e.run
 | .req c t=>cond c t.run none
 | .reqP p t=>if p then t.run else none
def Tr.bind {α β:Type} (t:Tr α) (f:α→Tr β):Tr β:=Tr.rec (motive:=fun _=>Tr β) f .bad (fun c _ _ a b=>.ite c a b) (fun c _ a=>.req c a) (fun p _ a=>.reqP p a) t
theorem Tr.EE {α β:Type} (t:Tr α) (f:α→Tr β):(t.bind f).run=t.run.bind fun a=>(f a).run:=by
 induction t with
 | ok a=>rfl
 | bad=>rfl
 | ite c a b iha ihb =>
   have e:(Tr.ite c a b).bind f=.ite c (a.bind f) (b.bind f):=rfl
   rw[e];simp only[Tr.run,iha,ihb];cases c<;>rfl
 | req c a ih =>
   have e:(Tr.req c a).bind f=.req c (a.bind f):=rfl
   rw[e];simp only[Tr.run,ih];cases c<;>rfl
 | reqP p a ih =>
   have e:(Tr.reqP p a).bind f=.reqP p (a.bind f):=rfl
   rw[e];simp only[Tr.run,ih]
   by_cases hp:p
   · rw[if_pos hp,if_pos hp]
   · rw[if_neg hp,if_neg hp];rfl
theorem Tr.di {α:Type} {p:Prop} {t:Tr α} {x:α} (h:(Tr.reqP p t).run=some x):p∧t.run=some x:=by
 simp only[Tr.run] at h
 by_cases hp:p
 · rw[if_pos hp] at h;exact ⟨hp,h⟩
 · rw[if_neg hp] at h;cases h
theorem Tr.Gg {α:Type} {p:Prop} {a:Tr α} (h:p):(Tr.reqP p a).run=a.run:=by simp only[Tr.run];rw[if_pos h]
theorem Tr.bind_some {α β:Type} {t:Tr α} {f:α→Tr β} {y:β} (h:(t.bind f).run=some y):∃ x,t.run=some x∧(f x).run=some y:=by
 rw[Tr.EE] at h
 exact Option.bind_eq_some_iff.1 h
theorem Tr.aP {α:Type} {c:Bool} {t:Tr α} {x:α} (h:(Tr.req c t).run=some x):c=true∧t.run=some x:=by
 cases c with
 | true=>exact ⟨rfl,h⟩
 | false=>simp[Tr.run] at h
theorem Tr.im {α:Type} {c:Bool} {t e:Tr α} {x:α} (h:(Tr.ite c t e).run=some x):(c=true∧t.run=some x)∨(c=false∧e.run=some x):=by
 cases c with
 | true=>exact .inl ⟨rfl,h⟩
 | false=>exact .inr ⟨rfl,h⟩
theorem Tr.ab {α:Type} {a x:α} (h:(Tr.ok a).run=some x):a=x:=Option.some.inj h
theorem Tr.ae {α:Type} {x:α} (h:(Tr.bad:Tr α).run=some x):False:=by simp[Tr.run] at h
def vU {α:Type} (o:Option α):Tr α:=Option.rec (motive:=fun _=>Tr α) .bad .ok o
theorem cU {α:Type} (o:Option α):(vU o).run=o:=by cases o<;>rfl
theorem cW {α:Type} (f:α):∃ g,g=f:=⟨f,rfl⟩

def bG:IntKind→Int→Int→Int:=Classical.choose (cW (α:=IntKind→Int→Int→Int) (fun k x y=>k.wrap (x+y)))
theorem GM:bG=(fun k x y=>k.wrap (x+y)):=Classical.choose_spec (cW (α:=IntKind→Int→Int→Int) (fun k x y=>k.wrap (x+y)))
theorem ju (k x y):bG k x y=k.wrap (x+y):=by rw[GM]
def bC:IntKind→Int→Int→Int:=Classical.choose (cW (α:=IntKind→Int→Int→Int) (fun k x y=>k.wrap (x-y)))
theorem Ir:bC=(fun k x y=>k.wrap (x-y)):=Classical.choose_spec (cW (α:=IntKind→Int→Int→Int) (fun k x y=>k.wrap (x-y)))
theorem m7 (k x y):bC k x y=k.wrap (x-y):=by rw[Ir]
def rE:IntKind→Int→Int→Int:=Classical.choose (cW (α:=IntKind→Int→Int→Int) (fun k x y=>k.wrap (x*y)))
theorem HK:rE=(fun k x y=>k.wrap (x*y)):=Classical.choose_spec (cW (α:=IntKind→Int→Int→Int) (fun k x y=>k.wrap (x*y)))
theorem lh (k x y):rE k x y=k.wrap (x*y):=by rw[HK]
def Ky:IntKind→Int→Int→Int:=Classical.choose (cW (α:=IntKind→Int→Int→Int) (fun k x y=>k.wrap (x.tdiv y)))
theorem H8:Ky=(fun k x y=>k.wrap (x.tdiv y)):=Classical.choose_spec (cW (α:=IntKind→Int→Int→Int) (fun k x y=>k.wrap (x.tdiv y)))
theorem H7 (k x y):Ky k x y=k.wrap (x.tdiv y):=by rw[H8]
def qA:IntKind→Int→Int→Int:=Classical.choose (cW (α:=IntKind→Int→Int→Int) (fun k x y=>x.tmod y))
theorem Ib:qA=(fun k x y=>x.tmod y):=Classical.choose_spec (cW (α:=IntKind→Int→Int→Int) (fun k x y=>x.tmod y))
theorem xz (k x y):qA k x y=x.tmod y:=by rw[Ib]
def JA:IntKind→Int→Int→Int:=Classical.choose (cW (α:=IntKind→Int→Int→Int) (fun k x y=>k.wrap (BitVec.ofInt k.bits x &&& BitVec.ofInt k.bits y).toNat))
theorem GQ:JA=(fun k x y=>k.wrap (BitVec.ofInt k.bits x &&& BitVec.ofInt k.bits y).toNat):=Classical.choose_spec (cW (α:=IntKind→Int→Int→Int) (fun k x y=>k.wrap (BitVec.ofInt k.bits x &&& BitVec.ofInt k.bits y).toNat))
theorem wq (k x y):JA k x y=k.wrap (BitVec.ofInt k.bits x &&& BitVec.ofInt k.bits y).toNat:=by rw[GQ]
def Pn:IntKind→Int→Int→Int:=Classical.choose (cW (α:=IntKind→Int→Int→Int) (fun k x y=>k.wrap (BitVec.ofInt k.bits x ||| BitVec.ofInt k.bits y).toNat))
theorem Kp:Pn=(fun k x y=>k.wrap (BitVec.ofInt k.bits x ||| BitVec.ofInt k.bits y).toNat):=Classical.choose_spec (cW (α:=IntKind→Int→Int→Int) (fun k x y=>k.wrap (BitVec.ofInt k.bits x ||| BitVec.ofInt k.bits y).toNat))
theorem Bf (k x y):Pn k x y=k.wrap (BitVec.ofInt k.bits x ||| BitVec.ofInt k.bits y).toNat:=by rw[Kp]
def K3:IntKind→Int→Int→Int:=Classical.choose (cW (α:=IntKind→Int→Int→Int) (fun k x y=>k.wrap (BitVec.ofInt k.bits x ^^^ BitVec.ofInt k.bits y).toNat))
theorem IA:K3=(fun k x y=>k.wrap (BitVec.ofInt k.bits x ^^^ BitVec.ofInt k.bits y).toNat):=Classical.choose_spec (cW (α:=IntKind→Int→Int→Int) (fun k x y=>k.wrap (BitVec.ofInt k.bits x ^^^ BitVec.ofInt k.bits y).toNat))
theorem xS (k x y):K3 k x y=k.wrap (BitVec.ofInt k.bits x ^^^ BitVec.ofInt k.bits y).toNat:=by rw[IA]
def NJ:IntKind→Int→Int→Int:=Classical.choose (cW (α:=IntKind→Int→Int→Int) (fun k x y=>k.wrap (BitVec.ofInt k.bits x &&& ~~~(BitVec.ofInt k.bits y)).toNat))
theorem Jx:NJ=(fun k x y=>k.wrap (BitVec.ofInt k.bits x &&& ~~~(BitVec.ofInt k.bits y)).toNat):=Classical.choose_spec (cW (α:=IntKind→Int→Int→Int) (fun k x y=>k.wrap (BitVec.ofInt k.bits x &&& ~~~(BitVec.ofInt k.bits y)).toNat))
theorem Aw (k x y):NJ k x y=k.wrap (BitVec.ofInt k.bits x &&& ~~~(BitVec.ofInt k.bits y)).toNat:=by rw[Jx]
def KJ:IntKind→Int→Int→Int:=Classical.choose (cW (α:=IntKind→Int→Int→Int) (fun k x y=>k.wrap (x*2 ^ (min y.toNat k.bits))))
theorem Il:KJ=(fun k x y=>k.wrap (x*2 ^ (min y.toNat k.bits))):=Classical.choose_spec (cW (α:=IntKind→Int→Int→Int) (fun k x y=>k.wrap (x*2 ^ (min y.toNat k.bits))))
theorem Ik (k x y):KJ k x y=k.wrap (x*2 ^ (min y.toNat k.bits)):=by rw[Il]
def KL:IntKind→Int→Int→Int:=Classical.choose (cW (α:=IntKind→Int→Int→Int) (fun k x y=>x.fdiv (2 ^ (min y.toNat k.bits))))
theorem Io:KL=(fun k x y=>x.fdiv (2 ^ (min y.toNat k.bits))):=Classical.choose_spec (cW (α:=IntKind→Int→Int→Int) (fun k x y=>x.fdiv (2 ^ (min y.toNat k.bits))))
theorem Im (k x y):KL k x y=x.fdiv (2 ^ (min y.toNat k.bits)):=by rw[Io]
def Ar:IntKind→Int→Int:=Classical.choose (cW (α:=IntKind→Int→Int) (fun k x=>k.wrap x))
theorem K2:Ar=(fun k x=>k.wrap x):=Classical.choose_spec (cW (α:=IntKind→Int→Int) (fun k x=>k.wrap x))
theorem Bw (k x):Ar k x=k.wrap x:=by rw[K2]
def Kl:IntKind→Int→Int:=Classical.choose (cW (α:=IntKind→Int→Int) (fun k x=>k.wrap (0-x)))
theorem HR:Kl=(fun k x=>k.wrap (0-x)):=Classical.choose_spec (cW (α:=IntKind→Int→Int) (fun k x=>k.wrap (0-x)))
theorem HQ (k x):Kl k x=k.wrap (0-x):=by rw[HR]
def cI:Int→Int→Bool:=Classical.choose (cW (α:=Int→Int→Bool) (fun x y=>(x == y)))
theorem JT:cI=(fun x y=>(x == y)):=Classical.choose_spec (cW (α:=Int→Int→Bool) (fun x y=>(x == y)))
theorem iC (x y):cI x y=(x == y):=by rw[JT]
def bQ:Int→Int→Bool:=Classical.choose (cW (α:=Int→Int→Bool) (fun x y=>decide (x<y)))
theorem Kh:bQ=(fun x y=>decide (x<y)):=Classical.choose_spec (cW (α:=Int→Int→Bool) (fun x y=>decide (x<y)))
theorem dg (x y):bQ x y=decide (x<y):=by rw[Kh]
def lM:Int→Int→Bool:=Classical.choose (cW (α:=Int→Int→Bool) (fun x y=>decide (x≤y)))
theorem Ka:lM=(fun x y=>decide (x≤y)):=Classical.choose_spec (cW (α:=Int→Int→Bool) (fun x y=>decide (x≤y)))
theorem mj (x y):lM x y=decide (x≤y):=by rw[Ka]
def aY:Bool→Bool:=Classical.choose (cW (α:=Bool→Bool) (fun b=>(!b)))
theorem HT:aY=(fun b=>(!b)):=Classical.choose_spec (cW (α:=Bool→Bool) (fun b=>(!b)))
theorem g9 (b):aY b=(!b):=by rw[HT]
def jW:Bool→Bool→Bool:=Classical.choose (cW (α:=Bool→Bool→Bool) (fun a b=>(a && b)))
theorem GP:jW=(fun a b=>(a && b)):=Classical.choose_spec (cW (α:=Bool→Bool→Bool) (fun a b=>(a && b)))
theorem oA (a b):jW a b=(a && b):=by rw[GP]
def N7:Bool→Bool→Bool:=Classical.choose (cW (α:=Bool→Bool→Bool) (fun a b=>(a == b)))
theorem JS:N7=(fun a b=>(a == b)):=Classical.choose_spec (cW (α:=Bool→Bool→Bool) (fun a b=>(a == b)))
theorem JR (a b):N7 a b=(a == b):=by rw[JS]
def uO:Int→Int→Int:=Classical.choose (cW (α:=Int→Int→Int) (fun x y=>if y<x then y else x))
theorem HJ:uO=(fun x y=>if y<x then y else x):=Classical.choose_spec (cW (α:=Int→Int→Int) (fun x y=>if y<x then y else x))
theorem Cq (x y):uO x y=if y<x then y else x:=by rw[HJ]
def FL:Int→Int→Int:=Classical.choose (cW (α:=Int→Int→Int) (fun x y=>if y > x then y else x))
theorem HH:FL=(fun x y=>if y > x then y else x):=Classical.choose_spec (cW (α:=Int→Int→Int) (fun x y=>if y > x then y else x))
theorem Cp (x y):FL x y=if y > x then y else x:=by rw[HH]
def cN:Int→Nat→Bool:=Classical.choose (cW (α:=Int→Nat→Bool) (fun (i:Int) (n:Nat)=>decide (0≤i∧i<(n:Int))))
theorem J2:cN=(fun (i:Int) (n:Nat)=>decide (0≤i∧i<(n:Int))):=Classical.choose_spec (cW (α:=Int→Nat→Bool) (fun (i:Int) (n:Nat)=>decide (0≤i∧i<(n:Int))))
theorem qg (i n):cN i n=decide (0≤i∧i<(n:Int)):=by rw[J2]
def ng:Int→Nat→Bool:=Classical.choose (cW (α:=Int→Nat→Bool) (fun (i:Int) (n:Nat)=>decide (0≤i∧i≤(n:Int))))
theorem GZ:ng=(fun (i:Int) (n:Nat)=>decide (0≤i∧i≤(n:Int))):=Classical.choose_spec (cW (α:=Int→Nat→Bool) (fun (i:Int) (n:Nat)=>decide (0≤i∧i≤(n:Int))))
theorem BJ (i n):ng i n=decide (0≤i∧i≤(n:Int)):=by rw[GZ]
def DN:Int→Int→Nat→Bool:=Classical.choose (cW (α:=Int→Int→Nat→Bool) (fun l c b=>decide (0≤l∧l≤c∧c.toNat*b≤room∧c.toNat≤room)))
theorem Kj:DN=(fun l c b=>decide (0≤l∧l≤c∧c.toNat*b≤room∧c.toNat≤room)):=Classical.choose_spec (cW (α:=Int→Int→Nat→Bool) (fun l c b=>decide (0≤l∧l≤c∧c.toNat*b≤room∧c.toNat≤room)))
theorem w9 (l c b):DN l c b=decide (0≤l∧l≤c∧c.toNat*b≤room∧c.toNat≤room):=by rw[Kj]
def dw:Int→Nat:=Classical.choose (cW (α:=Int→Nat) (fun i=>i.toNat))
theorem KW:dw=(fun i=>i.toNat):=Classical.choose_spec (cW (α:=Int→Nat) (fun i=>i.toNat))
theorem mJ (i):dw i=i.toNat:=by rw[KW]
def au:Nat→Int→Nat→Nat:=Classical.choose (cW (α:=Nat→Int→Nat→Nat) (fun o i s=>o+i.toNat*s))
theorem J0:au=(fun o i s=>o+i.toNat*s):=Classical.choose_spec (cW (α:=Nat→Int→Nat→Nat) (fun o i s=>o+i.toNat*s))
theorem kY (o i s):au o i s=o+i.toNat*s:=by rw[J0]
def b9:Nat→Nat→Nat:=Classical.choose (cW (α:=Nat→Nat→Nat) (fun a b=>a+b))
theorem GN:b9=(fun a b=>a+b):=Classical.choose_spec (cW (α:=Nat→Nat→Nat) (fun a b=>a+b))
theorem bJ (a b):b9 a b=a+b:=by rw[GN]
def tZ:Nat→Nat→Nat:=Classical.choose (cW (α:=Nat→Nat→Nat) (fun a b=>a-b))
theorem It:tZ=(fun a b=>a-b):=Classical.choose_spec (cW (α:=Nat→Nat→Nat) (fun a b=>a-b))
theorem lA (a b):tZ a b=a-b:=by rw[It]
def HL:Nat→Nat→Nat:=Classical.choose (cW (α:=Nat→Nat→Nat) (fun a b=>a*b))
theorem HM:HL=(fun a b=>a*b):=Classical.choose_spec (cW (α:=Nat→Nat→Nat) (fun a b=>a*b))
theorem Ct (a b):HL a b=a*b:=by rw[HM]
def qv:Nat→Nat→Nat:=Classical.choose (cW (α:=Nat→Nat→Nat) (fun a b=>min a b))
theorem HI:qv=(fun a b=>min a b):=Classical.choose_spec (cW (α:=Nat→Nat→Nat) (fun a b=>min a b))
theorem po (a b):qv a b=min a b:=by rw[HI]
def cw:Nat→Nat→Bool:=Classical.choose (cW (α:=Nat→Nat→Bool) (fun a b=>decide (a<b)))
theorem Ki:cw=(fun a b=>decide (a<b)):=Classical.choose_spec (cW (α:=Nat→Nat→Bool) (fun a b=>decide (a<b)))
theorem gw (a b):cw a b=decide (a<b):=by rw[Ki]
def iO:Nat→Nat→Bool:=Classical.choose (cW (α:=Nat→Nat→Bool) (fun a b=>decide (a≤b)))
theorem Kb:iO=(fun a b=>decide (a≤b)):=Classical.choose_spec (cW (α:=Nat→Nat→Bool) (fun a b=>decide (a≤b)))
theorem ld (a b):iO a b=decide (a≤b):=by rw[Kb]
def cL:Nat→Nat→Bool:=Classical.choose (cW (α:=Nat→Nat→Bool) (fun a b=>decide (a=b)))
theorem JU:cL=(fun a b=>decide (a=b)):=Classical.choose_spec (cW (α:=Nat→Nat→Bool) (fun a b=>decide (a=b)))
theorem gm (a b):cL a b=decide (a=b):=by rw[JU]
def gF:Nat→Nat→Nat→Nat→Bool:=Classical.choose (cW (α:=Nat→Nat→Nat→Nat→Bool) (fun o m p n=>decide (p≤o∧o+m≤p+n)))
theorem J3:gF=(fun o m p n=>decide (p≤o∧o+m≤p+n)):=Classical.choose_spec (cW (α:=Nat→Nat→Nat→Nat→Bool) (fun o m p n=>decide (p≤o∧o+m≤p+n)))
theorem gQ (o m p n):gF o m p n=decide (p≤o∧o+m≤p+n):=by rw[J3]
def Ep:(Nat→AV)→IntKind→Nat→Bool→Prop:=Classical.choose (cW (α:=(Nat→AV)→IntKind→Nat→Bool→Prop) (fun f k sz full=>∀ j,∃ z n m,f j=AV.slcT none (Row.M [ah.arr k z n]) sz m full))
theorem GO:Ep=(fun f k sz full=>∀ j,∃ z n m,f j=AV.slcT none (Row.M [ah.arr k z n]) sz m full):=Classical.choose_spec (cW (α:=(Nat→AV)→IntKind→Nat→Bool→Prop) (fun f k sz full=>∀ j,∃ z n m,f j=AV.slcT none (Row.M [ah.arr k z n]) sz m full))
theorem BD (f k sz full):Ep f k sz full=∀ j,∃ z n m,f j=AV.slcT none (Row.M [ah.arr k z n]) sz m full:=by rw[GO]
def Ih:Bool→(Nat→Int)→(Nat→Int)→Nat→Int:=Classical.choose (cW (α:=Bool→(Nat→Int)→(Nat→Int)→Nat→Int) (fun b x y=>cond b x y))
theorem Ii:Ih=(fun b x y=>cond b x y):=Classical.choose_spec (cW (α:=Bool→(Nat→Int)→(Nat→Int)→Nat→Int) (fun b x y=>cond b x y))
theorem xL (b x y):Ih b x y=cond b x y:=by rw[Ii]
def D6:Bool→Nat→Nat→Nat:=Classical.choose (cW (α:=Bool→Nat→Nat→Nat) (fun b x y=>cond b x y))
theorem Ig:D6=(fun b x y=>cond b x y):=Classical.choose_spec (cW (α:=Bool→Nat→Nat→Nat) (fun b x y=>cond b x y))
theorem xK (b x y):D6 b x y=cond b x y:=by rw[Ig]
def iv:Nat→Nat→Nat→Bool:=Classical.choose (cW (α:=Nat→Nat→Nat→Bool) (fun m n b=>decide ((m+n)*b≤room∧m+n≤room)))
theorem Gc:iv=(fun m n b=>decide ((m+n)*b≤room∧m+n≤room)):=Classical.choose_spec (cW (α:=Nat→Nat→Nat→Bool) (fun m n b=>decide ((m+n)*b≤room∧m+n≤room)))
theorem zT (m n b):iv m n b=decide ((m+n)*b≤room∧m+n≤room):=by rw[Gc]
def fO:(Nat→Int)→Nat→Int→Nat→Int:=Classical.choose (cW (α:=(Nat→Int)→Nat→Int→Nat→Int) (fun z i x=>fun j=>if j=i then x else z j))
theorem hJ:fO=(fun z i x=>fun j=>if j=i then x else z j):=Classical.choose_spec (cW (α:=(Nat→Int)→Nat→Int→Nat→Int) (fun z i x=>fun j=>if j=i then x else z j))
def dW:(Nat→Int)→Nat→Nat→Int:=Classical.choose (cW (α:=(Nat→Int)→Nat→Nat→Int) (fun z o=>fun j=>z (o+j)))
theorem mI:dW=(fun z o=>fun j=>z (o+j)):=Classical.choose_spec (cW (α:=(Nat→Int)→Nat→Nat→Int) (fun z o=>fun j=>z (o+j)))
def eC:(Nat→Int)→Nat→(Nat→Int)→Nat→Nat→Int:=Classical.choose (cW (α:=(Nat→Int)→Nat→(Nat→Int)→Nat→Nat→Int) (fun z o z' n=>Dq z o z' n))
theorem rK:eC=(fun z o z' n=>Dq z o z' n):=Classical.choose_spec (cW (α:=(Nat→Int)→Nat→(Nat→Int)→Nat→Nat→Int) (fun z o z' n=>Dq z o z' n))
theorem G6 (z o z' n):eC z o z' n=Dq z o z' n:=by rw[rK]
def oD:(Nat→Int)→Nat→(Nat→Int)→Nat→Int:=Classical.choose (cW (α:=(Nat→Int)→Nat→(Nat→Int)→Nat→Int) (fun z n z'=>fun i=>if i<n then z i else z' (i-n)))
theorem rJ:oD=(fun z n z'=>fun i=>if i<n then z i else z' (i-n)):=Classical.choose_spec (cW (α:=(Nat→Int)→Nat→(Nat→Int)→Nat→Int) (fun z n z'=>fun i=>if i<n then z i else z' (i-n)))
def Kd:List Int→Nat:=Classical.choose (cW (α:=List Int→Nat) (fun l=>l.length))
theorem Hv:Kd=(fun l=>l.length):=Classical.choose_spec (cW (α:=List Int→Nat) (fun l=>l.length))
theorem Hu (l):Kd l=l.length:=by rw[Hv]
def aA:List Int→Nat→Int:=Classical.choose (cW (α:=List Int→Nat→Int) (fun l=>fun j=>l.getD j 0))
theorem iR:aA=(fun l=>fun j=>l.getD j 0):=Classical.choose_spec (cW (α:=List Int→Nat→Int) (fun l=>fun j=>l.getD j 0))
theorem Cj (l):aA l=fun j=>l.getD j 0:=by rw[iR]
def nE:(Nat→Int)→(Nat→Int)→Nat→Bool:=Classical.choose (cW (α:=(Nat→Int)→(Nat→Int)→Nat→Bool) (fun z z' n=>allEq z z' n))
theorem Dd:nE=(fun z z' n=>allEq z z' n):=Classical.choose_spec (cW (α:=(Nat→Int)→(Nat→Int)→Nat→Bool) (fun z z' n=>allEq z z' n))
theorem uY (z z' n):nE z z' n=allEq z z' n:=by rw[Dd]
def mF:(List Int→Bool)→List Int→Bool→List Int→Bool:=Classical.choose (cW (α:=(List Int→Bool)→List Int→Bool→List Int→Bool) (fun h n b=>iy h n b))
theorem mG:mF=(fun h n b=>iy h n b):=Classical.choose_spec (cW (α:=(List Int→Bool)→List Int→Bool→List Int→Bool) (fun h n b=>iy h n b))
theorem zU (h n b):mF h n b=iy h n b:=by rw[mG]
def mH:(List Int→Int)→List Int→Int→List Int→Int:=Classical.choose (cW (α:=(List Int→Int)→List Int→Int→List Int→Int) (fun g n x=>ly g n x))
theorem tQ:mH=(fun g n x=>ly g n x):=Classical.choose_spec (cW (α:=(List Int→Int)→List Int→Int→List Int→Int) (fun g n x=>ly g n x))
theorem zY (g n x):mH g n x=ly g n x:=by rw[tQ]
def su:Bool→Nat→Nat:=Classical.choose (cW (α:=Bool→Nat→Nat) (fun b c=>yb b c))
theorem EM:su=(fun b c=>yb b c):=Classical.choose_spec (cW (α:=Bool→Nat→Nat) (fun b c=>yb b c))
theorem yc (b c):su b c=yb b c:=by rw[EM]
def vl:Bool→Nat→Nat:=Classical.choose (cW (α:=Bool→Nat→Nat) (fun b c=>Dp b c))
theorem EN:vl=(fun b c=>Dp b c):=Classical.choose_spec (cW (α:=Bool→Nat→Nat) (fun b c=>Dp b c))
theorem yd (b c):vl b c=Dp b c:=by rw[EN]

end
end Go.Eng
end
