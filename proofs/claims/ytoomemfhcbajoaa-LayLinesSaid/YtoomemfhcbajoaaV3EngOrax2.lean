/- The engine: tables of calls that are known beforehand. -/
import Derived.Test.YtoomemfhcbajoaaV3EngXx3
set_option linter.unusedVariables false
set_option linter.unusedSimpArgs false
section
namespace Go.Eng

def Sw (f:AV→Bool) (r:Row):Bool :=
 match r with
 | .I ..=>true
 | .G l=>l.all f
 | .F ..=>true
 | .M l=>fZ l
def qW:Nat→AV→Bool
 | 0,_=>false
 | n+1,v=>match v with
   | .undef | .bool _ | .int _ _ | .str _ | .nilp | .nils | .nilm | .nilf=>true
   | .ptrT none _ _=>true
   | .slcT none _ _ _ _=>true
   | .agg r=>Sw (qW n) r
   | .tup l=>l.all (qW n)
   | .fn _ a b=>a.all (qW n) && b.all (qW n)
   | _=>false
theorem fY {f:AV→Bool}:∀ {l:List AV} {j:Nat},l.all f=true→j<l.length→f (l.getD j .undef)=true
 | [],j,_,h=>by simp at h
 | x::l,0,h,_=>by simp at h;simpa using h.1
 | x::l,j+1,h,hj=>by
   simp only[List.all_cons,Bool.and_eq_true] at h
   rw[List.getD_cons_succ]
   exact fY h.2 (by simpa using hj)
theorem mL {p:aC} {M N:Mu}:∀ (n:Nat) {v:AV} {c:Value},qW n v=true→ai p M v c→ai p N v c
 | 0,v,c,h,_=>by simp[qW] at h
 | n + 1,v,c,h,hv=>by
   have ih:=@mL p M N n
   cases hv with
   | undef c=>exact .undef c
   | bool b=>exact .bool b
   | int k n=>exact .int k n
   | str s=>exact .str s
   | nilp=>exact .nilp
   | nils=>exact .nils
   | nilm=>exact .nilm
   | nilf=>exact .nilf
   | ptr h0=>simp[qW] at h
   | slc h0=>simp[qW] at h
   | map h0=>simp[qW] at h
   | yld h0=>simp[qW] at h
   | ptrT vs h0 h1 hv =>
     rename_i s r off b o
     cases s with
     | some s=>simp[qW] at h
     | none=>exact .ptrT vs h0 h1 hv
   | slcT vs h0 h1 hv hl hf hx =>
     rename_i s r sz len b o x cc full
     cases s with
     | some s=>simp[qW] at h
     | none=>exact .slcT vs h0 h1 hv hl hf hx
   | slcN=>exact .slcN
   | fn ha hb va vb =>
     simp only[qW,Bool.and_eq_true] at h
     exact .fn ha hb (fun j hj=>ih (fY h.1 hj) (va j hj)) (fun j hj=>ih (fY h.2 hj) (vb j hj))
   | agg hs h1 hv =>
     rename_i r cs
     simp only[qW] at h
     cases r with
     | I k l=>exact .agg hs h1 (fun j hj=>(hv j hj).bC _ _)
     | F f m=>exact .agg hs h1 hv
     | M l=>exact .agg hs h1 (aX.fZ h hv)
     | G l=>exact .agg hs h1 (fun j hj=>ih (fY (f:=qW n) h hj) (hv j hj))
   | tup hs hv =>
     simp only[qW] at h
     exact .tup hs (fun j hj=>ih (fY h hj) (hv j hj))

structure fV where
 f:FuncId
 args:List AV
 v:AV
def bw (P:Program) (e:fV):Prop:=∀ (H:aa),H≠[]→∀ (p:aC) (M:Mu) (w:World) (cargs:Array Value),aY p M H w→iJ p M e.args cargs →
 (∃ fn,P.funcs[e.f]?=some fn∧fn.body.isNone=false)∧CallsIn Fence.wide 0 P e.f cargs w (pC p M H w e.v H)

theorem yV {P:Program} {call:aV} (hC:cj P call) {e:fV} {H':aa} (h:call (.fn e.f) e.args [⟨true,[]⟩]=some (e.v,H')) (hn:e.args.all (qW 9)=true):bw P e:=by
 intro H hne p M w cargs hH hA
 have hH0:aY p Mu.no [⟨true,[]⟩] w:=⟨hH.pers,(fun d i v B hg hB=>by
  cases d<;>simp[aq,an] at hg<;>exact absurd hg.2.symm hB),(fun d i v B d' i' v' B' b o t o' t' hg hB hg' hB' hm hm'=>by cases hm),(fun d i v t hm=>by cases hm)⟩
 have hA0:iJ p Mu.no e.args cargs:=⟨hA.1,fun j hj=>mL 9 (fY hn hj) (hA.2 j hj)⟩
 obtain ⟨h1,h2⟩:=hC (.fn e.f) e.args _ e.v H' h (by simp) p Mu.no w cargs hH0 hA0
 refine ⟨h1,h2.mono ?_⟩
 rintro en w' ⟨cv,rfl,st,p',M',hE,hv⟩
 have hM:Mu.le M' M:=fun d i v t hm=>by
  have h3:=(hE.rel.dom d i v t hm).1
  have h4:au [⟨true,[]⟩] d=true:=by cases d<;>rfl
  rw[st.next d h4] at h3
  cases d<;>simp[aj] at h3
 have all:∀ b,Go.Eng.ba Mu.no [⟨true,[]⟩] b:=fun b d i u B _ _ _ o t hm=>by cases hm
 have no:∀ {b:Nat},¬ (au [⟨true,[]⟩] 0=false∧∃ i u o' t',Mu.no 0 i u=some (b,o',t')):=fun h=>by have:=h.1;cases this
 refine ⟨cv,rfl,Still.refl H,p',M,{ bU.refl hH with pst:=hE.pst,rel:=⟨hE.rel.pers,?_,hH.apart,hH.dom⟩,stay:=hE.stay.weaken (fun b _ _=>all b),fresh:=fun b o v hv=>(hE.fresh b o v hv).imp_right fun h=>h.elim .inl fun h=>(no h).elim },hv.mono (aC.le.refl _) hM⟩
 intro d i u B hg hB
 obtain ⟨b,o,t,k1,k2,k3⟩:=hH.live d i u B hg hB
 have hlt:=k2.lt hB
 refine ⟨b,o,t,k1,k2.mono hE.pst (Mu.le.refl _) (hE.stay.block b hlt (all b)),fun x=>?_⟩
 cases hx:p' b x with
 | none=>rfl
 | some y =>
   rcases hE.fresh b x y hx with h | h | ⟨h,_⟩
   · rw[k3] at h;cases h
   · omega
   · cases h

noncomputable def tU (f:AV→AV→Bool) (r s:Row):Bool :=
 match r,s with
 | .I k l,.I k' l'=>gw k k' && listEqI l l'
 | .G l,.G l'=>listEqV f l l'
 | _,_=>false
where
 listEqI:List Int→List Int→Bool
  | [],[]=>true
  | x::a,y::b=>F3 x y && listEqI a b
  | _,_=>false
 listEqV (f:AV→AV→Bool):List AV→List AV→Bool
  | [],[]=>true
  | x::a,y::b=>f x y && listEqV f a b
  | _,_=>false
def Ak:Option Nat→Option Nat→Bool
 | none,none=>true
 | some a,some b=>Nat.beq a b
 | _,_=>false
noncomputable def Ja:Nat→AV→AV→Bool
 | 0,_,_=>false
 | n+1,v,u=>match v,u with
   | .bool a,.bool b=>a == b
   | .int k a,.int k' b=>gw k k' && F3 a b
   | .nilp,.nilp=>true
   | .nils,.nils=>true
   | .nilm,.nilm=>true
   | .ptrT s r o,.ptrT s' r' o'=>Ak s s' && (tU (Ja n) r r' && Nat.beq o o')
   | .slcT s r z l b,.slcT s' r' z' l' b'=>Ak s s' && (tU (Ja n) r r' && (Nat.beq z z' && (Nat.beq l l' && b == b')))
   | .agg r,.agg r'=>tU (Ja n) r r'
   | _,_=>false
theorem sC:∀ (l m:List Int),tU.listEqI l m=true→l=m
 | [],[],_=>rfl
 | [],_::_,h=>by simp[tU.listEqI] at h
 | _::_,[],h=>by simp[tU.listEqI] at h
 | x::a,y::b,h=>by
   simp only[tU.listEqI,Bool.and_eq_true,v5,beq_iff_eq] at h
   rw[h.1,sC a b h.2]
theorem gH {f:AV→AV→Bool} (hf:∀ x y,f x y=true→x=y):∀ (l m:List AV),tU.listEqV f l m=true→l=m
 | [],[],_=>rfl
 | [],_::_,h=>by simp[tU.listEqV] at h
 | _::_,[],h=>by simp[tU.listEqV] at h
 | x::a,y::b,h=>by
   simp only[tU.listEqV,Bool.and_eq_true] at h
   rw[hf _ _ h.1,gH hf a b h.2]
theorem np {f:AV→AV→Bool} (hf:∀ x y,f x y=true→x=y) (r s:Row) (h:tU f r s=true):r=s:=by
 cases r<;>cases s<;>simp only[tU,Bool.and_eq_true,eK,decide_eq_true_eq] at h<;>try (simp at h;done)
 · rw[h.1,sC _ _ h.2]
 · rw[gH hf _ _ h]
theorem ov (a b:Option Nat) (h:Ak a b=true):a=b:=by
 cases a<;>cases b<;>simp[Ak] at h ⊢;exact h
theorem Et:∀ (n:Nat) (x y:AV),Ja n x y=true→x=y
 | 0,x,y,h=>by simp[Ja] at h
 | n+1,x,y,h=>by
   have ih:=Et n
   cases x<;>cases y<;>simp only[Ja,Bool.and_eq_true,eK,v5,decide_eq_true_eq,beq_iff_eq] at h<;>try (first | rfl | (simp at h;done))
   case bool.bool=>rw[h]
   case int.int=>rw[h.1,h.2]
   case ptrT.ptrT=>rw[ov _ _ h.1,np ih _ _ h.2.1,Nat.eq_of_beq_eq_true h.2.2]
   case slcT.slcT=>rw[ov _ _ h.1,np ih _ _ h.2.1,Nat.eq_of_beq_eq_true h.2.2.1,Nat.eq_of_beq_eq_true h.2.2.2.1,h.2.2.2.2]
   case agg.agg=>rw[np ih _ _ h]

noncomputable def AJ:List fV→aV→FuncId→List AV→aa→Option (AV×aa)
 | [],_,_,_,_=>none
 | e::r,c,f,args,H=>if Nat.beq e.f f && tU.listEqV (Ja 9) e.args args then some (e.v,H) else AJ r c f args H
theorem wG {P:Program}:∀ (tab:List fV),(∀ e ∈ tab,bw P e)→uw P (AJ tab)
 | [],_=>fun call _ f args H v H' h=>by simp[AJ] at h
 | e :: r,hT=>fun call hC f args H v H' h=>by
   simp only[AJ] at h
   split at h
   · rename_i hc
     simp only[Bool.and_eq_true] at hc
     have e1:=Nat.eq_of_beq_eq_true hc.1
     have e2:=gH (Et 9) _ _ hc.2
     have e3:=Option.some.inj h
     simp only[Prod.mk.injEq] at e3
     obtain ⟨e3,e4⟩:=e3
     subst e1;subst e2;subst e3;subst e4
     exact hT e (by simp) H
   · exact wG r (fun e' he=>hT e' (List.mem_cons_of_mem _ he)) call hC f args H v H' h

end Go.Eng
end
section
namespace Go.Eng
noncomputable section

inductive Tr (α:Type) where
 | ok (a:α)
 | bad
 | ite (c:Bool) (t e:Tr α)
 | req (c:Bool) (t:Tr α)
 | reqP (p:Prop) (t:Tr α)
open Classical in
def Tr.run {α:Type}:Tr α→Option α
 | .ok a=>some a
 | .bad=>none
 | .ite c t e=>cond c t.run e.run
 | .req c t=>cond c t.run none
 | .reqP p t=>if p then t.run else none
def Tr.bind {α β:Type} (t:Tr α) (f:α→Tr β):Tr β:=Tr.rec (motive:=fun _=>Tr β) f .bad (fun c _ _ a b=>.ite c a b) (fun c _ a=>.req c a) (fun p _ a=>.reqP p a) t
theorem Tr.D9 {α β:Type} (t:Tr α) (f:α→Tr β):(t.bind f).run=t.run.bind fun a=>(f a).run:=by
 induction t with
 | ok a=>rfl
 | bad=>rfl
 | ite c a b iha ihb =>
   have e:(Tr.ite c a b).bind f=.ite c (a.bind f) (b.bind f):=rfl
   rw[e];simp only[Tr.run,iha,ihb];cases c<;>rfl
 | req c a ih =>
   have e:(Tr.req c a).bind f=.req c (a.bind f):=rfl
   rw[e];simp only[Tr.run,ih];cases c<;>rfl
 | reqP p a ih =>
   have e:(Tr.reqP p a).bind f=.reqP p (a.bind f):=rfl
   rw[e];simp only[Tr.run,ih]
   by_cases hp:p
   · rw[if_pos hp,if_pos hp]
   · rw[if_neg hp,if_neg hp];rfl
theorem Tr.db {α:Type} {p:Prop} {t:Tr α} {x:α} (h:(Tr.reqP p t).run=some x):p∧t.run=some x:=by
 simp only[Tr.run] at h
 by_cases hp:p
 · rw[if_pos hp] at h;exact ⟨hp,h⟩
 · rw[if_neg hp] at h;cases h
theorem Tr.FJ {α:Type} {p:Prop} {a:Tr α} (h:p):(Tr.reqP p a).run=a.run:=by simp only[Tr.run];rw[if_pos h]
theorem Tr.bind_some {α β:Type} {t:Tr α} {f:α→Tr β} {y:β} (h:(t.bind f).run=some y):∃ x,t.run=some x∧(f x).run=some y:=by
 rw[Tr.D9] at h
 exact Option.bind_eq_some_iff.1 h
theorem Tr.aP {α:Type} {c:Bool} {t:Tr α} {x:α} (h:(Tr.req c t).run=some x):c=true∧t.run=some x:=by
 cases c with
 | true=>exact ⟨rfl,h⟩
 | false=>simp[Tr.run] at h
theorem Tr.g5 {α:Type} {c:Bool} {t e:Tr α} {x:α} (h:(Tr.ite c t e).run=some x):(c=true∧t.run=some x)∨(c=false∧e.run=some x):=by
 cases c with
 | true=>exact .inl ⟨rfl,h⟩
 | false=>exact .inr ⟨rfl,h⟩
theorem Tr.ab {α:Type} {a x:α} (h:(Tr.ok a).run=some x):a=x:=Option.some.inj h
theorem Tr.ae {α:Type} {x:α} (h:(Tr.bad:Tr α).run=some x):False:=by simp[Tr.run] at h
def vr {α:Type} (o:Option α):Tr α:=Option.rec (motive:=fun _=>Tr α) .bad .ok o
theorem cQ {α:Type} (o:Option α):(vr o).run=o:=by cases o<;>rfl
theorem cT {α:Type} (f:α):∃ g,g=f:=⟨f,rfl⟩

def bE:IntKind→Int→Int→Int:=Classical.choose (cT (α:=IntKind→Int→Int→Int) (fun k x y=>k.wrap (x+y)))
theorem F7:bE=(fun k x y=>k.wrap (x+y)):=Classical.choose_spec (cT (α:=IntKind→Int→Int→Int) (fun k x y=>k.wrap (x+y)))
theorem jg (k x y):bE k x y=k.wrap (x+y):=by rw[F7]
def bB:IntKind→Int→Int→Int:=Classical.choose (cT (α:=IntKind→Int→Int→Int) (fun k x y=>k.wrap (x-y)))
theorem HJ:bB=(fun k x y=>k.wrap (x-y)):=Classical.choose_spec (cT (α:=IntKind→Int→Int→Int) (fun k x y=>k.wrap (x-y)))
theorem mP (k x y):bB k x y=k.wrap (x-y):=by rw[HJ]
def Df:IntKind→Int→Int→Int:=Classical.choose (cT (α:=IntKind→Int→Int→Int) (fun k x y=>k.wrap (x*y)))
theorem G5:Df=(fun k x y=>k.wrap (x*y)):=Classical.choose_spec (cT (α:=IntKind→Int→Int→Int) (fun k x y=>k.wrap (x*y)))
theorem o7 (k x y):Df k x y=k.wrap (x*y):=by rw[G5]
def FA:IntKind→Int→Int→Int:=Classical.choose (cT (α:=IntKind→Int→Int→Int) (fun k x y=>k.wrap (x.tdiv y)))
theorem Hp:FA=(fun k x y=>k.wrap (x.tdiv y)):=Classical.choose_spec (cT (α:=IntKind→Int→Int→Int) (fun k x y=>k.wrap (x.tdiv y)))
theorem B8 (k x y):FA k x y=k.wrap (x.tdiv y):=by rw[Hp]
def ur:IntKind→Int→Int→Int:=Classical.choose (cT (α:=IntKind→Int→Int→Int) (fun k x y=>x.tmod y))
theorem Hs:ur=(fun k x y=>x.tmod y):=Classical.choose_spec (cT (α:=IntKind→Int→Int→Int) (fun k x y=>x.tmod y))
theorem Cb (k x y):ur k x y=x.tmod y:=by rw[Hs]
def IU:IntKind→Int→Int→Int:=Classical.choose (cT (α:=IntKind→Int→Int→Int) (fun k x y=>k.wrap (BitVec.ofInt k.bits x &&& BitVec.ofInt k.bits y).toNat))
theorem Gb:IU=(fun k x y=>k.wrap (BitVec.ofInt k.bits x &&& BitVec.ofInt k.bits y).toNat):=Classical.choose_spec (cT (α:=IntKind→Int→Int→Int) (fun k x y=>k.wrap (BitVec.ofInt k.bits x &&& BitVec.ofInt k.bits y).toNat))
theorem vO (k x y):IU k x y=k.wrap (BitVec.ofInt k.bits x &&& BitVec.ofInt k.bits y).toNat:=by rw[Gb]
def Ow:IntKind→Int→Int→Int:=Classical.choose (cT (α:=IntKind→Int→Int→Int) (fun k x y=>k.wrap (BitVec.ofInt k.bits x ||| BitVec.ofInt k.bits y).toNat))
theorem JK:Ow=(fun k x y=>k.wrap (BitVec.ofInt k.bits x ||| BitVec.ofInt k.bits y).toNat):=Classical.choose_spec (cT (α:=IntKind→Int→Int→Int) (fun k x y=>k.wrap (BitVec.ofInt k.bits x ||| BitVec.ofInt k.bits y).toNat))
theorem AI (k x y):Ow k x y=k.wrap (BitVec.ofInt k.bits x ||| BitVec.ofInt k.bits y).toNat:=by rw[JK]
def Kf:IntKind→Int→Int→Int:=Classical.choose (cT (α:=IntKind→Int→Int→Int) (fun k x y=>k.wrap (BitVec.ofInt k.bits x ^^^ BitVec.ofInt k.bits y).toNat))
theorem HS:Kf=(fun k x y=>k.wrap (BitVec.ofInt k.bits x ^^^ BitVec.ofInt k.bits y).toNat):=Classical.choose_spec (cT (α:=IntKind→Int→Int→Int) (fun k x y=>k.wrap (BitVec.ofInt k.bits x ^^^ BitVec.ofInt k.bits y).toNat))
theorem xo (k x y):Kf k x y=k.wrap (BitVec.ofInt k.bits x ^^^ BitVec.ofInt k.bits y).toNat:=by rw[HS]
def MO:IntKind→Int→Int→Int:=Classical.choose (cT (α:=IntKind→Int→Int→Int) (fun k x y=>k.wrap (BitVec.ofInt k.bits x &&& ~~~(BitVec.ofInt k.bits y)).toNat))
theorem IQ:MO=(fun k x y=>k.wrap (BitVec.ofInt k.bits x &&& ~~~(BitVec.ofInt k.bits y)).toNat):=Classical.choose_spec (cT (α:=IntKind→Int→Int→Int) (fun k x y=>k.wrap (BitVec.ofInt k.bits x &&& ~~~(BitVec.ofInt k.bits y)).toNat))
theorem zZ (k x y):MO k x y=k.wrap (BitVec.ofInt k.bits x &&& ~~~(BitVec.ofInt k.bits y)).toNat:=by rw[IQ]
def JX:IntKind→Int→Int→Int:=Classical.choose (cT (α:=IntKind→Int→Int→Int) (fun k x y=>k.wrap (x*2 ^ (min y.toNat k.bits))))
theorem HD:JX=(fun k x y=>k.wrap (x*2 ^ (min y.toNat k.bits))):=Classical.choose_spec (cT (α:=IntKind→Int→Int→Int) (fun k x y=>k.wrap (x*2 ^ (min y.toNat k.bits))))
theorem Hz (k x y):JX k x y=k.wrap (x*2 ^ (min y.toNat k.bits)):=by rw[HD]
def JY:IntKind→Int→Int→Int:=Classical.choose (cT (α:=IntKind→Int→Int→Int) (fun k x y=>x.fdiv (2 ^ (min y.toNat k.bits))))
theorem HG:JY=(fun k x y=>x.fdiv (2 ^ (min y.toNat k.bits))):=Classical.choose_spec (cT (α:=IntKind→Int→Int→Int) (fun k x y=>x.fdiv (2 ^ (min y.toNat k.bits))))
theorem HF (k x y):JY k x y=x.fdiv (2 ^ (min y.toNat k.bits)):=by rw[HG]
def DK:IntKind→Int→Int:=Classical.choose (cT (α:=IntKind→Int→Int) (fun k x=>k.wrap x))
theorem Kd:DK=(fun k x=>k.wrap x):=Classical.choose_spec (cT (α:=IntKind→Int→Int) (fun k x=>k.wrap x))
theorem AZ (k x):DK k x=k.wrap x:=by rw[Kd]
def JG:IntKind→Int→Int:=Classical.choose (cT (α:=IntKind→Int→Int) (fun k x=>k.wrap (0-x)))
theorem Hd:JG=(fun k x=>k.wrap (0-x)):=Classical.choose_spec (cT (α:=IntKind→Int→Int) (fun k x=>k.wrap (0-x)))
theorem Hc (k x):JG k x=k.wrap (0-x):=by rw[Hd]
def bJ:Int→Int→Bool:=Classical.choose (cT (α:=Int→Int→Bool) (fun x y=>(x == y)))
theorem Jc:bJ=(fun x y=>(x == y)):=Classical.choose_spec (cT (α:=Int→Int→Bool) (fun x y=>(x == y)))
theorem dH (x y):bJ x y=(x == y):=by rw[Jc]
def bV:Int→Int→Bool:=Classical.choose (cT (α:=Int→Int→Bool) (fun x y=>decide (x<y)))
theorem JC:bV=(fun x y=>decide (x<y)):=Classical.choose_spec (cT (α:=Int→Int→Bool) (fun x y=>decide (x<y)))
theorem eL (x y):bV x y=decide (x<y):=by rw[JC]
def jF:Int→Int→Bool:=Classical.choose (cT (α:=Int→Int→Bool) (fun x y=>decide (x≤y)))
theorem Jv:jF=(fun x y=>decide (x≤y)):=Classical.choose_spec (cT (α:=Int→Int→Bool) (fun x y=>decide (x≤y)))
theorem iR (x y):jF x y=decide (x≤y):=by rw[Jv]
def ay:Bool→Bool:=Classical.choose (cT (α:=Bool→Bool) (fun b=>(!b)))
theorem Hf:ay=(fun b=>(!b)):=Classical.choose_spec (cT (α:=Bool→Bool) (fun b=>(!b)))
theorem fx (b):ay b=(!b):=by rw[Hf]
def jP:Bool→Bool→Bool:=Classical.choose (cT (α:=Bool→Bool→Bool) (fun a b=>(a && b)))
theorem Ga:jP=(fun a b=>(a && b)):=Classical.choose_spec (cT (α:=Bool→Bool→Bool) (fun a b=>(a && b)))
theorem n7 (a b):jP a b=(a && b):=by rw[Ga]
def jV:Bool→Bool→Bool:=Classical.choose (cT (α:=Bool→Bool→Bool) (fun a b=>(a == b)))
theorem Jb:jV=(fun a b=>(a == b)):=Classical.choose_spec (cT (α:=Bool→Bool→Bool) (fun a b=>(a == b)))
theorem jC (a b):jV a b=(a == b):=by rw[Jb]
def yM:Int→Int→Int:=Classical.choose (cT (α:=Int→Int→Int) (fun x y=>if y<x then y else x))
theorem G4:yM=(fun x y=>if y<x then y else x):=Classical.choose_spec (cT (α:=Int→Int→Int) (fun x y=>if y<x then y else x))
theorem BO (x y):yM x y=if y<x then y else x:=by rw[G4]
def Dd:Int→Int→Int:=Classical.choose (cT (α:=Int→Int→Int) (fun x y=>if y > x then y else x))
theorem G1:Dd=(fun x y=>if y > x then y else x):=Classical.choose_spec (cT (α:=Int→Int→Int) (fun x y=>if y > x then y else x))
theorem BN (x y):Dd x y=if y > x then y else x:=by rw[G1]
def cS:Int→Nat→Bool:=Classical.choose (cT (α:=Int→Nat→Bool) (fun (i:Int) (n:Nat)=>decide (0≤i∧i<(n:Int))))
theorem Jm:cS=(fun (i:Int) (n:Nat)=>decide (0≤i∧i<(n:Int))):=Classical.choose_spec (cT (α:=Int→Nat→Bool) (fun (i:Int) (n:Nat)=>decide (0≤i∧i<(n:Int))))
theorem p9 (i n):cS i n=decide (0≤i∧i<(n:Int)):=by rw[Jm]
def lQ:Int→Nat→Bool:=Classical.choose (cT (α:=Int→Nat→Bool) (fun (i:Int) (n:Nat)=>decide (0≤i∧i≤(n:Int))))
theorem Gj:lQ=(fun (i:Int) (n:Nat)=>decide (0≤i∧i≤(n:Int))):=Classical.choose_spec (cT (α:=Int→Nat→Bool) (fun (i:Int) (n:Nat)=>decide (0≤i∧i≤(n:Int))))
theorem Bg (i n):lQ i n=decide (0≤i∧i≤(n:Int)):=by rw[Gj]
def De:Int→Int→Nat→Bool:=Classical.choose (cT (α:=Int→Int→Nat→Bool) (fun l c b=>decide (0≤l∧l≤c∧c.toNat*b≤room∧c.toNat≤room)))
theorem JE:De=(fun l c b=>decide (0≤l∧l≤c∧c.toNat*b≤room∧c.toNat≤room)):=Classical.choose_spec (cT (α:=Int→Int→Nat→Bool) (fun l c b=>decide (0≤l∧l≤c∧c.toNat*b≤room∧c.toNat≤room)))
theorem wC (l c b):De l c b=decide (0≤l∧l≤c∧c.toNat*b≤room∧c.toNat≤room):=by rw[JE]
def dg:Int→Nat:=Classical.choose (cT (α:=Int→Nat) (fun i=>i.toNat))
theorem J7:dg=(fun i=>i.toNat):=Classical.choose_spec (cT (α:=Int→Nat) (fun i=>i.toNat))
theorem lu (i):dg i=i.toNat:=by rw[J7]
def ar:Nat→Int→Nat→Nat:=Classical.choose (cT (α:=Nat→Int→Nat→Nat) (fun o i s=>o+i.toNat*s))
theorem Jk:ar=(fun o i s=>o+i.toNat*s):=Classical.choose_spec (cT (α:=Nat→Int→Nat→Nat) (fun o i s=>o+i.toNat*s))
theorem kQ (o i s):ar o i s=o+i.toNat*s:=by rw[Jk]
def bY:Nat→Nat→Nat:=Classical.choose (cT (α:=Nat→Nat→Nat) (fun a b=>a+b))
theorem F8:bY=(fun a b=>a+b):=Classical.choose_spec (cT (α:=Nat→Nat→Nat) (fun a b=>a+b))
theorem bH (a b):bY a b=a+b:=by rw[F8]
def tB:Nat→Nat→Nat:=Classical.choose (cT (α:=Nat→Nat→Nat) (fun a b=>a-b))
theorem HL:tB=(fun a b=>a-b):=Classical.choose_spec (cT (α:=Nat→Nat→Nat) (fun a b=>a-b))
theorem ll (a b):tB a b=a-b:=by rw[HL]
def G6:Nat→Nat→Nat:=Classical.choose (cT (α:=Nat→Nat→Nat) (fun a b=>a*b))
theorem G7:G6=(fun a b=>a*b):=Classical.choose_spec (cT (α:=Nat→Nat→Nat) (fun a b=>a*b))
theorem BR (a b):G6 a b=a*b:=by rw[G7]
def qk:Nat→Nat→Nat:=Classical.choose (cT (α:=Nat→Nat→Nat) (fun a b=>min a b))
theorem G3:qk=(fun a b=>min a b):=Classical.choose_spec (cT (α:=Nat→Nat→Nat) (fun a b=>min a b))
theorem oZ (a b):qk a b=min a b:=by rw[G3]
def cJ:Nat→Nat→Bool:=Classical.choose (cT (α:=Nat→Nat→Bool) (fun a b=>decide (a<b)))
theorem JD:cJ=(fun a b=>decide (a<b)):=Classical.choose_spec (cT (α:=Nat→Nat→Bool) (fun a b=>decide (a<b)))
theorem gm (a b):cJ a b=decide (a<b):=by rw[JD]
def ik:Nat→Nat→Bool:=Classical.choose (cT (α:=Nat→Nat→Bool) (fun a b=>decide (a≤b)))
theorem Jw:ik=(fun a b=>decide (a≤b)):=Classical.choose_spec (cT (α:=Nat→Nat→Bool) (fun a b=>decide (a≤b)))
theorem kS (a b):ik a b=decide (a≤b):=by rw[Jw]
def cu:Nat→Nat→Bool:=Classical.choose (cT (α:=Nat→Nat→Bool) (fun a b=>decide (a=b)))
theorem Jd:cu=(fun a b=>decide (a=b)):=Classical.choose_spec (cT (α:=Nat→Nat→Bool) (fun a b=>decide (a=b)))
theorem gb (a b):cu a b=decide (a=b):=by rw[Jd]
def fW:Nat→Nat→Nat→Nat→Bool:=Classical.choose (cT (α:=Nat→Nat→Nat→Nat→Bool) (fun o m p n=>decide (p≤o∧o+m≤p+n)))
theorem Jn:fW=(fun o m p n=>decide (p≤o∧o+m≤p+n)):=Classical.choose_spec (cT (α:=Nat→Nat→Nat→Nat→Bool) (fun o m p n=>decide (p≤o∧o+m≤p+n)))
theorem gF (o m p n):fW o m p n=decide (p≤o∧o+m≤p+n):=by rw[Jn]
def DV:(Nat→AV)→IntKind→Nat→Bool→Prop:=Classical.choose (cT (α:=(Nat→AV)→IntKind→Nat→Bool→Prop) (fun f k sz full=>∀ j,∃ z n m,f j=AV.slcT none (Row.M [ah.arr k z n]) sz m full))
theorem F9:DV=(fun f k sz full=>∀ j,∃ z n m,f j=AV.slcT none (Row.M [ah.arr k z n]) sz m full):=Classical.choose_spec (cT (α:=(Nat→AV)→IntKind→Nat→Bool→Prop) (fun f k sz full=>∀ j,∃ z n m,f j=AV.slcT none (Row.M [ah.arr k z n]) sz m full))
theorem A9 (f k sz full):DV f k sz full=∀ j,∃ z n m,f j=AV.slcT none (Row.M [ah.arr k z n]) sz m full:=by rw[F9]
def Hv:Bool→(Nat→Int)→(Nat→Int)→Nat→Int:=Classical.choose (cT (α:=Bool→(Nat→Int)→(Nat→Int)→Nat→Int) (fun b x y=>cond b x y))
theorem Hw:Hv=(fun b x y=>cond b x y):=Classical.choose_spec (cT (α:=Bool→(Nat→Int)→(Nat→Int)→Nat→Int) (fun b x y=>cond b x y))
theorem xi (b x y):Hv b x y=cond b x y:=by rw[Hw]
def Dz:Bool→Nat→Nat→Nat:=Classical.choose (cT (α:=Bool→Nat→Nat→Nat) (fun b x y=>cond b x y))
theorem Hu:Dz=(fun b x y=>cond b x y):=Classical.choose_spec (cT (α:=Bool→Nat→Nat→Nat) (fun b x y=>cond b x y))
theorem xh (b x y):Dz b x y=cond b x y:=by rw[Hu]
def gx:Nat→Nat→Nat→Bool:=Classical.choose (cT (α:=Nat→Nat→Nat→Bool) (fun m n b=>decide ((m+n)*b≤room∧m+n≤room)))
theorem FG:gx=(fun m n b=>decide ((m+n)*b≤room∧m+n≤room)):=Classical.choose_spec (cT (α:=Nat→Nat→Nat→Bool) (fun m n b=>decide ((m+n)*b≤room∧m+n≤room)))
theorem zn (m n b):gx m n b=decide ((m+n)*b≤room∧m+n≤room):=by rw[FG]
def fH:(Nat→Int)→Nat→Int→Nat→Int:=Classical.choose (cT (α:=(Nat→Int)→Nat→Int→Nat→Int) (fun z i x=>fun j=>if j=i then x else z j))
theorem mT:fH=(fun z i x=>fun j=>if j=i then x else z j):=Classical.choose_spec (cT (α:=(Nat→Int)→Nat→Int→Nat→Int) (fun z i x=>fun j=>if j=i then x else z j))
def dE:(Nat→Int)→Nat→Nat→Int:=Classical.choose (cT (α:=(Nat→Int)→Nat→Nat→Int) (fun z o=>fun j=>z (o+j)))
theorem mr:dE=(fun z o=>fun j=>z (o+j)):=Classical.choose_spec (cT (α:=(Nat→Int)→Nat→Nat→Int) (fun z o=>fun j=>z (o+j)))
def dR:(Nat→Int)→Nat→(Nat→Int)→Nat→Nat→Int:=Classical.choose (cT (α:=(Nat→Int)→Nat→(Nat→Int)→Nat→Nat→Int) (fun z o z' n=>CL z o z' n))
theorem rq:dR=(fun z o z' n=>CL z o z' n):=Classical.choose_spec (cT (α:=(Nat→Int)→Nat→(Nat→Int)→Nat→Nat→Int) (fun z o z' n=>CL z o z' n))
theorem Gr (z o z' n):dR z o z' n=CL z o z' n:=by rw[rq]
def lO:(Nat→Int)→Nat→(Nat→Int)→Nat→Int:=Classical.choose (cT (α:=(Nat→Int)→Nat→(Nat→Int)→Nat→Int) (fun z n z'=>fun i=>if i<n then z i else z' (i-n)))
theorem oa:lO=(fun z n z'=>fun i=>if i<n then z i else z' (i-n)):=Classical.choose_spec (cT (α:=(Nat→Int)→Nat→(Nat→Int)→Nat→Int) (fun z n z'=>fun i=>if i<n then z i else z' (i-n)))
def Jy:List Int→Nat:=Classical.choose (cT (α:=List Int→Nat) (fun l=>l.length))
theorem GU:Jy=(fun l=>l.length):=Classical.choose_spec (cT (α:=List Int→Nat) (fun l=>l.length))
theorem GS (l):Jy l=l.length:=by rw[GU]
def aA:List Int→Nat→Int:=Classical.choose (cT (α:=List Int→Nat→Int) (fun l=>fun j=>l.getD j 0))
theorem gO:aA=(fun l=>fun j=>l.getD j 0):=Classical.choose_spec (cT (α:=List Int→Nat→Int) (fun l=>fun j=>l.getD j 0))
theorem BI (l):aA l=fun j=>l.getD j 0:=by rw[gO]
def nj:(Nat→Int)→(Nat→Int)→Nat→Bool:=Classical.choose (cT (α:=(Nat→Int)→(Nat→Int)→Nat→Bool) (fun z z' n=>allEq z z' n))
theorem CA:nj=(fun z z' n=>allEq z z' n):=Classical.choose_spec (cT (α:=(Nat→Int)→(Nat→Int)→Nat→Bool) (fun z z' n=>allEq z z' n))
theorem uy (z z' n):nj z z' n=allEq z z' n:=by rw[CA]
def ml:(List Int→Bool)→List Int→Bool→List Int→Bool:=Classical.choose (cT (α:=(List Int→Bool)→List Int→Bool→List Int→Bool) (fun h n b=>hY h n b))
theorem mn:ml=(fun h n b=>hY h n b):=Classical.choose_spec (cT (α:=(List Int→Bool)→List Int→Bool→List Int→Bool) (fun h n b=>hY h n b))
theorem zo (h n b):ml h n b=hY h n b:=by rw[mn]
def mq:(List Int→Int)→List Int→Int→List Int→Int:=Classical.choose (cT (α:=(List Int→Int)→List Int→Int→List Int→Int) (fun g n x=>lh g n x))
theorem tn:mq=(fun g n x=>lh g n x):=Classical.choose_spec (cT (α:=(List Int→Int)→List Int→Int→List Int→Int) (fun g n x=>lh g n x))
theorem zu (g n x):mq g n x=lh g n x:=by rw[tn]
def r9:Bool→Nat→Nat:=Classical.choose (cT (α:=Bool→Nat→Nat) (fun b c=>xC b c))
theorem Eh:r9=(fun b c=>xC b c):=Classical.choose_spec (cT (α:=Bool→Nat→Nat) (fun b c=>xC b c))
theorem xD (b c):r9 b c=xC b c:=by rw[Eh]
def uK:Bool→Nat→Nat:=Classical.choose (cT (α:=Bool→Nat→Nat) (fun b c=>CK b c))
theorem Ei:uK=(fun b c=>CK b c):=Classical.choose_spec (cT (α:=Bool→Nat→Nat) (fun b c=>CK b c))
theorem xE (b c):uK b c=CK b c:=by rw[Ei]

end
end Go.Eng
end
