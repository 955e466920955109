/- The engine: tables of calls that are known beforehand. -/
import Derived.Test.YtoomemfhcbajoaaV8EngXx3
set_option linter.unusedVariables false
set_option linter.unusedSimpArgs false
section
namespace Go.Eng

def Re (f:AV→Bool) (r:Row):Bool :=
 match r with
 | .I ..=>true
 | .G l=>l.all f
 | .F ..=>true
 | .M l=>fV l
def qC:Nat→AV→Bool
 | 0,_=>false
 | n+1,v=>match v with
   | .undef | .bool _ | .int _ _ | .str _ | .nilp | .nils | .nilm | .nilf=>true
   | .ptrT none _ _=>true
   | .slcT none _ _ _ _=>true
   | .agg r=>Re (qC n) r
   | .tup l=>l.all (qC n)
   | .fn _ a b=>a.all (qC n) && b.all (qC n)
   | _=>false
theorem fT {f:AV→Bool}:∀ {l:List AV} {j:Nat},l.all f=true→j<l.length→f (l.getD j .undef)=true
 | [],j,_,h=>by simp at h
 | x::l,0,h,_=>by simp at h;simpa using h.1
 | x::l,j+1,h,hj=>by
   simp only[List.all_cons,Bool.and_eq_true] at h
   rw[List.getD_cons_succ]
   exact fT h.2 (by simpa using hj)
theorem mB {p:aw} {M N:Mu}:∀ (n:Nat) {v:AV} {c:Value},qC n v=true→ai p M v c→ai p N v c
 | 0,v,c,h,_=>by simp[qC] at h
 | n + 1,v,c,h,hv=>by
   have ih:=@mB p M N n
   cases hv with
   | undef c=>exact .undef c
   | bool b=>exact .bool b
   | int k n=>exact .int k n
   | str s=>exact .str s
   | nilp=>exact .nilp
   | nils=>exact .nils
   | nilm=>exact .nilm
   | nilf=>exact .nilf
   | ptr h0=>simp[qC] at h
   | slc h0=>simp[qC] at h
   | map h0=>simp[qC] at h
   | yld h0=>simp[qC] at h
   | ptrT vs h0 h1 hv =>
     rename_i s r off b o
     cases s with
     | some s=>simp[qC] at h
     | none=>exact .ptrT vs h0 h1 hv
   | slcT vs h0 h1 hv hl hf hx =>
     rename_i s r sz len b o x cc full
     cases s with
     | some s=>simp[qC] at h
     | none=>exact .slcT vs h0 h1 hv hl hf hx
   | slcN=>exact .slcN
   | fn ha hb va vb =>
     simp only[qC,Bool.and_eq_true] at h
     exact .fn ha hb (fun j hj=>ih (fT h.1 hj) (va j hj)) (fun j hj=>ih (fT h.2 hj) (vb j hj))
   | agg hs h1 hv =>
     rename_i r cs
     simp only[qC] at h
     cases r with
     | I k l=>exact .agg hs h1 (fun j hj=>(hv j hj).bw _ _)
     | F f m=>exact .agg hs h1 hv
     | M l=>exact .agg hs h1 (aL.fV h hv)
     | G l=>exact .agg hs h1 (fun j hj=>ih (fT (f:=qC n) h hj) (hv j hj))
   | tup hs hv =>
     simp only[qC] at h
     exact .tup hs (fun j hj=>ih (fT h hj) (hv j hj))

structure fO where
 f:FuncId
 args:List AV
 v:AV
def bp (P:Program) (e:fO):Prop:=∀ (H:aa),H≠[]→∀ (p:aw) (M:Mu) (w:World) (cargs:Array Value),aP p M H w→iF p M e.args cargs →
 (∃ fn,P.funcs[e.f]?=some fn∧fn.body.isNone=false)∧CallsIn Fence.wide 0 P e.f cargs w (pg p M H w e.v H)

theorem yy {P:Program} {call:aJ} (hC:bY P call) {e:fO} {H':aa} (h:call (.fn e.f) e.args [⟨true,[]⟩]=some (e.v,H')) (hn:e.args.all (qC 9)=true):bp P e:=by
 intro H hne p M w cargs hH hA
 have hH0:aP p Mu.no [⟨true,[]⟩] w:=⟨hH.pers,(fun d i v B hg hB=>by
  cases d<;>simp[ao,an] at hg<;>exact absurd hg.2.symm hB),(fun d i v B d' i' v' B' b o t o' t' hg hB hg' hB' hm hm'=>by cases hm),(fun d i v t hm=>by cases hm)⟩
 have hA0:iF p Mu.no e.args cargs:=⟨hA.1,fun j hj=>mB 9 (fT hn hj) (hA.2 j hj)⟩
 obtain ⟨h1,h2⟩:=hC (.fn e.f) e.args _ e.v H' h (by simp) p Mu.no w cargs hH0 hA0
 refine ⟨h1,h2.mono ?_⟩
 rintro en w' ⟨cv,rfl,st,p',M',hE,hv⟩
 have hM:Mu.le M' M:=fun d i v t hm=>by
  have h3:=(hE.rel.dom d i v t hm).1
  have h4:ar [⟨true,[]⟩] d=true:=by cases d<;>rfl
  rw[st.next d h4] at h3
  cases d<;>simp[aj] at h3
 have all:∀ b,Go.Eng.aS Mu.no [⟨true,[]⟩] b:=fun b d i u B _ _ _ o t hm=>by cases hm
 have no:∀ {b:Nat},¬ (ar [⟨true,[]⟩] 0=false∧∃ i u o' t',Mu.no 0 i u=some (b,o',t')):=fun h=>by have:=h.1;cases this
 refine ⟨cv,rfl,Still.refl H,p',M,{ bP.refl hH with pst:=hE.pst,rel:=⟨hE.rel.pers,?_,hH.apart,hH.dom⟩,stay:=hE.stay.weaken (fun b _ _=>all b),fresh:=fun b o v hv=>(hE.fresh b o v hv).imp_right fun h=>h.elim .inl fun h=>(no h).elim },hv.mono (aw.le.refl _) hM⟩
 intro d i u B hg hB
 obtain ⟨b,o,t,k1,k2,k3⟩:=hH.live d i u B hg hB
 have hlt:=k2.lt hB
 refine ⟨b,o,t,k1,k2.mono hE.pst (Mu.le.refl _) (hE.stay.block b hlt (all b)),fun x=>?_⟩
 cases hx:p' b x with
 | none=>rfl
 | some y =>
   rcases hE.fresh b x y hx with h | h | ⟨h,_⟩
   · rw[k3] at h;cases h
   · omega
   · cases h

noncomputable def tw (f:AV→AV→Bool) (r s:Row):Bool :=
 match r,s with
 | .I k l,.I k' l'=>gn k k' && listEqI l l'
 | .G l,.G l'=>listEqV f l l'
 | _,_=>false
where
 listEqI:List Int→List Int→Bool
  | [],[]=>true
  | x::a,y::b=>FO x y && listEqI a b
  | _,_=>false
 listEqV (f:AV→AV→Bool):List AV→List AV→Bool
  | [],[]=>true
  | x::a,y::b=>f x y && listEqV f a b
  | _,_=>false
def zU:Option Nat→Option Nat→Bool
 | none,none=>true
 | some a,some b=>Nat.beq a b
 | _,_=>false
noncomputable def IS:Nat→AV→AV→Bool
 | 0,_,_=>false
 | n+1,v,u=>match v,u with
   | .bool a,.bool b=>a == b
   | .int k a,.int k' b=>gn k k' && FO a b
   | .nilp,.nilp=>true
   | .nils,.nils=>true
   | .nilm,.nilm=>true
   | .ptrT s r o,.ptrT s' r' o'=>zU s s' && (tw (IS n) r r' && Nat.beq o o')
   | .slcT s r z l b,.slcT s' r' z' l' b'=>zU s s' && (tw (IS n) r r' && (Nat.beq z z' && (Nat.beq l l' && b == b')))
   | .agg r,.agg r'=>tw (IS n) r r'
   | _,_=>false
theorem sg:∀ (l m:List Int),tw.listEqI l m=true→l=m
 | [],[],_=>rfl
 | [],_::_,h=>by simp[tw.listEqI] at h
 | _::_,[],h=>by simp[tw.listEqI] at h
 | x::a,y::b,h=>by
   simp only[tw.listEqI,Bool.and_eq_true,vK,beq_iff_eq] at h
   rw[h.1,sg a b h.2]
theorem gz {f:AV→AV→Bool} (hf:∀ x y,f x y=true→x=y):∀ (l m:List AV),tw.listEqV f l m=true→l=m
 | [],[],_=>rfl
 | [],_::_,h=>by simp[tw.listEqV] at h
 | _::_,[],h=>by simp[tw.listEqV] at h
 | x::a,y::b,h=>by
   simp only[tw.listEqV,Bool.and_eq_true] at h
   rw[hf _ _ h.1,gz hf a b h.2]
theorem na {f:AV→AV→Bool} (hf:∀ x y,f x y=true→x=y) (r s:Row) (h:tw f r s=true):r=s:=by
 cases r<;>cases s<;>simp only[tw,Bool.and_eq_true,eG,decide_eq_true_eq] at h<;>try (simp at h;done)
 · rw[h.1,sg _ _ h.2]
 · rw[gz hf _ _ h]
theorem od (a b:Option Nat) (h:zU a b=true):a=b:=by
 cases a<;>cases b<;>simp[zU] at h ⊢;exact h
theorem Ee:∀ (n:Nat) (x y:AV),IS n x y=true→x=y
 | 0,x,y,h=>by simp[IS] at h
 | n+1,x,y,h=>by
   have ih:=Ee n
   cases x<;>cases y<;>simp only[IS,Bool.and_eq_true,eG,vK,decide_eq_true_eq,beq_iff_eq] at h<;>try (first | rfl | (simp at h;done))
   case bool.bool=>rw[h]
   case int.int=>rw[h.1,h.2]
   case ptrT.ptrT=>rw[od _ _ h.1,na ih _ _ h.2.1,Nat.eq_of_beq_eq_true h.2.2]
   case slcT.slcT=>rw[od _ _ h.1,na ih _ _ h.2.1,Nat.eq_of_beq_eq_true h.2.2.1,Nat.eq_of_beq_eq_true h.2.2.2.1,h.2.2.2.2]
   case agg.agg=>rw[na ih _ _ h]

noncomputable def Aj:List fO→aJ→FuncId→List AV→aa→Option (AV×aa)
 | [],_,_,_,_=>none
 | e::r,c,f,args,H=>if Nat.beq e.f f && tw.listEqV (IS 9) e.args args then some (e.v,H) else Aj r c f args H
theorem we {P:Program}:∀ (tab:List fO),(∀ e ∈ tab,bp P e)→tU P (Aj tab)
 | [],_=>fun call _ f args H v H' h=>by simp[Aj] at h
 | e :: r,hT=>fun call hC f args H v H' h=>by
   simp only[Aj] at h
   split at h
   · rename_i hc
     simp only[Bool.and_eq_true] at hc
     have e1:=Nat.eq_of_beq_eq_true hc.1
     have e2:=gz (Ee 9) _ _ hc.2
     have e3:=Option.some.inj h
     simp only[Prod.mk.injEq] at e3
     obtain ⟨e3,e4⟩:=e3
     subst e1;subst e2;subst e3;subst e4
     exact hT e (by simp) H
   · exact we r (fun e' he=>hT e' (List.mem_cons_of_mem _ he)) call hC f args H v H' h

end Go.Eng
end
section
namespace Go.Eng
noncomputable section

inductive Tr (α:Type) where
 | ok (a:α)
 | bad
 | ite (c:Bool) (t e:Tr α)
 | req (c:Bool) (t:Tr α)
 | reqP (p:Prop) (t:Tr α)
open Classical in
def Tr.run {α:Type}:Tr α→Option α
 | .ok a=>some a
 | .bad=>none
 | .ite c t e=>cond c t.run e.run
 | .req c t=>cond c t.run none
 | .reqP p t=>if p then t.run else none
def Tr.bind {α β:Type} (t:Tr α) (f:α→Tr β):Tr β:=Tr.rec (motive:=fun _=>Tr β) f .bad (fun c _ _ a b=>.ite c a b) (fun c _ a=>.req c a) (fun p _ a=>.reqP p a) t
theorem Tr.DS {α β:Type} (t:Tr α) (f:α→Tr β):(t.bind f).run=t.run.bind fun a=>(f a).run:=by
 induction t with
 | ok a=>rfl
 | bad=>rfl
 | ite c a b iha ihb =>
   have e:(Tr.ite c a b).bind f=.ite c (a.bind f) (b.bind f):=rfl
   rw[e];simp only[Tr.run,iha,ihb];cases c<;>rfl
 | req c a ih =>
   have e:(Tr.req c a).bind f=.req c (a.bind f):=rfl
   rw[e];simp only[Tr.run,ih];cases c<;>rfl
 | reqP p a ih =>
   have e:(Tr.reqP p a).bind f=.reqP p (a.bind f):=rfl
   rw[e];simp only[Tr.run,ih]
   by_cases hp:p
   · rw[if_pos hp,if_pos hp]
   · rw[if_neg hp,if_neg hp];rfl
theorem Tr.cY {α:Type} {p:Prop} {t:Tr α} {x:α} (h:(Tr.reqP p t).run=some x):p∧t.run=some x:=by
 simp only[Tr.run] at h
 by_cases hp:p
 · rw[if_pos hp] at h;exact ⟨hp,h⟩
 · rw[if_neg hp] at h;cases h
theorem Tr.Fv {α:Type} {p:Prop} {a:Tr α} (h:p):(Tr.reqP p a).run=a.run:=by simp only[Tr.run];rw[if_pos h]
theorem Tr.bind_some {α β:Type} {t:Tr α} {f:α→Tr β} {y:β} (h:(t.bind f).run=some y):∃ x,t.run=some x∧(f x).run=some y:=by
 rw[Tr.DS] at h
 exact Option.bind_eq_some_iff.1 h
theorem Tr.aD {α:Type} {c:Bool} {t:Tr α} {x:α} (h:(Tr.req c t).run=some x):c=true∧t.run=some x:=by
 cases c with
 | true=>exact ⟨rfl,h⟩
 | false=>simp[Tr.run] at h
theorem Tr.ff {α:Type} {c:Bool} {t e:Tr α} {x:α} (h:(Tr.ite c t e).run=some x):(c=true∧t.run=some x)∨(c=false∧e.run=some x):=by
 cases c with
 | true=>exact .inl ⟨rfl,h⟩
 | false=>exact .inr ⟨rfl,h⟩
theorem Tr.ab {α:Type} {a x:α} (h:(Tr.ok a).run=some x):a=x:=Option.some.inj h
theorem Tr.ae {α:Type} {x:α} (h:(Tr.bad:Tr α).run=some x):False:=by simp[Tr.run] at h
def uV {α:Type} (o:Option α):Tr α:=Option.rec (motive:=fun _=>Tr α) .bad .ok o
theorem cH {α:Type} (o:Option α):(uV o).run=o:=by cases o<;>rfl
theorem cK {α:Type} (f:α):∃ g,g=f:=⟨f,rfl⟩

def bf:IntKind→Int→Int→Int:=Classical.choose (cK (α:=IntKind→Int→Int→Int) (fun k x y=>k.wrap (x+y)))
theorem FV:bf=(fun k x y=>k.wrap (x+y)):=Classical.choose_spec (cK (α:=IntKind→Int→Int→Int) (fun k x y=>k.wrap (x+y)))
theorem jc (k x y):bf k x y=k.wrap (x+y):=by rw[FV]
def cB:IntKind→Int→Int→Int:=Classical.choose (cK (α:=IntKind→Int→Int→Int) (fun k x y=>k.wrap (x-y)))
theorem Hn:cB=(fun k x y=>k.wrap (x-y)):=Classical.choose_spec (cK (α:=IntKind→Int→Int→Int) (fun k x y=>k.wrap (x-y)))
theorem mF (k x y):cB k x y=k.wrap (x-y):=by rw[Hn]
def fg:IntKind→Int→Int→Int:=Classical.choose (cK (α:=IntKind→Int→Int→Int) (fun k x y=>k.wrap (x*y)))
theorem GO:fg=(fun k x y=>k.wrap (x*y)):=Classical.choose_spec (cK (α:=IntKind→Int→Int→Int) (fun k x y=>k.wrap (x*y)))
theorem mA (k x y):fg k x y=k.wrap (x*y):=by rw[GO]
def Fj:IntKind→Int→Int→Int:=Classical.choose (cK (α:=IntKind→Int→Int→Int) (fun k x y=>k.wrap (x.tdiv y)))
theorem G9:Fj=(fun k x y=>k.wrap (x.tdiv y)):=Classical.choose_spec (cK (α:=IntKind→Int→Int→Int) (fun k x y=>k.wrap (x.tdiv y)))
theorem BW (k x y):Fj k x y=k.wrap (x.tdiv y):=by rw[G9]
def Ao:IntKind→Int→Int→Int:=Classical.choose (cK (α:=IntKind→Int→Int→Int) (fun k x y=>x.tmod y))
theorem Hd:Ao=(fun k x y=>x.tmod y):=Classical.choose_spec (cK (α:=IntKind→Int→Int→Int) (fun k x y=>x.tmod y))
theorem BZ (k x y):Ao k x y=x.tmod y:=by rw[Hd]
def ry:IntKind→Int→Int→Int:=Classical.choose (cK (α:=IntKind→Int→Int→Int) (fun k x y=>k.wrap (BitVec.ofInt k.bits x &&& BitVec.ofInt k.bits y).toNat))
theorem FZ:ry=(fun k x y=>k.wrap (BitVec.ofInt k.bits x &&& BitVec.ofInt k.bits y).toNat):=Classical.choose_spec (cK (α:=IntKind→Int→Int→Int) (fun k x y=>k.wrap (BitVec.ofInt k.bits x &&& BitVec.ofInt k.bits y).toNat))
theorem qX (k x y):ry k x y=k.wrap (BitVec.ofInt k.bits x &&& BitVec.ofInt k.bits y).toNat:=by rw[FZ]
def NM:IntKind→Int→Int→Int:=Classical.choose (cK (α:=IntKind→Int→Int→Int) (fun k x y=>k.wrap (BitVec.ofInt k.bits x ||| BitVec.ofInt k.bits y).toNat))
theorem Ju:NM=(fun k x y=>k.wrap (BitVec.ofInt k.bits x ||| BitVec.ofInt k.bits y).toNat):=Classical.choose_spec (cK (α:=IntKind→Int→Int→Int) (fun k x y=>k.wrap (BitVec.ofInt k.bits x ||| BitVec.ofInt k.bits y).toNat))
theorem Ai (k x y):NM k x y=k.wrap (BitVec.ofInt k.bits x ||| BitVec.ofInt k.bits y).toNat:=by rw[Ju]
def J1:IntKind→Int→Int→Int:=Classical.choose (cK (α:=IntKind→Int→Int→Int) (fun k x y=>k.wrap (BitVec.ofInt k.bits x ^^^ BitVec.ofInt k.bits y).toNat))
theorem Hw:J1=(fun k x y=>k.wrap (BitVec.ofInt k.bits x ^^^ BitVec.ofInt k.bits y).toNat):=Classical.choose_spec (cK (α:=IntKind→Int→Int→Int) (fun k x y=>k.wrap (BitVec.ofInt k.bits x ^^^ BitVec.ofInt k.bits y).toNat))
theorem wU (k x y):J1 k x y=k.wrap (BitVec.ofInt k.bits x ^^^ BitVec.ofInt k.bits y).toNat:=by rw[Hw]
def Md:IntKind→Int→Int→Int:=Classical.choose (cK (α:=IntKind→Int→Int→Int) (fun k x y=>k.wrap (BitVec.ofInt k.bits x &&& ~~~(BitVec.ofInt k.bits y)).toNat))
theorem Iv:Md=(fun k x y=>k.wrap (BitVec.ofInt k.bits x &&& ~~~(BitVec.ofInt k.bits y)).toNat):=Classical.choose_spec (cK (α:=IntKind→Int→Int→Int) (fun k x y=>k.wrap (BitVec.ofInt k.bits x &&& ~~~(BitVec.ofInt k.bits y)).toNat))
theorem zE (k x y):Md k x y=k.wrap (BitVec.ofInt k.bits x &&& ~~~(BitVec.ofInt k.bits y)).toNat:=by rw[Iv]
def tS:IntKind→Int→Int→Int:=Classical.choose (cK (α:=IntKind→Int→Int→Int) (fun k x y=>k.wrap (x*2 ^ (min y.toNat k.bits))))
theorem Hj:tS=(fun k x y=>k.wrap (x*2 ^ (min y.toNat k.bits))):=Classical.choose_spec (cK (α:=IntKind→Int→Int→Int) (fun k x y=>k.wrap (x*2 ^ (min y.toNat k.bits))))
theorem B6 (k x y):tS k x y=k.wrap (x*2 ^ (min y.toNat k.bits)):=by rw[Hj]
def zb:IntKind→Int→Int→Int:=Classical.choose (cK (α:=IntKind→Int→Int→Int) (fun k x y=>x.fdiv (2 ^ (min y.toNat k.bits))))
theorem Hk:zb=(fun k x y=>x.fdiv (2 ^ (min y.toNat k.bits))):=Classical.choose_spec (cK (α:=IntKind→Int→Int→Int) (fun k x y=>x.fdiv (2 ^ (min y.toNat k.bits))))
theorem B8 (k x y):zb k x y=x.fdiv (2 ^ (min y.toNat k.bits)):=by rw[Hk]
def FU:IntKind→Int→Int:=Classical.choose (cK (α:=IntKind→Int→Int) (fun k x=>k.wrap x))
theorem JZ:FU=(fun k x=>k.wrap x):=Classical.choose_spec (cK (α:=IntKind→Int→Int) (fun k x=>k.wrap x))
theorem AH (k x):FU k x=k.wrap x:=by rw[JZ]
def Jq:IntKind→Int→Int:=Classical.choose (cK (α:=IntKind→Int→Int) (fun k x=>k.wrap (0-x)))
theorem GW:Jq=(fun k x=>k.wrap (0-x)):=Classical.choose_spec (cK (α:=IntKind→Int→Int) (fun k x=>k.wrap (0-x)))
theorem GV (k x):Jq k x=k.wrap (0-x):=by rw[GW]
def dX:Int→Int→Bool:=Classical.choose (cK (α:=Int→Int→Bool) (fun x y=>(x == y)))
theorem IU:dX=(fun x y=>(x == y)):=Classical.choose_spec (cK (α:=Int→Int→Bool) (fun x y=>(x == y)))
theorem dB (x y):dX x y=(x == y):=by rw[IU]
def cF:Int→Int→Bool:=Classical.choose (cK (α:=Int→Int→Bool) (fun x y=>decide (x<y)))
theorem Jm:cF=(fun x y=>decide (x<y)):=Classical.choose_spec (cK (α:=Int→Int→Bool) (fun x y=>decide (x<y)))
theorem eH (x y):cF x y=decide (x<y):=by rw[Jm]
def mU:Int→Int→Bool:=Classical.choose (cK (α:=Int→Int→Bool) (fun x y=>decide (x≤y)))
theorem Je:mU=(fun x y=>decide (x≤y)):=Classical.choose_spec (cK (α:=Int→Int→Bool) (fun x y=>decide (x≤y)))
theorem kJ (x y):mU x y=decide (x≤y):=by rw[Je]
def bx:Bool→Bool:=Classical.choose (cK (α:=Bool→Bool) (fun b=>(!b)))
theorem GY:bx=(fun b=>(!b)):=Classical.choose_spec (cK (α:=Bool→Bool) (fun b=>(!b)))
theorem gL (b):bx b=(!b):=by rw[GY]
def jI:Bool→Bool→Bool:=Classical.choose (cK (α:=Bool→Bool→Bool) (fun a b=>(a && b)))
theorem FY:jI=(fun a b=>(a && b)):=Classical.choose_spec (cK (α:=Bool→Bool→Bool) (fun a b=>(a && b)))
theorem nT (a b):jI a b=(a && b):=by rw[FY]
def Gi:Bool→Bool→Bool:=Classical.choose (cK (α:=Bool→Bool→Bool) (fun a b=>(a == b)))
theorem IT:Gi=(fun a b=>(a == b)):=Classical.choose_spec (cK (α:=Bool→Bool→Bool) (fun a b=>(a == b)))
theorem rS (a b):Gi a b=(a == b):=by rw[IT]
def yn:Int→Int→Int:=Classical.choose (cK (α:=Int→Int→Int) (fun x y=>if y<x then y else x))
theorem GN:yn=(fun x y=>if y<x then y else x):=Classical.choose_spec (cK (α:=Int→Int→Int) (fun x y=>if y<x then y else x))
theorem BH (x y):yn x y=if y<x then y else x:=by rw[GN]
def C7:Int→Int→Int:=Classical.choose (cK (α:=Int→Int→Int) (fun x y=>if y > x then y else x))
theorem GL:C7=(fun x y=>if y > x then y else x):=Classical.choose_spec (cK (α:=Int→Int→Int) (fun x y=>if y > x then y else x))
theorem BG (x y):C7 x y=if y > x then y else x:=by rw[GL]
def dJ:Int→Nat→Bool:=Classical.choose (cK (α:=Int→Nat→Bool) (fun (i:Int) (n:Nat)=>decide (0≤i∧i<(n:Int))))
theorem I5:dJ=(fun (i:Int) (n:Nat)=>decide (0≤i∧i<(n:Int))):=Classical.choose_spec (cK (α:=Int→Nat→Bool) (fun (i:Int) (n:Nat)=>decide (0≤i∧i<(n:Int))))
theorem pK (i n):dJ i n=decide (0≤i∧i<(n:Int)):=by rw[I5]
def tv:Int→Nat→Bool:=Classical.choose (cK (α:=Int→Nat→Bool) (fun (i:Int) (n:Nat)=>decide (0≤i∧i≤(n:Int))))
theorem F6:tv=(fun (i:Int) (n:Nat)=>decide (0≤i∧i≤(n:Int))):=Classical.choose_spec (cK (α:=Int→Nat→Bool) (fun (i:Int) (n:Nat)=>decide (0≤i∧i≤(n:Int))))
theorem AW (i n):tv i n=decide (0≤i∧i≤(n:Int)):=by rw[F6]
def EO:Int→Int→Nat→Bool:=Classical.choose (cK (α:=Int→Int→Nat→Bool) (fun l c b=>decide (0≤l∧l≤c∧c.toNat*b≤room∧c.toNat≤room)))
theorem Jo:EO=(fun l c b=>decide (0≤l∧l≤c∧c.toNat*b≤room∧c.toNat≤room)):=Classical.choose_spec (cK (α:=Int→Int→Nat→Bool) (fun l c b=>decide (0≤l∧l≤c∧c.toNat*b≤room∧c.toNat≤room)))
theorem wa (l c b):EO l c b=decide (0≤l∧l≤c∧c.toNat*b≤room∧c.toNat≤room):=by rw[Jo]
def fa:Int→Nat:=Classical.choose (cK (α:=Int→Nat) (fun i=>i.toNat))
theorem JS:fa=(fun i=>i.toNat):=Classical.choose_spec (cK (α:=Int→Nat) (fun i=>i.toNat))
theorem qa (i):fa i=i.toNat:=by rw[JS]
def aA:Nat→Int→Nat→Nat:=Classical.choose (cK (α:=Nat→Int→Nat→Nat) (fun o i s=>o+i.toNat*s))
theorem I3:aA=(fun o i s=>o+i.toNat*s):=Classical.choose_spec (cK (α:=Nat→Int→Nat→Nat) (fun o i s=>o+i.toNat*s))
theorem kG (o i s):aA o i s=o+i.toNat*s:=by rw[I3]
def cM:Nat→Nat→Nat:=Classical.choose (cK (α:=Nat→Nat→Nat) (fun a b=>a+b))
theorem FW:cM=(fun a b=>a+b):=Classical.choose_spec (cK (α:=Nat→Nat→Nat) (fun a b=>a+b))
theorem bK (a b):cM a b=a+b:=by rw[FW]
def s4:Nat→Nat→Nat:=Classical.choose (cK (α:=Nat→Nat→Nat) (fun a b=>a-b))
theorem Hp:s4=(fun a b=>a-b):=Classical.choose_spec (cK (α:=Nat→Nat→Nat) (fun a b=>a-b))
theorem kV (a b):s4 a b=a-b:=by rw[Hp]
def GP:Nat→Nat→Nat:=Classical.choose (cK (α:=Nat→Nat→Nat) (fun a b=>a*b))
theorem GQ:GP=(fun a b=>a*b):=Classical.choose_spec (cK (α:=Nat→Nat→Nat) (fun a b=>a*b))
theorem BK (a b):GP a b=a*b:=by rw[GQ]
def pU:Nat→Nat→Nat:=Classical.choose (cK (α:=Nat→Nat→Nat) (fun a b=>min a b))
theorem GM:pU=(fun a b=>min a b):=Classical.choose_spec (cK (α:=Nat→Nat→Nat) (fun a b=>min a b))
theorem oP (a b):pU a b=min a b:=by rw[GM]
def dg:Nat→Nat→Bool:=Classical.choose (cK (α:=Nat→Nat→Bool) (fun a b=>decide (a<b)))
theorem Jn:dg=(fun a b=>decide (a<b)):=Classical.choose_spec (cK (α:=Nat→Nat→Bool) (fun a b=>decide (a<b)))
theorem gd (a b):dg a b=decide (a<b):=by rw[Jn]
def jz:Nat→Nat→Bool:=Classical.choose (cK (α:=Nat→Nat→Bool) (fun a b=>decide (a≤b)))
theorem Jf:jz=(fun a b=>decide (a≤b)):=Classical.choose_spec (cK (α:=Nat→Nat→Bool) (fun a b=>decide (a≤b)))
theorem kK (a b):jz a b=decide (a≤b):=by rw[Jf]
def cT:Nat→Nat→Bool:=Classical.choose (cK (α:=Nat→Nat→Bool) (fun a b=>decide (a=b)))
theorem IV:cT=(fun a b=>decide (a=b)):=Classical.choose_spec (cK (α:=Nat→Nat→Bool) (fun a b=>decide (a=b)))
theorem gr (a b):cT a b=decide (a=b):=by rw[IV]
def kH:Nat→Nat→Nat→Nat→Bool:=Classical.choose (cK (α:=Nat→Nat→Nat→Nat→Bool) (fun o m p n=>decide (p≤o∧o+m≤p+n)))
theorem I6:kH=(fun o m p n=>decide (p≤o∧o+m≤p+n)):=Classical.choose_spec (cK (α:=Nat→Nat→Nat→Nat→Bool) (fun o m p n=>decide (p≤o∧o+m≤p+n)))
theorem gx (o m p n):kH o m p n=decide (p≤o∧o+m≤p+n):=by rw[I6]
def DG:(Nat→AV)→IntKind→Nat→Bool→Prop:=Classical.choose (cK (α:=(Nat→AV)→IntKind→Nat→Bool→Prop) (fun f k sz full=>∀ j,∃ z n m,f j=AV.slcT none (Row.M [ah.arr k z n]) sz m full))
theorem FX:DG=(fun f k sz full=>∀ j,∃ z n m,f j=AV.slcT none (Row.M [ah.arr k z n]) sz m full):=Classical.choose_spec (cK (α:=(Nat→AV)→IntKind→Nat→Bool→Prop) (fun f k sz full=>∀ j,∃ z n m,f j=AV.slcT none (Row.M [ah.arr k z n]) sz m full))
theorem AO (f k sz full):DG f k sz full=∀ j,∃ z n m,f j=AV.slcT none (Row.M [ah.arr k z n]) sz m full:=by rw[FX]
def Hg:Bool→(Nat→Int)→(Nat→Int)→Nat→Int:=Classical.choose (cK (α:=Bool→(Nat→Int)→(Nat→Int)→Nat→Int) (fun b x y=>cond b x y))
theorem Hh:Hg=(fun b x y=>cond b x y):=Classical.choose_spec (cK (α:=Bool→(Nat→Int)→(Nat→Int)→Nat→Int) (fun b x y=>cond b x y))
theorem wO (b x y):Hg b x y=cond b x y:=by rw[Hh]
def Dq:Bool→Nat→Nat→Nat:=Classical.choose (cK (α:=Bool→Nat→Nat→Nat) (fun b x y=>cond b x y))
theorem Hf:Dq=(fun b x y=>cond b x y):=Classical.choose_spec (cK (α:=Bool→Nat→Nat→Nat) (fun b x y=>cond b x y))
theorem wN (b x y):Dq b x y=cond b x y:=by rw[Hf]
def j8:Nat→Nat→Nat→Bool:=Classical.choose (cK (α:=Nat→Nat→Nat→Bool) (fun m n b=>decide ((m+n)*b≤room∧m+n≤room)))
theorem Fq:j8=(fun m n b=>decide ((m+n)*b≤room∧m+n≤room)):=Classical.choose_spec (cK (α:=Nat→Nat→Nat→Bool) (fun m n b=>decide ((m+n)*b≤room∧m+n≤room)))
theorem yU (m n b):j8 m n b=decide ((m+n)*b≤room∧m+n≤room):=by rw[Fq]
def c7:(Nat→Int)→Nat→Int→Nat→Int:=Classical.choose (cK (α:=(Nat→Int)→Nat→Int→Nat→Int) (fun z i x=>fun j=>if j=i then x else z j))
theorem kZ:c7=(fun z i x=>fun j=>if j=i then x else z j):=Classical.choose_spec (cK (α:=(Nat→Int)→Nat→Int→Nat→Int) (fun z i x=>fun j=>if j=i then x else z j))
def ep:(Nat→Int)→Nat→Nat→Int:=Classical.choose (cK (α:=(Nat→Int)→Nat→Nat→Int) (fun z o=>fun j=>z (o+j)))
theorem l9:ep=(fun z o=>fun j=>z (o+j)):=Classical.choose_spec (cK (α:=(Nat→Int)→Nat→Nat→Int) (fun z o=>fun j=>z (o+j)))
def ik:(Nat→Int)→Nat→(Nat→Int)→Nat→Nat→Int:=Classical.choose (cK (α:=(Nat→Int)→Nat→(Nat→Int)→Nat→Nat→Int) (fun z o z' n=>CI z o z' n))
theorem AZ:ik=(fun z o z' n=>CI z o z' n):=Classical.choose_spec (cK (α:=(Nat→Int)→Nat→(Nat→Int)→Nat→Nat→Int) (fun z o z' n=>CI z o z' n))
theorem Gc (z o z' n):ik z o z' n=CI z o z' n:=by rw[AZ]
def w8:(Nat→Int)→Nat→(Nat→Int)→Nat→Int:=Classical.choose (cK (α:=(Nat→Int)→Nat→(Nat→Int)→Nat→Int) (fun z n z'=>fun i=>if i<n then z i else z' (i-n)))
theorem vu:w8=(fun z n z'=>fun i=>if i<n then z i else z' (i-n)):=Classical.choose_spec (cK (α:=(Nat→Int)→Nat→(Nat→Int)→Nat→Int) (fun z n z'=>fun i=>if i<n then z i else z' (i-n)))
def Jh:List Int→Nat:=Classical.choose (cK (α:=List Int→Nat) (fun l=>l.length))
theorem GD:Jh=(fun l=>l.length):=Classical.choose_spec (cK (α:=List Int→Nat) (fun l=>l.length))
theorem GC (l):Jh l=l.length:=by rw[GD]
def aK:List Int→Nat→Int:=Classical.choose (cK (α:=List Int→Nat→Int) (fun l=>fun j=>l.getD j 0))
theorem jj:aK=(fun l=>fun j=>l.getD j 0):=Classical.choose_spec (cK (α:=List Int→Nat→Int) (fun l=>fun j=>l.getD j 0))
theorem BA (l):aK l=fun j=>l.getD j 0:=by rw[jj]
def m6:(Nat→Int)→(Nat→Int)→Nat→Bool:=Classical.choose (cK (α:=(Nat→Int)→(Nat→Int)→Nat→Bool) (fun z z' n=>allEq z z' n))
theorem Cv:m6=(fun z z' n=>allEq z z' n):=Classical.choose_spec (cK (α:=(Nat→Int)→(Nat→Int)→Nat→Bool) (fun z z' n=>allEq z z' n))
theorem tY (z z' n):m6 z z' n=allEq z z' n:=by rw[Cv]
def l6:(List Int→Bool)→List Int→Bool→List Int→Bool:=Classical.choose (cK (α:=(List Int→Bool)→List Int→Bool→List Int→Bool) (fun h n b=>g5 h n b))
theorem l7:l6=(fun h n b=>g5 h n b):=Classical.choose_spec (cK (α:=(List Int→Bool)→List Int→Bool→List Int→Bool) (fun h n b=>g5 h n b))
theorem yV (h n b):l6 h n b=g5 h n b:=by rw[l7]
def l8:(List Int→Int)→List Int→Int→List Int→Int:=Classical.choose (cK (α:=(List Int→Int)→List Int→Int→List Int→Int) (fun g n x=>kT g n x))
theorem sV:l8=(fun g n x=>kT g n x):=Classical.choose_spec (cK (α:=(List Int→Int)→List Int→Int→List Int→Int) (fun g n x=>kT g n x))
theorem yZ (g n x):l8 g n x=kT g n x:=by rw[sV]
def rM:Bool→Nat→Nat:=Classical.choose (cK (α:=Bool→Nat→Nat) (fun b c=>xh b c))
theorem D2:rM=(fun b c=>xh b c):=Classical.choose_spec (cK (α:=Bool→Nat→Nat) (fun b c=>xh b c))
theorem xi (b c):rM b c=xh b c:=by rw[D2]
def uj:Bool→Nat→Nat:=Classical.choose (cK (α:=Bool→Nat→Nat) (fun b c=>CH b c))
theorem D3:uj=(fun b c=>CH b c):=Classical.choose_spec (cK (α:=Bool→Nat→Nat) (fun b c=>CH b c))
theorem xj (b c):uj b c=CH b c:=by rw[D3]

end
end Go.Eng
end
