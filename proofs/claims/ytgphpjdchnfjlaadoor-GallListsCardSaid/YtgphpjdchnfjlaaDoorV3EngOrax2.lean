/- The engine: tables of calls that are known beforehand. -/
import Derived.Test.YtgphpjdchnfjlaaDoorV3EngXx3
set_option linter.unusedVariables false
set_option linter.unusedSimpArgs false
section
namespace Go.Eng

def Sa (f:AV→Bool) (r:Row):Bool :=
 match r with
 | .I ..=>true
 | .G l=>l.all f
 | .F ..=>true
 | .M l=>fk l
def sN:Nat→AV→Bool
 | 0,_=>false
 | n+1,v=>match v with
   | .undef | .bool _ | .int _ _ | .str _ | .nilp | .nils | .nilm | .nilf=>true
   | .ptrT none _ _=>true
   | .slcT none _ _ _ _=>true
   | .agg r=>Sa (sN n) r
   | .tup l=>l.all (sN n)
   | .fn _ a b=>a.all (sN n) && b.all (sN n)
   | _=>false
theorem gb {f:AV→Bool}:∀ {l:List AV} {j:Nat},l.all f=true→j<l.length→f (l.getD j .undef)=true
 | [],j,_,h=>by simp at h
 | x::l,0,h,_=>by simp at h;simpa using h.1
 | x::l,j+1,h,hj=>by
   simp only[List.all_cons,Bool.and_eq_true] at h
   rw[List.getD_cons_succ]
   exact gb h.2 (by simpa using hj)
theorem oh {p:aB} {M N:Mu}:∀ (n:Nat) {v:AV} {c:Value},sN n v=true→ai p M v c→ai p N v c
 | 0,v,c,h,_=>by simp[sN] at h
 | n + 1,v,c,h,hv=>by
   have ih:=@oh p M N n
   cases hv with
   | undef c=>exact .undef c
   | bool b=>exact .bool b
   | int k n=>exact .int k n
   | str s=>exact .str s
   | nilp=>exact .nilp
   | nils=>exact .nils
   | nilm=>exact .nilm
   | nilf=>exact .nilf
   | ptr h0=>simp[sN] at h
   | slc h0=>simp[sN] at h
   | map h0=>simp[sN] at h
   | yld h0=>simp[sN] at h
   | ptrT vs h0 h1 hv =>
     rename_i s r off b o
     cases s with
     | some s=>simp[sN] at h
     | none=>exact .ptrT vs h0 h1 hv
   | slcT vs h0 h1 hv hl hf hx =>
     rename_i s r sz len b o x cc full
     cases s with
     | some s=>simp[sN] at h
     | none=>exact .slcT vs h0 h1 hv hl hf hx
   | slcN=>exact .slcN
   | fn ha hb va vb =>
     simp only[sN,Bool.and_eq_true] at h
     exact .fn ha hb (fun j hj=>ih (gb h.1 hj) (va j hj)) (fun j hj=>ih (gb h.2 hj) (vb j hj))
   | agg hs h1 hv =>
     rename_i r cs
     simp only[sN] at h
     cases r with
     | I k l=>exact .agg hs h1 (fun j hj=>(hv j hj).a7 _ _)
     | F f m=>exact .agg hs h1 hv
     | M l=>exact .agg hs h1 (aT.fk h hv)
     | G l=>exact .agg hs h1 (fun j hj=>ih (gb (f:=sN n) h hj) (hv j hj))
   | tup hs hv =>
     simp only[sN] at h
     exact .tup hs (fun j hj=>ih (gb h hj) (hv j hj))

structure bV where
 f:FuncId
 args:List AV
 v:AV
def ay (P:Program) (e:bV):Prop:=∀ (H:aa),H≠[]→∀ (p:aB) (M:Mu) (w:World) (cargs:Array Value),aU p M H w→dW p M e.args cargs →
 (∃ fn,P.funcs[e.f]?=some fn∧fn.body.isNone=false)∧CallsIn Fence.wide 0 P e.f cargs w (fh p M H w e.v H)

theorem xv {P:Program} {call:aA} (hC:bM P call) {e:bV} {H':aa} (h:call (.fn e.f) e.args [⟨true,[]⟩]=some (e.v,H')) (hn:e.args.all (sN 9)=true):ay P e:=by
 intro H hne p M w cargs hH hA
 have hH0:aU p Mu.no [⟨true,[]⟩] w:=⟨hH.pers,(fun d i v B hg hB=>by
  cases d<;>simp[ar,ao] at hg<;>exact absurd hg.2.symm hB),(fun d i v B d' i' v' B' b o t o' t' hg hB hg' hB' hm hm'=>by cases hm),(fun d i v t hm=>by cases hm)⟩
 have hA0:dW p Mu.no e.args cargs:=⟨hA.1,fun j hj=>oh 9 (gb hn hj) (hA.2 j hj)⟩
 obtain ⟨h1,h2⟩:=hC (.fn e.f) e.args _ e.v H' h (by simp) p Mu.no w cargs hH0 hA0
 refine ⟨h1,h2.mono ?_⟩
 rintro en w' ⟨cv,rfl,st,p',M',hE,hv⟩
 have hM:Mu.le M' M:=fun d i v t hm=>by
  have h3:=(hE.rel.dom d i v t hm).1
  have h4:aC [⟨true,[]⟩] d=true:=by cases d<;>rfl
  rw[st.next d h4] at h3
  cases d<;>simp[aj] at h3
 have all:∀ b,Go.Eng.a8 Mu.no [⟨true,[]⟩] b:=fun b d i u B _ _ _ o t hm=>by cases hm
 have no:∀ {b:Nat},¬ (aC [⟨true,[]⟩] 0=false∧∃ i u o' t',Mu.no 0 i u=some (b,o',t')):=fun h=>by have:=h.1;cases this
 refine ⟨cv,rfl,Still.refl H,p',M,{ b5.refl hH with pst:=hE.pst,rel:=⟨hE.rel.pers,?_,hH.apart,hH.dom⟩,stay:=hE.stay.weaken (fun b _ _=>all b),fresh:=fun b o v hv=>(hE.fresh b o v hv).imp_right fun h=>h.elim .inl fun h=>(no h).elim },hv.mono (aB.le.refl _) hM⟩
 intro d i u B hg hB
 obtain ⟨b,o,t,k1,k2,k3⟩:=hH.live d i u B hg hB
 have hlt:=k2.lt hB
 refine ⟨b,o,t,k1,k2.mono hE.pst (Mu.le.refl _) (hE.stay.block b hlt (all b)),fun x=>?_⟩
 cases hx:p' b x with
 | none=>rfl
 | some y =>
   rcases hE.fresh b x y hx with h | h | ⟨h,_⟩
   · rw[k3] at h;cases h
   · omega
   · cases h

noncomputable def AH (f:AV→AV→Bool) (r s:Row):Bool :=
 match r,s with
 | .I k l,.I k' l'=>gm k k' && listEqI l l'
 | .G l,.G l'=>listEqV f l l'
 | _,_=>false
where
 listEqI:List Int→List Int→Bool
  | [],[]=>true
  | x::a,y::b=>FL x y && listEqI a b
  | _,_=>false
 listEqV (f:AV→AV→Bool):List AV→List AV→Bool
  | [],[]=>true
  | x::a,y::b=>f x y && listEqV f a b
  | _,_=>false
def FK:Option Nat→Option Nat→Bool
 | none,none=>true
 | some a,some b=>Nat.beq a b
 | _,_=>false
noncomputable def IC:Nat→AV→AV→Bool
 | 0,_,_=>false
 | n+1,v,u=>match v,u with
   | .bool a,.bool b=>a == b
   | .int k a,.int k' b=>gm k k' && FL a b
   | .nilp,.nilp=>true
   | .nils,.nils=>true
   | .nilm,.nilm=>true
   | .ptrT s r o,.ptrT s' r' o'=>FK s s' && (AH (IC n) r r' && Nat.beq o o')
   | .slcT s r z l b,.slcT s' r' z' l' b'=>FK s s' && (AH (IC n) r r' && (Nat.beq z z' && (Nat.beq l l' && b == b')))
   | .agg r,.agg r'=>AH (IC n) r r'
   | _,_=>false
theorem rL:∀ (l m:List Int),AH.listEqI l m=true→l=m
 | [],[],_=>rfl
 | [],_::_,h=>by simp[AH.listEqI] at h
 | _::_,[],h=>by simp[AH.listEqI] at h
 | x::a,y::b,h=>by
   simp only[AH.listEqI,Bool.and_eq_true,zj,beq_iff_eq] at h
   rw[h.1,rL a b h.2]
theorem mV {f:AV→AV→Bool} (hf:∀ x y,f x y=true→x=y):∀ (l m:List AV),AH.listEqV f l m=true→l=m
 | [],[],_=>rfl
 | [],_::_,h=>by simp[AH.listEqV] at h
 | _::_,[],h=>by simp[AH.listEqV] at h
 | x::a,y::b,h=>by
   simp only[AH.listEqV,Bool.and_eq_true] at h
   rw[hf _ _ h.1,mV hf a b h.2]
theorem zi {f:AV→AV→Bool} (hf:∀ x y,f x y=true→x=y) (r s:Row) (h:AH f r s=true):r=s:=by
 cases r<;>cases s<;>simp only[AH,Bool.and_eq_true,eB,decide_eq_true_eq] at h<;>try (simp at h;done)
 · rw[h.1,rL _ _ h.2]
 · rw[mV hf _ _ h]
theorem AG (a b:Option Nat) (h:FK a b=true):a=b:=by
 cases a<;>cases b<;>simp[FK] at h ⊢;exact h
theorem DA:∀ (n:Nat) (x y:AV),IC n x y=true→x=y
 | 0,x,y,h=>by simp[IC] at h
 | n+1,x,y,h=>by
   have ih:=DA n
   cases x<;>cases y<;>simp only[IC,Bool.and_eq_true,eB,zj,decide_eq_true_eq,beq_iff_eq] at h<;>try (first | rfl | (simp at h;done))
   case bool.bool=>rw[h]
   case int.int=>rw[h.1,h.2]
   case ptrT.ptrT=>rw[AG _ _ h.1,zi ih _ _ h.2.1,Nat.eq_of_beq_eq_true h.2.2]
   case slcT.slcT=>rw[AG _ _ h.1,zi ih _ _ h.2.1,Nat.eq_of_beq_eq_true h.2.2.1,Nat.eq_of_beq_eq_true h.2.2.2.1,h.2.2.2.2]
   case agg.agg=>rw[zi ih _ _ h]

noncomputable def zR:List bV→aA→FuncId→List AV→aa→Option (AV×aa)
 | [],_,_,_,_=>none
 | e::r,c,f,args,H=>if Nat.beq e.f f && AH.listEqV (IC 9) e.args args then some (e.v,H) else zR r c f args H
theorem vC {P:Program}:∀ (tab:List bV),(∀ e ∈ tab,ay P e)→qG P (zR tab)
 | [],_=>fun call _ f args H v H' h=>by simp[zR] at h
 | e :: r,hT=>fun call hC f args H v H' h=>by
   simp only[zR] at h
   split at h
   · rename_i hc
     simp only[Bool.and_eq_true] at hc
     have e1:=Nat.eq_of_beq_eq_true hc.1
     have e2:=mV (DA 9) _ _ hc.2
     have e3:=Option.some.inj h
     simp only[Prod.mk.injEq] at e3
     obtain ⟨e3,e4⟩:=e3
     subst e1;subst e2;subst e3;subst e4
     exact hT e (by simp) H
   · exact vC r (fun e' he=>hT e' (List.mem_cons_of_mem _ he)) call hC f args H v H' h

end Go.Eng
end
section
namespace Go.Eng
noncomputable section

inductive Tr (α:Type) where
 | ok (a:α)
 | bad
 | ite (c:Bool) (t e:Tr α)
 | req (c:Bool) (t:Tr α)
 | reqP (p:Prop) (t:Tr α)
open Classical in
def Tr.run {α:Type}:Tr α→Option α
 | .ok a=>some a
 | .bad=>none
 | .ite c t e=>cond c t.run e.run
 | .req c t=>cond c t.run none
 | .reqP p t=>if p then t.run else none
def Tr.bind {α β:Type} (t:Tr α) (f:α→Tr β):Tr β:=Tr.rec (motive:=fun _=>Tr β) f .bad (fun c _ _ a b=>.ite c a b) (fun c _ a=>.req c a) (fun p _ a=>.reqP p a) t
theorem Tr.De {α β:Type} (t:Tr α) (f:α→Tr β):(t.bind f).run=t.run.bind fun a=>(f a).run:=by
 induction t with
 | ok a=>rfl
 | bad=>rfl
 | ite c a b iha ihb =>
   have e:(Tr.ite c a b).bind f=.ite c (a.bind f) (b.bind f):=rfl
   rw[e];simp only[Tr.run,iha,ihb];cases c<;>rfl
 | req c a ih =>
   have e:(Tr.req c a).bind f=.req c (a.bind f):=rfl
   rw[e];simp only[Tr.run,ih];cases c<;>rfl
 | reqP p a ih =>
   have e:(Tr.reqP p a).bind f=.reqP p (a.bind f):=rfl
   rw[e];simp only[Tr.run,ih]
   by_cases hp:p
   · rw[if_pos hp,if_pos hp]
   · rw[if_neg hp,if_neg hp];rfl
theorem Tr.fS {α:Type} {p:Prop} {t:Tr α} {x:α} (h:(Tr.reqP p t).run=some x):p∧t.run=some x:=by
 simp only[Tr.run] at h
 by_cases hp:p
 · rw[if_pos hp] at h;exact ⟨hp,h⟩
 · rw[if_neg hp] at h;cases h
theorem Tr.ED {α:Type} {p:Prop} {a:Tr α} (h:p):(Tr.reqP p a).run=a.run:=by simp only[Tr.run];rw[if_pos h]
theorem Tr.bind_some {α β:Type} {t:Tr α} {f:α→Tr β} {y:β} (h:(t.bind f).run=some y):∃ x,t.run=some x∧(f x).run=some y:=by
 rw[Tr.De] at h
 exact Option.bind_eq_some_iff.1 h
theorem Tr.aH {α:Type} {c:Bool} {t:Tr α} {x:α} (h:(Tr.req c t).run=some x):c=true∧t.run=some x:=by
 cases c with
 | true=>exact ⟨rfl,h⟩
 | false=>simp[Tr.run] at h
theorem Tr.jE {α:Type} {c:Bool} {t e:Tr α} {x:α} (h:(Tr.ite c t e).run=some x):(c=true∧t.run=some x)∨(c=false∧e.run=some x):=by
 cases c with
 | true=>exact .inl ⟨rfl,h⟩
 | false=>exact .inr ⟨rfl,h⟩
theorem Tr.ab {α:Type} {a x:α} (h:(Tr.ok a).run=some x):a=x:=Option.some.inj h
theorem Tr.ae {α:Type} {x:α} (h:(Tr.bad:Tr α).run=some x):False:=by simp[Tr.run] at h
def uv {α:Type} (o:Option α):Tr α:=Option.rec (motive:=fun _=>Tr α) .bad .ok o
theorem cA {α:Type} (o:Option α):(uv o).run=o:=by cases o<;>rfl
theorem cC {α:Type} (f:α):∃ g,g=f:=⟨f,rfl⟩

def bz:IntKind→Int→Int→Int:=Classical.choose (cC (α:=IntKind→Int→Int→Int) (fun k x y=>k.wrap (x+y)))
theorem Fh:bz=(fun k x y=>k.wrap (x+y)):=Classical.choose_spec (cC (α:=IntKind→Int→Int→Int) (fun k x y=>k.wrap (x+y)))
theorem fj (k x y):bz k x y=k.wrap (x+y):=by rw[Fh]
def bW:IntKind→Int→Int→Int:=Classical.choose (cC (α:=IntKind→Int→Int→Int) (fun k x y=>k.wrap (x-y)))
theorem GK:bW=(fun k x y=>k.wrap (x-y)):=Classical.choose_spec (cC (α:=IntKind→Int→Int→Int) (fun k x y=>k.wrap (x-y)))
theorem dK (k x y):bW k x y=k.wrap (x-y):=by rw[GK]
def qi:IntKind→Int→Int→Int:=Classical.choose (cC (α:=IntKind→Int→Int→Int) (fun k x y=>k.wrap (x*y)))
theorem Ga:qi=(fun k x y=>k.wrap (x*y)):=Classical.choose_spec (cC (α:=IntKind→Int→Int→Int) (fun k x y=>k.wrap (x*y)))
theorem kg (k x y):qi k x y=k.wrap (x*y):=by rw[Ga]
def tr:IntKind→Int→Int→Int:=Classical.choose (cC (α:=IntKind→Int→Int→Int) (fun k x y=>k.wrap (x.tdiv y)))
theorem Gq:tr=(fun k x y=>k.wrap (x.tdiv y)):=Classical.choose_spec (cC (α:=IntKind→Int→Int→Int) (fun k x y=>k.wrap (x.tdiv y)))
theorem vG (k x y):tr k x y=k.wrap (x.tdiv y):=by rw[Gq]
def tu:IntKind→Int→Int→Int:=Classical.choose (cC (α:=IntKind→Int→Int→Int) (fun k x y=>x.tmod y))
theorem Gt:tu=(fun k x y=>x.tmod y):=Classical.choose_spec (cC (α:=IntKind→Int→Int→Int) (fun k x y=>x.tmod y))
theorem vH (k x y):tu k x y=x.tmod y:=by rw[Gt]
def oL:IntKind→Int→Int→Int:=Classical.choose (cC (α:=IntKind→Int→Int→Int) (fun k x y=>k.wrap (BitVec.ofInt k.bits x &&& BitVec.ofInt k.bits y).toNat))
theorem Fp:oL=(fun k x y=>k.wrap (BitVec.ofInt k.bits x &&& BitVec.ofInt k.bits y).toNat):=Classical.choose_spec (cC (α:=IntKind→Int→Int→Int) (fun k x y=>k.wrap (BitVec.ofInt k.bits x &&& BitVec.ofInt k.bits y).toNat))
theorem qm (k x y):oL k x y=k.wrap (BitVec.ofInt k.bits x &&& BitVec.ofInt k.bits y).toNat:=by rw[Fp]
def wb:IntKind→Int→Int→Int:=Classical.choose (cC (α:=IntKind→Int→Int→Int) (fun k x y=>k.wrap (BitVec.ofInt k.bits x ||| BitVec.ofInt k.bits y).toNat))
theorem Jn:wb=(fun k x y=>k.wrap (BitVec.ofInt k.bits x ||| BitVec.ofInt k.bits y).toNat):=Classical.choose_spec (cC (α:=IntKind→Int→Int→Int) (fun k x y=>k.wrap (BitVec.ofInt k.bits x ||| BitVec.ofInt k.bits y).toNat))
theorem sc (k x y):wb k x y=k.wrap (BitVec.ofInt k.bits x ||| BitVec.ofInt k.bits y).toNat:=by rw[Jn]
def JW:IntKind→Int→Int→Int:=Classical.choose (cC (α:=IntKind→Int→Int→Int) (fun k x y=>k.wrap (BitVec.ofInt k.bits x ^^^ BitVec.ofInt k.bits y).toNat))
theorem GV:JW=(fun k x y=>k.wrap (BitVec.ofInt k.bits x ^^^ BitVec.ofInt k.bits y).toNat):=Classical.choose_spec (cC (α:=IntKind→Int→Int→Int) (fun k x y=>k.wrap (BitVec.ofInt k.bits x ^^^ BitVec.ofInt k.bits y).toNat))
theorem vZ (k x y):JW k x y=k.wrap (BitVec.ofInt k.bits x ^^^ BitVec.ofInt k.bits y).toNat:=by rw[GV]
def Fm:IntKind→Int→Int→Int:=Classical.choose (cC (α:=IntKind→Int→Int→Int) (fun k x y=>k.wrap (BitVec.ofInt k.bits x &&& ~~~(BitVec.ofInt k.bits y)).toNat))
theorem Il:Fm=(fun k x y=>k.wrap (BitVec.ofInt k.bits x &&& ~~~(BitVec.ofInt k.bits y)).toNat):=Classical.choose_spec (cC (α:=IntKind→Int→Int→Int) (fun k x y=>k.wrap (BitVec.ofInt k.bits x &&& ~~~(BitVec.ofInt k.bits y)).toNat))
theorem qJ (k x y):Fm k x y=k.wrap (BitVec.ofInt k.bits x &&& ~~~(BitVec.ofInt k.bits y)).toNat:=by rw[Il]
def fF:IntKind→Int→Int→Int:=Classical.choose (cC (α:=IntKind→Int→Int→Int) (fun k x y=>k.wrap (x*2 ^ (min y.toNat k.bits))))
theorem GF:fF=(fun k x y=>k.wrap (x*2 ^ (min y.toNat k.bits))):=Classical.choose_spec (cC (α:=IntKind→Int→Int→Int) (fun k x y=>k.wrap (x*2 ^ (min y.toNat k.bits))))
theorem vT (k x y):fF k x y=k.wrap (x*2 ^ (min y.toNat k.bits)):=by rw[GF]
def JH:IntKind→Int→Int→Int:=Classical.choose (cC (α:=IntKind→Int→Int→Int) (fun k x y=>x.fdiv (2 ^ (min y.toNat k.bits))))
theorem GH:JH=(fun k x y=>x.fdiv (2 ^ (min y.toNat k.bits))):=Classical.choose_spec (cC (α:=IntKind→Int→Int→Int) (fun k x y=>x.fdiv (2 ^ (min y.toNat k.bits))))
theorem GG (k x y):JH k x y=x.fdiv (2 ^ (min y.toNat k.bits)):=by rw[GH]
def OM:IntKind→Int→Int:=Classical.choose (cC (α:=IntKind→Int→Int) (fun k x=>k.wrap x))
theorem JV:OM=(fun k x=>k.wrap x):=Classical.choose_spec (cC (α:=IntKind→Int→Int) (fun k x=>k.wrap x))
theorem JU (k x):OM k x=k.wrap x:=by rw[JV]
def zL:IntKind→Int→Int:=Classical.choose (cC (α:=IntKind→Int→Int) (fun k x=>k.wrap (0-x)))
theorem Gg:zL=(fun k x=>k.wrap (0-x)):=Classical.choose_spec (cC (α:=IntKind→Int→Int) (fun k x=>k.wrap (0-x)))
theorem vt (k x):zL k x=k.wrap (0-x):=by rw[Gg]
def dC:Int→Int→Bool:=Classical.choose (cC (α:=Int→Int→Bool) (fun x y=>(x == y)))
theorem IF:dC=(fun x y=>(x == y)):=Classical.choose_spec (cC (α:=Int→Int→Bool) (fun x y=>(x == y)))
theorem bh (x y):dC x y=(x == y):=by rw[IF]
def da:Int→Int→Bool:=Classical.choose (cC (α:=Int→Int→Bool) (fun x y=>decide (x<y)))
theorem Jb:da=(fun x y=>decide (x<y)):=Classical.choose_spec (cC (α:=Int→Int→Bool) (fun x y=>decide (x<y)))
theorem br (x y):da x y=decide (x<y):=by rw[Jb]
def er:Int→Int→Bool:=Classical.choose (cC (α:=Int→Int→Bool) (fun x y=>decide (x≤y)))
theorem I7:er=(fun x y=>decide (x≤y)):=Classical.choose_spec (cC (α:=Int→Int→Bool) (fun x y=>decide (x≤y)))
theorem bt (x y):er x y=decide (x≤y):=by rw[I7]
def cH:Bool→Bool:=Classical.choose (cC (α:=Bool→Bool) (fun b=>(!b)))
theorem Gi:cH=(fun b=>(!b)):=Classical.choose_spec (cC (α:=Bool→Bool) (fun b=>(!b)))
theorem aS (b):cH b=(!b):=by rw[Gi]
def bY:Bool→Bool→Bool:=Classical.choose (cC (α:=Bool→Bool→Bool) (fun a b=>(a && b)))
theorem Fo:bY=(fun a b=>(a && b)):=Classical.choose_spec (cC (α:=Bool→Bool→Bool) (fun a b=>(a && b)))
theorem bP (a b):bY a b=(a && b):=by rw[Fo]
def Mm:Bool→Bool→Bool:=Classical.choose (cC (α:=Bool→Bool→Bool) (fun a b=>(a == b)))
theorem IE:Mm=(fun a b=>(a == b)):=Classical.choose_spec (cC (α:=Bool→Bool→Bool) (fun a b=>(a == b)))
theorem ID (a b):Mm a b=(a == b):=by rw[IE]
def qh:Int→Int→Int:=Classical.choose (cC (α:=Int→Int→Int) (fun x y=>if y<x then y else x))
theorem F8:qh=(fun x y=>if y<x then y else x):=Classical.choose_spec (cC (α:=Int→Int→Int) (fun x y=>if y<x then y else x))
theorem mc (x y):qh x y=if y<x then y else x:=by rw[F8]
def mC:Int→Int→Int:=Classical.choose (cC (α:=Int→Int→Int) (fun x y=>if y > x then y else x))
theorem F5:mC=(fun x y=>if y > x then y else x):=Classical.choose_spec (cC (α:=Int→Int→Int) (fun x y=>if y > x then y else x))
theorem mb (x y):mC x y=if y > x then y else x:=by rw[F5]
def dk:Int→Nat→Bool:=Classical.choose (cC (α:=Int→Nat→Bool) (fun (i:Int) (n:Nat)=>decide (0≤i∧i<(n:Int))))
theorem I1:dk=(fun (i:Int) (n:Nat)=>decide (0≤i∧i<(n:Int))):=Classical.choose_spec (cC (α:=Int→Nat→Bool) (fun (i:Int) (n:Nat)=>decide (0≤i∧i<(n:Int))))
theorem o7 (i n):dk i n=decide (0≤i∧i<(n:Int)):=by rw[I1]
def qR:Int→Nat→Bool:=Classical.choose (cC (α:=Int→Nat→Bool) (fun (i:Int) (n:Nat)=>decide (0≤i∧i≤(n:Int))))
theorem Fw:qR=(fun (i:Int) (n:Nat)=>decide (0≤i∧i≤(n:Int))):=Classical.choose_spec (cC (α:=Int→Nat→Bool) (fun (i:Int) (n:Nat)=>decide (0≤i∧i≤(n:Int))))
theorem Aw (i n):qR i n=decide (0≤i∧i≤(n:Int)):=by rw[Fw]
def CW:Int→Int→Nat→Bool:=Classical.choose (cC (α:=Int→Int→Nat→Bool) (fun l c b=>decide (0≤l∧l≤c∧c.toNat*b≤room∧c.toNat≤room)))
theorem Jf:CW=(fun l c b=>decide (0≤l∧l≤c∧c.toNat*b≤room∧c.toNat≤room)):=Classical.choose_spec (cC (α:=Int→Int→Nat→Bool) (fun l c b=>decide (0≤l∧l≤c∧c.toNat*b≤room∧c.toNat≤room)))
theorem zI (l c b):CW l c b=decide (0≤l∧l≤c∧c.toNat*b≤room∧c.toNat≤room):=by rw[Jf]
def cD:Int→Nat:=Classical.choose (cC (α:=Int→Nat) (fun i=>i.toNat))
theorem JQ:cD=(fun i=>i.toNat):=Classical.choose_spec (cC (α:=Int→Nat) (fun i=>i.toNat))
theorem np (i):cD i=i.toNat:=by rw[JQ]
def aE:Nat→Int→Nat→Nat:=Classical.choose (cC (α:=Nat→Int→Nat→Nat) (fun o i s=>o+i.toNat*s))
theorem IZ:aE=(fun o i s=>o+i.toNat*s):=Classical.choose_spec (cC (α:=Nat→Int→Nat→Nat) (fun o i s=>o+i.toNat*s))
theorem bO (o i s):aE o i s=o+i.toNat*s:=by rw[IZ]
def aG:Nat→Nat→Nat:=Classical.choose (cC (α:=Nat→Nat→Nat) (fun a b=>a+b))
theorem Fi:aG=(fun a b=>a+b):=Classical.choose_spec (cC (α:=Nat→Nat→Nat) (fun a b=>a+b))
theorem aJ (a b):aG a b=a+b:=by rw[Fi]
def fG:Nat→Nat→Nat:=Classical.choose (cC (α:=Nat→Nat→Nat) (fun a b=>a-b))
theorem GM:fG=(fun a b=>a-b):=Classical.choose_spec (cC (α:=Nat→Nat→Nat) (fun a b=>a-b))
theorem eI (a b):fG a b=a-b:=by rw[GM]
def aq:Nat→Nat→Nat:=Classical.choose (cC (α:=Nat→Nat→Nat) (fun a b=>a*b))
theorem Gb:aq=(fun a b=>a*b):=Classical.choose_spec (cC (α:=Nat→Nat→Nat) (fun a b=>a*b))
theorem ja (a b):aq a b=a*b:=by rw[Gb]
def F6:Nat→Nat→Nat:=Classical.choose (cC (α:=Nat→Nat→Nat) (fun a b=>min a b))
theorem F7:F6=(fun a b=>min a b):=Classical.choose_spec (cC (α:=Nat→Nat→Nat) (fun a b=>min a b))
theorem Bf (a b):F6 a b=min a b:=by rw[F7]
def cW:Nat→Nat→Bool:=Classical.choose (cC (α:=Nat→Nat→Bool) (fun a b=>decide (a<b)))
theorem Jc:cW=(fun a b=>decide (a<b)):=Classical.choose_spec (cC (α:=Nat→Nat→Bool) (fun a b=>decide (a<b)))
theorem gz (a b):cW a b=decide (a<b):=by rw[Jc]
def jS:Nat→Nat→Bool:=Classical.choose (cC (α:=Nat→Nat→Bool) (fun a b=>decide (a≤b)))
theorem I8:jS=(fun a b=>decide (a≤b)):=Classical.choose_spec (cC (α:=Nat→Nat→Bool) (fun a b=>decide (a≤b)))
theorem iD (a b):jS a b=decide (a≤b):=by rw[I8]
def fX:Nat→Nat→Bool:=Classical.choose (cC (α:=Nat→Nat→Bool) (fun a b=>decide (a=b)))
theorem IG:fX=(fun a b=>decide (a=b)):=Classical.choose_spec (cC (α:=Nat→Nat→Bool) (fun a b=>decide (a=b)))
theorem eK (a b):fX a b=decide (a=b):=by rw[IG]
def nv:Nat→Nat→Nat→Nat→Bool:=Classical.choose (cC (α:=Nat→Nat→Nat→Nat→Bool) (fun o m p n=>decide (p≤o∧o+m≤p+n)))
theorem I3:nv=(fun o m p n=>decide (p≤o∧o+m≤p+n)):=Classical.choose_spec (cC (α:=Nat→Nat→Nat→Nat→Bool) (fun o m p n=>decide (p≤o∧o+m≤p+n)))
theorem iA (o m p n):nv o m p n=decide (p≤o∧o+m≤p+n):=by rw[I3]
def Ik:(Nat→AV)→IntKind→Nat→Bool→Prop:=Classical.choose (cC (α:=(Nat→AV)→IntKind→Nat→Bool→Prop) (fun f k sz full=>∀ j,∃ z n m,f j=AV.slcT none (Row.M [aw.arr k z n]) sz m full))
theorem Fl:Ik=(fun f k sz full=>∀ j,∃ z n m,f j=AV.slcT none (Row.M [aw.arr k z n]) sz m full):=Classical.choose_spec (cC (α:=(Nat→AV)→IntKind→Nat→Bool→Prop) (fun f k sz full=>∀ j,∃ z n m,f j=AV.slcT none (Row.M [aw.arr k z n]) sz m full))
theorem Fk (f k sz full):Ik f k sz full=∀ j,∃ z n m,f j=AV.slcT none (Row.M [aw.arr k z n]) sz m full:=by rw[Fl]
def JE:Bool→(Nat→Int)→(Nat→Int)→Nat→Int:=Classical.choose (cC (α:=Bool→(Nat→Int)→(Nat→Int)→Nat→Int) (fun b x y=>cond b x y))
theorem GB:JE=(fun b x y=>cond b x y):=Classical.choose_spec (cC (α:=Bool→(Nat→Int)→(Nat→Int)→Nat→Int) (fun b x y=>cond b x y))
theorem GA (b x y):JE b x y=cond b x y:=by rw[GB]
def Gx:Bool→Nat→Nat→Nat:=Classical.choose (cC (α:=Bool→Nat→Nat→Nat) (fun b x y=>cond b x y))
theorem Gz:Gx=(fun b x y=>cond b x y):=Classical.choose_spec (cC (α:=Bool→Nat→Nat→Nat) (fun b x y=>cond b x y))
theorem Gy (b x y):Gx b x y=cond b x y:=by rw[Gz]
def ou:Nat→Nat→Nat→Bool:=Classical.choose (cC (α:=Nat→Nat→Nat→Bool) (fun m n b=>decide ((m+n)*b≤room∧m+n≤room)))
theorem EB:ou=(fun m n b=>decide ((m+n)*b≤room∧m+n≤room)):=Classical.choose_spec (cC (α:=Nat→Nat→Nat→Bool) (fun m n b=>decide ((m+n)*b≤room∧m+n≤room)))
theorem xO (m n b):ou m n b=decide ((m+n)*b≤room∧m+n≤room):=by rw[EB]
def gH:(Nat→Int)→Nat→Int→Nat→Int:=Classical.choose (cC (α:=(Nat→Int)→Nat→Int→Nat→Int) (fun z i x=>fun j=>if j=i then x else z j))
theorem qE:gH=(fun z i x=>fun j=>if j=i then x else z j):=Classical.choose_spec (cC (α:=(Nat→Int)→Nat→Int→Nat→Int) (fun z i x=>fun j=>if j=i then x else z j))
theorem mn (z i x):gH z i x=fun j=>if j=i then x else z j:=by rw[qE]
def yN:(Nat→Int)→Nat→Nat→Int:=Classical.choose (cC (α:=(Nat→Int)→Nat→Nat→Int) (fun z o=>fun j=>z (o+j)))
theorem lR:yN=(fun z o=>fun j=>z (o+j)):=Classical.choose_spec (cC (α:=(Nat→Int)→Nat→Nat→Int) (fun z o=>fun j=>z (o+j)))
def uT:(Nat→Int)→Nat→(Nat→Int)→Nat→Nat→Int:=Classical.choose (cC (α:=(Nat→Int)→Nat→(Nat→Int)→Nat→Nat→Int) (fun z o z' n=>zf z o z' n))
theorem FD:uT=(fun z o z' n=>zf z o z' n):=Classical.choose_spec (cC (α:=(Nat→Int)→Nat→(Nat→Int)→Nat→Nat→Int) (fun z o z' n=>zf z o z' n))
theorem AD (z o z' n):uT z o z' n=zf z o z' n:=by rw[FD]
def sV:(Nat→Int)→Nat→(Nat→Int)→Nat→Int:=Classical.choose (cC (α:=(Nat→Int)→Nat→(Nat→Int)→Nat→Int) (fun z n z'=>fun i=>if i<n then z i else z' (i-n)))
theorem lV:sV=(fun z n z'=>fun i=>if i<n then z i else z' (i-n)):=Classical.choose_spec (cC (α:=(Nat→Int)→Nat→(Nat→Int)→Nat→Int) (fun z n z'=>fun i=>if i<n then z i else z' (i-n)))
def D3:List Int→Nat:=Classical.choose (cC (α:=List Int→Nat) (fun l=>l.length))
theorem FZ:D3=(fun l=>l.length):=Classical.choose_spec (cC (α:=List Int→Nat) (fun l=>l.length))
theorem A5 (l):D3 l=l.length:=by rw[FZ]
def bC:List Int→Nat→Int:=Classical.choose (cC (α:=List Int→Nat→Int) (fun l=>fun j=>l.getD j 0))
theorem iY:bC=(fun l=>fun j=>l.getD j 0):=Classical.choose_spec (cC (α:=List Int→Nat→Int) (fun l=>fun j=>l.getD j 0))
theorem ga (l):bC l=fun j=>l.getD j 0:=by rw[iY]
def kR:(Nat→Int)→(Nat→Int)→Nat→Bool:=Classical.choose (cC (α:=(Nat→Int)→(Nat→Int)→Nat→Bool) (fun z z' n=>allEq z z' n))
theorem BU:kR=(fun z z' n=>allEq z z' n):=Classical.choose_spec (cC (α:=(Nat→Int)→(Nat→Int)→Nat→Bool) (fun z z' n=>allEq z z' n))
theorem tE (z z' n):kR z z' n=allEq z z' n:=by rw[BU]
def lP:(List Int→Bool)→List Int→Bool→List Int→Bool:=Classical.choose (cC (α:=(List Int→Bool)→List Int→Bool→List Int→Bool) (fun h n b=>eS h n b))
theorem EI:lP=(fun h n b=>eS h n b):=Classical.choose_spec (cC (α:=(List Int→Bool)→List Int→Bool→List Int→Bool) (fun h n b=>eS h n b))
theorem gu (h n b):lP h n b=eS h n b:=by rw[EI]
def lQ:(List Int→Int)→List Int→Int→List Int→Int:=Classical.choose (cC (α:=(List Int→Int)→List Int→Int→List Int→Int) (fun g n x=>gY g n x))
theorem EJ:lQ=(fun g n x=>gY g n x):=Classical.choose_spec (cC (α:=(List Int→Int)→List Int→Int→List Int→Int) (fun g n x=>gY g n x))
theorem gv (g n x):lQ g n x=gY g n x:=by rw[EJ]
def pD:Bool→Nat→Nat:=Classical.choose (cC (α:=Bool→Nat→Nat) (fun b c=>sW b c))
theorem Dp:pD=(fun b c=>sW b c):=Classical.choose_spec (cC (α:=Bool→Nat→Nat) (fun b c=>sW b c))
theorem kV (b c):pD b c=sW b c:=by rw[Dp]
def wm:Bool→Nat→Nat:=Classical.choose (cC (α:=Bool→Nat→Nat) (fun b c=>wk b c))
theorem Dq:wm=(fun b c=>wk b c):=Classical.choose_spec (cC (α:=Bool→Nat→Nat) (fun b c=>wk b c))
theorem ra (b c):wm b c=wk b c:=by rw[Dq]

end
end Go.Eng
end
