/- The engine: tables of calls that are known beforehand. -/
import Derived.Test.YtgphpjdchnfjlaaDoorV4EngXx3
set_option linter.unusedVariables false
set_option linter.unusedSimpArgs false
section
namespace Go.Eng

def S4 (f:AV→Bool) (r:Row):Bool :=
 match r with
 | .I ..=>true
 | .G l=>l.all f
 | .F ..=>true
 | .M l=>fA l
def sN:Nat→AV→Bool
 | 0,_=>false
 | n+1,v=>match v with
   | .undef | .bool _ | .int _ _ | .str _ | .nilp | .nils | .nilm | .nilf=>true
   | .ptrT none _ _=>true
   | .slcT none _ _ _ _=>true
   | .agg r=>S4 (sN n) r
   | .tup l=>l.all (sN n)
   | .fn _ a b=>a.all (sN n) && b.all (sN n)
   | _=>false
theorem gr {f:AV→Bool}:∀ {l:List AV} {j:Nat},l.all f=true→j<l.length→f (l.getD j .undef)=true
 | [],j,_,h=>by simp at h
 | x::l,0,h,_=>by simp at h;simpa using h.1
 | x::l,j+1,h,hj=>by
   simp only[List.all_cons,Bool.and_eq_true] at h
   rw[List.getD_cons_succ]
   exact gr h.2 (by simpa using hj)
theorem ot {p:aB} {M N:Mu}:∀ (n:Nat) {v:AV} {c:Value},sN n v=true→ai p M v c→ai p N v c
 | 0,v,c,h,_=>by simp[sN] at h
 | n + 1,v,c,h,hv=>by
   have ih:=@ot p M N n
   cases hv with
   | undef c=>exact .undef c
   | bool b=>exact .bool b
   | int k n=>exact .int k n
   | str s=>exact .str s
   | nilp=>exact .nilp
   | nils=>exact .nils
   | nilm=>exact .nilm
   | nilf=>exact .nilf
   | ptr h0=>simp[sN] at h
   | slc h0=>simp[sN] at h
   | map h0=>simp[sN] at h
   | yld h0=>simp[sN] at h
   | ptrT vs h0 h1 hv =>
     rename_i s r off b o
     cases s with
     | some s=>simp[sN] at h
     | none=>exact .ptrT vs h0 h1 hv
   | slcT vs h0 h1 hv hl hf hx =>
     rename_i s r sz len b o x cc full
     cases s with
     | some s=>simp[sN] at h
     | none=>exact .slcT vs h0 h1 hv hl hf hx
   | slcN=>exact .slcN
   | fn ha hb va vb =>
     simp only[sN,Bool.and_eq_true] at h
     exact .fn ha hb (fun j hj=>ih (gr h.1 hj) (va j hj)) (fun j hj=>ih (gr h.2 hj) (vb j hj))
   | agg hs h1 hv =>
     rename_i r cs
     simp only[sN] at h
     cases r with
     | I k l=>exact .agg hs h1 (fun j hj=>(hv j hj).bg _ _)
     | F f m=>exact .agg hs h1 hv
     | M l=>exact .agg hs h1 (aW.fA h hv)
     | G l=>exact .agg hs h1 (fun j hj=>ih (gr (f:=sN n) h hj) (hv j hj))
   | tup hs hv =>
     simp only[sN] at h
     exact .tup hs (fun j hj=>ih (gr h hj) (hv j hj))

structure bW where
 f:FuncId
 args:List AV
 v:AV
def ay (P:Program) (e:bW):Prop:=∀ (H:aa),H≠[]→∀ (p:aB) (M:Mu) (w:World) (cargs:Array Value),a7 p M H w→ep p M e.args cargs →
 (∃ fn,P.funcs[e.f]?=some fn∧fn.body.isNone=false)∧CallsIn Fence.wide 0 P e.f cargs w (fy p M H w e.v H)

theorem xr {P:Program} {call:aA} (hC:bN P call) {e:bW} {H':aa} (h:call (.fn e.f) e.args [⟨true,[]⟩]=some (e.v,H')) (hn:e.args.all (sN 9)=true):ay P e:=by
 intro H hne p M w cargs hH hA
 have hH0:a7 p Mu.no [⟨true,[]⟩] w:=⟨hH.pers,(fun d i v B hg hB=>by
  cases d<;>simp[ar,ao] at hg<;>exact absurd hg.2.symm hB),(fun d i v B d' i' v' B' b o t o' t' hg hB hg' hB' hm hm'=>by cases hm),(fun d i v t hm=>by cases hm)⟩
 have hA0:ep p Mu.no e.args cargs:=⟨hA.1,fun j hj=>ot 9 (gr hn hj) (hA.2 j hj)⟩
 obtain ⟨h1,h2⟩:=hC (.fn e.f) e.args _ e.v H' h (by simp) p Mu.no w cargs hH0 hA0
 refine ⟨h1,h2.mono ?_⟩
 rintro en w' ⟨cv,rfl,st,p',M',hE,hv⟩
 have hM:Mu.le M' M:=fun d i v t hm=>by
  have h3:=(hE.rel.dom d i v t hm).1
  have h4:aD [⟨true,[]⟩] d=true:=by cases d<;>rfl
  rw[st.next d h4] at h3
  cases d<;>simp[an] at h3
 have all:∀ b,Go.Eng.bk Mu.no [⟨true,[]⟩] b:=fun b d i u B _ _ _ o t hm=>by cases hm
 have no:∀ {b:Nat},¬ (aD [⟨true,[]⟩] 0=false∧∃ i u o' t',Mu.no 0 i u=some (b,o',t')):=fun h=>by have:=h.1;cases this
 refine ⟨cv,rfl,Still.refl H,p',M,{ bZ.refl hH with pst:=hE.pst,rel:=⟨hE.rel.pers,?_,hH.apart,hH.dom⟩,stay:=hE.stay.weaken (fun b _ _=>all b),fresh:=fun b o v hv=>(hE.fresh b o v hv).imp_right fun h=>h.elim .inl fun h=>(no h).elim },hv.mono (aB.le.refl _) hM⟩
 intro d i u B hg hB
 obtain ⟨b,o,t,k1,k2,k3⟩:=hH.live d i u B hg hB
 have hlt:=k2.lt hB
 refine ⟨b,o,t,k1,k2.mono hE.pst (Mu.le.refl _) (hE.stay.block b hlt (all b)),fun x=>?_⟩
 cases hx:p' b x with
 | none=>rfl
 | some y =>
   rcases hE.fresh b x y hx with h | h | ⟨h,_⟩
   · rw[k3] at h;cases h
   · omega
   · cases h

noncomputable def Ax (f:AV→AV→Bool) (r s:Row):Bool :=
 match r,s with
 | .I k l,.I k' l'=>gy k k' && listEqI l l'
 | .G l,.G l'=>listEqV f l l'
 | _,_=>false
where
 listEqI:List Int→List Int→Bool
  | [],[]=>true
  | x::a,y::b=>FQ x y && listEqI a b
  | _,_=>false
 listEqV (f:AV→AV→Bool):List AV→List AV→Bool
  | [],[]=>true
  | x::a,y::b=>f x y && listEqV f a b
  | _,_=>false
def FP:Option Nat→Option Nat→Bool
 | none,none=>true
 | some a,some b=>Nat.beq a b
 | _,_=>false
noncomputable def IV:Nat→AV→AV→Bool
 | 0,_,_=>false
 | n+1,v,u=>match v,u with
   | .bool a,.bool b=>a == b
   | .int k a,.int k' b=>gy k k' && FQ a b
   | .nilp,.nilp=>true
   | .nils,.nils=>true
   | .nilm,.nilm=>true
   | .ptrT s r o,.ptrT s' r' o'=>FP s s' && (Ax (IV n) r r' && Nat.beq o o')
   | .slcT s r z l b,.slcT s' r' z' l' b'=>FP s s' && (Ax (IV n) r r' && (Nat.beq z z' && (Nat.beq l l' && b == b')))
   | .agg r,.agg r'=>Ax (IV n) r r'
   | _,_=>false
theorem rN:∀ (l m:List Int),Ax.listEqI l m=true→l=m
 | [],[],_=>rfl
 | [],_::_,h=>by simp[Ax.listEqI] at h
 | _::_,[],h=>by simp[Ax.listEqI] at h
 | x::a,y::b,h=>by
   simp only[Ax.listEqI,Bool.and_eq_true,ze,beq_iff_eq] at h
   rw[h.1,rN a b h.2]
theorem mV {f:AV→AV→Bool} (hf:∀ x y,f x y=true→x=y):∀ (l m:List AV),Ax.listEqV f l m=true→l=m
 | [],[],_=>rfl
 | [],_::_,h=>by simp[Ax.listEqV] at h
 | _::_,[],h=>by simp[Ax.listEqV] at h
 | x::a,y::b,h=>by
   simp only[Ax.listEqV,Bool.and_eq_true] at h
   rw[hf _ _ h.1,mV hf a b h.2]
theorem zd {f:AV→AV→Bool} (hf:∀ x y,f x y=true→x=y) (r s:Row) (h:Ax f r s=true):r=s:=by
 cases r<;>cases s<;>simp only[Ax,Bool.and_eq_true,eQ,decide_eq_true_eq] at h<;>try (simp at h;done)
 · rw[h.1,rN _ _ h.2]
 · rw[mV hf _ _ h]
theorem Aw (a b:Option Nat) (h:FP a b=true):a=b:=by
 cases a<;>cases b<;>simp[FP] at h ⊢;exact h
theorem Dt:∀ (n:Nat) (x y:AV),IV n x y=true→x=y
 | 0,x,y,h=>by simp[IV] at h
 | n+1,x,y,h=>by
   have ih:=Dt n
   cases x<;>cases y<;>simp only[IV,Bool.and_eq_true,eQ,ze,decide_eq_true_eq,beq_iff_eq] at h<;>try (first | rfl | (simp at h;done))
   case bool.bool=>rw[h]
   case int.int=>rw[h.1,h.2]
   case ptrT.ptrT=>rw[Aw _ _ h.1,zd ih _ _ h.2.1,Nat.eq_of_beq_eq_true h.2.2]
   case slcT.slcT=>rw[Aw _ _ h.1,zd ih _ _ h.2.1,Nat.eq_of_beq_eq_true h.2.2.1,Nat.eq_of_beq_eq_true h.2.2.2.1,h.2.2.2.2]
   case agg.agg=>rw[zd ih _ _ h]

noncomputable def zK:List bW→aA→FuncId→List AV→aa→Option (AV×aa)
 | [],_,_,_,_=>none
 | e::r,c,f,args,H=>if Nat.beq e.f f && Ax.listEqV (IV 9) e.args args then some (e.v,H) else zK r c f args H
theorem vB {P:Program}:∀ (tab:List bW),(∀ e ∈ tab,ay P e)→qM P (zK tab)
 | [],_=>fun call _ f args H v H' h=>by simp[zK] at h
 | e :: r,hT=>fun call hC f args H v H' h=>by
   simp only[zK] at h
   split at h
   · rename_i hc
     simp only[Bool.and_eq_true] at hc
     have e1:=Nat.eq_of_beq_eq_true hc.1
     have e2:=mV (Dt 9) _ _ hc.2
     have e3:=Option.some.inj h
     simp only[Prod.mk.injEq] at e3
     obtain ⟨e3,e4⟩:=e3
     subst e1;subst e2;subst e3;subst e4
     exact hT e (by simp) H
   · exact vB r (fun e' he=>hT e' (List.mem_cons_of_mem _ he)) call hC f args H v H' h

end Go.Eng
end
section
namespace Go.Eng
noncomputable section

inductive Tr (α:Type) where
 | ok (a:α)
 | bad
 | ite (c:Bool) (t e:Tr α)
 | req (c:Bool) (t:Tr α)
 | reqP (p:Prop) (t:Tr α)
open Classical in
def Tr.run {α:Type}:Tr α→Option α
 | .ok a=>some a
 | .bad=>none
 | .ite c t e=>cond c t.run e.run
 | .req c t=>cond c t.run none
 | .reqP p t=>if p then t.run else none
def Tr.bind {α β:Type} (t:Tr α) (f:α→Tr β):Tr β:=Tr.rec (motive:=fun _=>Tr β) f .bad (fun c _ _ a b=>.ite c a b) (fun c _ a=>.req c a) (fun p _ a=>.reqP p a) t
theorem Tr.C4 {α β:Type} (t:Tr α) (f:α→Tr β):(t.bind f).run=t.run.bind fun a=>(f a).run:=by
 induction t with
 | ok a=>rfl
 | bad=>rfl
 | ite c a b iha ihb =>
   have e:(Tr.ite c a b).bind f=.ite c (a.bind f) (b.bind f):=rfl
   rw[e];simp only[Tr.run,iha,ihb];cases c<;>rfl
 | req c a ih =>
   have e:(Tr.req c a).bind f=.req c (a.bind f):=rfl
   rw[e];simp only[Tr.run,ih];cases c<;>rfl
 | reqP p a ih =>
   have e:(Tr.reqP p a).bind f=.reqP p (a.bind f):=rfl
   rw[e];simp only[Tr.run,ih]
   by_cases hp:p
   · rw[if_pos hp,if_pos hp]
   · rw[if_neg hp,if_neg hp];rfl
theorem Tr.fp {α:Type} {p:Prop} {t:Tr α} {x:α} (h:(Tr.reqP p t).run=some x):p∧t.run=some x:=by
 simp only[Tr.run] at h
 by_cases hp:p
 · rw[if_pos hp] at h;exact ⟨hp,h⟩
 · rw[if_neg hp] at h;cases h
theorem Tr.EF {α:Type} {p:Prop} {a:Tr α} (h:p):(Tr.reqP p a).run=a.run:=by simp only[Tr.run];rw[if_pos h]
theorem Tr.bind_some {α β:Type} {t:Tr α} {f:α→Tr β} {y:β} (h:(t.bind f).run=some y):∃ x,t.run=some x∧(f x).run=some y:=by
 rw[Tr.C4] at h
 exact Option.bind_eq_some_iff.1 h
theorem Tr.aK {α:Type} {c:Bool} {t:Tr α} {x:α} (h:(Tr.req c t).run=some x):c=true∧t.run=some x:=by
 cases c with
 | true=>exact ⟨rfl,h⟩
 | false=>simp[Tr.run] at h
theorem Tr.fL {α:Type} {c:Bool} {t e:Tr α} {x:α} (h:(Tr.ite c t e).run=some x):(c=true∧t.run=some x)∨(c=false∧e.run=some x):=by
 cases c with
 | true=>exact .inl ⟨rfl,h⟩
 | false=>exact .inr ⟨rfl,h⟩
theorem Tr.ab {α:Type} {a x:α} (h:(Tr.ok a).run=some x):a=x:=Option.some.inj h
theorem Tr.af {α:Type} {x:α} (h:(Tr.bad:Tr α).run=some x):False:=by simp[Tr.run] at h
def uo {α:Type} (o:Option α):Tr α:=Option.rec (motive:=fun _=>Tr α) .bad .ok o
theorem cJ {α:Type} (o:Option α):(uo o).run=o:=by cases o<;>rfl
theorem cN {α:Type} (f:α):∃ g,g=f:=⟨f,rfl⟩

def bf:IntKind→Int→Int→Int:=Classical.choose (cN (α:=IntKind→Int→Int→Int) (fun k x y=>k.wrap (x+y)))
theorem Fk:bf=(fun k x y=>k.wrap (x+y)):=Classical.choose_spec (cN (α:=IntKind→Int→Int→Int) (fun k x y=>k.wrap (x+y)))
theorem gl (k x y):bf k x y=k.wrap (x+y):=by rw[Fk]
def bw:IntKind→Int→Int→Int:=Classical.choose (cN (α:=IntKind→Int→Int→Int) (fun k x y=>k.wrap (x-y)))
theorem GU:bw=(fun k x y=>k.wrap (x-y)):=Classical.choose_spec (cN (α:=IntKind→Int→Int→Int) (fun k x y=>k.wrap (x-y)))
theorem dG (k x y):bw k x y=k.wrap (x-y):=by rw[GU]
def zE:IntKind→Int→Int→Int:=Classical.choose (cN (α:=IntKind→Int→Int→Int) (fun k x y=>k.wrap (x*y)))
theorem Gh:zE=(fun k x y=>k.wrap (x*y)):=Classical.choose_spec (cN (α:=IntKind→Int→Int→Int) (fun k x y=>k.wrap (x*y)))
theorem oo (k x y):zE k x y=k.wrap (x*y):=by rw[Gh]
def Cn:IntKind→Int→Int→Int:=Classical.choose (cN (α:=IntKind→Int→Int→Int) (fun k x y=>k.wrap (x.tdiv y)))
theorem Gy:Cn=(fun k x y=>k.wrap (x.tdiv y)):=Classical.choose_spec (cN (α:=IntKind→Int→Int→Int) (fun k x y=>k.wrap (x.tdiv y)))
theorem Bf (k x y):Cn k x y=k.wrap (x.tdiv y):=by rw[Gy]
def dc:IntKind→Int→Int→Int:=Classical.choose (cN (α:=IntKind→Int→Int→Int) (fun k x y=>x.tmod y))
theorem GB:dc=(fun k x y=>x.tmod y):=Classical.choose_spec (cN (α:=IntKind→Int→Int→Int) (fun k x y=>x.tmod y))
theorem qC (k x y):dc k x y=x.tmod y:=by rw[GB]
def ny:IntKind→Int→Int→Int:=Classical.choose (cN (α:=IntKind→Int→Int→Int) (fun k x y=>k.wrap (BitVec.ofInt k.bits x &&& BitVec.ofInt k.bits y).toNat))
theorem Fs:ny=(fun k x y=>k.wrap (BitVec.ofInt k.bits x &&& BitVec.ofInt k.bits y).toNat):=Classical.choose_spec (cN (α:=IntKind→Int→Int→Int) (fun k x y=>k.wrap (BitVec.ofInt k.bits x &&& BitVec.ofInt k.bits y).toNat))
theorem qn (k x y):ny k x y=k.wrap (BitVec.ofInt k.bits x &&& BitVec.ofInt k.bits y).toNat:=by rw[Fs]
def uq:IntKind→Int→Int→Int:=Classical.choose (cN (α:=IntKind→Int→Int→Int) (fun k x y=>k.wrap (BitVec.ofInt k.bits x ||| BitVec.ofInt k.bits y).toNat))
theorem JA:uq=(fun k x y=>k.wrap (BitVec.ofInt k.bits x ||| BitVec.ofInt k.bits y).toNat):=Classical.choose_spec (cN (α:=IntKind→Int→Int→Int) (fun k x y=>k.wrap (BitVec.ofInt k.bits x ||| BitVec.ofInt k.bits y).toNat))
theorem sa (k x y):uq k x y=k.wrap (BitVec.ofInt k.bits x ||| BitVec.ofInt k.bits y).toNat:=by rw[JA]
def Ka:IntKind→Int→Int→Int:=Classical.choose (cN (α:=IntKind→Int→Int→Int) (fun k x y=>k.wrap (BitVec.ofInt k.bits x ^^^ BitVec.ofInt k.bits y).toNat))
theorem G7:Ka=(fun k x y=>k.wrap (BitVec.ofInt k.bits x ^^^ BitVec.ofInt k.bits y).toNat):=Classical.choose_spec (cN (α:=IntKind→Int→Int→Int) (fun k x y=>k.wrap (BitVec.ofInt k.bits x ^^^ BitVec.ofInt k.bits y).toNat))
theorem vV (k x y):Ka k x y=k.wrap (BitVec.ofInt k.bits x ^^^ BitVec.ofInt k.bits y).toNat:=by rw[G7]
def CR:IntKind→Int→Int→Int:=Classical.choose (cN (α:=IntKind→Int→Int→Int) (fun k x y=>k.wrap (BitVec.ofInt k.bits x &&& ~~~(BitVec.ofInt k.bits y)).toNat))
theorem ID:CR=(fun k x y=>k.wrap (BitVec.ofInt k.bits x &&& ~~~(BitVec.ofInt k.bits y)).toNat):=Classical.choose_spec (cN (α:=IntKind→Int→Int→Int) (fun k x y=>k.wrap (BitVec.ofInt k.bits x &&& ~~~(BitVec.ofInt k.bits y)).toNat))
theorem qR (k x y):CR k x y=k.wrap (BitVec.ofInt k.bits x &&& ~~~(BitVec.ofInt k.bits y)).toNat:=by rw[ID]
def eG:IntKind→Int→Int→Int:=Classical.choose (cN (α:=IntKind→Int→Int→Int) (fun k x y=>k.wrap (x*2 ^ (min y.toNat k.bits))))
theorem GP:eG=(fun k x y=>k.wrap (x*2 ^ (min y.toNat k.bits))):=Classical.choose_spec (cN (α:=IntKind→Int→Int→Int) (fun k x y=>k.wrap (x*2 ^ (min y.toNat k.bits))))
theorem vQ (k x y):eG k x y=k.wrap (x*2 ^ (min y.toNat k.bits)):=by rw[GP]
def JT:IntKind→Int→Int→Int:=Classical.choose (cN (α:=IntKind→Int→Int→Int) (fun k x y=>x.fdiv (2 ^ (min y.toNat k.bits))))
theorem GR:JT=(fun k x y=>x.fdiv (2 ^ (min y.toNat k.bits))):=Classical.choose_spec (cN (α:=IntKind→Int→Int→Int) (fun k x y=>x.fdiv (2 ^ (min y.toNat k.bits))))
theorem GQ (k x y):JT k x y=x.fdiv (2 ^ (min y.toNat k.bits)):=by rw[GR]
def kU:IntKind→Int→Int:=Classical.choose (cN (α:=IntKind→Int→Int) (fun k x=>k.wrap x))
theorem J7:kU=(fun k x=>k.wrap x):=Classical.choose_spec (cN (α:=IntKind→Int→Int) (fun k x=>k.wrap x))
theorem Fb (k x):kU k x=k.wrap x:=by rw[J7]
def D7:IntKind→Int→Int:=Classical.choose (cN (α:=IntKind→Int→Int) (fun k x=>k.wrap (0-x)))
theorem Gm:D7=(fun k x=>k.wrap (0-x)):=Classical.choose_spec (cN (α:=IntKind→Int→Int) (fun k x=>k.wrap (0-x)))
theorem A1 (k x):D7 k x=k.wrap (0-x):=by rw[Gm]
def cK:Int→Int→Bool:=Classical.choose (cN (α:=Int→Int→Bool) (fun x y=>(x == y)))
theorem IX:cK=(fun x y=>(x == y)):=Classical.choose_spec (cN (α:=Int→Int→Bool) (fun x y=>(x == y)))
theorem aZ (x y):cK x y=(x == y):=by rw[IX]
def cY:Int→Int→Bool:=Classical.choose (cN (α:=Int→Int→Bool) (fun x y=>decide (x<y)))
theorem Jo:cY=(fun x y=>decide (x<y)):=Classical.choose_spec (cN (α:=Int→Int→Bool) (fun x y=>decide (x<y)))
theorem b9 (x y):cY x y=decide (x<y):=by rw[Jo]
def eh:Int→Int→Bool:=Classical.choose (cN (α:=Int→Int→Bool) (fun x y=>decide (x≤y)))
theorem Jl:eh=(fun x y=>decide (x≤y)):=Classical.choose_spec (cN (α:=Int→Int→Bool) (fun x y=>decide (x≤y)))
theorem bC (x y):eh x y=decide (x≤y):=by rw[Jl]
def bz:Bool→Bool:=Classical.choose (cN (α:=Bool→Bool) (fun b=>(!b)))
theorem Gp:bz=(fun b=>(!b)):=Classical.choose_spec (cN (α:=Bool→Bool) (fun b=>(!b)))
theorem aG (b):bz b=(!b):=by rw[Gp]
def cr:Bool→Bool→Bool:=Classical.choose (cN (α:=Bool→Bool→Bool) (fun a b=>(a && b)))
theorem Fq:cr=(fun a b=>(a && b)):=Classical.choose_spec (cN (α:=Bool→Bool→Bool) (fun a b=>(a && b)))
theorem bV (a b):cr a b=(a && b):=by rw[Fq]
def Au:Bool→Bool→Bool:=Classical.choose (cN (α:=Bool→Bool→Bool) (fun a b=>(a == b)))
theorem IW:Au=(fun a b=>(a == b)):=Classical.choose_spec (cN (α:=Bool→Bool→Bool) (fun a b=>(a == b)))
theorem Du (a b):Au a b=(a == b):=by rw[IW]
def Cf:Int→Int→Int:=Classical.choose (cN (α:=Int→Int→Int) (fun x y=>if y<x then y else x))
theorem Gf:Cf=(fun x y=>if y<x then y else x):=Classical.choose_spec (cN (α:=Int→Int→Int) (fun x y=>if y<x then y else x))
theorem vq (x y):Cf x y=if y<x then y else x:=by rw[Gf]
def Ce:Int→Int→Int:=Classical.choose (cN (α:=Int→Int→Int) (fun x y=>if y > x then y else x))
theorem Gb:Ce=(fun x y=>if y > x then y else x):=Classical.choose_spec (cN (α:=Int→Int→Int) (fun x y=>if y > x then y else x))
theorem vp (x y):Ce x y=if y > x then y else x:=by rw[Gb]
def c7:Int→Nat→Bool:=Classical.choose (cN (α:=Int→Nat→Bool) (fun (i:Int) (n:Nat)=>decide (0≤i∧i<(n:Int))))
theorem Jd:c7=(fun (i:Int) (n:Nat)=>decide (0≤i∧i<(n:Int))):=Classical.choose_spec (cN (α:=Int→Nat→Bool) (fun (i:Int) (n:Nat)=>decide (0≤i∧i<(n:Int))))
theorem pc (i n):c7 i n=decide (0≤i∧i<(n:Int)):=by rw[Jd]
def mK:Int→Nat→Bool:=Classical.choose (cN (α:=Int→Nat→Bool) (fun (i:Int) (n:Nat)=>decide (0≤i∧i≤(n:Int))))
theorem FA:mK=(fun (i:Int) (n:Nat)=>decide (0≤i∧i≤(n:Int))):=Classical.choose_spec (cN (α:=Int→Nat→Bool) (fun (i:Int) (n:Nat)=>decide (0≤i∧i≤(n:Int))))
theorem Am (i n):mK i n=decide (0≤i∧i≤(n:Int)):=by rw[FA]
def CN:Int→Int→Nat→Bool:=Classical.choose (cN (α:=Int→Int→Nat→Bool) (fun l c b=>decide (0≤l∧l≤c∧c.toNat*b≤room∧c.toNat≤room)))
theorem Js:CN=(fun l c b=>decide (0≤l∧l≤c∧c.toNat*b≤room∧c.toNat≤room)):=Classical.choose_spec (cN (α:=Int→Int→Nat→Bool) (fun l c b=>decide (0≤l∧l≤c∧c.toNat*b≤room∧c.toNat≤room)))
theorem zC (l c b):CN l c b=decide (0≤l∧l≤c∧c.toNat*b≤room∧c.toNat≤room):=by rw[Js]
def b8:Int→Nat:=Classical.choose (cN (α:=Int→Nat) (fun i=>i.toNat))
theorem J4:b8=(fun i=>i.toNat):=Classical.choose_spec (cN (α:=Int→Nat) (fun i=>i.toNat))
theorem lW (i):b8 i=i.toNat:=by rw[J4]
def aM:Nat→Int→Nat→Nat:=Classical.choose (cN (α:=Nat→Int→Nat→Nat) (fun o i s=>o+i.toNat*s))
theorem Jb:aM=(fun o i s=>o+i.toNat*s):=Classical.choose_spec (cN (α:=Nat→Int→Nat→Nat) (fun o i s=>o+i.toNat*s))
theorem cG (o i s):aM o i s=o+i.toNat*s:=by rw[Jb]
def aF:Nat→Nat→Nat:=Classical.choose (cN (α:=Nat→Nat→Nat) (fun a b=>a+b))
theorem Fl:aF=(fun a b=>a+b):=Classical.choose_spec (cN (α:=Nat→Nat→Nat) (fun a b=>a+b))
theorem a6 (a b):aF a b=a+b:=by rw[Fl]
def ff:Nat→Nat→Nat:=Classical.choose (cN (α:=Nat→Nat→Nat) (fun a b=>a-b))
theorem GW:ff=(fun a b=>a-b):=Classical.choose_spec (cN (α:=Nat→Nat→Nat) (fun a b=>a-b))
theorem dT (a b):ff a b=a-b:=by rw[GW]
def aw:Nat→Nat→Nat:=Classical.choose (cN (α:=Nat→Nat→Nat) (fun a b=>a*b))
theorem Gi:aw=(fun a b=>a*b):=Classical.choose_spec (cN (α:=Nat→Nat→Nat) (fun a b=>a*b))
theorem qw (a b):aw a b=a*b:=by rw[Gi]
def Gc:Nat→Nat→Nat:=Classical.choose (cN (α:=Nat→Nat→Nat) (fun a b=>min a b))
theorem Ge:Gc=(fun a b=>min a b):=Classical.choose_spec (cN (α:=Nat→Nat→Nat) (fun a b=>min a b))
theorem AZ (a b):Gc a b=min a b:=by rw[Ge]
def cI:Nat→Nat→Bool:=Classical.choose (cN (α:=Nat→Nat→Bool) (fun a b=>decide (a<b)))
theorem Jp:cI=(fun a b=>decide (a<b)):=Classical.choose_spec (cN (α:=Nat→Nat→Bool) (fun a b=>decide (a<b)))
theorem gO (a b):cI a b=decide (a<b):=by rw[Jp]
def iV:Nat→Nat→Bool:=Classical.choose (cN (α:=Nat→Nat→Bool) (fun a b=>decide (a≤b)))
theorem Jm:iV=(fun a b=>decide (a≤b)):=Classical.choose_spec (cN (α:=Nat→Nat→Bool) (fun a b=>decide (a≤b)))
theorem kr (a b):iV a b=decide (a≤b):=by rw[Jm]
def eO:Nat→Nat→Bool:=Classical.choose (cN (α:=Nat→Nat→Bool) (fun a b=>decide (a=b)))
theorem IY:eO=(fun a b=>decide (a=b)):=Classical.choose_spec (cN (α:=Nat→Nat→Bool) (fun a b=>decide (a=b)))
theorem fC (a b):eO a b=decide (a=b):=by rw[IY]
def mS:Nat→Nat→Nat→Nat→Bool:=Classical.choose (cN (α:=Nat→Nat→Nat→Nat→Bool) (fun o m p n=>decide (p≤o∧o+m≤p+n)))
theorem Jf:mS=(fun o m p n=>decide (p≤o∧o+m≤p+n)):=Classical.choose_spec (cN (α:=Nat→Nat→Nat→Nat→Bool) (fun o m p n=>decide (p≤o∧o+m≤p+n)))
theorem jo (o m p n):mS o m p n=decide (p≤o∧o+m≤p+n):=by rw[Jf]
def IC:(Nat→AV)→IntKind→Nat→Bool→Prop:=Classical.choose (cN (α:=(Nat→AV)→IntKind→Nat→Bool→Prop) (fun f k sz full=>∀ j,∃ z n m,f j=AV.slcT none (Row.M [aq.arr k z n]) sz m full))
theorem Fp:IC=(fun f k sz full=>∀ j,∃ z n m,f j=AV.slcT none (Row.M [aq.arr k z n]) sz m full):=Classical.choose_spec (cN (α:=(Nat→AV)→IntKind→Nat→Bool→Prop) (fun f k sz full=>∀ j,∃ z n m,f j=AV.slcT none (Row.M [aq.arr k z n]) sz m full))
theorem Fo (f k sz full):IC f k sz full=∀ j,∃ z n m,f j=AV.slcT none (Row.M [aq.arr k z n]) sz m full:=by rw[Fp]
def JP:Bool→(Nat→Int)→(Nat→Int)→Nat→Int:=Classical.choose (cN (α:=Bool→(Nat→Int)→(Nat→Int)→Nat→Int) (fun b x y=>cond b x y))
theorem GM:JP=(fun b x y=>cond b x y):=Classical.choose_spec (cN (α:=Bool→(Nat→Int)→(Nat→Int)→Nat→Int) (fun b x y=>cond b x y))
theorem GL (b x y):JP b x y=cond b x y:=by rw[GM]
def GI:Bool→Nat→Nat→Nat:=Classical.choose (cN (α:=Bool→Nat→Nat→Nat) (fun b x y=>cond b x y))
theorem GK:GI=(fun b x y=>cond b x y):=Classical.choose_spec (cN (α:=Bool→Nat→Nat→Nat) (fun b x y=>cond b x y))
theorem GJ (b x y):GI b x y=cond b x y:=by rw[GK]
def jW:Nat→Nat→Nat→Bool:=Classical.choose (cN (α:=Nat→Nat→Nat→Bool) (fun m n b=>decide ((m+n)*b≤room∧m+n≤room)))
theorem EB:jW=(fun m n b=>decide ((m+n)*b≤room∧m+n≤room)):=Classical.choose_spec (cN (α:=Nat→Nat→Nat→Bool) (fun m n b=>decide ((m+n)*b≤room∧m+n≤room)))
theorem xL (m n b):jW m n b=decide ((m+n)*b≤room∧m+n≤room):=by rw[EB]
def ju:(Nat→Int)→Nat→Int→Nat→Int:=Classical.choose (cN (α:=(Nat→Int)→Nat→Int→Nat→Int) (fun z i x=>fun j=>if j=i then x else z j))
theorem qJ:ju=(fun z i x=>fun j=>if j=i then x else z j):=Classical.choose_spec (cN (α:=(Nat→Int)→Nat→Int→Nat→Int) (fun z i x=>fun j=>if j=i then x else z j))
theorem kP (z i x):ju z i x=fun j=>if j=i then x else z j:=by rw[qJ]
def xU:(Nat→Int)→Nat→Nat→Int:=Classical.choose (cN (α:=(Nat→Int)→Nat→Nat→Int) (fun z o=>fun j=>z (o+j)))
theorem lU:xU=(fun z o=>fun j=>z (o+j)):=Classical.choose_spec (cN (α:=(Nat→Int)→Nat→Nat→Int) (fun z o=>fun j=>z (o+j)))
def IP:(Nat→Int)→Nat→(Nat→Int)→Nat→Nat→Int:=Classical.choose (cN (α:=(Nat→Int)→Nat→(Nat→Int)→Nat→Nat→Int) (fun z o z' n=>BR z o z' n))
theorem FI:IP=(fun z o z' n=>BR z o z' n):=Classical.choose_spec (cN (α:=(Nat→Int)→Nat→(Nat→Int)→Nat→Nat→Int) (fun z o z' n=>BR z o z' n))
theorem FH (z o z' n):IP z o z' n=BR z o z' n:=by rw[FI]
def qe:(Nat→Int)→Nat→(Nat→Int)→Nat→Int:=Classical.choose (cN (α:=(Nat→Int)→Nat→(Nat→Int)→Nat→Int) (fun z n z'=>fun i=>if i<n then z i else z' (i-n)))
theorem nB:qe=(fun z n z'=>fun i=>if i<n then z i else z' (i-n)):=Classical.choose_spec (cN (α:=(Nat→Int)→Nat→(Nat→Int)→Nat→Int) (fun z n z'=>fun i=>if i<n then z i else z' (i-n)))
def zw:List Int→Nat:=Classical.choose (cN (α:=List Int→Nat) (fun l=>l.length))
theorem F6:zw=(fun l=>l.length):=Classical.choose_spec (cN (α:=List Int→Nat) (fun l=>l.length))
theorem F5 (l):zw l=l.length:=by rw[F6]
def aX:List Int→Nat→Int:=Classical.choose (cN (α:=List Int→Nat→Int) (fun l=>fun j=>l.getD j 0))
theorem kx:aX=(fun l=>fun j=>l.getD j 0):=Classical.choose_spec (cN (α:=List Int→Nat→Int) (fun l=>fun j=>l.getD j 0))
theorem gp (l):aX l=fun j=>l.getD j 0:=by rw[kx]
def qQ:(Nat→Int)→(Nat→Int)→Nat→Bool:=Classical.choose (cN (α:=(Nat→Int)→(Nat→Int)→Nat→Bool) (fun z z' n=>allEq z z' n))
theorem BJ:qQ=(fun z z' n=>allEq z z' n):=Classical.choose_spec (cN (α:=(Nat→Int)→(Nat→Int)→Nat→Bool) (fun z z' n=>allEq z z' n))
theorem tx (z z' n):qQ z z' n=allEq z z' n:=by rw[BJ]
def lS:(List Int→Bool)→List Int→Bool→List Int→Bool:=Classical.choose (cN (α:=(List Int→Bool)→List Int→Bool→List Int→Bool) (fun h n b=>fc h n b))
theorem EK:lS=(fun h n b=>fc h n b):=Classical.choose_spec (cN (α:=(List Int→Bool)→List Int→Bool→List Int→Bool) (fun h n b=>fc h n b))
theorem gF (h n b):lS h n b=fc h n b:=by rw[EK]
def lT:(List Int→Int)→List Int→Int→List Int→Int:=Classical.choose (cN (α:=(List Int→Int)→List Int→Int→List Int→Int) (fun g n x=>im g n x))
theorem EL:lT=(fun g n x=>im g n x):=Classical.choose_spec (cN (α:=(List Int→Int)→List Int→Int→List Int→Int) (fun g n x=>im g n x))
theorem gG (g n x):lT g n x=im g n x:=by rw[EL]
def pI:Bool→Nat→Nat:=Classical.choose (cN (α:=Bool→Nat→Nat) (fun b c=>sV b c))
theorem Dh:pI=(fun b c=>sV b c):=Classical.choose_spec (cN (α:=Bool→Nat→Nat) (fun b c=>sV b c))
theorem ld (b c):pI b c=sV b c:=by rw[Dh]
def wh:Bool→Nat→Nat:=Classical.choose (cN (α:=Bool→Nat→Nat) (fun b c=>wg b c))
theorem Di:wh=(fun b c=>wg b c):=Classical.choose_spec (cN (α:=Bool→Nat→Nat) (fun b c=>wg b c))
theorem rf (b c):wh b c=wg b c:=by rw[Di]

end
end Go.Eng
end
