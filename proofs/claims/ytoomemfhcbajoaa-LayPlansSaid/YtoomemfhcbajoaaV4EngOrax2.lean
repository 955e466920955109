/- The engine: tables of calls that are known beforehand. -/
import Derived.Test.YtoomemfhcbajoaaV4EngXx3
set_option linter.unusedVariables false
set_option linter.unusedSimpArgs false
section
namespace Go.Eng

def Ub (f:AV→Bool) (r:Row):Bool :=
 match r with
 | .I ..=>true
 | .G l=>l.all f
 | .F ..=>true
 | .M l=>gp l
def re:Nat→AV→Bool
 | 0,_=>false
 | n+1,v=>match v with
   | .undef | .bool _ | .int _ _ | .str _ | .nilp | .nils | .nilm | .nilf=>true
   | .ptrT none _ _=>true
   | .slcT none _ _ _ _=>true
   | .agg r=>Ub (re n) r
   | .tup l=>l.all (re n)
   | .fn _ a b=>a.all (re n) && b.all (re n)
   | _=>false
theorem gn {f:AV→Bool}:∀ {l:List AV} {j:Nat},l.all f=true→j<l.length→f (l.getD j .undef)=true
 | [],j,_,h=>by simp at h
 | x::l,0,h,_=>by simp at h;simpa using h.1
 | x::l,j+1,h,hj=>by
   simp only[List.all_cons,Bool.and_eq_true] at h
   rw[List.getD_cons_succ]
   exact gn h.2 (by simpa using hj)
theorem m4 {p:aK} {M N:Mu}:∀ (n:Nat) {v:AV} {c:Value},re n v=true→aj p M v c→aj p N v c
 | 0,v,c,h,_=>by simp[re] at h
 | n + 1,v,c,h,hv=>by
   have ih:=@m4 p M N n
   cases hv with
   | undef c=>exact .undef c
   | bool b=>exact .bool b
   | int k n=>exact .int k n
   | str s=>exact .str s
   | nilp=>exact .nilp
   | nils=>exact .nils
   | nilm=>exact .nilm
   | nilf=>exact .nilf
   | ptr h0=>simp[re] at h
   | slc h0=>simp[re] at h
   | map h0=>simp[re] at h
   | yld h0=>simp[re] at h
   | ptrT vs h0 h1 hv =>
     rename_i s r off b o
     cases s with
     | some s=>simp[re] at h
     | none=>exact .ptrT vs h0 h1 hv
   | slcT vs h0 h1 hv hl hf hx =>
     rename_i s r sz len b o x cc full
     cases s with
     | some s=>simp[re] at h
     | none=>exact .slcT vs h0 h1 hv hl hf hx
   | slcN=>exact .slcN
   | fn ha hb va vb =>
     simp only[re,Bool.and_eq_true] at h
     exact .fn ha hb (fun j hj=>ih (gn h.1 hj) (va j hj)) (fun j hj=>ih (gn h.2 hj) (vb j hj))
   | agg hs h1 hv =>
     rename_i r cs
     simp only[re] at h
     cases r with
     | I k l=>exact .agg hs h1 (fun j hj=>(hv j hj).bE _ _)
     | F f m=>exact .agg hs h1 hv
     | M l=>exact .agg hs h1 (aZ.gp h hv)
     | G l=>exact .agg hs h1 (fun j hj=>ih (gn (f:=re n) h hj) (hv j hj))
   | tup hs hv =>
     simp only[re] at h
     exact .tup hs (fun j hj=>ih (gn h hj) (hv j hj))

structure gl where
 f:FuncId
 args:List AV
 v:AV
def bz (P:Program) (e:gl):Prop:=∀ (H:aa),H≠[]→∀ (p:aK) (M:Mu) (w:World) (cargs:Array Value),ba p M H w→ja p M e.args cargs →
 (∃ fn,P.funcs[e.f]?=some fn∧fn.body.isNone=false)∧CallsIn Fence.wide 0 P e.f cargs w (pK p M H w e.v H)

theorem zI {P:Program} {call:aY} (hC:cB P call) {e:gl} {H':aa} (h:call (.fn e.f) e.args [⟨true,[]⟩]=some (e.v,H')) (hn:e.args.all (re 9)=true):bz P e:=by
 intro H hne p M w cargs hH hA
 have hH0:ba p Mu.no [⟨true,[]⟩] w:=⟨hH.pers,(fun d i v B hg hB=>by
  cases d<;>simp[av,aq] at hg<;>exact absurd hg.2.symm hB),(fun d i v B d' i' v' B' b o t o' t' hg hB hg' hB' hm hm'=>by cases hm),(fun d i v t hm=>by cases hm)⟩
 have hA0:ja p Mu.no e.args cargs:=⟨hA.1,fun j hj=>m4 9 (gn hn hj) (hA.2 j hj)⟩
 obtain ⟨h1,h2⟩:=hC (.fn e.f) e.args _ e.v H' h (by simp) p Mu.no w cargs hH0 hA0
 refine ⟨h1,h2.mono ?_⟩
 rintro en w' ⟨cv,rfl,st,p',M',hE,hv⟩
 have hM:Mu.le M' M:=fun d i v t hm=>by
  have h3:=(hE.rel.dom d i v t hm).1
  have h4:aw [⟨true,[]⟩] d=true:=by cases d<;>rfl
  rw[st.next d h4] at h3
  cases d<;>simp[ak] at h3
 have all:∀ b,Go.Eng.bf Mu.no [⟨true,[]⟩] b:=fun b d i u B _ _ _ o t hm=>by cases hm
 have no:∀ {b:Nat},¬ (aw [⟨true,[]⟩] 0=false∧∃ i u o' t',Mu.no 0 i u=some (b,o',t')):=fun h=>by have:=h.1;cases this
 refine ⟨cv,rfl,Still.refl H,p',M,{ b5.refl hH with pst:=hE.pst,rel:=⟨hE.rel.pers,?_,hH.apart,hH.dom⟩,stay:=hE.stay.weaken (fun b _ _=>all b),fresh:=fun b o v hv=>(hE.fresh b o v hv).imp_right fun h=>h.elim .inl fun h=>(no h).elim },hv.mono (aK.le.refl _) hM⟩
 intro d i u B hg hB
 obtain ⟨b,o,t,k1,k2,k3⟩:=hH.live d i u B hg hB
 have hlt:=k2.lt hB
 refine ⟨b,o,t,k1,k2.mono hE.pst (Mu.le.refl _) (hE.stay.block b hlt (all b)),fun x=>?_⟩
 cases hx:p' b x with
 | none=>rfl
 | some y =>
   rcases hE.fresh b x y hx with h | h | ⟨h,_⟩
   · rw[k3] at h;cases h
   · omega
   · cases h

noncomputable def uB (f:AV→AV→Bool) (r s:Row):Bool :=
 match r,s with
 | .I k l,.I k' l'=>gM k k' && listEqI l l'
 | .G l,.G l'=>listEqV f l l'
 | _,_=>false
where
 listEqI:List Int→List Int→Bool
  | [],[]=>true
  | x::a,y::b=>GO x y && listEqI a b
  | _,_=>false
 listEqV (f:AV→AV→Bool):List AV→List AV→Bool
  | [],[]=>true
  | x::a,y::b=>f x y && listEqV f a b
  | _,_=>false
def A5:Option Nat→Option Nat→Bool
 | none,none=>true
 | some a,some b=>Nat.beq a b
 | _,_=>false
noncomputable def J1:Nat→AV→AV→Bool
 | 0,_,_=>false
 | n+1,v,u=>match v,u with
   | .bool a,.bool b=>a == b
   | .int k a,.int k' b=>gM k k' && GO a b
   | .nilp,.nilp=>true
   | .nils,.nils=>true
   | .nilm,.nilm=>true
   | .ptrT s r o,.ptrT s' r' o'=>A5 s s' && (uB (J1 n) r r' && Nat.beq o o')
   | .slcT s r z l b,.slcT s' r' z' l' b'=>A5 s s' && (uB (J1 n) r r' && (Nat.beq z z' && (Nat.beq l l' && b == b')))
   | .agg r,.agg r'=>uB (J1 n) r r'
   | _,_=>false
theorem sZ:∀ (l m:List Int),uB.listEqI l m=true→l=m
 | [],[],_=>rfl
 | [],_::_,h=>by simp[uB.listEqI] at h
 | _::_,[],h=>by simp[uB.listEqI] at h
 | x::a,y::b,h=>by
   simp only[uB.listEqI,Bool.and_eq_true,wJ,beq_iff_eq] at h
   rw[h.1,sZ a b h.2]
theorem gZ {f:AV→AV→Bool} (hf:∀ x y,f x y=true→x=y):∀ (l m:List AV),uB.listEqV f l m=true→l=m
 | [],[],_=>rfl
 | [],_::_,h=>by simp[uB.listEqV] at h
 | _::_,[],h=>by simp[uB.listEqV] at h
 | x::a,y::b,h=>by
   simp only[uB.listEqV,Bool.and_eq_true] at h
   rw[hf _ _ h.1,gZ hf a b h.2]
theorem nJ {f:AV→AV→Bool} (hf:∀ x y,f x y=true→x=y) (r s:Row) (h:uB f r s=true):r=s:=by
 cases r<;>cases s<;>simp only[uB,Bool.and_eq_true,eV,decide_eq_true_eq] at h<;>try (simp at h;done)
 · rw[h.1,sZ _ _ h.2]
 · rw[gZ hf _ _ h]
theorem oM (a b:Option Nat) (h:A5 a b=true):a=b:=by
 cases a<;>cases b<;>simp[A5] at h ⊢;exact h
theorem Fj:∀ (n:Nat) (x y:AV),J1 n x y=true→x=y
 | 0,x,y,h=>by simp[J1] at h
 | n+1,x,y,h=>by
   have ih:=Fj n
   cases x<;>cases y<;>simp only[J1,Bool.and_eq_true,eV,wJ,decide_eq_true_eq,beq_iff_eq] at h<;>try (first | rfl | (simp at h;done))
   case bool.bool=>rw[h]
   case int.int=>rw[h.1,h.2]
   case ptrT.ptrT=>rw[oM _ _ h.1,nJ ih _ _ h.2.1,Nat.eq_of_beq_eq_true h.2.2]
   case slcT.slcT=>rw[oM _ _ h.1,nJ ih _ _ h.2.1,Nat.eq_of_beq_eq_true h.2.2.1,Nat.eq_of_beq_eq_true h.2.2.2.1,h.2.2.2.2]
   case agg.agg=>rw[nJ ih _ _ h]

noncomputable def Bq:List gl→aY→FuncId→List AV→aa→Option (AV×aa)
 | [],_,_,_,_=>none
 | e::r,c,f,args,H=>if Nat.beq e.f f && uB.listEqV (J1 9) e.args args then some (e.v,H) else Bq r c f args H
theorem xk {P:Program}:∀ (tab:List gl),(∀ e ∈ tab,bz P e)→uY P (Bq tab)
 | [],_=>fun call _ f args H v H' h=>by simp[Bq] at h
 | e :: r,hT=>fun call hC f args H v H' h=>by
   simp only[Bq] at h
   split at h
   · rename_i hc
     simp only[Bool.and_eq_true] at hc
     have e1:=Nat.eq_of_beq_eq_true hc.1
     have e2:=gZ (Fj 9) _ _ hc.2
     have e3:=Option.some.inj h
     simp only[Prod.mk.injEq] at e3
     obtain ⟨e3,e4⟩:=e3
     subst e1;subst e2;subst e3;subst e4
     exact hT e (by simp) H
   · exact xk r (fun e' he=>hT e' (List.mem_cons_of_mem _ he)) call hC f args H v H' h

end Go.Eng
end
section
namespace Go.Eng
noncomputable section

inductive Tr (α:Type) where
 | ok (a:α)
 | bad
 | ite (c:Bool) (t e:Tr α)
 | req (c:Bool) (t:Tr α)
 | reqP (p:Prop) (t:Tr α)
open Classical in
def Tr.run {α:Type}:Tr α→Option α
 | .ok a=>some a
 | .bad=>none
 | .ite c t e=>cond c t.run e.run
 | .req c t=>cond c t.run none
 | .reqP p t=>if p then t.run else none
def Tr.bind {α β:Type} (t:Tr α) (f:α→Tr β):Tr β:=Tr.rec (motive:=fun _=>Tr β) f .bad (fun c _ _ a b=>.ite c a b) (fun c _ a=>.req c a) (fun p _ a=>.reqP p a) t
theorem Tr.EM {α β:Type} (t:Tr α) (f:α→Tr β):(t.bind f).run=t.run.bind fun a=>(f a).run:=by
 induction t with
 | ok a=>rfl
 | bad=>rfl
 | ite c a b iha ihb =>
   have e:(Tr.ite c a b).bind f=.ite c (a.bind f) (b.bind f):=rfl
   rw[e];simp only[Tr.run,iha,ihb];cases c<;>rfl
 | req c a ih =>
   have e:(Tr.req c a).bind f=.req c (a.bind f):=rfl
   rw[e];simp only[Tr.run,ih];cases c<;>rfl
 | reqP p a ih =>
   have e:(Tr.reqP p a).bind f=.reqP p (a.bind f):=rfl
   rw[e];simp only[Tr.run,ih]
   by_cases hp:p
   · rw[if_pos hp,if_pos hp]
   · rw[if_neg hp,if_neg hp];rfl
theorem Tr.dm {α:Type} {p:Prop} {t:Tr α} {x:α} (h:(Tr.reqP p t).run=some x):p∧t.run=some x:=by
 simp only[Tr.run] at h
 by_cases hp:p
 · rw[if_pos hp] at h;exact ⟨hp,h⟩
 · rw[if_neg hp] at h;cases h
theorem Tr.Gt {α:Type} {p:Prop} {a:Tr α} (h:p):(Tr.reqP p a).run=a.run:=by simp only[Tr.run];rw[if_pos h]
theorem Tr.bind_some {α β:Type} {t:Tr α} {f:α→Tr β} {y:β} (h:(t.bind f).run=some y):∃ x,t.run=some x∧(f x).run=some y:=by
 rw[Tr.EM] at h
 exact Option.bind_eq_some_iff.1 h
theorem Tr.aS {α:Type} {c:Bool} {t:Tr α} {x:α} (h:(Tr.req c t).run=some x):c=true∧t.run=some x:=by
 cases c with
 | true=>exact ⟨rfl,h⟩
 | false=>simp[Tr.run] at h
theorem Tr.iu {α:Type} {c:Bool} {t e:Tr α} {x:α} (h:(Tr.ite c t e).run=some x):(c=true∧t.run=some x)∨(c=false∧e.run=some x):=by
 cases c with
 | true=>exact .inl ⟨rfl,h⟩
 | false=>exact .inr ⟨rfl,h⟩
theorem Tr.ab {α:Type} {a x:α} (h:(Tr.ok a).run=some x):a=x:=Option.some.inj h
theorem Tr.ae {α:Type} {x:α} (h:(Tr.bad:Tr α).run=some x):False:=by simp[Tr.run] at h
def vV {α:Type} (o:Option α):Tr α:=Option.rec (motive:=fun _=>Tr α) .bad .ok o
theorem c6 {α:Type} (o:Option α):(vV o).run=o:=by cases o<;>rfl
theorem c8 {α:Type} (f:α):∃ g,g=f:=⟨f,rfl⟩

def bu:IntKind→Int→Int→Int:=Classical.choose (c8 (α:=IntKind→Int→Int→Int) (fun k x y=>k.wrap (x+y)))
theorem GS:bu=(fun k x y=>k.wrap (x+y)):=Classical.choose_spec (c8 (α:=IntKind→Int→Int→Int) (fun k x y=>k.wrap (x+y)))
theorem jA (k x y):bu k x y=k.wrap (x+y):=by rw[GS]
def bC:IntKind→Int→Int→Int:=Classical.choose (c8 (α:=IntKind→Int→Int→Int) (fun k x y=>k.wrap (x-y)))
theorem IB:bC=(fun k x y=>k.wrap (x-y)):=Classical.choose_spec (c8 (α:=IntKind→Int→Int→Int) (fun k x y=>k.wrap (x-y)))
theorem m8 (k x y):bC k x y=k.wrap (x-y):=by rw[IB]
def zy:IntKind→Int→Int→Int:=Classical.choose (c8 (α:=IntKind→Int→Int→Int) (fun k x y=>k.wrap (x*y)))
theorem HT:zy=(fun k x y=>k.wrap (x*y)):=Classical.choose_spec (c8 (α:=IntKind→Int→Int→Int) (fun k x y=>k.wrap (x*y)))
theorem mZ (k x y):zy k x y=k.wrap (x*y):=by rw[HT]
def KN:IntKind→Int→Int→Int:=Classical.choose (c8 (α:=IntKind→Int→Int→Int) (fun k x y=>k.wrap (x.tdiv y)))
theorem Ij:KN=(fun k x y=>k.wrap (x.tdiv y)):=Classical.choose_spec (c8 (α:=IntKind→Int→Int→Int) (fun k x y=>k.wrap (x.tdiv y)))
theorem Ii (k x y):KN k x y=k.wrap (x.tdiv y):=by rw[Ij]
def KU:IntKind→Int→Int→Int:=Classical.choose (c8 (α:=IntKind→Int→Int→Int) (fun k x y=>x.tmod y))
theorem Io:KU=(fun k x y=>x.tmod y):=Classical.choose_spec (c8 (α:=IntKind→Int→Int→Int) (fun k x y=>x.tmod y))
theorem Im (k x y):KU k x y=x.tmod y:=by rw[Io]
def JM:IntKind→Int→Int→Int:=Classical.choose (c8 (α:=IntKind→Int→Int→Int) (fun k x y=>k.wrap (BitVec.ofInt k.bits x &&& BitVec.ofInt k.bits y).toNat))
theorem GX:JM=(fun k x y=>k.wrap (BitVec.ofInt k.bits x &&& BitVec.ofInt k.bits y).toNat):=Classical.choose_spec (c8 (α:=IntKind→Int→Int→Int) (fun k x y=>k.wrap (BitVec.ofInt k.bits x &&& BitVec.ofInt k.bits y).toNat))
theorem wu (k x y):JM k x y=k.wrap (BitVec.ofInt k.bits x &&& BitVec.ofInt k.bits y).toNat:=by rw[GX]
def PI:IntKind→Int→Int→Int:=Classical.choose (c8 (α:=IntKind→Int→Int→Int) (fun k x y=>k.wrap (BitVec.ofInt k.bits x ||| BitVec.ofInt k.bits y).toNat))
theorem KD:PI=(fun k x y=>k.wrap (BitVec.ofInt k.bits x ||| BitVec.ofInt k.bits y).toNat):=Classical.choose_spec (c8 (α:=IntKind→Int→Int→Int) (fun k x y=>k.wrap (BitVec.ofInt k.bits x ||| BitVec.ofInt k.bits y).toNat))
theorem Bp (k x y):PI k x y=k.wrap (BitVec.ofInt k.bits x ||| BitVec.ofInt k.bits y).toNat:=by rw[KD]
def Lh:IntKind→Int→Int→Int:=Classical.choose (c8 (α:=IntKind→Int→Int→Int) (fun k x y=>k.wrap (BitVec.ofInt k.bits x ^^^ BitVec.ofInt k.bits y).toNat))
theorem IK:Lh=(fun k x y=>k.wrap (BitVec.ofInt k.bits x ^^^ BitVec.ofInt k.bits y).toNat):=Classical.choose_spec (c8 (α:=IntKind→Int→Int→Int) (fun k x y=>k.wrap (BitVec.ofInt k.bits x ^^^ BitVec.ofInt k.bits y).toNat))
theorem xX (k x y):Lh k x y=k.wrap (BitVec.ofInt k.bits x ^^^ BitVec.ofInt k.bits y).toNat:=by rw[IK]
def N5:IntKind→Int→Int→Int:=Classical.choose (c8 (α:=IntKind→Int→Int→Int) (fun k x y=>k.wrap (BitVec.ofInt k.bits x &&& ~~~(BitVec.ofInt k.bits y)).toNat))
theorem JJ:N5=(fun k x y=>k.wrap (BitVec.ofInt k.bits x &&& ~~~(BitVec.ofInt k.bits y)).toNat):=Classical.choose_spec (c8 (α:=IntKind→Int→Int→Int) (fun k x y=>k.wrap (BitVec.ofInt k.bits x &&& ~~~(BitVec.ofInt k.bits y)).toNat))
theorem AK (k x y):N5 k x y=k.wrap (BitVec.ofInt k.bits x &&& ~~~(BitVec.ofInt k.bits y)).toNat:=by rw[JJ]
def KY:IntKind→Int→Int→Int:=Classical.choose (c8 (α:=IntKind→Int→Int→Int) (fun k x y=>k.wrap (x*2 ^ (min y.toNat k.bits))))
theorem Iw:KY=(fun k x y=>k.wrap (x*2 ^ (min y.toNat k.bits))):=Classical.choose_spec (c8 (α:=IntKind→Int→Int→Int) (fun k x y=>k.wrap (x*2 ^ (min y.toNat k.bits))))
theorem Iv (k x y):KY k x y=k.wrap (x*2 ^ (min y.toNat k.bits)):=by rw[Iw]
def KZ:IntKind→Int→Int→Int:=Classical.choose (c8 (α:=IntKind→Int→Int→Int) (fun k x y=>x.fdiv (2 ^ (min y.toNat k.bits))))
theorem Iy:KZ=(fun k x y=>x.fdiv (2 ^ (min y.toNat k.bits))):=Classical.choose_spec (c8 (α:=IntKind→Int→Int→Int) (fun k x y=>x.fdiv (2 ^ (min y.toNat k.bits))))
theorem Ix (k x y):KZ k x y=x.fdiv (2 ^ (min y.toNat k.bits)):=by rw[Iy]
def NR:IntKind→Int→Int:=Classical.choose (c8 (α:=IntKind→Int→Int) (fun k x=>k.wrap x))
theorem Lg:NR=(fun k x=>k.wrap x):=Classical.choose_spec (c8 (α:=IntKind→Int→Int) (fun k x=>k.wrap x))
theorem GJ (k x):NR k x=k.wrap x:=by rw[Lg]
def Kz:IntKind→Int→Int:=Classical.choose (c8 (α:=IntKind→Int→Int) (fun k x=>k.wrap (0-x)))
theorem H4:Kz=(fun k x=>k.wrap (0-x)):=Classical.choose_spec (c8 (α:=IntKind→Int→Int) (fun k x=>k.wrap (0-x)))
theorem H3 (k x):Kz k x=k.wrap (0-x):=by rw[H4]
def cw:Int→Int→Bool:=Classical.choose (c8 (α:=Int→Int→Bool) (fun x y=>(x == y)))
theorem J4:cw=(fun x y=>(x == y)):=Classical.choose_spec (c8 (α:=Int→Int→Bool) (fun x y=>(x == y)))
theorem jb (x y):cw x y=(x == y):=by rw[J4]
def bT:Int→Int→Bool:=Classical.choose (c8 (α:=Int→Int→Bool) (fun x y=>decide (x<y)))
theorem Kv:bT=(fun x y=>decide (x<y)):=Classical.choose_spec (c8 (α:=Int→Int→Bool) (fun x y=>decide (x<y)))
theorem dj (x y):bT x y=decide (x<y):=by rw[Kv]
def lU:Int→Int→Bool:=Classical.choose (c8 (α:=Int→Int→Bool) (fun x y=>decide (x≤y)))
theorem Kn:lU=(fun x y=>decide (x≤y)):=Classical.choose_spec (c8 (α:=Int→Int→Bool) (fun x y=>decide (x≤y)))
theorem ml (x y):lU x y=decide (x≤y):=by rw[Kn]
def aQ:Bool→Bool:=Classical.choose (c8 (α:=Bool→Bool) (fun b=>(!b)))
theorem H6:aQ=(fun b=>(!b)):=Classical.choose_spec (c8 (α:=Bool→Bool) (fun b=>(!b)))
theorem ia (b):aQ b=(!b):=by rw[H6]
def jZ:Bool→Bool→Bool:=Classical.choose (c8 (α:=Bool→Bool→Bool) (fun a b=>(a && b)))
theorem GW:jZ=(fun a b=>(a && b)):=Classical.choose_spec (c8 (α:=Bool→Bool→Bool) (fun a b=>(a && b)))
theorem ou (a b):jZ a b=(a && b):=by rw[GW]
def Ow:Bool→Bool→Bool:=Classical.choose (c8 (α:=Bool→Bool→Bool) (fun a b=>(a == b)))
theorem J3:Ow=(fun a b=>(a == b)):=Classical.choose_spec (c8 (α:=Bool→Bool→Bool) (fun a b=>(a == b)))
theorem J2 (a b):Ow a b=(a == b):=by rw[J3]
def jv:Int→Int→Int:=Classical.choose (c8 (α:=Int→Int→Int) (fun x y=>if y<x then y else x))
theorem HS:jv=(fun x y=>if y<x then y else x):=Classical.choose_spec (c8 (α:=Int→Int→Int) (fun x y=>if y<x then y else x))
theorem CA (x y):jv x y=if y<x then y else x:=by rw[HS]
def FY:Int→Int→Int:=Classical.choose (c8 (α:=Int→Int→Int) (fun x y=>if y > x then y else x))
theorem HQ:FY=(fun x y=>if y > x then y else x):=Classical.choose_spec (c8 (α:=Int→Int→Int) (fun x y=>if y > x then y else x))
theorem Cz (x y):FY x y=if y > x then y else x:=by rw[HQ]
def b8:Int→Nat→Bool:=Classical.choose (c8 (α:=Int→Nat→Bool) (fun (i:Int) (n:Nat)=>decide (0≤i∧i<(n:Int))))
theorem Kf:b8=(fun (i:Int) (n:Nat)=>decide (0≤i∧i<(n:Int))):=Classical.choose_spec (c8 (α:=Int→Nat→Bool) (fun (i:Int) (n:Nat)=>decide (0≤i∧i<(n:Int))))
theorem qh (i n):b8 i n=decide (0≤i∧i<(n:Int)):=by rw[Kf]
def nh:Int→Nat→Bool:=Classical.choose (c8 (α:=Int→Nat→Bool) (fun (i:Int) (n:Nat)=>decide (0≤i∧i≤(n:Int))))
theorem G5:nh=(fun (i:Int) (n:Nat)=>decide (0≤i∧i≤(n:Int))):=Classical.choose_spec (c8 (α:=Int→Nat→Bool) (fun (i:Int) (n:Nat)=>decide (0≤i∧i≤(n:Int))))
theorem BT (i n):nh i n=decide (0≤i∧i≤(n:Int)):=by rw[G5]
def DW:Int→Int→Nat→Bool:=Classical.choose (c8 (α:=Int→Int→Nat→Bool) (fun l c b=>decide (0≤l∧l≤c∧c.toNat*b≤room∧c.toNat≤room)))
theorem Kx:DW=(fun l c b=>decide (0≤l∧l≤c∧c.toNat*b≤room∧c.toNat≤room)):=Classical.choose_spec (c8 (α:=Int→Int→Nat→Bool) (fun l c b=>decide (0≤l∧l≤c∧c.toNat*b≤room∧c.toNat≤room)))
theorem xh (l c b):DW l c b=decide (0≤l∧l≤c∧c.toNat*b≤room∧c.toNat≤room):=by rw[Kx]
def dD:Int→Nat:=Classical.choose (c8 (α:=Int→Nat) (fun i=>i.toNat))
theorem La:dD=(fun i=>i.toNat):=Classical.choose_spec (c8 (α:=Int→Nat) (fun i=>i.toNat))
theorem mK (i):dD i=i.toNat:=by rw[La]
def an:Nat→Int→Nat→Nat:=Classical.choose (c8 (α:=Nat→Int→Nat→Nat) (fun o i s=>o+i.toNat*s))
theorem Kc:an=(fun o i s=>o+i.toNat*s):=Classical.choose_spec (c8 (α:=Nat→Int→Nat→Nat) (fun o i s=>o+i.toNat*s))
theorem kX (o i s):an o i s=o+i.toNat*s:=by rw[Kc]
def bN:Nat→Nat→Nat:=Classical.choose (c8 (α:=Nat→Nat→Nat) (fun a b=>a+b))
theorem GU:bN=(fun a b=>a+b):=Classical.choose_spec (c8 (α:=Nat→Nat→Nat) (fun a b=>a+b))
theorem bF (a b):bN a b=a+b:=by rw[GU]
def ub:Nat→Nat→Nat:=Classical.choose (c8 (α:=Nat→Nat→Nat) (fun a b=>a-b))
theorem ID:ub=(fun a b=>a-b):=Classical.choose_spec (c8 (α:=Nat→Nat→Nat) (fun a b=>a-b))
theorem ly (a b):ub a b=a-b:=by rw[ID]
def HU:Nat→Nat→Nat:=Classical.choose (c8 (α:=Nat→Nat→Nat) (fun a b=>a*b))
theorem HW:HU=(fun a b=>a*b):=Classical.choose_spec (c8 (α:=Nat→Nat→Nat) (fun a b=>a*b))
theorem CD (a b):HU a b=a*b:=by rw[HW]
def qu:Nat→Nat→Nat:=Classical.choose (c8 (α:=Nat→Nat→Nat) (fun a b=>min a b))
theorem HR:qu=(fun a b=>min a b):=Classical.choose_spec (c8 (α:=Nat→Nat→Nat) (fun a b=>min a b))
theorem pj (a b):qu a b=min a b:=by rw[HR]
def bV:Nat→Nat→Bool:=Classical.choose (c8 (α:=Nat→Nat→Bool) (fun a b=>decide (a<b)))
theorem Kw:bV=(fun a b=>decide (a<b)):=Classical.choose_spec (c8 (α:=Nat→Nat→Bool) (fun a b=>decide (a<b)))
theorem gz (a b):bV a b=decide (a<b):=by rw[Kw]
def gH:Nat→Nat→Bool:=Classical.choose (c8 (α:=Nat→Nat→Bool) (fun a b=>decide (a≤b)))
theorem Ko:gH=(fun a b=>decide (a≤b)):=Classical.choose_spec (c8 (α:=Nat→Nat→Bool) (fun a b=>decide (a≤b)))
theorem kZ (a b):gH a b=decide (a≤b):=by rw[Ko]
def b6:Nat→Nat→Bool:=Classical.choose (c8 (α:=Nat→Nat→Bool) (fun a b=>decide (a=b)))
theorem J5:b6=(fun a b=>decide (a=b)):=Classical.choose_spec (c8 (α:=Nat→Nat→Bool) (fun a b=>decide (a=b)))
theorem gr (a b):b6 a b=decide (a=b):=by rw[J5]
def ga:Nat→Nat→Nat→Nat→Bool:=Classical.choose (c8 (α:=Nat→Nat→Nat→Nat→Bool) (fun o m p n=>decide (p≤o∧o+m≤p+n)))
theorem Kg:ga=(fun o m p n=>decide (p≤o∧o+m≤p+n)):=Classical.choose_spec (c8 (α:=Nat→Nat→Nat→Nat→Bool) (fun o m p n=>decide (p≤o∧o+m≤p+n)))
theorem gV (o m p n):ga o m p n=decide (p≤o∧o+m≤p+n):=by rw[Kg]
def EA:(Nat→AV)→IntKind→Nat→Bool→Prop:=Classical.choose (c8 (α:=(Nat→AV)→IntKind→Nat→Bool→Prop) (fun f k sz full=>∀ j,∃ z n m,f j=AV.slcT none (Row.M [ah.arr k z n]) sz m full))
theorem GV:EA=(fun f k sz full=>∀ j,∃ z n m,f j=AV.slcT none (Row.M [ah.arr k z n]) sz m full):=Classical.choose_spec (c8 (α:=(Nat→AV)→IntKind→Nat→Bool→Prop) (fun f k sz full=>∀ j,∃ z n m,f j=AV.slcT none (Row.M [ah.arr k z n]) sz m full))
theorem BN (f k sz full):EA f k sz full=∀ j,∃ z n m,f j=AV.slcT none (Row.M [ah.arr k z n]) sz m full:=by rw[GV]
def Is:Bool→(Nat→Int)→(Nat→Int)→Nat→Int:=Classical.choose (c8 (α:=Bool→(Nat→Int)→(Nat→Int)→Nat→Int) (fun b x y=>cond b x y))
theorem It:Is=(fun b x y=>cond b x y):=Classical.choose_spec (c8 (α:=Bool→(Nat→Int)→(Nat→Int)→Nat→Int) (fun b x y=>cond b x y))
theorem xO (b x y):Is b x y=cond b x y:=by rw[It]
def Ef:Bool→Nat→Nat→Nat:=Classical.choose (c8 (α:=Bool→Nat→Nat→Nat) (fun b x y=>cond b x y))
theorem Ir:Ef=(fun b x y=>cond b x y):=Classical.choose_spec (c8 (α:=Bool→Nat→Nat→Nat) (fun b x y=>cond b x y))
theorem xN (b x y):Ef b x y=cond b x y:=by rw[Ir]
def eD:Nat→Nat→Nat→Bool:=Classical.choose (c8 (α:=Nat→Nat→Nat→Bool) (fun m n b=>decide ((m+n)*b≤room∧m+n≤room)))
theorem Gn:eD=(fun m n b=>decide ((m+n)*b≤room∧m+n≤room)):=Classical.choose_spec (c8 (α:=Nat→Nat→Nat→Bool) (fun m n b=>decide ((m+n)*b≤room∧m+n≤room)))
theorem z8 (m n b):eD m n b=decide ((m+n)*b≤room∧m+n≤room):=by rw[Gn]
def fT:(Nat→Int)→Nat→Int→Nat→Int:=Classical.choose (c8 (α:=(Nat→Int)→Nat→Int→Nat→Int) (fun z i x=>fun j=>if j=i then x else z j))
theorem ib:fT=(fun z i x=>fun j=>if j=i then x else z j):=Classical.choose_spec (c8 (α:=(Nat→Int)→Nat→Int→Nat→Int) (fun z i x=>fun j=>if j=i then x else z j))
def dC:(Nat→Int)→Nat→Nat→Int:=Classical.choose (c8 (α:=(Nat→Int)→Nat→Nat→Int) (fun z o=>fun j=>z (o+j)))
theorem mJ:dC=(fun z o=>fun j=>z (o+j)):=Classical.choose_spec (c8 (α:=(Nat→Int)→Nat→Nat→Int) (fun z o=>fun j=>z (o+j)))
def dT:(Nat→Int)→Nat→(Nat→Int)→Nat→Nat→Int:=Classical.choose (c8 (α:=(Nat→Int)→Nat→(Nat→Int)→Nat→Nat→Int) (fun z o z' n=>Dx z o z' n))
theorem oH:dT=(fun z o z' n=>Dx z o z' n):=Classical.choose_spec (c8 (α:=(Nat→Int)→Nat→(Nat→Int)→Nat→Nat→Int) (fun z o z' n=>Dx z o z' n))
theorem Hc (z o z' n):dT z o z' n=Dx z o z' n:=by rw[oH]
def kI:(Nat→Int)→Nat→(Nat→Int)→Nat→Int:=Classical.choose (c8 (α:=(Nat→Int)→Nat→(Nat→Int)→Nat→Int) (fun z n z'=>fun i=>if i<n then z i else z' (i-n)))
theorem rM:kI=(fun z n z'=>fun i=>if i<n then z i else z' (i-n)):=Classical.choose_spec (c8 (α:=(Nat→Int)→Nat→(Nat→Int)→Nat→Int) (fun z n z'=>fun i=>if i<n then z i else z' (i-n)))
def Kr:List Int→Nat:=Classical.choose (c8 (α:=List Int→Nat) (fun l=>l.length))
theorem HJ:Kr=(fun l=>l.length):=Classical.choose_spec (c8 (α:=List Int→Nat) (fun l=>l.length))
theorem HI (l):Kr l=l.length:=by rw[HJ]
def au:List Int→Nat→Int:=Classical.choose (c8 (α:=List Int→Nat→Int) (fun l=>fun j=>l.getD j 0))
theorem iS:au=(fun l=>fun j=>l.getD j 0):=Classical.choose_spec (c8 (α:=List Int→Nat→Int) (fun l=>fun j=>l.getD j 0))
theorem Cs (l):au l=fun j=>l.getD j 0:=by rw[iS]
def nF:(Nat→Int)→(Nat→Int)→Nat→Bool:=Classical.choose (c8 (α:=(Nat→Int)→(Nat→Int)→Nat→Bool) (fun z z' n=>allEq z z' n))
theorem Dk:nF=(fun z z' n=>allEq z z' n):=Classical.choose_spec (c8 (α:=(Nat→Int)→(Nat→Int)→Nat→Bool) (fun z z' n=>allEq z z' n))
theorem u9 (z z' n):nF z z' n=allEq z z' n:=by rw[Dk]
def mG:(List Int→Bool)→List Int→Bool→List Int→Bool:=Classical.choose (c8 (α:=(List Int→Bool)→List Int→Bool→List Int→Bool) (fun h n b=>iB h n b))
theorem mH:mG=(fun h n b=>iB h n b):=Classical.choose_spec (c8 (α:=(List Int→Bool)→List Int→Bool→List Int→Bool) (fun h n b=>iB h n b))
theorem z9 (h n b):mG h n b=iB h n b:=by rw[mH]
def mI:(List Int→Int)→List Int→Int→List Int→Int:=Classical.choose (c8 (α:=(List Int→Int)→List Int→Int→List Int→Int) (fun g n x=>lu g n x))
theorem tS:mI=(fun g n x=>lu g n x):=Classical.choose_spec (c8 (α:=(List Int→Int)→List Int→Int→List Int→Int) (fun g n x=>lu g n x))
theorem Ad (g n x):mI g n x=lu g n x:=by rw[tS]
def su:Bool→Nat→Nat:=Classical.choose (c8 (α:=Bool→Nat→Nat) (fun b c=>yg b c))
theorem EX:su=(fun b c=>yg b c):=Classical.choose_spec (c8 (α:=Bool→Nat→Nat) (fun b c=>yg b c))
theorem yh (b c):su b c=yg b c:=by rw[EX]
def vm:Bool→Nat→Nat:=Classical.choose (c8 (α:=Bool→Nat→Nat) (fun b c=>Dw b c))
theorem EY:vm=(fun b c=>Dw b c):=Classical.choose_spec (c8 (α:=Bool→Nat→Nat) (fun b c=>Dw b c))
theorem yi (b c):vm b c=Dw b c:=by rw[EY]

end
end Go.Eng
end
