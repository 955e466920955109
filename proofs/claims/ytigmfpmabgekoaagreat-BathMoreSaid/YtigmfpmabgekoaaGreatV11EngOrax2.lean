/- The engine: tables of calls that are known beforehand. -/
import Derived.Test.YtigmfpmabgekoaaGreatV11EngXx3
set_option linter.unusedVariables false
set_option linter.unusedSimpArgs false
section
namespace Go.Eng

def Tj (f:AV→Bool) (r:Row):Bool :=
 match r with
 | .I ..=>true
 | .G l=>l.all f
 | .F ..=>true
 | .M l=>fX l
def rq:Nat→AV→Bool
 | 0,_=>false
 | n+1,v=>match v with
   | .undef | .bool _ | .int _ _ | .str _ | .nilp | .nils | .nilm | .nilf=>true
   | .ptrT none _ _=>true
   | .slcT none _ _ _ _=>true
   | .agg r=>Tj (rq n) r
   | .tup l=>l.all (rq n)
   | .fn _ a b=>a.all (rq n) && b.all (rq n)
   | _=>false
theorem gd {f:AV→Bool}:∀ {l:List AV} {j:Nat},l.all f=true→j<l.length→f (l.getD j .undef)=true
 | [],j,_,h=>by simp at h
 | x::l,0,h,_=>by simp at h;simpa using h.1
 | x::l,j+1,h,hj=>by
   simp only[List.all_cons,Bool.and_eq_true] at h
   rw[List.getD_cons_succ]
   exact gd h.2 (by simpa using hj)
theorem iO {p:aF} {M N:Mu}:∀ (n:Nat) {v:AV} {c:Value},rq n v=true→aj p M v c→aj p N v c
 | 0,v,c,h,_=>by simp[rq] at h
 | n + 1,v,c,h,hv=>by
   have ih:=@iO p M N n
   cases hv with
   | undef c=>exact .undef c
   | bool b=>exact .bool b
   | int k n=>exact .int k n
   | str s=>exact .str s
   | nilp=>exact .nilp
   | nils=>exact .nils
   | nilm=>exact .nilm
   | nilf=>exact .nilf
   | ptr h0=>simp[rq] at h
   | slc h0=>simp[rq] at h
   | map h0=>simp[rq] at h
   | yld h0=>simp[rq] at h
   | ptrT vs h0 h1 hv =>
     rename_i s r off b o
     cases s with
     | some s=>simp[rq] at h
     | none=>exact .ptrT vs h0 h1 hv
   | slcT vs h0 h1 hv hl hf hx =>
     rename_i s r sz len b o x cc full
     cases s with
     | some s=>simp[rq] at h
     | none=>exact .slcT vs h0 h1 hv hl hf hx
   | slcN=>exact .slcN
   | fn ha hb va vb =>
     simp only[rq,Bool.and_eq_true] at h
     exact .fn ha hb (fun j hj=>ih (gd h.1 hj) (va j hj)) (fun j hj=>ih (gd h.2 hj) (vb j hj))
   | agg hs h1 hv =>
     rename_i r cs
     simp only[rq] at h
     cases r with
     | I k l=>exact .agg hs h1 (fun j hj=>(hv j hj).bB _ _)
     | F f m=>exact .agg hs h1 hv
     | M l=>exact .agg hs h1 (a7.fX h hv)
     | G l=>exact .agg hs h1 (fun j hj=>ih (gd (f:=rq n) h hj) (hv j hj))
   | tup hs hv =>
     simp only[rq] at h
     exact .tup hs (fun j hj=>ih (gd h hj) (hv j hj))

structure jC where
 f:FuncId
 args:List AV
 v:AV
def bY (P:Program) (e:jC):Prop:=∀ (H:aa),H≠[]→∀ (p:aF) (M:Mu) (w:World) (cargs:Array Value),aV p M H w→gD p M e.args cargs →
 (∃ fn,P.funcs[e.f]?=some fn∧fn.body.isNone=false)∧CallsIn Fence.wide 0 P e.f cargs w (jV p M H w e.v H)

theorem zn {P:Program} {call:aL} (hC:bK P call) {e:jC} {H':aa} (h:call (.fn e.f) e.args [⟨true,[]⟩]=some (e.v,H')) (hn:e.args.all (rq 9)=true):bY P e:=by
 intro H hne p M w cargs hH hA
 have hH0:aV p Mu.no [⟨true,[]⟩] w:=⟨hH.pers,(fun d i v B hg hB=>by
  cases d<;>simp[au,ao] at hg<;>exact absurd hg.2.symm hB),(fun d i v B d' i' v' B' b o t o' t' hg hB hg' hB' hm hm'=>by cases hm),(fun d i v t hm=>by cases hm)⟩
 have hA0:gD p Mu.no e.args cargs:=⟨hA.1,fun j hj=>iO 9 (gd hn hj) (hA.2 j hj)⟩
 obtain ⟨h1,h2⟩:=hC (.fn e.f) e.args _ e.v H' h (by simp) p Mu.no w cargs hH0 hA0
 refine ⟨h1,h2.mono ?_⟩
 rintro en w' ⟨cv,rfl,st,p',M',hE,hv⟩
 have hM:Mu.le M' M:=fun d i v t hm=>by
  have h3:=(hE.rel.dom d i v t hm).1
  have h4:aA [⟨true,[]⟩] d=true:=by cases d<;>rfl
  rw[st.next d h4] at h3
  cases d<;>simp[ai] at h3
 have all:∀ b,Go.Eng.bc Mu.no [⟨true,[]⟩] b:=fun b d i u B _ _ _ o t hm=>by cases hm
 have no:∀ {b:Nat},¬ (aA [⟨true,[]⟩] 0=false∧∃ i u o' t',Mu.no 0 i u=some (b,o',t')):=fun h=>by have:=h.1;cases this
 refine ⟨cv,rfl,Still.refl H,p',M,{ bW.refl hH with pst:=hE.pst,rel:=⟨hE.rel.pers,?_,hH.apart,hH.dom⟩,stay:=hE.stay.weaken (fun b _ _=>all b),fresh:=fun b o v hv=>(hE.fresh b o v hv).imp_right fun h=>h.elim .inl fun h=>(no h).elim },hv.mono (aF.le.refl _) hM⟩
 intro d i u B hg hB
 obtain ⟨b,o,t,k1,k2,k3⟩:=hH.live d i u B hg hB
 have hlt:=k2.lt hB
 refine ⟨b,o,t,k1,k2.mono hE.pst (Mu.le.refl _) (hE.stay.block b hlt (all b)),fun x=>?_⟩
 cases hx:p' b x with
 | none=>rfl
 | some y =>
   rcases hE.fresh b x y hx with h | h | ⟨h,_⟩
   · rw[k3] at h;cases h
   · omega
   · cases h

noncomputable def uu (f:AV→AV→Bool) (r s:Row):Bool :=
 match r,s with
 | .I k l,.I k' l'=>gH k k' && listEqI l l'
 | .G l,.G l'=>listEqV f l l'
 | _,_=>false
where
 listEqI:List Int→List Int→Bool
  | [],[]=>true
  | x::a,y::b=>Gg x y && listEqI a b
  | _,_=>false
 listEqV (f:AV→AV→Bool):List AV→List AV→Bool
  | [],[]=>true
  | x::a,y::b=>f x y && listEqV f a b
  | _,_=>false
def Az:Option Nat→Option Nat→Bool
 | none,none=>true
 | some a,some b=>Nat.beq a b
 | _,_=>false
noncomputable def Jx:Nat→AV→AV→Bool
 | 0,_,_=>false
 | n+1,v,u=>match v,u with
   | .bool a,.bool b=>a == b
   | .int k a,.int k' b=>gH k k' && Gg a b
   | .nilp,.nilp=>true
   | .nils,.nils=>true
   | .nilm,.nilm=>true
   | .ptrT s r o,.ptrT s' r' o'=>Az s s' && (uu (Jx n) r r' && Nat.beq o o')
   | .slcT s r z l b,.slcT s' r' z' l' b'=>Az s s' && (uu (Jx n) r r' && (Nat.beq z z' && (Nat.beq l l' && b == b')))
   | .agg r,.agg r'=>uu (Jx n) r r'
   | _,_=>false
theorem tk:∀ (l m:List Int),uu.listEqI l m=true→l=m
 | [],[],_=>rfl
 | [],_::_,h=>by simp[uu.listEqI] at h
 | _::_,[],h=>by simp[uu.listEqI] at h
 | x::a,y::b,h=>by
   simp only[uu.listEqI,Bool.and_eq_true,wH,beq_iff_eq] at h
   rw[h.1,tk a b h.2]
theorem gP {f:AV→AV→Bool} (hf:∀ x y,f x y=true→x=y):∀ (l m:List AV),uu.listEqV f l m=true→l=m
 | [],[],_=>rfl
 | [],_::_,h=>by simp[uu.listEqV] at h
 | _::_,[],h=>by simp[uu.listEqV] at h
 | x::a,y::b,h=>by
   simp only[uu.listEqV,Bool.and_eq_true] at h
   rw[hf _ _ h.1,gP hf a b h.2]
theorem nZ {f:AV→AV→Bool} (hf:∀ x y,f x y=true→x=y) (r s:Row) (h:uu f r s=true):r=s:=by
 cases r<;>cases s<;>simp only[uu,Bool.and_eq_true,eU,decide_eq_true_eq] at h<;>try (simp at h;done)
 · rw[h.1,tk _ _ h.2]
 · rw[gP hf _ _ h]
theorem o8 (a b:Option Nat) (h:Az a b=true):a=b:=by
 cases a<;>cases b<;>simp[Az] at h ⊢;exact h
theorem El:∀ (n:Nat) (x y:AV),Jx n x y=true→x=y
 | 0,x,y,h=>by simp[Jx] at h
 | n+1,x,y,h=>by
   have ih:=El n
   cases x<;>cases y<;>simp only[Jx,Bool.and_eq_true,eU,wH,decide_eq_true_eq,beq_iff_eq] at h<;>try (first | rfl | (simp at h;done))
   case bool.bool=>rw[h]
   case int.int=>rw[h.1,h.2]
   case ptrT.ptrT=>rw[o8 _ _ h.1,nZ ih _ _ h.2.1,Nat.eq_of_beq_eq_true h.2.2]
   case slcT.slcT=>rw[o8 _ _ h.1,nZ ih _ _ h.2.1,Nat.eq_of_beq_eq_true h.2.2.1,Nat.eq_of_beq_eq_true h.2.2.2.1,h.2.2.2.2]
   case agg.agg=>rw[nZ ih _ _ h]

noncomputable def AY:List jC→aL→FuncId→List AV→aa→Option (AV×aa)
 | [],_,_,_,_=>none
 | e::r,c,f,args,H=>if Nat.beq e.f f && uu.listEqV (Jx 9) e.args args then some (e.v,H) else AY r c f args H
theorem xj {P:Program}:∀ (tab:List jC),(∀ e ∈ tab,bY P e)→uP P (AY tab)
 | [],_=>fun call _ f args H v H' h=>by simp[AY] at h
 | e :: r,hT=>fun call hC f args H v H' h=>by
   simp only[AY] at h
   split at h
   · rename_i hc
     simp only[Bool.and_eq_true] at hc
     have e1:=Nat.eq_of_beq_eq_true hc.1
     have e2:=gP (El 9) _ _ hc.2
     have e3:=Option.some.inj h
     simp only[Prod.mk.injEq] at e3
     obtain ⟨e3,e4⟩:=e3
     subst e1;subst e2;subst e3;subst e4
     exact hT e (by simp) H
   · exact xj r (fun e' he=>hT e' (List.mem_cons_of_mem _ he)) call hC f args H v H' h

end Go.Eng
end
section
namespace Go.Eng
noncomputable section

inductive Tr (α:Type) where
 | ok (a:α)
 | bad
 | ite (c:Bool) (t e:Tr α)
 | req (c:Bool) (t:Tr α)
 | reqP (p:Prop) (t:Tr α)
open Classical in
def Tr.run {α:Type}:Tr α→Option α
 | .ok a=>some a
 | .bad=>none
 | .ite c t e=>cond c t.run e.run
 | .req c t=>cond c t.run none
 | .reqP p t=>if p then t.run else none
def Tr.bind {α β:Type} (t:Tr α) (f:α→Tr β):Tr β:=Tr.rec (motive:=fun _=>Tr β) f .bad (fun c _ _ a b=>.ite c a b) (fun c _ a=>.req c a) (fun p _ a=>.reqP p a) t
theorem Tr.D5 {α β:Type} (t:Tr α) (f:α→Tr β):(t.bind f).run=t.run.bind fun a=>(f a).run:=by
 induction t with
 | ok a=>rfl
 | bad=>rfl
 | ite c a b iha ihb =>
   have e:(Tr.ite c a b).bind f=.ite c (a.bind f) (b.bind f):=rfl
   rw[e];simp only[Tr.run,iha,ihb];cases c<;>rfl
 | req c a ih =>
   have e:(Tr.req c a).bind f=.req c (a.bind f):=rfl
   rw[e];simp only[Tr.run,ih];cases c<;>rfl
 | reqP p a ih =>
   have e:(Tr.reqP p a).bind f=.reqP p (a.bind f):=rfl
   rw[e];simp only[Tr.run,ih]
   by_cases hp:p
   · rw[if_pos hp,if_pos hp]
   · rw[if_neg hp,if_neg hp];rfl
theorem Tr.c7 {α:Type} {p:Prop} {t:Tr α} {x:α} (h:(Tr.reqP p t).run=some x):p∧t.run=some x:=by
 simp only[Tr.run] at h
 by_cases hp:p
 · rw[if_pos hp] at h;exact ⟨hp,h⟩
 · rw[if_neg hp] at h;cases h
theorem Tr.FM {α:Type} {p:Prop} {a:Tr α} (h:p):(Tr.reqP p a).run=a.run:=by simp only[Tr.run];rw[if_pos h]
theorem Tr.bind_some {α β:Type} {t:Tr α} {f:α→Tr β} {y:β} (h:(t.bind f).run=some y):∃ x,t.run=some x∧(f x).run=some y:=by
 rw[Tr.D5] at h
 exact Option.bind_eq_some_iff.1 h
theorem Tr.aK {α:Type} {c:Bool} {t:Tr α} {x:α} (h:(Tr.req c t).run=some x):c=true∧t.run=some x:=by
 cases c with
 | true=>exact ⟨rfl,h⟩
 | false=>simp[Tr.run] at h
theorem Tr.gr {α:Type} {c:Bool} {t e:Tr α} {x:α} (h:(Tr.ite c t e).run=some x):(c=true∧t.run=some x)∨(c=false∧e.run=some x):=by
 cases c with
 | true=>exact .inl ⟨rfl,h⟩
 | false=>exact .inr ⟨rfl,h⟩
theorem Tr.ab {α:Type} {a x:α} (h:(Tr.ok a).run=some x):a=x:=Option.some.inj h
theorem Tr.ae {α:Type} {x:α} (h:(Tr.bad:Tr α).run=some x):False:=by simp[Tr.run] at h
def vJ {α:Type} (o:Option α):Tr α:=Option.rec (motive:=fun _=>Tr α) .bad .ok o
theorem c5 {α:Type} (o:Option α):(vJ o).run=o:=by cases o<;>rfl
theorem c6 {α:Type} (f:α):∃ g,g=f:=⟨f,rfl⟩

def a8:IntKind→Int→Int→Int:=Classical.choose (c6 (α:=IntKind→Int→Int→Int) (fun k x y=>k.wrap (x+y)))
theorem Gl:a8=(fun k x y=>k.wrap (x+y)):=Classical.choose_spec (c6 (α:=IntKind→Int→Int→Int) (fun k x y=>k.wrap (x+y)))
theorem bV (k x y):a8 k x y=k.wrap (x+y):=by rw[Gl]
def cu:IntKind→Int→Int→Int:=Classical.choose (c6 (α:=IntKind→Int→Int→Int) (fun k x y=>k.wrap (x-y)))
theorem Ic:cu=(fun k x y=>k.wrap (x-y)):=Classical.choose_spec (c6 (α:=IntKind→Int→Int→Int) (fun k x y=>k.wrap (x-y)))
theorem eh (k x y):cu k x y=k.wrap (x-y):=by rw[Ic]
def Hp:IntKind→Int→Int→Int:=Classical.choose (c6 (α:=IntKind→Int→Int→Int) (fun k x y=>k.wrap (x*y)))
theorem Hq:Hp=(fun k x y=>k.wrap (x*y)):=Classical.choose_spec (c6 (α:=IntKind→Int→Int→Int) (fun k x y=>k.wrap (x*y)))
theorem rZ (k x y):Hp k x y=k.wrap (x*y):=by rw[Hq]
def Kg:IntKind→Int→Int→Int:=Classical.choose (c6 (α:=IntKind→Int→Int→Int) (fun k x y=>k.wrap (x.tdiv y)))
theorem HN:Kg=(fun k x y=>k.wrap (x.tdiv y)):=Classical.choose_spec (c6 (α:=IntKind→Int→Int→Int) (fun k x y=>k.wrap (x.tdiv y)))
theorem HM (k x y):Kg k x y=k.wrap (x.tdiv y):=by rw[HN]
def aN:IntKind→Int→Int→Int:=Classical.choose (c6 (α:=IntKind→Int→Int→Int) (fun k x y=>x.tmod y))
theorem HQ:aN=(fun k x y=>x.tmod y):=Classical.choose_spec (c6 (α:=IntKind→Int→Int→Int) (fun k x y=>x.tmod y))
theorem Cl (k x y):aN k x y=x.tmod y:=by rw[HQ]
def Jb:IntKind→Int→Int→Int:=Classical.choose (c6 (α:=IntKind→Int→Int→Int) (fun k x y=>k.wrap (BitVec.ofInt k.bits x &&& BitVec.ofInt k.bits y).toNat))
theorem Gs:Jb=(fun k x y=>k.wrap (BitVec.ofInt k.bits x &&& BitVec.ofInt k.bits y).toNat):=Classical.choose_spec (c6 (α:=IntKind→Int→Int→Int) (fun k x y=>k.wrap (BitVec.ofInt k.bits x &&& BitVec.ofInt k.bits y).toNat))
theorem we (k x y):Jb k x y=k.wrap (BitVec.ofInt k.bits x &&& BitVec.ofInt k.bits y).toNat:=by rw[Gs]
def Pr:IntKind→Int→Int→Int:=Classical.choose (c6 (α:=IntKind→Int→Int→Int) (fun k x y=>k.wrap (BitVec.ofInt k.bits x ||| BitVec.ofInt k.bits y).toNat))
theorem Ka:Pr=(fun k x y=>k.wrap (BitVec.ofInt k.bits x ||| BitVec.ofInt k.bits y).toNat):=Classical.choose_spec (c6 (α:=IntKind→Int→Int→Int) (fun k x y=>k.wrap (BitVec.ofInt k.bits x ||| BitVec.ofInt k.bits y).toNat))
theorem AX (k x y):Pr k x y=k.wrap (BitVec.ofInt k.bits x ||| BitVec.ofInt k.bits y).toNat:=by rw[Ka]
def KB:IntKind→Int→Int→Int:=Classical.choose (c6 (α:=IntKind→Int→Int→Int) (fun k x y=>k.wrap (BitVec.ofInt k.bits x ^^^ BitVec.ofInt k.bits y).toNat))
theorem Ir:KB=(fun k x y=>k.wrap (BitVec.ofInt k.bits x ^^^ BitVec.ofInt k.bits y).toNat):=Classical.choose_spec (c6 (α:=IntKind→Int→Int→Int) (fun k x y=>k.wrap (BitVec.ofInt k.bits x ^^^ BitVec.ofInt k.bits y).toNat))
theorem xJ (k x y):KB k x y=k.wrap (BitVec.ofInt k.bits x ^^^ BitVec.ofInt k.bits y).toNat:=by rw[Ir]
def NB:IntKind→Int→Int→Int:=Classical.choose (c6 (α:=IntKind→Int→Int→Int) (fun k x y=>k.wrap (BitVec.ofInt k.bits x &&& ~~~(BitVec.ofInt k.bits y)).toNat))
theorem I8:NB=(fun k x y=>k.wrap (BitVec.ofInt k.bits x &&& ~~~(BitVec.ofInt k.bits y)).toNat):=Classical.choose_spec (c6 (α:=IntKind→Int→Int→Int) (fun k x y=>k.wrap (BitVec.ofInt k.bits x &&& ~~~(BitVec.ofInt k.bits y)).toNat))
theorem Ak (k x y):NB k x y=k.wrap (BitVec.ofInt k.bits x &&& ~~~(BitVec.ofInt k.bits y)).toNat:=by rw[I8]
def Kp:IntKind→Int→Int→Int:=Classical.choose (c6 (α:=IntKind→Int→Int→Int) (fun k x y=>k.wrap (x*2 ^ (min y.toNat k.bits))))
theorem H8:Kp=(fun k x y=>k.wrap (x*2 ^ (min y.toNat k.bits))):=Classical.choose_spec (c6 (α:=IntKind→Int→Int→Int) (fun k x y=>k.wrap (x*2 ^ (min y.toNat k.bits))))
theorem H7 (k x y):Kp k x y=k.wrap (x*2 ^ (min y.toNat k.bits)):=by rw[H8]
def Kq:IntKind→Int→Int→Int:=Classical.choose (c6 (α:=IntKind→Int→Int→Int) (fun k x y=>x.fdiv (2 ^ (min y.toNat k.bits))))
theorem Ia:Kq=(fun k x y=>x.fdiv (2 ^ (min y.toNat k.bits))):=Classical.choose_spec (c6 (α:=IntKind→Int→Int→Int) (fun k x y=>x.fdiv (2 ^ (min y.toNat k.bits))))
theorem H9 (k x y):Kq k x y=x.fdiv (2 ^ (min y.toNat k.bits)):=by rw[Ia]
def bx:IntKind→Int→Int:=Classical.choose (c6 (α:=IntKind→Int→Int) (fun k x=>k.wrap x))
theorem KA:bx=(fun k x=>k.wrap x):=Classical.choose_spec (c6 (α:=IntKind→Int→Int) (fun k x=>k.wrap x))
theorem Gc (k x):bx k x=k.wrap x:=by rw[KA]
def J4:IntKind→Int→Int:=Classical.choose (c6 (α:=IntKind→Int→Int) (fun k x=>k.wrap (0-x)))
theorem Hw:J4=(fun k x=>k.wrap (0-x)):=Classical.choose_spec (c6 (α:=IntKind→Int→Int) (fun k x=>k.wrap (0-x)))
theorem Hv (k x):J4 k x=k.wrap (0-x):=by rw[Hw]
def dm:Int→Int→Bool:=Classical.choose (c6 (α:=Int→Int→Bool) (fun x y=>(x == y)))
theorem JA:dm=(fun x y=>(x == y)):=Classical.choose_spec (c6 (α:=Int→Int→Bool) (fun x y=>(x == y)))
theorem cg (x y):dm x y=(x == y):=by rw[JA]
def dq:Int→Int→Bool:=Classical.choose (c6 (α:=Int→Int→Bool) (fun x y=>decide (x<y)))
theorem JX:dq=(fun x y=>decide (x<y)):=Classical.choose_spec (c6 (α:=Int→Int→Bool) (fun x y=>decide (x<y)))
theorem eV (x y):dq x y=decide (x<y):=by rw[JX]
def mP:Int→Int→Bool:=Classical.choose (c6 (α:=Int→Int→Bool) (fun x y=>decide (x≤y)))
theorem JU:mP=(fun x y=>decide (x≤y)):=Classical.choose_spec (c6 (α:=Int→Int→Bool) (fun x y=>decide (x≤y)))
theorem iz (x y):mP x y=decide (x≤y):=by rw[JU]
def b8:Bool→Bool:=Classical.choose (c6 (α:=Bool→Bool) (fun b=>(!b)))
theorem Hz:b8=(fun b=>(!b)):=Classical.choose_spec (c6 (α:=Bool→Bool) (fun b=>(!b)))
theorem iP (b):b8 b=(!b):=by rw[Hz]
def fa:Bool→Bool→Bool:=Classical.choose (c6 (α:=Bool→Bool→Bool) (fun a b=>(a && b)))
theorem Gr:fa=(fun a b=>(a && b)):=Classical.choose_spec (c6 (α:=Bool→Bool→Bool) (fun a b=>(a && b)))
theorem oN (a b):fa a b=(a && b):=by rw[Gr]
def N1:Bool→Bool→Bool:=Classical.choose (c6 (α:=Bool→Bool→Bool) (fun a b=>(a == b)))
theorem Jz:N1=(fun a b=>(a == b)):=Classical.choose_spec (c6 (α:=Bool→Bool→Bool) (fun a b=>(a == b)))
theorem Jy (a b):N1 a b=(a == b):=by rw[Jz]
def fY:Int→Int→Int:=Classical.choose (c6 (α:=Int→Int→Int) (fun x y=>if y<x then y else x))
theorem Ha:fY=(fun x y=>if y<x then y else x):=Classical.choose_spec (c6 (α:=Int→Int→Int) (fun x y=>if y<x then y else x))
theorem w7 (x y):fY x y=if y<x then y else x:=by rw[Ha]
def ij:Int→Int→Int:=Classical.choose (c6 (α:=Int→Int→Int) (fun x y=>if y > x then y else x))
theorem G8:ij=(fun x y=>if y > x then y else x):=Classical.choose_spec (c6 (α:=Int→Int→Int) (fun x y=>if y > x then y else x))
theorem wY (x y):ij x y=if y > x then y else x:=by rw[G8]
def dF:Int→Nat→Bool:=Classical.choose (c6 (α:=Int→Nat→Bool) (fun (i:Int) (n:Nat)=>decide (0≤i∧i<(n:Int))))
theorem JO:dF=(fun (i:Int) (n:Nat)=>decide (0≤i∧i<(n:Int))):=Classical.choose_spec (c6 (α:=Int→Nat→Bool) (fun (i:Int) (n:Nat)=>decide (0≤i∧i<(n:Int))))
theorem qk (i n):dF i n=decide (0≤i∧i<(n:Int)):=by rw[JO]
def je:Int→Nat→Bool:=Classical.choose (c6 (α:=Int→Nat→Bool) (fun (i:Int) (n:Nat)=>decide (0≤i∧i≤(n:Int))))
theorem GA:je=(fun (i:Int) (n:Nat)=>decide (0≤i∧i≤(n:Int))):=Classical.choose_spec (c6 (α:=Int→Nat→Bool) (fun (i:Int) (n:Nat)=>decide (0≤i∧i≤(n:Int))))
theorem By (i n):je i n=decide (0≤i∧i≤(n:Int)):=by rw[GA]
def J0:Int→Int→Nat→Bool:=Classical.choose (c6 (α:=Int→Int→Nat→Bool) (fun l c b=>decide (0≤l∧l≤c∧c.toNat*b≤room∧c.toNat≤room)))
theorem J1:J0=(fun l c b=>decide (0≤l∧l≤c∧c.toNat*b≤room∧c.toNat≤room)):=Classical.choose_spec (c6 (α:=Int→Int→Nat→Bool) (fun l c b=>decide (0≤l∧l≤c∧c.toNat*b≤room∧c.toNat≤room)))
theorem AP (l c b):J0 l c b=decide (0≤l∧l≤c∧c.toNat*b≤room∧c.toNat≤room):=by rw[J1]
def dH:Int→Nat:=Classical.choose (c6 (α:=Int→Nat) (fun i=>i.toNat))
theorem Kv:dH=(fun i=>i.toNat):=Classical.choose_spec (c6 (α:=Int→Nat) (fun i=>i.toNat))
theorem fP (i):dH i=i.toNat:=by rw[Kv]
def ar:Nat→Int→Nat→Nat:=Classical.choose (c6 (α:=Nat→Int→Nat→Nat) (fun o i s=>o+i.toNat*s))
theorem JM:ar=(fun o i s=>o+i.toNat*s):=Classical.choose_spec (c6 (α:=Nat→Int→Nat→Nat) (fun o i s=>o+i.toNat*s))
theorem bC (o i s):ar o i s=o+i.toNat*s:=by rw[JM]
def af:Nat→Nat→Nat:=Classical.choose (c6 (α:=Nat→Nat→Nat) (fun a b=>a+b))
theorem Gm:af=(fun a b=>a+b):=Classical.choose_spec (c6 (α:=Nat→Nat→Nat) (fun a b=>a+b))
theorem aQ (a b):af a b=a+b:=by rw[Gm]
def dk:Nat→Nat→Nat:=Classical.choose (c6 (α:=Nat→Nat→Nat) (fun a b=>a-b))
theorem Ig:dk=(fun a b=>a-b):=Classical.choose_spec (c6 (α:=Nat→Nat→Nat) (fun a b=>a-b))
theorem gz (a b):dk a b=a-b:=by rw[Ig]
def aD:Nat→Nat→Nat:=Classical.choose (c6 (α:=Nat→Nat→Nat) (fun a b=>a*b))
theorem Hr:aD=(fun a b=>a*b):=Classical.choose_spec (c6 (α:=Nat→Nat→Nat) (fun a b=>a*b))
theorem fF (a b):aD a b=a*b:=by rw[Hr]
def wZ:Nat→Nat→Nat:=Classical.choose (c6 (α:=Nat→Nat→Nat) (fun a b=>min a b))
theorem G9:wZ=(fun a b=>min a b):=Classical.choose_spec (c6 (α:=Nat→Nat→Nat) (fun a b=>min a b))
theorem w6 (a b):wZ a b=min a b:=by rw[G9]
def bA:Nat→Nat→Bool:=Classical.choose (c6 (α:=Nat→Nat→Bool) (fun a b=>decide (a<b)))
theorem JY:bA=(fun a b=>decide (a<b)):=Classical.choose_spec (c6 (α:=Nat→Nat→Bool) (fun a b=>decide (a<b)))
theorem iC (a b):bA a b=decide (a<b):=by rw[JY]
def dG:Nat→Nat→Bool:=Classical.choose (c6 (α:=Nat→Nat→Bool) (fun a b=>decide (a≤b)))
theorem JV:dG=(fun a b=>decide (a≤b)):=Classical.choose_spec (c6 (α:=Nat→Nat→Bool) (fun a b=>decide (a≤b)))
theorem ly (a b):dG a b=decide (a≤b):=by rw[JV]
def bX:Nat→Nat→Bool:=Classical.choose (c6 (α:=Nat→Nat→Bool) (fun a b=>decide (a=b)))
theorem JB:bX=(fun a b=>decide (a=b)):=Classical.choose_spec (c6 (α:=Nat→Nat→Bool) (fun a b=>decide (a=b)))
theorem gi (a b):bX a b=decide (a=b):=by rw[JB]
def lX:Nat→Nat→Nat→Nat→Bool:=Classical.choose (c6 (α:=Nat→Nat→Nat→Nat→Bool) (fun o m p n=>decide (p≤o∧o+m≤p+n)))
theorem JP:lX=(fun o m p n=>decide (p≤o∧o+m≤p+n)):=Classical.choose_spec (c6 (α:=Nat→Nat→Nat→Nat→Bool) (fun o m p n=>decide (p≤o∧o+m≤p+n)))
theorem jZ (o m p n):lX o m p n=decide (p≤o∧o+m≤p+n):=by rw[JP]
def I7:(Nat→AV)→IntKind→Nat→Bool→Prop:=Classical.choose (c6 (α:=(Nat→AV)→IntKind→Nat→Bool→Prop) (fun f k sz full=>∀ j,∃ z n m,f j=AV.slcT none (Row.M [aW.arr k z n]) sz m full))
theorem Gp:I7=(fun f k sz full=>∀ j,∃ z n m,f j=AV.slcT none (Row.M [aW.arr k z n]) sz m full):=Classical.choose_spec (c6 (α:=(Nat→AV)→IntKind→Nat→Bool→Prop) (fun f k sz full=>∀ j,∃ z n m,f j=AV.slcT none (Row.M [aW.arr k z n]) sz m full))
theorem Gn (f k sz full):I7 f k sz full=∀ j,∃ z n m,f j=AV.slcT none (Row.M [aW.arr k z n]) sz m full:=by rw[Gp]
def Km:Bool→(Nat→Int)→(Nat→Int)→Nat→Int:=Classical.choose (c6 (α:=Bool→(Nat→Int)→(Nat→Int)→Nat→Int) (fun b x y=>cond b x y))
theorem H5:Km=(fun b x y=>cond b x y):=Classical.choose_spec (c6 (α:=Bool→(Nat→Int)→(Nat→Int)→Nat→Int) (fun b x y=>cond b x y))
theorem H4 (b x y):Km b x y=cond b x y:=by rw[H5]
def HW:Bool→Nat→Nat→Nat:=Classical.choose (c6 (α:=Bool→Nat→Nat→Nat) (fun b x y=>cond b x y))
theorem HZ:HW=(fun b x y=>cond b x y):=Classical.choose_spec (c6 (α:=Bool→Nat→Nat→Nat) (fun b x y=>cond b x y))
theorem HY (b x y):HW b x y=cond b x y:=by rw[HZ]
def dU:Nat→Nat→Nat→Bool:=Classical.choose (c6 (α:=Nat→Nat→Nat→Bool) (fun m n b=>decide ((m+n)*b≤room∧m+n≤room)))
theorem FJ:dU=(fun m n b=>decide ((m+n)*b≤room∧m+n≤room)):=Classical.choose_spec (c6 (α:=Nat→Nat→Nat→Bool) (fun m n b=>decide ((m+n)*b≤room∧m+n≤room)))
theorem zN (m n b):dU m n b=decide ((m+n)*b≤room∧m+n≤room):=by rw[FJ]
def bG:(Nat→Int)→Nat→Int→Nat→Int:=Classical.choose (c6 (α:=(Nat→Int)→Nat→Int→Nat→Int) (fun z i x=>fun j=>if j=i then x else z j))
theorem jS:bG=(fun z i x=>fun j=>if j=i then x else z j):=Classical.choose_spec (c6 (α:=(Nat→Int)→Nat→Int→Nat→Int) (fun z i x=>fun j=>if j=i then x else z j))
theorem jR (z i x):bG z i x=fun j=>if j=i then x else z j:=by rw[jS]
def g7:(Nat→Int)→Nat→Nat→Int:=Classical.choose (c6 (α:=(Nat→Int)→Nat→Nat→Int) (fun z o=>fun j=>z (o+j)))
theorem jx:g7=(fun z o=>fun j=>z (o+j)):=Classical.choose_spec (c6 (α:=(Nat→Int)→Nat→Nat→Int) (fun z o=>fun j=>z (o+j)))
theorem Ko (z o):g7 z o=fun j=>z (o+j):=by rw[jx]
def fH:(Nat→Int)→Nat→(Nat→Int)→Nat→Nat→Int:=Classical.choose (c6 (α:=(Nat→Int)→Nat→(Nat→Int)→Nat→Nat→Int) (fun z o z' n=>rJ z o z' n))
theorem GG:fH=(fun z o z' n=>rJ z o z' n):=Classical.choose_spec (c6 (α:=(Nat→Int)→Nat→(Nat→Int)→Nat→Nat→Int) (fun z o z' n=>rJ z o z' n))
theorem lf (z o z' n):fH z o z' n=rJ z o z' n:=by rw[GG]
def bF:(Nat→Int)→Nat→(Nat→Int)→Nat→Int:=Classical.choose (c6 (α:=(Nat→Int)→Nat→(Nat→Int)→Nat→Int) (fun z n z'=>fun i=>if i<n then z i else z' (i-n)))
theorem jF:bF=(fun z n z'=>fun i=>if i<n then z i else z' (i-n)):=Classical.choose_spec (c6 (α:=(Nat→Int)→Nat→(Nat→Int)→Nat→Int) (fun z n z'=>fun i=>if i<n then z i else z' (i-n)))
def AJ:List Int→Nat:=Classical.choose (c6 (α:=List Int→Nat) (fun l=>l.length))
theorem G1:AJ=(fun l=>l.length):=Classical.choose_spec (c6 (α:=List Int→Nat) (fun l=>l.length))
theorem G0 (l):AJ l=l.length:=by rw[G1]
def an:List Int→Nat→Int:=Classical.choose (c6 (α:=List Int→Nat→Int) (fun l=>fun j=>l.getD j 0))
theorem lC:an=(fun l=>fun j=>l.getD j 0):=Classical.choose_spec (c6 (α:=List Int→Nat→Int) (fun l=>fun j=>l.getD j 0))
theorem gu (l):an l=fun j=>l.getD j 0:=by rw[lC]
def kV:(Nat→Int)→(Nat→Int)→Nat→Bool:=Classical.choose (c6 (α:=(Nat→Int)→(Nat→Int)→Nat→Bool) (fun z z' n=>allEq z z' n))
theorem uR:kV=(fun z z' n=>allEq z z' n):=Classical.choose_spec (c6 (α:=(Nat→Int)→(Nat→Int)→Nat→Bool) (fun z z' n=>allEq z z' n))
theorem CQ (z z' n):kV z z' n=allEq z z' n:=by rw[uR]
def m7:(List Int→Bool)→List Int→Bool→List Int→Bool:=Classical.choose (c6 (α:=(List Int→Bool)→List Int→Bool→List Int→Bool) (fun h n b=>dE h n b))
theorem FU:m7=(fun h n b=>dE h n b):=Classical.choose_spec (c6 (α:=(List Int→Bool)→List Int→Bool→List Int→Bool) (fun h n b=>dE h n b))
theorem pK (h n b):m7 h n b=dE h n b:=by rw[FU]
def nQ:(List Int→Int)→List Int→Int→List Int→Int:=Classical.choose (c6 (α:=(List Int→Int)→List Int→Int→List Int→Int) (fun g n x=>fB g n x))
theorem FV:nQ=(fun g n x=>fB g n x):=Classical.choose_spec (c6 (α:=(List Int→Int)→List Int→Int→List Int→Int) (fun g n x=>fB g n x))
theorem pL (g n x):nQ g n x=fB g n x:=by rw[FV]
def qR:Bool→Nat→Nat:=Classical.choose (c6 (α:=Bool→Nat→Nat) (fun b c=>oV b c))
theorem Ed:qR=(fun b c=>oV b c):=Classical.choose_spec (c6 (α:=Bool→Nat→Nat) (fun b c=>oV b c))
theorem sH (b c):qR b c=oV b c:=by rw[Ed]
def BC:Bool→Nat→Nat:=Classical.choose (c6 (α:=Bool→Nat→Nat) (fun b c=>xY b c))
theorem Ee:BC=(fun b c=>xY b c):=Classical.choose_spec (c6 (α:=Bool→Nat→Nat) (fun b c=>xY b c))
theorem xZ (b c):BC b c=xY b c:=by rw[Ee]

end
end Go.Eng
end
