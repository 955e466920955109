/- The engine: tables of calls that are known beforehand. -/
import Derived.Test.YtoomemfhcbajoaaV6EngXx3
set_option linter.unusedVariables false
set_option linter.unusedSimpArgs false
section
namespace Go.Eng

def UB (f:AV→Bool) (r:Row):Bool :=
 match r with
 | .I ..=>true
 | .G l=>l.all f
 | .F ..=>true
 | .M l=>gw l
def ry:Nat→AV→Bool
 | 0,_=>false
 | n+1,v=>match v with
   | .undef | .bool _ | .int _ _ | .str _ | .nilp | .nils | .nilm | .nilf=>true
   | .ptrT none _ _=>true
   | .slcT none _ _ _ _=>true
   | .agg r=>UB (ry n) r
   | .tup l=>l.all (ry n)
   | .fn _ a b=>a.all (ry n) && b.all (ry n)
   | _=>false
theorem gv {f:AV→Bool}:∀ {l:List AV} {j:Nat},l.all f=true→j<l.length→f (l.getD j .undef)=true
 | [],j,_,h=>by simp at h
 | x::l,0,h,_=>by simp at h;simpa using h.1
 | x::l,j+1,h,hj=>by
   simp only[List.all_cons,Bool.and_eq_true] at h
   rw[List.getD_cons_succ]
   exact gv h.2 (by simpa using hj)
theorem m9 {p:aK} {M N:Mu}:∀ (n:Nat) {v:AV} {c:Value},ry n v=true→aj p M v c→aj p N v c
 | 0,v,c,h,_=>by simp[ry] at h
 | n + 1,v,c,h,hv=>by
   have ih:=@m9 p M N n
   cases hv with
   | undef c=>exact .undef c
   | bool b=>exact .bool b
   | int k n=>exact .int k n
   | str s=>exact .str s
   | nilp=>exact .nilp
   | nils=>exact .nils
   | nilm=>exact .nilm
   | nilf=>exact .nilf
   | ptr h0=>simp[ry] at h
   | slc h0=>simp[ry] at h
   | map h0=>simp[ry] at h
   | yld h0=>simp[ry] at h
   | ptrT vs h0 h1 hv =>
     rename_i s r off b o
     cases s with
     | some s=>simp[ry] at h
     | none=>exact .ptrT vs h0 h1 hv
   | slcT vs h0 h1 hv hl hf hx =>
     rename_i s r sz len b o x cc full
     cases s with
     | some s=>simp[ry] at h
     | none=>exact .slcT vs h0 h1 hv hl hf hx
   | slcN=>exact .slcN
   | fn ha hb va vb =>
     simp only[ry,Bool.and_eq_true] at h
     exact .fn ha hb (fun j hj=>ih (gv h.1 hj) (va j hj)) (fun j hj=>ih (gv h.2 hj) (vb j hj))
   | agg hs h1 hv =>
     rename_i r cs
     simp only[ry] at h
     cases r with
     | I k l=>exact .agg hs h1 (fun j hj=>(hv j hj).bF _ _)
     | F f m=>exact .agg hs h1 hv
     | M l=>exact .agg hs h1 (aY.gw h hv)
     | G l=>exact .agg hs h1 (fun j hj=>ih (gv (f:=ry n) h hj) (hv j hj))
   | tup hs hv =>
     simp only[ry] at h
     exact .tup hs (fun j hj=>ih (gv h hj) (hv j hj))

structure gp where
 f:FuncId
 args:List AV
 v:AV
def bz (P:Program) (e:gp):Prop:=∀ (H:aa),H≠[]→∀ (p:aK) (M:Mu) (w:World) (cargs:Array Value),aZ p M H w→jd p M e.args cargs →
 (∃ fn,P.funcs[e.f]?=some fn∧fn.body.isNone=false)∧CallsIn Fence.wide 0 P e.f cargs w (pX p M H w e.v H)

theorem zS {P:Program} {call:aW} (hC:cw P call) {e:gp} {H':aa} (h:call (.fn e.f) e.args [⟨true,[]⟩]=some (e.v,H')) (hn:e.args.all (ry 9)=true):bz P e:=by
 intro H hne p M w cargs hH hA
 have hH0:aZ p Mu.no [⟨true,[]⟩] w:=⟨hH.pers,(fun d i v B hg hB=>by
  cases d<;>simp[ar,an] at hg<;>exact absurd hg.2.symm hB),(fun d i v B d' i' v' B' b o t o' t' hg hB hg' hB' hm hm'=>by cases hm),(fun d i v t hm=>by cases hm)⟩
 have hA0:jd p Mu.no e.args cargs:=⟨hA.1,fun j hj=>m9 9 (gv hn hj) (hA.2 j hj)⟩
 obtain ⟨h1,h2⟩:=hC (.fn e.f) e.args _ e.v H' h (by simp) p Mu.no w cargs hH0 hA0
 refine ⟨h1,h2.mono ?_⟩
 rintro en w' ⟨cv,rfl,st,p',M',hE,hv⟩
 have hM:Mu.le M' M:=fun d i v t hm=>by
  have h3:=(hE.rel.dom d i v t hm).1
  have h4:aw [⟨true,[]⟩] d=true:=by cases d<;>rfl
  rw[st.next d h4] at h3
  cases d<;>simp[ak] at h3
 have all:∀ b,Go.Eng.bc Mu.no [⟨true,[]⟩] b:=fun b d i u B _ _ _ o t hm=>by cases hm
 have no:∀ {b:Nat},¬ (aw [⟨true,[]⟩] 0=false∧∃ i u o' t',Mu.no 0 i u=some (b,o',t')):=fun h=>by have:=h.1;cases this
 refine ⟨cv,rfl,Still.refl H,p',M,{ bY.refl hH with pst:=hE.pst,rel:=⟨hE.rel.pers,?_,hH.apart,hH.dom⟩,stay:=hE.stay.weaken (fun b _ _=>all b),fresh:=fun b o v hv=>(hE.fresh b o v hv).imp_right fun h=>h.elim .inl fun h=>(no h).elim },hv.mono (aK.le.refl _) hM⟩
 intro d i u B hg hB
 obtain ⟨b,o,t,k1,k2,k3⟩:=hH.live d i u B hg hB
 have hlt:=k2.lt hB
 refine ⟨b,o,t,k1,k2.mono hE.pst (Mu.le.refl _) (hE.stay.block b hlt (all b)),fun x=>?_⟩
 cases hx:p' b x with
 | none=>rfl
 | some y =>
   rcases hE.fresh b x y hx with h | h | ⟨h,_⟩
   · rw[k3] at h;cases h
   · omega
   · cases h

noncomputable def uO (f:AV→AV→Bool) (r s:Row):Bool :=
 match r,s with
 | .I k l,.I k' l'=>gQ k k' && listEqI l l'
 | .G l,.G l'=>listEqV f l l'
 | _,_=>false
where
 listEqI:List Int→List Int→Bool
  | [],[]=>true
  | x::a,y::b=>Hg x y && listEqI a b
  | _,_=>false
 listEqV (f:AV→AV→Bool):List AV→List AV→Bool
  | [],[]=>true
  | x::a,y::b=>f x y && listEqV f a b
  | _,_=>false
def Be:Option Nat→Option Nat→Bool
 | none,none=>true
 | some a,some b=>Nat.beq a b
 | _,_=>false
noncomputable def Kp:Nat→AV→AV→Bool
 | 0,_,_=>false
 | n+1,v,u=>match v,u with
   | .bool a,.bool b=>a == b
   | .int k a,.int k' b=>gQ k k' && Hg a b
   | .nilp,.nilp=>true
   | .nils,.nils=>true
   | .nilm,.nilm=>true
   | .ptrT s r o,.ptrT s' r' o'=>Be s s' && (uO (Kp n) r r' && Nat.beq o o')
   | .slcT s r z l b,.slcT s' r' z' l' b'=>Be s s' && (uO (Kp n) r r' && (Nat.beq z z' && (Nat.beq l l' && b == b')))
   | .agg r,.agg r'=>uO (Kp n) r r'
   | _,_=>false
theorem th:∀ (l m:List Int),uO.listEqI l m=true→l=m
 | [],[],_=>rfl
 | [],_::_,h=>by simp[uO.listEqI] at h
 | _::_,[],h=>by simp[uO.listEqI] at h
 | x::a,y::b,h=>by
   simp only[uO.listEqI,Bool.and_eq_true,wZ,beq_iff_eq] at h
   rw[h.1,th a b h.2]
theorem g7 {f:AV→AV→Bool} (hf:∀ x y,f x y=true→x=y):∀ (l m:List AV),uO.listEqV f l m=true→l=m
 | [],[],_=>rfl
 | [],_::_,h=>by simp[uO.listEqV] at h
 | _::_,[],h=>by simp[uO.listEqV] at h
 | x::a,y::b,h=>by
   simp only[uO.listEqV,Bool.and_eq_true] at h
   rw[hf _ _ h.1,g7 hf a b h.2]
theorem nR {f:AV→AV→Bool} (hf:∀ x y,f x y=true→x=y) (r s:Row) (h:uO f r s=true):r=s:=by
 cases r<;>cases s<;>simp only[uO,Bool.and_eq_true,eZ,decide_eq_true_eq] at h<;>try (simp at h;done)
 · rw[h.1,th _ _ h.2]
 · rw[g7 hf _ _ h]
theorem oU (a b:Option Nat) (h:Be a b=true):a=b:=by
 cases a<;>cases b<;>simp[Be] at h ⊢;exact h
theorem FD:∀ (n:Nat) (x y:AV),Kp n x y=true→x=y
 | 0,x,y,h=>by simp[Kp] at h
 | n+1,x,y,h=>by
   have ih:=FD n
   cases x<;>cases y<;>simp only[Kp,Bool.and_eq_true,eZ,wZ,decide_eq_true_eq,beq_iff_eq] at h<;>try (first | rfl | (simp at h;done))
   case bool.bool=>rw[h]
   case int.int=>rw[h.1,h.2]
   case ptrT.ptrT=>rw[oU _ _ h.1,nR ih _ _ h.2.1,Nat.eq_of_beq_eq_true h.2.2]
   case slcT.slcT=>rw[oU _ _ h.1,nR ih _ _ h.2.1,Nat.eq_of_beq_eq_true h.2.2.1,Nat.eq_of_beq_eq_true h.2.2.2.1,h.2.2.2.2]
   case agg.agg=>rw[nR ih _ _ h]

noncomputable def By:List gp→aW→FuncId→List AV→aa→Option (AV×aa)
 | [],_,_,_,_=>none
 | e::r,c,f,args,H=>if Nat.beq e.f f && uO.listEqV (Kp 9) e.args args then some (e.v,H) else By r c f args H
theorem xw {P:Program}:∀ (tab:List gp),(∀ e ∈ tab,bz P e)→vo P (By tab)
 | [],_=>fun call _ f args H v H' h=>by simp[By] at h
 | e :: r,hT=>fun call hC f args H v H' h=>by
   simp only[By] at h
   split at h
   · rename_i hc
     simp only[Bool.and_eq_true] at hc
     have e1:=Nat.eq_of_beq_eq_true hc.1
     have e2:=g7 (FD 9) _ _ hc.2
     have e3:=Option.some.inj h
     simp only[Prod.mk.injEq] at e3
     obtain ⟨e3,e4⟩:=e3
     subst e1;subst e2;subst e3;subst e4
     exact hT e (by simp) H
   · exact xw r (fun e' he=>hT e' (List.mem_cons_of_mem _ he)) call hC f args H v H' h

end Go.Eng
end
section
namespace Go.Eng
noncomputable section

inductive Tr (α:Type) where
 | ok (a:α)
 | bad
 | ite (c:Bool) (t e:Tr α)
 | req (c:Bool) (t:Tr α)
 | reqP (p:Prop) (t:Tr α)
open Classical in
def Tr.run {α:Type}:Tr α→Option α
 | .ok a=>some a
 | .bad=>none
 | .ite c t e=>cond c t.run e.run
 | .req c t=>cond c t.run none
 | .reqP p t=>if p then t.run else none
def Tr.bind {α β:Type} (t:Tr α) (f:α→Tr β):Tr β:=Tr.rec (motive:=fun _=>Tr β) f .bad (fun c _ _ a b=>.ite c a b) (fun c _ a=>.req c a) (fun p _ a=>.reqP p a) t
theorem Tr.Fc {α β:Type} (t:Tr α) (f:α→Tr β):(t.bind f).run=t.run.bind fun a=>(f a).run:=by
 induction t with
 | ok a=>rfl
 | bad=>rfl
 | ite c a b iha ihb =>
   have e:(Tr.ite c a b).bind f=.ite c (a.bind f) (b.bind f):=rfl
   rw[e];simp only[Tr.run,iha,ihb];cases c<;>rfl
 | req c a ih =>
   have e:(Tr.req c a).bind f=.req c (a.bind f):=rfl
   rw[e];simp only[Tr.run,ih];cases c<;>rfl
 | reqP p a ih =>
   have e:(Tr.reqP p a).bind f=.reqP p (a.bind f):=rfl
   rw[e];simp only[Tr.run,ih]
   by_cases hp:p
   · rw[if_pos hp,if_pos hp]
   · rw[if_neg hp,if_neg hp];rfl
theorem Tr.c8 {α:Type} {p:Prop} {t:Tr α} {x:α} (h:(Tr.reqP p t).run=some x):p∧t.run=some x:=by
 simp only[Tr.run] at h
 by_cases hp:p
 · rw[if_pos hp] at h;exact ⟨hp,h⟩
 · rw[if_neg hp] at h;cases h
theorem Tr.GN {α:Type} {p:Prop} {a:Tr α} (h:p):(Tr.reqP p a).run=a.run:=by simp only[Tr.run];rw[if_pos h]
theorem Tr.bind_some {α β:Type} {t:Tr α} {f:α→Tr β} {y:β} (h:(t.bind f).run=some y):∃ x,t.run=some x∧(f x).run=some y:=by
 rw[Tr.Fc] at h
 exact Option.bind_eq_some_iff.1 h
theorem Tr.aR {α:Type} {c:Bool} {t:Tr α} {x:α} (h:(Tr.req c t).run=some x):c=true∧t.run=some x:=by
 cases c with
 | true=>exact ⟨rfl,h⟩
 | false=>simp[Tr.run] at h
theorem Tr.eY {α:Type} {c:Bool} {t e:Tr α} {x:α} (h:(Tr.ite c t e).run=some x):(c=true∧t.run=some x)∨(c=false∧e.run=some x):=by
 cases c with
 | true=>exact .inl ⟨rfl,h⟩
 | false=>exact .inr ⟨rfl,h⟩
theorem Tr.ab {α:Type} {a x:α} (h:(Tr.ok a).run=some x):a=x:=Option.some.inj h
theorem Tr.ae {α:Type} {x:α} (h:(Tr.bad:Tr α).run=some x):False:=by simp[Tr.run] at h
def wh {α:Type} (o:Option α):Tr α:=Option.rec (motive:=fun _=>Tr α) .bad .ok o
theorem cZ {α:Type} (o:Option α):(wh o).run=o:=by cases o<;>rfl
theorem c6 {α:Type} (f:α):∃ g,g=f:=⟨f,rfl⟩

def bA:IntKind→Int→Int→Int:=Classical.choose (c6 (α:=IntKind→Int→Int→Int) (fun k x y=>k.wrap (x+y)))
theorem Hk:bA=(fun k x y=>k.wrap (x+y)):=Classical.choose_spec (c6 (α:=IntKind→Int→Int→Int) (fun k x y=>k.wrap (x+y)))
theorem jB (k x y):bA k x y=k.wrap (x+y):=by rw[Hk]
def br:IntKind→Int→Int→Int:=Classical.choose (c6 (α:=IntKind→Int→Int→Int) (fun k x y=>k.wrap (x-y)))
theorem IY:br=(fun k x y=>k.wrap (x-y)):=Classical.choose_spec (c6 (α:=IntKind→Int→Int→Int) (fun k x y=>k.wrap (x-y)))
theorem nh (k x y):br k x y=k.wrap (x-y):=by rw[IY]
def D8:IntKind→Int→Int→Int:=Classical.choose (c6 (α:=IntKind→Int→Int→Int) (fun k x y=>k.wrap (x*y)))
theorem Ik:D8=(fun k x y=>k.wrap (x*y)):=Classical.choose_spec (c6 (α:=IntKind→Int→Int→Int) (fun k x y=>k.wrap (x*y)))
theorem pC (k x y):D8 k x y=k.wrap (x*y):=by rw[Ik]
def La:IntKind→Int→Int→Int:=Classical.choose (c6 (α:=IntKind→Int→Int→Int) (fun k x y=>k.wrap (x.tdiv y)))
theorem IF:La=(fun k x y=>k.wrap (x.tdiv y)):=Classical.choose_spec (c6 (α:=IntKind→Int→Int→Int) (fun k x y=>k.wrap (x.tdiv y)))
theorem IE (k x y):La k x y=k.wrap (x.tdiv y):=by rw[IF]
def fU:IntKind→Int→Int→Int:=Classical.choose (c6 (α:=IntKind→Int→Int→Int) (fun k x y=>x.tmod y))
theorem II:fU=(fun k x y=>x.tmod y):=Classical.choose_spec (c6 (α:=IntKind→Int→Int→Int) (fun k x y=>x.tmod y))
theorem xN (k x y):fU k x y=x.tmod y:=by rw[II]
def Ka:IntKind→Int→Int→Int:=Classical.choose (c6 (α:=IntKind→Int→Int→Int) (fun k x y=>k.wrap (BitVec.ofInt k.bits x &&& BitVec.ofInt k.bits y).toNat))
theorem Ho:Ka=(fun k x y=>k.wrap (BitVec.ofInt k.bits x &&& BitVec.ofInt k.bits y).toNat):=Classical.choose_spec (c6 (α:=IntKind→Int→Int→Int) (fun k x y=>k.wrap (BitVec.ofInt k.bits x &&& BitVec.ofInt k.bits y).toNat))
theorem wK (k x y):Ka k x y=k.wrap (BitVec.ofInt k.bits x &&& BitVec.ofInt k.bits y).toNat:=by rw[Ho]
def Qq:IntKind→Int→Int→Int:=Classical.choose (c6 (α:=IntKind→Int→Int→Int) (fun k x y=>k.wrap (BitVec.ofInt k.bits x ||| BitVec.ofInt k.bits y).toNat))
theorem K2:Qq=(fun k x y=>k.wrap (BitVec.ofInt k.bits x ||| BitVec.ofInt k.bits y).toNat):=Classical.choose_spec (c6 (α:=IntKind→Int→Int→Int) (fun k x y=>k.wrap (BitVec.ofInt k.bits x ||| BitVec.ofInt k.bits y).toNat))
theorem Bx (k x y):Qq k x y=k.wrap (BitVec.ofInt k.bits x ||| BitVec.ofInt k.bits y).toNat:=by rw[K2]
def LC:IntKind→Int→Int→Int:=Classical.choose (c6 (α:=IntKind→Int→Int→Int) (fun k x y=>k.wrap (BitVec.ofInt k.bits x ^^^ BitVec.ofInt k.bits y).toNat))
theorem I8:LC=(fun k x y=>k.wrap (BitVec.ofInt k.bits x ^^^ BitVec.ofInt k.bits y).toNat):=Classical.choose_spec (c6 (α:=IntKind→Int→Int→Int) (fun k x y=>k.wrap (BitVec.ofInt k.bits x ^^^ BitVec.ofInt k.bits y).toNat))
theorem yd (k x y):LC k x y=k.wrap (BitVec.ofInt k.bits x ^^^ BitVec.ofInt k.bits y).toNat:=by rw[I8]
def OC:IntKind→Int→Int→Int:=Classical.choose (c6 (α:=IntKind→Int→Int→Int) (fun k x y=>k.wrap (BitVec.ofInt k.bits x &&& ~~~(BitVec.ofInt k.bits y)).toNat))
theorem J7:OC=(fun k x y=>k.wrap (BitVec.ofInt k.bits x &&& ~~~(BitVec.ofInt k.bits y)).toNat):=Classical.choose_spec (c6 (α:=IntKind→Int→Int→Int) (fun k x y=>k.wrap (BitVec.ofInt k.bits x &&& ~~~(BitVec.ofInt k.bits y)).toNat))
theorem AR (k x y):OC k x y=k.wrap (BitVec.ofInt k.bits x &&& ~~~(BitVec.ofInt k.bits y)).toNat:=by rw[J7]
def Ll:IntKind→Int→Int→Int:=Classical.choose (c6 (α:=IntKind→Int→Int→Int) (fun k x y=>k.wrap (x*2 ^ (min y.toNat k.bits))))
theorem IU:Ll=(fun k x y=>k.wrap (x*2 ^ (min y.toNat k.bits))):=Classical.choose_spec (c6 (α:=IntKind→Int→Int→Int) (fun k x y=>k.wrap (x*2 ^ (min y.toNat k.bits))))
theorem IT (k x y):Ll k x y=k.wrap (x*2 ^ (min y.toNat k.bits)):=by rw[IU]
def Lm:IntKind→Int→Int→Int:=Classical.choose (c6 (α:=IntKind→Int→Int→Int) (fun k x y=>x.fdiv (2 ^ (min y.toNat k.bits))))
theorem IW:Lm=(fun k x y=>x.fdiv (2 ^ (min y.toNat k.bits))):=Classical.choose_spec (c6 (α:=IntKind→Int→Int→Int) (fun k x y=>x.fdiv (2 ^ (min y.toNat k.bits))))
theorem IV (k x y):Lm k x y=x.fdiv (2 ^ (min y.toNat k.bits)):=by rw[IW]
def nn:IntKind→Int→Int:=Classical.choose (c6 (α:=IntKind→Int→Int) (fun k x=>k.wrap x))
theorem LB:nn=(fun k x=>k.wrap x):=Classical.choose_spec (c6 (α:=IntKind→Int→Int) (fun k x=>k.wrap x))
theorem BQ (k x):nn k x=k.wrap x:=by rw[LB]
def KX:IntKind→Int→Int:=Classical.choose (c6 (α:=IntKind→Int→Int) (fun k x=>k.wrap (0-x)))
theorem Is:KX=(fun k x=>k.wrap (0-x)):=Classical.choose_spec (c6 (α:=IntKind→Int→Int) (fun k x=>k.wrap (0-x)))
theorem Ir (k x):KX k x=k.wrap (0-x):=by rw[Is]
def b7:Int→Int→Bool:=Classical.choose (c6 (α:=Int→Int→Bool) (fun x y=>(x == y)))
theorem Ks:b7=(fun x y=>(x == y)):=Classical.choose_spec (c6 (α:=Int→Int→Bool) (fun x y=>(x == y)))
theorem iG (x y):b7 x y=(x == y):=by rw[Ks]
def bK:Int→Int→Bool:=Classical.choose (c6 (α:=Int→Int→Bool) (fun x y=>decide (x<y)))
theorem KS:bK=(fun x y=>decide (x<y)):=Classical.choose_spec (c6 (α:=Int→Int→Bool) (fun x y=>decide (x<y)))
theorem cY (x y):bK x y=decide (x<y):=by rw[KS]
def lV:Int→Int→Bool:=Classical.choose (c6 (α:=Int→Int→Bool) (fun x y=>decide (x≤y)))
theorem KL:lV=(fun x y=>decide (x≤y)):=Classical.choose_spec (c6 (α:=Int→Int→Bool) (fun x y=>decide (x≤y)))
theorem mC (x y):lV x y=decide (x≤y):=by rw[KL]
def aP:Bool→Bool:=Classical.choose (c6 (α:=Bool→Bool) (fun b=>(!b)))
theorem Iu:aP=(fun b=>(!b)):=Classical.choose_spec (c6 (α:=Bool→Bool) (fun b=>(!b)))
theorem ie (b):aP b=(!b):=by rw[Iu]
def j6:Bool→Bool→Bool:=Classical.choose (c6 (α:=Bool→Bool→Bool) (fun a b=>(a && b)))
theorem Hn:j6=(fun a b=>(a && b)):=Classical.choose_spec (c6 (α:=Bool→Bool→Bool) (fun a b=>(a && b)))
theorem oF (a b):j6 a b=(a && b):=by rw[Hn]
def O3:Bool→Bool→Bool:=Classical.choose (c6 (α:=Bool→Bool→Bool) (fun a b=>(a == b)))
theorem Kr:O3=(fun a b=>(a == b)):=Classical.choose_spec (c6 (α:=Bool→Bool→Bool) (fun a b=>(a == b)))
theorem Kq (a b):O3 a b=(a == b):=by rw[Kr]
def jV:Int→Int→Int:=Classical.choose (c6 (α:=Int→Int→Int) (fun x y=>if y<x then y else x))
theorem Ij:jV=(fun x y=>if y<x then y else x):=Classical.choose_spec (c6 (α:=Int→Int→Int) (fun x y=>if y<x then y else x))
theorem CK (x y):jV x y=if y<x then y else x:=by rw[Ij]
def D6:Int→Int→Int:=Classical.choose (c6 (α:=Int→Int→Int) (fun x y=>if y > x then y else x))
theorem Ih:D6=(fun x y=>if y > x then y else x):=Classical.choose_spec (c6 (α:=Int→Int→Int) (fun x y=>if y > x then y else x))
theorem CJ (x y):D6 x y=if y > x then y else x:=by rw[Ih]
def cE:Int→Nat→Bool:=Classical.choose (c6 (α:=Int→Nat→Bool) (fun (i:Int) (n:Nat)=>decide (0≤i∧i<(n:Int))))
theorem KC:cE=(fun (i:Int) (n:Nat)=>decide (0≤i∧i<(n:Int))):=Classical.choose_spec (c6 (α:=Int→Nat→Bool) (fun (i:Int) (n:Nat)=>decide (0≤i∧i<(n:Int))))
theorem qp (i n):cE i n=decide (0≤i∧i<(n:Int)):=by rw[KC]
def mb:Int→Nat→Bool:=Classical.choose (c6 (α:=Int→Nat→Bool) (fun (i:Int) (n:Nat)=>decide (0≤i∧i≤(n:Int))))
theorem Hy:mb=(fun (i:Int) (n:Nat)=>decide (0≤i∧i≤(n:Int))):=Classical.choose_spec (c6 (α:=Int→Nat→Bool) (fun (i:Int) (n:Nat)=>decide (0≤i∧i≤(n:Int))))
theorem B6 (i n):mb i n=decide (0≤i∧i≤(n:Int)):=by rw[Hy]
def D7:Int→Int→Nat→Bool:=Classical.choose (c6 (α:=Int→Int→Nat→Bool) (fun l c b=>decide (0≤l∧l≤c∧c.toNat*b≤room∧c.toNat≤room)))
theorem KV:D7=(fun l c b=>decide (0≤l∧l≤c∧c.toNat*b≤room∧c.toNat≤room)):=Classical.choose_spec (c6 (α:=Int→Int→Nat→Bool) (fun l c b=>decide (0≤l∧l≤c∧c.toNat*b≤room∧c.toNat≤room)))
theorem xr (l c b):D7 l c b=decide (0≤l∧l≤c∧c.toNat*b≤room∧c.toNat≤room):=by rw[KV]
def dr:Int→Nat:=Classical.choose (c6 (α:=Int→Nat) (fun i=>i.toNat))
theorem Lv:dr=(fun i=>i.toNat):=Classical.choose_spec (c6 (α:=Int→Nat) (fun i=>i.toNat))
theorem lP (i):dr i=i.toNat:=by rw[Lv]
def au:Nat→Int→Nat→Nat:=Classical.choose (c6 (α:=Nat→Int→Nat→Nat) (fun o i s=>o+i.toNat*s))
theorem KA:au=(fun o i s=>o+i.toNat*s):=Classical.choose_spec (c6 (α:=Nat→Int→Nat→Nat) (fun o i s=>o+i.toNat*s))
theorem ln (o i s):au o i s=o+i.toNat*s:=by rw[KA]
def bO:Nat→Nat→Nat:=Classical.choose (c6 (α:=Nat→Nat→Nat) (fun a b=>a+b))
theorem Hl:bO=(fun a b=>a+b):=Classical.choose_spec (c6 (α:=Nat→Nat→Nat) (fun a b=>a+b))
theorem bH (a b):bO a b=a+b:=by rw[Hl]
def ur:Nat→Nat→Nat:=Classical.choose (c6 (α:=Nat→Nat→Nat) (fun a b=>a-b))
theorem I0:ur=(fun a b=>a-b):=Classical.choose_spec (c6 (α:=Nat→Nat→Nat) (fun a b=>a-b))
theorem lK (a b):ur a b=a-b:=by rw[I0]
def Il:Nat→Nat→Nat:=Classical.choose (c6 (α:=Nat→Nat→Nat) (fun a b=>a*b))
theorem Im:Il=(fun a b=>a*b):=Classical.choose_spec (c6 (α:=Nat→Nat→Nat) (fun a b=>a*b))
theorem CN (a b):Il a b=a*b:=by rw[Im]
def qF:Nat→Nat→Nat:=Classical.choose (c6 (α:=Nat→Nat→Nat) (fun a b=>min a b))
theorem Ii:qF=(fun a b=>min a b):=Classical.choose_spec (c6 (α:=Nat→Nat→Nat) (fun a b=>min a b))
theorem pA (a b):qF a b=min a b:=by rw[Ii]
def cr:Nat→Nat→Bool:=Classical.choose (c6 (α:=Nat→Nat→Bool) (fun a b=>decide (a<b)))
theorem KU:cr=(fun a b=>decide (a<b)):=Classical.choose_spec (c6 (α:=Nat→Nat→Bool) (fun a b=>decide (a<b)))
theorem gG (a b):cr a b=decide (a<b):=by rw[KU]
def gM:Nat→Nat→Bool:=Classical.choose (c6 (α:=Nat→Nat→Bool) (fun a b=>decide (a≤b)))
theorem KM:gM=(fun a b=>decide (a≤b)):=Classical.choose_spec (c6 (α:=Nat→Nat→Bool) (fun a b=>decide (a≤b)))
theorem lr (a b):gM a b=decide (a≤b):=by rw[KM]
def b9:Nat→Nat→Bool:=Classical.choose (c6 (α:=Nat→Nat→Bool) (fun a b=>decide (a=b)))
theorem Kt:b9=(fun a b=>decide (a=b)):=Classical.choose_spec (c6 (α:=Nat→Nat→Bool) (fun a b=>decide (a=b)))
theorem gy (a b):b9 a b=decide (a=b):=by rw[Kt]
def gq:Nat→Nat→Nat→Nat→Bool:=Classical.choose (c6 (α:=Nat→Nat→Nat→Nat→Bool) (fun o m p n=>decide (p≤o∧o+m≤p+n)))
theorem KD:gq=(fun o m p n=>decide (p≤o∧o+m≤p+n)):=Classical.choose_spec (c6 (α:=Nat→Nat→Nat→Nat→Bool) (fun o m p n=>decide (p≤o∧o+m≤p+n)))
theorem g5 (o m p n):gq o m p n=decide (p≤o∧o+m≤p+n):=by rw[KD]
def EN:(Nat→AV)→IntKind→Nat→Bool→Prop:=Classical.choose (c6 (α:=(Nat→AV)→IntKind→Nat→Bool→Prop) (fun f k sz full=>∀ j,∃ z n m,f j=AV.slcT none (Row.M [ah.arr k z n]) sz m full))
theorem Hm:EN=(fun f k sz full=>∀ j,∃ z n m,f j=AV.slcT none (Row.M [ah.arr k z n]) sz m full):=Classical.choose_spec (c6 (α:=(Nat→AV)→IntKind→Nat→Bool→Prop) (fun f k sz full=>∀ j,∃ z n m,f j=AV.slcT none (Row.M [ah.arr k z n]) sz m full))
theorem BW (f k sz full):EN f k sz full=∀ j,∃ z n m,f j=AV.slcT none (Row.M [ah.arr k z n]) sz m full:=by rw[Hm]
def IN:Bool→(Nat→Int)→(Nat→Int)→Nat→Int:=Classical.choose (c6 (α:=Bool→(Nat→Int)→(Nat→Int)→Nat→Int) (fun b x y=>cond b x y))
theorem IP:IN=(fun b x y=>cond b x y):=Classical.choose_spec (c6 (α:=Bool→(Nat→Int)→(Nat→Int)→Nat→Int) (fun b x y=>cond b x y))
theorem x0 (b x y):IN b x y=cond b x y:=by rw[IP]
def Es:Bool→Nat→Nat→Nat:=Classical.choose (c6 (α:=Bool→Nat→Nat→Nat) (fun b x y=>cond b x y))
theorem IM:Es=(fun b x y=>cond b x y):=Classical.choose_spec (c6 (α:=Bool→Nat→Nat→Nat) (fun b x y=>cond b x y))
theorem xZ (b x y):Es b x y=cond b x y:=by rw[IM]
def eO:Nat→Nat→Nat→Bool:=Classical.choose (c6 (α:=Nat→Nat→Nat→Bool) (fun m n b=>decide ((m+n)*b≤room∧m+n≤room)))
theorem GK:eO=(fun m n b=>decide ((m+n)*b≤room∧m+n≤room)):=Classical.choose_spec (c6 (α:=Nat→Nat→Nat→Bool) (fun m n b=>decide ((m+n)*b≤room∧m+n≤room)))
theorem Ah (m n b):eO m n b=decide ((m+n)*b≤room∧m+n≤room):=by rw[GK]
def fX:(Nat→Int)→Nat→Int→Nat→Int:=Classical.choose (c6 (α:=(Nat→Int)→Nat→Int→Nat→Int) (fun z i x=>fun j=>if j=i then x else z j))
theorem ig:fX=(fun z i x=>fun j=>if j=i then x else z j):=Classical.choose_spec (c6 (α:=(Nat→Int)→Nat→Int→Nat→Int) (fun z i x=>fun j=>if j=i then x else z j))
def dD:(Nat→Int)→Nat→Nat→Int:=Classical.choose (c6 (α:=(Nat→Int)→Nat→Nat→Int) (fun z o=>fun j=>z (o+j)))
theorem mQ:dD=(fun z o=>fun j=>z (o+j)):=Classical.choose_spec (c6 (α:=(Nat→Int)→Nat→Nat→Int) (fun z o=>fun j=>z (o+j)))
def eG:(Nat→Int)→Nat→(Nat→Int)→Nat→Nat→Int:=Classical.choose (c6 (α:=(Nat→Int)→Nat→(Nat→Int)→Nat→Nat→Int) (fun z o z' n=>DI z o z' n))
theorem rW:eG=(fun z o z' n=>DI z o z' n):=Classical.choose_spec (c6 (α:=(Nat→Int)→Nat→(Nat→Int)→Nat→Nat→Int) (fun z o z' n=>DI z o z' n))
theorem HG (z o z' n):eG z o z' n=DI z o z' n:=by rw[rW]
def kO:(Nat→Int)→Nat→(Nat→Int)→Nat→Int:=Classical.choose (c6 (α:=(Nat→Int)→Nat→(Nat→Int)→Nat→Int) (fun z n z'=>fun i=>if i<n then z i else z' (i-n)))
theorem oI:kO=(fun z n z'=>fun i=>if i<n then z i else z' (i-n)):=Classical.choose_spec (c6 (α:=(Nat→Int)→Nat→(Nat→Int)→Nat→Int) (fun z n z'=>fun i=>if i<n then z i else z' (i-n)))
def KO:List Int→Nat:=Classical.choose (c6 (α:=List Int→Nat) (fun l=>l.length))
theorem H9:KO=(fun l=>l.length):=Classical.choose_spec (c6 (α:=List Int→Nat) (fun l=>l.length))
theorem H8 (l):KO l=l.length:=by rw[H9]
def ay:List Int→Nat→Int:=Classical.choose (c6 (α:=List Int→Nat→Int) (fun l=>fun j=>l.getD j 0))
theorem iV:ay=(fun l=>fun j=>l.getD j 0):=Classical.choose_spec (c6 (α:=List Int→Nat→Int) (fun l=>fun j=>l.getD j 0))
theorem CC (l):ay l=fun j=>l.getD j 0:=by rw[iV]
def nM:(Nat→Int)→(Nat→Int)→Nat→Bool:=Classical.choose (c6 (α:=(Nat→Int)→(Nat→Int)→Nat→Bool) (fun z z' n=>allEq z z' n))
theorem Dw:nM=(fun z z' n=>allEq z z' n):=Classical.choose_spec (c6 (α:=(Nat→Int)→(Nat→Int)→Nat→Bool) (fun z z' n=>allEq z z' n))
theorem vq (z z' n):nM z z' n=allEq z z' n:=by rw[Dw]
def mN:(List Int→Bool)→List Int→Bool→List Int→Bool:=Classical.choose (c6 (α:=(List Int→Bool)→List Int→Bool→List Int→Bool) (fun h n b=>iD h n b))
theorem mO:mN=(fun h n b=>iD h n b):=Classical.choose_spec (c6 (α:=(List Int→Bool)→List Int→Bool→List Int→Bool) (fun h n b=>iD h n b))
theorem Ai (h n b):mN h n b=iD h n b:=by rw[mO]
def mP:(List Int→Int)→List Int→Int→List Int→Int:=Classical.choose (c6 (α:=(List Int→Int)→List Int→Int→List Int→Int) (fun g n x=>lI g n x))
theorem uf:mP=(fun g n x=>lI g n x):=Classical.choose_spec (c6 (α:=(List Int→Int)→List Int→Int→List Int→Int) (fun g n x=>lI g n x))
theorem Am (g n x):mP g n x=lI g n x:=by rw[uf]
def sF:Bool→Nat→Nat:=Classical.choose (c6 (α:=Bool→Nat→Nat) (fun b c=>yt b c))
theorem Fm:sF=(fun b c=>yt b c):=Classical.choose_spec (c6 (α:=Bool→Nat→Nat) (fun b c=>yt b c))
theorem yu (b c):sF b c=yt b c:=by rw[Fm]
def vD:Bool→Nat→Nat:=Classical.choose (c6 (α:=Bool→Nat→Nat) (fun b c=>DH b c))
theorem Fo:vD=(fun b c=>DH b c):=Classical.choose_spec (c6 (α:=Bool→Nat→Nat) (fun b c=>DH b c))
theorem yv (b c):vD b c=DH b c:=by rw[Fo]

end
end Go.Eng
end
