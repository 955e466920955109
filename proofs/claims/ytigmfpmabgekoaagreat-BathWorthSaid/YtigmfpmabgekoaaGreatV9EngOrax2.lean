/- The engine: tables of calls that are known beforehand. -/
import Derived.Test.YtigmfpmabgekoaaGreatV9EngXx3
set_option linter.unusedVariables false
set_option linter.unusedSimpArgs false
section
namespace Go.Eng

def TT (f:AV→Bool) (r:Row):Bool :=
 match r with
 | .I ..=>true
 | .G l=>l.all f
 | .F ..=>true
 | .M l=>gb l
def rN:Nat→AV→Bool
 | 0,_=>false
 | n+1,v=>match v with
   | .undef | .bool _ | .int _ _ | .str _ | .nilp | .nils | .nilm | .nilf=>true
   | .ptrT none _ _=>true
   | .slcT none _ _ _ _=>true
   | .agg r=>TT (rN n) r
   | .tup l=>l.all (rN n)
   | .fn _ a b=>a.all (rN n) && b.all (rN n)
   | _=>false
theorem gi {f:AV→Bool}:∀ {l:List AV} {j:Nat},l.all f=true→j<l.length→f (l.getD j .undef)=true
 | [],j,_,h=>by simp at h
 | x::l,0,h,_=>by simp at h;simpa using h.1
 | x::l,j+1,h,hj=>by
   simp only[List.all_cons,Bool.and_eq_true] at h
   rw[List.getD_cons_succ]
   exact gi h.2 (by simpa using hj)
theorem iI {p:aJ} {M N:Mu}:∀ (n:Nat) {v:AV} {c:Value},rN n v=true→ai p M v c→ai p N v c
 | 0,v,c,h,_=>by simp[rN] at h
 | n + 1,v,c,h,hv=>by
   have ih:=@iI p M N n
   cases hv with
   | undef c=>exact .undef c
   | bool b=>exact .bool b
   | int k n=>exact .int k n
   | str s=>exact .str s
   | nilp=>exact .nilp
   | nils=>exact .nils
   | nilm=>exact .nilm
   | nilf=>exact .nilf
   | ptr h0=>simp[rN] at h
   | slc h0=>simp[rN] at h
   | map h0=>simp[rN] at h
   | yld h0=>simp[rN] at h
   | ptrT vs h0 h1 hv =>
     rename_i s r off b o
     cases s with
     | some s=>simp[rN] at h
     | none=>exact .ptrT vs h0 h1 hv
   | slcT vs h0 h1 hv hl hf hx =>
     rename_i s r sz len b o x cc full
     cases s with
     | some s=>simp[rN] at h
     | none=>exact .slcT vs h0 h1 hv hl hf hx
   | slcN=>exact .slcN
   | fn ha hb va vb =>
     simp only[rN,Bool.and_eq_true] at h
     exact .fn ha hb (fun j hj=>ih (gi h.1 hj) (va j hj)) (fun j hj=>ih (gi h.2 hj) (vb j hj))
   | agg hs h1 hv =>
     rename_i r cs
     simp only[rN] at h
     cases r with
     | I k l=>exact .agg hs h1 (fun j hj=>(hv j hj).bF _ _)
     | F f m=>exact .agg hs h1 hv
     | M l=>exact .agg hs h1 (ba.gb h hv)
     | G l=>exact .agg hs h1 (fun j hj=>ih (gi (f:=rN n) h hj) (hv j hj))
   | tup hs hv =>
     simp only[rN] at h
     exact .tup hs (fun j hj=>ih (gi h hj) (hv j hj))

structure jx where
 f:FuncId
 args:List AV
 v:AV
def cj (P:Program) (e:jx):Prop:=∀ (H:aa),H≠[]→∀ (p:aJ) (M:Mu) (w:World) (cargs:Array Value),a8 p M H w→gD p M e.args cargs →
 (∃ fn,P.funcs[e.f]?=some fn∧fn.body.isNone=false)∧CallsIn Fence.wide 0 P e.f cargs w (jT p M H w e.v H)

theorem zK {P:Program} {call:aU} (hC:bR P call) {e:jx} {H':aa} (h:call (.fn e.f) e.args [⟨true,[]⟩]=some (e.v,H')) (hn:e.args.all (rN 9)=true):cj P e:=by
 intro H hne p M w cargs hH hA
 have hH0:a8 p Mu.no [⟨true,[]⟩] w:=⟨hH.pers,(fun d i v B hg hB=>by
  cases d<;>simp[au,aq] at hg<;>exact absurd hg.2.symm hB),(fun d i v B d' i' v' B' b o t o' t' hg hB hg' hB' hm hm'=>by cases hm),(fun d i v t hm=>by cases hm)⟩
 have hA0:gD p Mu.no e.args cargs:=⟨hA.1,fun j hj=>iI 9 (gi hn hj) (hA.2 j hj)⟩
 obtain ⟨h1,h2⟩:=hC (.fn e.f) e.args _ e.v H' h (by simp) p Mu.no w cargs hH0 hA0
 refine ⟨h1,h2.mono ?_⟩
 rintro en w' ⟨cv,rfl,st,p',M',hE,hv⟩
 have hM:Mu.le M' M:=fun d i v t hm=>by
  have h3:=(hE.rel.dom d i v t hm).1
  have h4:az [⟨true,[]⟩] d=true:=by cases d<;>rfl
  rw[st.next d h4] at h3
  cases d<;>simp[ah] at h3
 have all:∀ b,Go.Eng.bf Mu.no [⟨true,[]⟩] b:=fun b d i u B _ _ _ o t hm=>by cases hm
 have no:∀ {b:Nat},¬ (az [⟨true,[]⟩] 0=false∧∃ i u o' t',Mu.no 0 i u=some (b,o',t')):=fun h=>by have:=h.1;cases this
 refine ⟨cv,rfl,Still.refl H,p',M,{ b9.refl hH with pst:=hE.pst,rel:=⟨hE.rel.pers,?_,hH.apart,hH.dom⟩,stay:=hE.stay.weaken (fun b _ _=>all b),fresh:=fun b o v hv=>(hE.fresh b o v hv).imp_right fun h=>h.elim .inl fun h=>(no h).elim },hv.mono (aJ.le.refl _) hM⟩
 intro d i u B hg hB
 obtain ⟨b,o,t,k1,k2,k3⟩:=hH.live d i u B hg hB
 have hlt:=k2.lt hB
 refine ⟨b,o,t,k1,k2.mono hE.pst (Mu.le.refl _) (hE.stay.block b hlt (all b)),fun x=>?_⟩
 cases hx:p' b x with
 | none=>rfl
 | some y =>
   rcases hE.fresh b x y hx with h | h | ⟨h,_⟩
   · rw[k3] at h;cases h
   · omega
   · cases h

noncomputable def uV (f:AV→AV→Bool) (r s:Row):Bool :=
 match r,s with
 | .I k l,.I k' l'=>gE k k' && listEqI l l'
 | .G l,.G l'=>listEqV f l l'
 | _,_=>false
where
 listEqI:List Int→List Int→Bool
  | [],[]=>true
  | x::a,y::b=>Gx x y && listEqI a b
  | _,_=>false
 listEqV (f:AV→AV→Bool):List AV→List AV→Bool
  | [],[]=>true
  | x::a,y::b=>f x y && listEqV f a b
  | _,_=>false
def AN:Option Nat→Option Nat→Bool
 | none,none=>true
 | some a,some b=>Nat.beq a b
 | _,_=>false
noncomputable def JL:Nat→AV→AV→Bool
 | 0,_,_=>false
 | n+1,v,u=>match v,u with
   | .bool a,.bool b=>a == b
   | .int k a,.int k' b=>gE k k' && Gx a b
   | .nilp,.nilp=>true
   | .nils,.nils=>true
   | .nilm,.nilm=>true
   | .ptrT s r o,.ptrT s' r' o'=>AN s s' && (uV (JL n) r r' && Nat.beq o o')
   | .slcT s r z l b,.slcT s' r' z' l' b'=>AN s s' && (uV (JL n) r r' && (Nat.beq z z' && (Nat.beq l l' && b == b')))
   | .agg r,.agg r'=>uV (JL n) r r'
   | _,_=>false
theorem tH:∀ (l m:List Int),uV.listEqI l m=true→l=m
 | [],[],_=>rfl
 | [],_::_,h=>by simp[uV.listEqI] at h
 | _::_,[],h=>by simp[uV.listEqI] at h
 | x::a,y::b,h=>by
   simp only[uV.listEqI,Bool.and_eq_true,xk,beq_iff_eq] at h
   rw[h.1,tH a b h.2]
theorem gQ {f:AV→AV→Bool} (hf:∀ x y,f x y=true→x=y):∀ (l m:List AV),uV.listEqV f l m=true→l=m
 | [],[],_=>rfl
 | [],_::_,h=>by simp[uV.listEqV] at h
 | _::_,[],h=>by simp[uV.listEqV] at h
 | x::a,y::b,h=>by
   simp only[uV.listEqV,Bool.and_eq_true] at h
   rw[hf _ _ h.1,gQ hf a b h.2]
theorem oa {f:AV→AV→Bool} (hf:∀ x y,f x y=true→x=y) (r s:Row) (h:uV f r s=true):r=s:=by
 cases r<;>cases s<;>simp only[uV,Bool.and_eq_true,eY,decide_eq_true_eq] at h<;>try (simp at h;done)
 · rw[h.1,tH _ _ h.2]
 · rw[gQ hf _ _ h]
theorem ph (a b:Option Nat) (h:AN a b=true):a=b:=by
 cases a<;>cases b<;>simp[AN] at h ⊢;exact h
theorem EP:∀ (n:Nat) (x y:AV),JL n x y=true→x=y
 | 0,x,y,h=>by simp[JL] at h
 | n+1,x,y,h=>by
   have ih:=EP n
   cases x<;>cases y<;>simp only[JL,Bool.and_eq_true,eY,xk,decide_eq_true_eq,beq_iff_eq] at h<;>try (first | rfl | (simp at h;done))
   case bool.bool=>rw[h]
   case int.int=>rw[h.1,h.2]
   case ptrT.ptrT=>rw[ph _ _ h.1,oa ih _ _ h.2.1,Nat.eq_of_beq_eq_true h.2.2]
   case slcT.slcT=>rw[ph _ _ h.1,oa ih _ _ h.2.1,Nat.eq_of_beq_eq_true h.2.2.1,Nat.eq_of_beq_eq_true h.2.2.2.1,h.2.2.2.2]
   case agg.agg=>rw[oa ih _ _ h]

noncomputable def Ba:List jx→aU→FuncId→List AV→aa→Option (AV×aa)
 | [],_,_,_,_=>none
 | e::r,c,f,args,H=>if Nat.beq e.f f && uV.listEqV (JL 9) e.args args then some (e.v,H) else Ba r c f args H
theorem xH {P:Program}:∀ (tab:List jx),(∀ e ∈ tab,cj P e)→vt P (Ba tab)
 | [],_=>fun call _ f args H v H' h=>by simp[Ba] at h
 | e :: r,hT=>fun call hC f args H v H' h=>by
   simp only[Ba] at h
   split at h
   · rename_i hc
     simp only[Bool.and_eq_true] at hc
     have e1:=Nat.eq_of_beq_eq_true hc.1
     have e2:=gQ (EP 9) _ _ hc.2
     have e3:=Option.some.inj h
     simp only[Prod.mk.injEq] at e3
     obtain ⟨e3,e4⟩:=e3
     subst e1;subst e2;subst e3;subst e4
     exact hT e (by simp) H
   · exact xH r (fun e' he=>hT e' (List.mem_cons_of_mem _ he)) call hC f args H v H' h

end Go.Eng
end
section
namespace Go.Eng
noncomputable section

inductive Tr (α:Type) where
 | ok (a:α)
 | bad
 | ite (c:Bool) (t e:Tr α)
 | req (c:Bool) (t:Tr α)
 | reqP (p:Prop) (t:Tr α)
open Classical in
def Tr.run {α:Type}:Tr α→Option α
 | .ok a=>some a
 | .bad=>none
 | .ite c t e=>cond c t.run e.run
 | .req c t=>cond c t.run none
 | .reqP p t=>if p then t.run else none
def Tr.bind {α β:Type} (t:Tr α) (f:α→Tr β):Tr β:=Tr.rec (motive:=fun _=>Tr β) f .bad (fun c _ _ a b=>.ite c a b) (fun c _ a=>.req c a) (fun p _ a=>.reqP p a) t
theorem Tr.Ez {α β:Type} (t:Tr α) (f:α→Tr β):(t.bind f).run=t.run.bind fun a=>(f a).run:=by
 induction t with
 | ok a=>rfl
 | bad=>rfl
 | ite c a b iha ihb =>
   have e:(Tr.ite c a b).bind f=.ite c (a.bind f) (b.bind f):=rfl
   rw[e];simp only[Tr.run,iha,ihb];cases c<;>rfl
 | req c a ih =>
   have e:(Tr.req c a).bind f=.req c (a.bind f):=rfl
   rw[e];simp only[Tr.run,ih];cases c<;>rfl
 | reqP p a ih =>
   have e:(Tr.reqP p a).bind f=.reqP p (a.bind f):=rfl
   rw[e];simp only[Tr.run,ih]
   by_cases hp:p
   · rw[if_pos hp,if_pos hp]
   · rw[if_neg hp,if_neg hp];rfl
theorem Tr.cW {α:Type} {p:Prop} {t:Tr α} {x:α} (h:(Tr.reqP p t).run=some x):p∧t.run=some x:=by
 simp only[Tr.run] at h
 by_cases hp:p
 · rw[if_pos hp] at h;exact ⟨hp,h⟩
 · rw[if_neg hp] at h;cases h
theorem Tr.F6 {α:Type} {p:Prop} {a:Tr α} (h:p):(Tr.reqP p a).run=a.run:=by simp only[Tr.run];rw[if_pos h]
theorem Tr.bind_some {α β:Type} {t:Tr α} {f:α→Tr β} {y:β} (h:(t.bind f).run=some y):∃ x,t.run=some x∧(f x).run=some y:=by
 rw[Tr.Ez] at h
 exact Option.bind_eq_some_iff.1 h
theorem Tr.aR {α:Type} {c:Bool} {t:Tr α} {x:α} (h:(Tr.req c t).run=some x):c=true∧t.run=some x:=by
 cases c with
 | true=>exact ⟨rfl,h⟩
 | false=>simp[Tr.run] at h
theorem Tr.gu {α:Type} {c:Bool} {t e:Tr α} {x:α} (h:(Tr.ite c t e).run=some x):(c=true∧t.run=some x)∨(c=false∧e.run=some x):=by
 cases c with
 | true=>exact .inl ⟨rfl,h⟩
 | false=>exact .inr ⟨rfl,h⟩
theorem Tr.ab {α:Type} {a x:α} (h:(Tr.ok a).run=some x):a=x:=Option.some.inj h
theorem Tr.ae {α:Type} {x:α} (h:(Tr.bad:Tr α).run=some x):False:=by simp[Tr.run] at h
def wu {α:Type} (o:Option α):Tr α:=Option.rec (motive:=fun _=>Tr α) .bad .ok o
theorem db {α:Type} (o:Option α):(wu o).run=o:=by cases o<;>rfl
theorem dc {α:Type} (f:α):∃ g,g=f:=⟨f,rfl⟩

def aS:IntKind→Int→Int→Int:=Classical.choose (dc (α:=IntKind→Int→Int→Int) (fun k x y=>k.wrap (x+y)))
theorem GD:aS=(fun k x y=>k.wrap (x+y)):=Classical.choose_spec (dc (α:=IntKind→Int→Int→Int) (fun k x y=>k.wrap (x+y)))
theorem cD (k x y):aS k x y=k.wrap (x+y):=by rw[GD]
def bQ:IntKind→Int→Int→Int:=Classical.choose (dc (α:=IntKind→Int→Int→Int) (fun k x y=>k.wrap (x-y)))
theorem Iw:bQ=(fun k x y=>k.wrap (x-y)):=Classical.choose_spec (dc (α:=IntKind→Int→Int→Int) (fun k x y=>k.wrap (x-y)))
theorem cG (k x y):bQ k x y=k.wrap (x-y):=by rw[Iw]
def nD:IntKind→Int→Int→Int:=Classical.choose (dc (α:=IntKind→Int→Int→Int) (fun k x y=>k.wrap (x*y)))
theorem HL:nD=(fun k x y=>k.wrap (x*y)):=Classical.choose_spec (dc (α:=IntKind→Int→Int→Int) (fun k x y=>k.wrap (x*y)))
theorem nj (k x y):nD k x y=k.wrap (x*y):=by rw[HL]
def Kz:IntKind→Int→Int→Int:=Classical.choose (dc (α:=IntKind→Int→Int→Int) (fun k x y=>k.wrap (x.tdiv y)))
theorem H8:Kz=(fun k x y=>k.wrap (x.tdiv y)):=Classical.choose_spec (dc (α:=IntKind→Int→Int→Int) (fun k x y=>k.wrap (x.tdiv y)))
theorem H7 (k x y):Kz k x y=k.wrap (x.tdiv y):=by rw[H8]
def oE:IntKind→Int→Int→Int:=Classical.choose (dc (α:=IntKind→Int→Int→Int) (fun k x y=>x.tmod y))
theorem Ib:oE=(fun k x y=>x.tmod y):=Classical.choose_spec (dc (α:=IntKind→Int→Int→Int) (fun k x y=>x.tmod y))
theorem CH (k x y):oE k x y=x.tmod y:=by rw[Ib]
def Js:IntKind→Int→Int→Int:=Classical.choose (dc (α:=IntKind→Int→Int→Int) (fun k x y=>k.wrap (BitVec.ofInt k.bits x &&& BitVec.ofInt k.bits y).toNat))
theorem GK:Js=(fun k x y=>k.wrap (BitVec.ofInt k.bits x &&& BitVec.ofInt k.bits y).toNat):=Classical.choose_spec (dc (α:=IntKind→Int→Int→Int) (fun k x y=>k.wrap (BitVec.ofInt k.bits x &&& BitVec.ofInt k.bits y).toNat))
theorem wU (k x y):Js k x y=k.wrap (BitVec.ofInt k.bits x &&& BitVec.ofInt k.bits y).toNat:=by rw[GK]
def PW:IntKind→Int→Int→Int:=Classical.choose (dc (α:=IntKind→Int→Int→Int) (fun k x y=>k.wrap (BitVec.ofInt k.bits x ||| BitVec.ofInt k.bits y).toNat))
theorem Ku:PW=(fun k x y=>k.wrap (BitVec.ofInt k.bits x ||| BitVec.ofInt k.bits y).toNat):=Classical.choose_spec (dc (α:=IntKind→Int→Int→Int) (fun k x y=>k.wrap (BitVec.ofInt k.bits x ||| BitVec.ofInt k.bits y).toNat))
theorem A9 (k x y):PW k x y=k.wrap (BitVec.ofInt k.bits x ||| BitVec.ofInt k.bits y).toNat:=by rw[Ku]
def K5:IntKind→Int→Int→Int:=Classical.choose (dc (α:=IntKind→Int→Int→Int) (fun k x y=>k.wrap (BitVec.ofInt k.bits x ^^^ BitVec.ofInt k.bits y).toNat))
theorem IG:K5=(fun k x y=>k.wrap (BitVec.ofInt k.bits x ^^^ BitVec.ofInt k.bits y).toNat):=Classical.choose_spec (dc (α:=IntKind→Int→Int→Int) (fun k x y=>k.wrap (BitVec.ofInt k.bits x ^^^ BitVec.ofInt k.bits y).toNat))
theorem ye (k x y):K5 k x y=k.wrap (BitVec.ofInt k.bits x ^^^ BitVec.ofInt k.bits y).toNat:=by rw[IG]
def NQ:IntKind→Int→Int→Int:=Classical.choose (dc (α:=IntKind→Int→Int→Int) (fun k x y=>k.wrap (BitVec.ofInt k.bits x &&& ~~~(BitVec.ofInt k.bits y)).toNat))
theorem Jp:NQ=(fun k x y=>k.wrap (BitVec.ofInt k.bits x &&& ~~~(BitVec.ofInt k.bits y)).toNat):=Classical.choose_spec (dc (α:=IntKind→Int→Int→Int) (fun k x y=>k.wrap (BitVec.ofInt k.bits x &&& ~~~(BitVec.ofInt k.bits y)).toNat))
theorem AA (k x y):NQ k x y=k.wrap (BitVec.ofInt k.bits x &&& ~~~(BitVec.ofInt k.bits y)).toNat:=by rw[Jp]
def KJ:IntKind→Int→Int→Int:=Classical.choose (dc (α:=IntKind→Int→Int→Int) (fun k x y=>k.wrap (x*2 ^ (min y.toNat k.bits))))
theorem Ir:KJ=(fun k x y=>k.wrap (x*2 ^ (min y.toNat k.bits))):=Classical.choose_spec (dc (α:=IntKind→Int→Int→Int) (fun k x y=>k.wrap (x*2 ^ (min y.toNat k.bits))))
theorem Iq (k x y):KJ k x y=k.wrap (x*2 ^ (min y.toNat k.bits)):=by rw[Ir]
def KL:IntKind→Int→Int→Int:=Classical.choose (dc (α:=IntKind→Int→Int→Int) (fun k x y=>x.fdiv (2 ^ (min y.toNat k.bits))))
theorem It:KL=(fun k x y=>x.fdiv (2 ^ (min y.toNat k.bits))):=Classical.choose_spec (dc (α:=IntKind→Int→Int→Int) (fun k x y=>x.fdiv (2 ^ (min y.toNat k.bits))))
theorem Is (k x y):KL k x y=x.fdiv (2 ^ (min y.toNat k.bits)):=by rw[It]
def Bz:IntKind→Int→Int:=Classical.choose (dc (α:=IntKind→Int→Int) (fun k x=>k.wrap x))
theorem K3:Bz=(fun k x=>k.wrap x):=Classical.choose_spec (dc (α:=IntKind→Int→Int) (fun k x=>k.wrap x))
theorem Gr (k x):Bz k x=k.wrap x:=by rw[K3]
def FI:IntKind→Int→Int:=Classical.choose (dc (α:=IntKind→Int→Int) (fun k x=>k.wrap (0-x)))
theorem HQ:FI=(fun k x=>k.wrap (0-x)):=Classical.choose_spec (dc (α:=IntKind→Int→Int) (fun k x=>k.wrap (0-x)))
theorem Ct (k x):FI k x=k.wrap (0-x):=by rw[HQ]
def c5:Int→Int→Bool:=Classical.choose (dc (α:=Int→Int→Bool) (fun x y=>(x == y)))
theorem JO:c5=(fun x y=>(x == y)):=Classical.choose_spec (dc (α:=Int→Int→Bool) (fun x y=>(x == y)))
theorem b8 (x y):c5 x y=(x == y):=by rw[JO]
def cn:Int→Int→Bool:=Classical.choose (dc (α:=Int→Int→Bool) (fun x y=>decide (x<y)))
theorem Ki:cn=(fun x y=>decide (x<y)):=Classical.choose_spec (dc (α:=Int→Int→Bool) (fun x y=>decide (x<y)))
theorem eZ (x y):cn x y=decide (x<y):=by rw[Ki]
def mI:Int→Int→Bool:=Classical.choose (dc (α:=Int→Int→Bool) (fun x y=>decide (x≤y)))
theorem Ke:mI=(fun x y=>decide (x≤y)):=Classical.choose_spec (dc (α:=Int→Int→Bool) (fun x y=>decide (x≤y)))
theorem jb (x y):mI x y=decide (x≤y):=by rw[Ke]
def bL:Bool→Bool:=Classical.choose (dc (α:=Bool→Bool) (fun b=>(!b)))
theorem HS:bL=(fun b=>(!b)):=Classical.choose_spec (dc (α:=Bool→Bool) (fun b=>(!b)))
theorem iJ (b):bL b=(!b):=by rw[HS]
def g7:Bool→Bool→Bool:=Classical.choose (dc (α:=Bool→Bool→Bool) (fun a b=>(a && b)))
theorem GJ:g7=(fun a b=>(a && b)):=Classical.choose_spec (dc (α:=Bool→Bool→Bool) (fun a b=>(a && b)))
theorem oU (a b):g7 a b=(a && b):=by rw[GJ]
def Ox:Bool→Bool→Bool:=Classical.choose (dc (α:=Bool→Bool→Bool) (fun a b=>(a == b)))
theorem JN:Ox=(fun a b=>(a == b)):=Classical.choose_spec (dc (α:=Bool→Bool→Bool) (fun a b=>(a == b)))
theorem JM (a b):Ox a b=(a == b):=by rw[JN]
def vk:Int→Int→Int:=Classical.choose (dc (α:=Int→Int→Int) (fun x y=>if y<x then y else x))
theorem Ht:vk=(fun x y=>if y<x then y else x):=Classical.choose_spec (dc (α:=Int→Int→Int) (fun x y=>if y<x then y else x))
theorem xD (x y):vk x y=if y<x then y else x:=by rw[Ht]
def FD:Int→Int→Int:=Classical.choose (dc (α:=Int→Int→Int) (fun x y=>if y > x then y else x))
theorem Hq:FD=(fun x y=>if y > x then y else x):=Classical.choose_spec (dc (α:=Int→Int→Int) (fun x y=>if y > x then y else x))
theorem Cp (x y):FD x y=if y > x then y else x:=by rw[Hq]
def cU:Int→Nat→Bool:=Classical.choose (dc (α:=Int→Nat→Bool) (fun (i:Int) (n:Nat)=>decide (0≤i∧i<(n:Int))))
theorem J6:cU=(fun (i:Int) (n:Nat)=>decide (0≤i∧i<(n:Int))):=Classical.choose_spec (dc (α:=Int→Nat→Bool) (fun (i:Int) (n:Nat)=>decide (0≤i∧i<(n:Int))))
theorem qH (i n):cU i n=decide (0≤i∧i<(n:Int)):=by rw[J6]
def nX:Int→Nat→Bool:=Classical.choose (dc (α:=Int→Nat→Bool) (fun (i:Int) (n:Nat)=>decide (0≤i∧i≤(n:Int))))
theorem GS:nX=(fun (i:Int) (n:Nat)=>decide (0≤i∧i≤(n:Int))):=Classical.choose_spec (dc (α:=Int→Nat→Bool) (fun (i:Int) (n:Nat)=>decide (0≤i∧i≤(n:Int))))
theorem BN (i n):nX i n=decide (0≤i∧i≤(n:Int)):=by rw[GS]
def I1:Int→Int→Nat→Bool:=Classical.choose (dc (α:=Int→Int→Nat→Bool) (fun l c b=>decide (0≤l∧l≤c∧c.toNat*b≤room∧c.toNat≤room)))
theorem Kl:I1=(fun l c b=>decide (0≤l∧l≤c∧c.toNat*b≤room∧c.toNat≤room)):=Classical.choose_spec (dc (α:=Int→Int→Nat→Bool) (fun l c b=>decide (0≤l∧l≤c∧c.toNat*b≤room∧c.toNat≤room)))
theorem A1 (l c b):I1 l c b=decide (0≤l∧l≤c∧c.toNat*b≤room∧c.toNat≤room):=by rw[Kl]
def fc:Int→Nat:=Classical.choose (dc (α:=Int→Nat) (fun i=>i.toNat))
theorem KY:fc=(fun i=>i.toNat):=Classical.choose_spec (dc (α:=Int→Nat) (fun i=>i.toNat))
theorem iA (i):fc i=i.toNat:=by rw[KY]
def aw:Nat→Int→Nat→Nat:=Classical.choose (dc (α:=Nat→Int→Nat→Nat) (fun o i s=>o+i.toNat*s))
theorem J4:aw=(fun o i s=>o+i.toNat*s):=Classical.choose_spec (dc (α:=Nat→Int→Nat→Nat) (fun o i s=>o+i.toNat*s))
theorem bA (o i s):aw o i s=o+i.toNat*s:=by rw[J4]
def ak:Nat→Nat→Nat:=Classical.choose (dc (α:=Nat→Nat→Nat) (fun a b=>a+b))
theorem GF:ak=(fun a b=>a+b):=Classical.choose_spec (dc (α:=Nat→Nat→Nat) (fun a b=>a+b))
theorem a7 (a b):ak a b=a+b:=by rw[GF]
def eD:Nat→Nat→Nat:=Classical.choose (dc (α:=Nat→Nat→Nat) (fun a b=>a-b))
theorem Iy:eD=(fun a b=>a-b):=Classical.choose_spec (dc (α:=Nat→Nat→Nat) (fun a b=>a-b))
theorem jO (a b):eD a b=a-b:=by rw[Iy]
def aH:Nat→Nat→Nat:=Classical.choose (dc (α:=Nat→Nat→Nat) (fun a b=>a*b))
theorem HM:aH=(fun a b=>a*b):=Classical.choose_spec (dc (α:=Nat→Nat→Nat) (fun a b=>a*b))
theorem gw (a b):aH a b=a*b:=by rw[HM]
def Hr:Nat→Nat→Nat:=Classical.choose (dc (α:=Nat→Nat→Nat) (fun a b=>min a b))
theorem Hs:Hr=(fun a b=>min a b):=Classical.choose_spec (dc (α:=Nat→Nat→Nat) (fun a b=>min a b))
theorem Cq (a b):Hr a b=min a b:=by rw[Hs]
def bB:Nat→Nat→Bool:=Classical.choose (dc (α:=Nat→Nat→Bool) (fun a b=>decide (a<b)))
theorem Kj:bB=(fun a b=>decide (a<b)):=Classical.choose_spec (dc (α:=Nat→Nat→Bool) (fun a b=>decide (a<b)))
theorem iw (a b):bB a b=decide (a<b):=by rw[Kj]
def ju:Nat→Nat→Bool:=Classical.choose (dc (α:=Nat→Nat→Bool) (fun a b=>decide (a≤b)))
theorem Kf:ju=(fun a b=>decide (a≤b)):=Classical.choose_spec (dc (α:=Nat→Nat→Bool) (fun a b=>decide (a≤b)))
theorem lu (a b):ju a b=decide (a≤b):=by rw[Kf]
def dS:Nat→Nat→Bool:=Classical.choose (dc (α:=Nat→Nat→Bool) (fun a b=>decide (a=b)))
theorem JP:dS=(fun a b=>decide (a=b)):=Classical.choose_spec (dc (α:=Nat→Nat→Bool) (fun a b=>decide (a=b)))
theorem gK (a b):dS a b=decide (a=b):=by rw[JP]
def rF:Nat→Nat→Nat→Nat→Bool:=Classical.choose (dc (α:=Nat→Nat→Nat→Nat→Bool) (fun o m p n=>decide (p≤o∧o+m≤p+n)))
theorem J7:rF=(fun o m p n=>decide (p≤o∧o+m≤p+n)):=Classical.choose_spec (dc (α:=Nat→Nat→Nat→Nat→Bool) (fun o m p n=>decide (p≤o∧o+m≤p+n)))
theorem jV (o m p n):rF o m p n=decide (p≤o∧o+m≤p+n):=by rw[J7]
def Jo:(Nat→AV)→IntKind→Nat→Bool→Prop:=Classical.choose (dc (α:=(Nat→AV)→IntKind→Nat→Bool→Prop) (fun f k sz full=>∀ j,∃ z n m,f j=AV.slcT none (Row.M [aM.arr k z n]) sz m full))
theorem GH:Jo=(fun f k sz full=>∀ j,∃ z n m,f j=AV.slcT none (Row.M [aM.arr k z n]) sz m full):=Classical.choose_spec (dc (α:=(Nat→AV)→IntKind→Nat→Bool→Prop) (fun f k sz full=>∀ j,∃ z n m,f j=AV.slcT none (Row.M [aM.arr k z n]) sz m full))
theorem GG (f k sz full):Jo f k sz full=∀ j,∃ z n m,f j=AV.slcT none (Row.M [aM.arr k z n]) sz m full:=by rw[GH]
def KG:Bool→(Nat→Int)→(Nat→Int)→Nat→Int:=Classical.choose (dc (α:=Bool→(Nat→Int)→(Nat→Int)→Nat→Int) (fun b x y=>cond b x y))
theorem Io:KG=(fun b x y=>cond b x y):=Classical.choose_spec (dc (α:=Bool→(Nat→Int)→(Nat→Int)→Nat→Int) (fun b x y=>cond b x y))
theorem Im (b x y):KG b x y=cond b x y:=by rw[Io]
def Ij:Bool→Nat→Nat→Nat:=Classical.choose (dc (α:=Bool→Nat→Nat→Nat) (fun b x y=>cond b x y))
theorem Il:Ij=(fun b x y=>cond b x y):=Classical.choose_spec (dc (α:=Bool→Nat→Nat→Nat) (fun b x y=>cond b x y))
theorem Ik (b x y):Ij b x y=cond b x y:=by rw[Il]
def jk:Nat→Nat→Nat→Bool:=Classical.choose (dc (α:=Nat→Nat→Nat→Bool) (fun m n b=>decide ((m+n)*b≤room∧m+n≤room)))
theorem F4:jk=(fun m n b=>decide ((m+n)*b≤room∧m+n≤room)):=Classical.choose_spec (dc (α:=Nat→Nat→Nat→Bool) (fun m n b=>decide ((m+n)*b≤room∧m+n≤room)))
theorem Ac (m n b):jk m n b=decide ((m+n)*b≤room∧m+n≤room):=by rw[F4]
def fz:(Nat→Int)→Nat→Int→Nat→Int:=Classical.choose (dc (α:=(Nat→Int)→Nat→Int→Nat→Int) (fun z i x=>fun j=>if j=i then x else z j))
theorem lM:fz=(fun z i x=>fun j=>if j=i then x else z j):=Classical.choose_spec (dc (α:=(Nat→Int)→Nat→Int→Nat→Int) (fun z i x=>fun j=>if j=i then x else z j))
theorem qf (z i x):fz z i x=fun j=>if j=i then x else z j:=by rw[lM]
def nQ:(Nat→Int)→Nat→Nat→Int:=Classical.choose (dc (α:=(Nat→Int)→Nat→Nat→Int) (fun z o=>fun j=>z (o+j)))
theorem jq:nQ=(fun z o=>fun j=>z (o+j)):=Classical.choose_spec (dc (α:=(Nat→Int)→Nat→Nat→Int) (fun z o=>fun j=>z (o+j)))
theorem KI (z o):nQ z o=fun j=>z (o+j):=by rw[jq]
def ff:(Nat→Int)→Nat→(Nat→Int)→Nat→Nat→Int:=Classical.choose (dc (α:=(Nat→Int)→Nat→(Nat→Int)→Nat→Nat→Int) (fun z o z' n=>uU z o z' n))
theorem GZ:ff=(fun z o z' n=>uU z o z' n):=Classical.choose_spec (dc (α:=(Nat→Int)→Nat→(Nat→Int)→Nat→Nat→Int) (fun z o z' n=>uU z o z' n))
theorem pd (z o z' n):ff z o z' n=uU z o z' n:=by rw[GZ]
def uR:(Nat→Int)→Nat→(Nat→Int)→Nat→Int:=Classical.choose (dc (α:=(Nat→Int)→Nat→(Nat→Int)→Nat→Int) (fun z n z'=>fun i=>if i<n then z i else z' (i-n)))
theorem oX:uR=(fun z n z'=>fun i=>if i<n then z i else z' (i-n)):=Classical.choose_spec (dc (α:=(Nat→Int)→Nat→(Nat→Int)→Nat→Int) (fun z n z'=>fun i=>if i<n then z i else z' (i-n)))
def Kg:List Int→Nat:=Classical.choose (dc (α:=List Int→Nat) (fun l=>l.length))
theorem Hl:Kg=(fun l=>l.length):=Classical.choose_spec (dc (α:=List Int→Nat) (fun l=>l.length))
theorem Hk (l):Kg l=l.length:=by rw[Hl]
def bn:List Int→Nat→Int:=Classical.choose (dc (α:=List Int→Nat→Int) (fun l=>fun j=>l.getD j 0))
theorem ly:bn=(fun l=>fun j=>l.getD j 0):=Classical.choose_spec (dc (α:=List Int→Nat→Int) (fun l=>fun j=>l.getD j 0))
theorem g5 (l):bn l=fun j=>l.getD j 0:=by rw[ly]
def kU:(Nat→Int)→(Nat→Int)→Nat→Bool:=Classical.choose (dc (α:=(Nat→Int)→(Nat→Int)→Nat→Bool) (fun z z' n=>allEq z z' n))
theorem vv:kU=(fun z z' n=>allEq z z' n):=Classical.choose_spec (dc (α:=(Nat→Int)→(Nat→Int)→Nat→Bool) (fun z z' n=>allEq z z' n))
theorem Da (z z' n):kU z z' n=allEq z z' n:=by rw[vv]
def mW:(List Int→Bool)→List Int→Bool→List Int→Bool:=Classical.choose (dc (α:=(List Int→Bool)→List Int→Bool→List Int→Bool) (fun h n b=>dE h n b))
theorem Gb:mW=(fun h n b=>dE h n b):=Classical.choose_spec (dc (α:=(List Int→Bool)→List Int→Bool→List Int→Bool) (fun h n b=>dE h n b))
theorem p6 (h n b):mW h n b=dE h n b:=by rw[Gb]
def nO:(List Int→Int)→List Int→Int→List Int→Int:=Classical.choose (dc (α:=(List Int→Int)→List Int→Int→List Int→Int) (fun g n x=>fF g n x))
theorem Gc:nO=(fun g n x=>fF g n x):=Classical.choose_spec (dc (α:=(List Int→Int)→List Int→Int→List Int→Int) (fun g n x=>fF g n x))
theorem p7 (g n x):nO g n x=fF g n x:=by rw[Gc]
def rj:Bool→Nat→Nat:=Classical.choose (dc (α:=Bool→Nat→Nat) (fun b c=>o9 b c))
theorem EF:rj=(fun b c=>o9 b c):=Classical.choose_spec (dc (α:=Bool→Nat→Nat) (fun b c=>o9 b c))
theorem sY (b c):rj b c=o9 b c:=by rw[EF]
def BR:Bool→Nat→Nat:=Classical.choose (dc (α:=Bool→Nat→Nat) (fun b c=>yr b c))
theorem EG:BR=(fun b c=>yr b c):=Classical.choose_spec (dc (α:=Bool→Nat→Nat) (fun b c=>yr b c))
theorem yt (b c):BR b c=yr b c:=by rw[EG]

end
end Go.Eng
end
