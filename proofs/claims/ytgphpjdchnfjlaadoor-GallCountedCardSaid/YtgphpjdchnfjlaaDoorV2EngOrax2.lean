/- The engine: tables of calls that are known beforehand. -/
import Derived.Test.YtgphpjdchnfjlaaDoorV2EngXx3
set_option linter.unusedVariables false
set_option linter.unusedSimpArgs false
section
namespace Go.Eng

def T4 (f:AV→Bool) (r:Row):Bool :=
 match r with
 | .I ..=>true
 | .G l=>l.all f
 | .F ..=>true
 | .M l=>fJ l
def sN:Nat→AV→Bool
 | 0,_=>false
 | n+1,v=>match v with
   | .undef | .bool _ | .int _ _ | .str _ | .nilp | .nils | .nilm | .nilf=>true
   | .ptrT none _ _=>true
   | .slcT none _ _ _ _=>true
   | .agg r=>T4 (sN n) r
   | .tup l=>l.all (sN n)
   | .fn _ a b=>a.all (sN n) && b.all (sN n)
   | _=>false
theorem gL {f:AV→Bool}:∀ {l:List AV} {j:Nat},l.all f=true→j<l.length→f (l.getD j .undef)=true
 | [],j,_,h=>by simp at h
 | x::l,0,h,_=>by simp at h;simpa using h.1
 | x::l,j+1,h,hj=>by
   simp only[List.all_cons,Bool.and_eq_true] at h
   rw[List.getD_cons_succ]
   exact gL h.2 (by simpa using hj)
theorem oT {p:aD} {M N:Mu}:∀ (n:Nat) {v:AV} {c:Value},sN n v=true→ai p M v c→ai p N v c
 | 0,v,c,h,_=>by simp[sN] at h
 | n + 1,v,c,h,hv=>by
   have ih:=@oT p M N n
   cases hv with
   | undef c=>exact .undef c
   | bool b=>exact .bool b
   | int k n=>exact .int k n
   | str s=>exact .str s
   | nilp=>exact .nilp
   | nils=>exact .nils
   | nilm=>exact .nilm
   | nilf=>exact .nilf
   | ptr h0=>simp[sN] at h
   | slc h0=>simp[sN] at h
   | map h0=>simp[sN] at h
   | yld h0=>simp[sN] at h
   | ptrT vs h0 h1 hv =>
     rename_i s r off b o
     cases s with
     | some s=>simp[sN] at h
     | none=>exact .ptrT vs h0 h1 hv
   | slcT vs h0 h1 hv hl hf hx =>
     rename_i s r sz len b o x cc full
     cases s with
     | some s=>simp[sN] at h
     | none=>exact .slcT vs h0 h1 hv hl hf hx
   | slcN=>exact .slcN
   | fn ha hb va vb =>
     simp only[sN,Bool.and_eq_true] at h
     exact .fn ha hb (fun j hj=>ih (gL h.1 hj) (va j hj)) (fun j hj=>ih (gL h.2 hj) (vb j hj))
   | agg hs h1 hv =>
     rename_i r cs
     simp only[sN] at h
     cases r with
     | I k l=>exact .agg hs h1 (fun j hj=>(hv j hj).bj _ _)
     | F f m=>exact .agg hs h1 hv
     | M l=>exact .agg hs h1 (aX.fJ h hv)
     | G l=>exact .agg hs h1 (fun j hj=>ih (gL (f:=sN n) h hj) (hv j hj))
   | tup hs hv =>
     simp only[sN] at h
     exact .tup hs (fun j hj=>ih (gL h hj) (hv j hj))

structure b5 where
 f:FuncId
 args:List AV
 v:AV
def aA (P:Program) (e:b5):Prop:=∀ (H:aa),H≠[]→∀ (p:aD) (M:Mu) (w:World) (cargs:Array Value),a7 p M H w→ey p M e.args cargs →
 (∃ fn,P.funcs[e.f]?=some fn∧fn.body.isNone=false)∧CallsIn Fence.wide 0 P e.f cargs w (fG p M H w e.v H)

theorem yk {P:Program} {call:aB} (hC:bN P call) {e:b5} {H':aa} (h:call (.fn e.f) e.args [⟨true,[]⟩]=some (e.v,H')) (hn:e.args.all (sN 9)=true):aA P e:=by
 intro H hne p M w cargs hH hA
 have hH0:a7 p Mu.no [⟨true,[]⟩] w:=⟨hH.pers,(fun d i v B hg hB=>by
  cases d<;>simp[aw,au] at hg<;>exact absurd hg.2.symm hB),(fun d i v B d' i' v' B' b o t o' t' hg hB hg' hB' hm hm'=>by cases hm),(fun d i v t hm=>by cases hm)⟩
 have hA0:ey p Mu.no e.args cargs:=⟨hA.1,fun j hj=>oT 9 (gL hn hj) (hA.2 j hj)⟩
 obtain ⟨h1,h2⟩:=hC (.fn e.f) e.args _ e.v H' h (by simp) p Mu.no w cargs hH0 hA0
 refine ⟨h1,h2.mono ?_⟩
 rintro en w' ⟨cv,rfl,st,p',M',hE,hv⟩
 have hM:Mu.le M' M:=fun d i v t hm=>by
  have h3:=(hE.rel.dom d i v t hm).1
  have h4:aE [⟨true,[]⟩] d=true:=by cases d<;>rfl
  rw[st.next d h4] at h3
  cases d<;>simp[ao] at h3
 have all:∀ b,Go.Eng.bk Mu.no [⟨true,[]⟩] b:=fun b d i u B _ _ _ o t hm=>by cases hm
 have no:∀ {b:Nat},¬ (aE [⟨true,[]⟩] 0=false∧∃ i u o' t',Mu.no 0 i u=some (b,o',t')):=fun h=>by have:=h.1;cases this
 refine ⟨cv,rfl,Still.refl H,p',M,{ cg.refl hH with pst:=hE.pst,rel:=⟨hE.rel.pers,?_,hH.apart,hH.dom⟩,stay:=hE.stay.weaken (fun b _ _=>all b),fresh:=fun b o v hv=>(hE.fresh b o v hv).imp_right fun h=>h.elim .inl fun h=>(no h).elim },hv.mono (aD.le.refl _) hM⟩
 intro d i u B hg hB
 obtain ⟨b,o,t,k1,k2,k3⟩:=hH.live d i u B hg hB
 have hlt:=k2.lt hB
 refine ⟨b,o,t,k1,k2.mono hE.pst (Mu.le.refl _) (hE.stay.block b hlt (all b)),fun x=>?_⟩
 cases hx:p' b x with
 | none=>rfl
 | some y =>
   rcases hE.fresh b x y hx with h | h | ⟨h,_⟩
   · rw[k3] at h;cases h
   · omega
   · cases h

noncomputable def Bw (f:AV→AV→Bool) (r s:Row):Bool :=
 match r,s with
 | .I k l,.I k' l'=>gQ k k' && listEqI l l'
 | .G l,.G l'=>listEqV f l l'
 | _,_=>false
where
 listEqI:List Int→List Int→Bool
  | [],[]=>true
  | x::a,y::b=>GW x y && listEqI a b
  | _,_=>false
 listEqV (f:AV→AV→Bool):List AV→List AV→Bool
  | [],[]=>true
  | x::a,y::b=>f x y && listEqV f a b
  | _,_=>false
def GV:Option Nat→Option Nat→Bool
 | none,none=>true
 | some a,some b=>Nat.beq a b
 | _,_=>false
noncomputable def Kc:Nat→AV→AV→Bool
 | 0,_,_=>false
 | n+1,v,u=>match v,u with
   | .bool a,.bool b=>a == b
   | .int k a,.int k' b=>gQ k k' && GW a b
   | .nilp,.nilp=>true
   | .nils,.nils=>true
   | .nilm,.nilm=>true
   | .ptrT s r o,.ptrT s' r' o'=>GV s s' && (Bw (Kc n) r r' && Nat.beq o o')
   | .slcT s r z l b,.slcT s' r' z' l' b'=>GV s s' && (Bw (Kc n) r r' && (Nat.beq z z' && (Nat.beq l l' && b == b')))
   | .agg r,.agg r'=>Bw (Kc n) r r'
   | _,_=>false
theorem sw:∀ (l m:List Int),Bw.listEqI l m=true→l=m
 | [],[],_=>rfl
 | [],_::_,h=>by simp[Bw.listEqI] at h
 | _::_,[],h=>by simp[Bw.listEqI] at h
 | x::a,y::b,h=>by
   simp only[Bw.listEqI,Bool.and_eq_true,Ab,beq_iff_eq] at h
   rw[h.1,sw a b h.2]
theorem ny {f:AV→AV→Bool} (hf:∀ x y,f x y=true→x=y):∀ (l m:List AV),Bw.listEqV f l m=true→l=m
 | [],[],_=>rfl
 | [],_::_,h=>by simp[Bw.listEqV] at h
 | _::_,[],h=>by simp[Bw.listEqV] at h
 | x::a,y::b,h=>by
   simp only[Bw.listEqV,Bool.and_eq_true] at h
   rw[hf _ _ h.1,ny hf a b h.2]
theorem Aa {f:AV→AV→Bool} (hf:∀ x y,f x y=true→x=y) (r s:Row) (h:Bw f r s=true):r=s:=by
 cases r<;>cases s<;>simp only[Bw,Bool.and_eq_true,eS,decide_eq_true_eq] at h<;>try (simp at h;done)
 · rw[h.1,sw _ _ h.2]
 · rw[ny hf _ _ h]
theorem Bv (a b:Option Nat) (h:GV a b=true):a=b:=by
 cases a<;>cases b<;>simp[GV] at h ⊢;exact h
theorem Er:∀ (n:Nat) (x y:AV),Kc n x y=true→x=y
 | 0,x,y,h=>by simp[Kc] at h
 | n+1,x,y,h=>by
   have ih:=Er n
   cases x<;>cases y<;>simp only[Kc,Bool.and_eq_true,eS,Ab,decide_eq_true_eq,beq_iff_eq] at h<;>try (first | rfl | (simp at h;done))
   case bool.bool=>rw[h]
   case int.int=>rw[h.1,h.2]
   case ptrT.ptrT=>rw[Bv _ _ h.1,Aa ih _ _ h.2.1,Nat.eq_of_beq_eq_true h.2.2]
   case slcT.slcT=>rw[Bv _ _ h.1,Aa ih _ _ h.2.1,Nat.eq_of_beq_eq_true h.2.2.1,Nat.eq_of_beq_eq_true h.2.2.2.1,h.2.2.2.2]
   case agg.agg=>rw[Aa ih _ _ h]

noncomputable def AH:List b5→aB→FuncId→List AV→aa→Option (AV×aa)
 | [],_,_,_,_=>none
 | e::r,c,f,args,H=>if Nat.beq e.f f && Bw.listEqV (Kc 9) e.args args then some (e.v,H) else AH r c f args H
theorem wx {P:Program}:∀ (tab:List b5),(∀ e ∈ tab,aA P e)→rC P (AH tab)
 | [],_=>fun call _ f args H v H' h=>by simp[AH] at h
 | e :: r,hT=>fun call hC f args H v H' h=>by
   simp only[AH] at h
   split at h
   · rename_i hc
     simp only[Bool.and_eq_true] at hc
     have e1:=Nat.eq_of_beq_eq_true hc.1
     have e2:=ny (Er 9) _ _ hc.2
     have e3:=Option.some.inj h
     simp only[Prod.mk.injEq] at e3
     obtain ⟨e3,e4⟩:=e3
     subst e1;subst e2;subst e3;subst e4
     exact hT e (by simp) H
   · exact wx r (fun e' he=>hT e' (List.mem_cons_of_mem _ he)) call hC f args H v H' h

end Go.Eng
end
section
namespace Go.Eng
noncomputable section

inductive Tr (α:Type) where
 | ok (a:α)
 | bad
 | ite (c:Bool) (t e:Tr α)
 | req (c:Bool) (t:Tr α)
 | reqP (p:Prop) (t:Tr α)
open Classical in
def Tr.run {α:Type}:Tr α→Option α
 | .ok a=>some a
 | .bad=>none
 | .ite c t e=>cond c t.run e.run
 | .req c t=>cond c t.run none
 | .reqP p t=>if p then t.run else none
def Tr.bind {α β:Type} (t:Tr α) (f:α→Tr β):Tr β:=Tr.rec (motive:=fun _=>Tr β) f .bad (fun c _ _ a b=>.ite c a b) (fun c _ a=>.req c a) (fun p _ a=>.reqP p a) t
theorem Tr.D4 {α β:Type} (t:Tr α) (f:α→Tr β):(t.bind f).run=t.run.bind fun a=>(f a).run:=by
 induction t with
 | ok a=>rfl
 | bad=>rfl
 | ite c a b iha ihb =>
   have e:(Tr.ite c a b).bind f=.ite c (a.bind f) (b.bind f):=rfl
   rw[e];simp only[Tr.run,iha,ihb];cases c<;>rfl
 | req c a ih =>
   have e:(Tr.req c a).bind f=.req c (a.bind f):=rfl
   rw[e];simp only[Tr.run,ih];cases c<;>rfl
 | reqP p a ih =>
   have e:(Tr.reqP p a).bind f=.reqP p (a.bind f):=rfl
   rw[e];simp only[Tr.run,ih]
   by_cases hp:p
   · rw[if_pos hp,if_pos hp]
   · rw[if_neg hp,if_neg hp];rfl
theorem Tr.gz {α:Type} {p:Prop} {t:Tr α} {x:α} (h:(Tr.reqP p t).run=some x):p∧t.run=some x:=by
 simp only[Tr.run] at h
 by_cases hp:p
 · rw[if_pos hp] at h;exact ⟨hp,h⟩
 · rw[if_neg hp] at h;cases h
theorem Tr.FP {α:Type} {p:Prop} {a:Tr α} (h:p):(Tr.reqP p a).run=a.run:=by simp only[Tr.run];rw[if_pos h]
theorem Tr.bind_some {α β:Type} {t:Tr α} {f:α→Tr β} {y:β} (h:(t.bind f).run=some y):∃ x,t.run=some x∧(f x).run=some y:=by
 rw[Tr.D4] at h
 exact Option.bind_eq_some_iff.1 h
theorem Tr.aL {α:Type} {c:Bool} {t:Tr α} {x:α} (h:(Tr.req c t).run=some x):c=true∧t.run=some x:=by
 cases c with
 | true=>exact ⟨rfl,h⟩
 | false=>simp[Tr.run] at h
theorem Tr.j7 {α:Type} {c:Bool} {t e:Tr α} {x:α} (h:(Tr.ite c t e).run=some x):(c=true∧t.run=some x)∨(c=false∧e.run=some x):=by
 cases c with
 | true=>exact .inl ⟨rfl,h⟩
 | false=>exact .inr ⟨rfl,h⟩
theorem Tr.ae {α:Type} {a x:α} (h:(Tr.ok a).run=some x):a=x:=Option.some.inj h
theorem Tr.ag {α:Type} {x:α} (h:(Tr.bad:Tr α).run=some x):False:=by simp[Tr.run] at h
def vm {α:Type} (o:Option α):Tr α:=Option.rec (motive:=fun _=>Tr α) .bad .ok o
theorem cN {α:Type} (o:Option α):(vm o).run=o:=by cases o<;>rfl
theorem cO {α:Type} (f:α):∃ g,g=f:=⟨f,rfl⟩

def bg:IntKind→Int→Int→Int:=Classical.choose (cO (α:=IntKind→Int→Int→Int) (fun k x y=>k.wrap (x+y)))
theorem Gn:bg=(fun k x y=>k.wrap (x+y)):=Classical.choose_spec (cO (α:=IntKind→Int→Int→Int) (fun k x y=>k.wrap (x+y)))
theorem fI (k x y):bg k x y=k.wrap (x+y):=by rw[Gn]
def bX:IntKind→Int→Int→Int:=Classical.choose (cO (α:=IntKind→Int→Int→Int) (fun k x y=>k.wrap (x-y)))
theorem Ic:bX=(fun k x y=>k.wrap (x-y)):=Classical.choose_spec (cO (α:=IntKind→Int→Int→Int) (fun k x y=>k.wrap (x-y)))
theorem dT (k x y):bX k x y=k.wrap (x-y):=by rw[Ic]
def Hl:IntKind→Int→Int→Int:=Classical.choose (cO (α:=IntKind→Int→Int→Int) (fun k x y=>k.wrap (x*y)))
theorem Hm:Hl=(fun k x y=>k.wrap (x*y)):=Classical.choose_spec (cO (α:=IntKind→Int→Int→Int) (fun k x y=>k.wrap (x*y)))
theorem rj (k x y):Hl k x y=k.wrap (x*y):=by rw[Hm]
def Dp:IntKind→Int→Int→Int:=Classical.choose (cO (α:=IntKind→Int→Int→Int) (fun k x y=>k.wrap (x.tdiv y)))
theorem HI:Dp=(fun k x y=>k.wrap (x.tdiv y)):=Classical.choose_spec (cO (α:=IntKind→Int→Int→Int) (fun k x y=>k.wrap (x.tdiv y)))
theorem Ck (k x y):Dp k x y=k.wrap (x.tdiv y):=by rw[HI]
def jf:IntKind→Int→Int→Int:=Classical.choose (cO (α:=IntKind→Int→Int→Int) (fun k x y=>x.tmod y))
theorem HL:jf=(fun k x y=>x.tmod y):=Classical.choose_spec (cO (α:=IntKind→Int→Int→Int) (fun k x y=>x.tmod y))
theorem mN (k x y):jf k x y=x.tmod y:=by rw[HL]
def pj:IntKind→Int→Int→Int:=Classical.choose (cO (α:=IntKind→Int→Int→Int) (fun k x y=>k.wrap (BitVec.ofInt k.bits x &&& BitVec.ofInt k.bits y).toNat))
theorem Gv:pj=(fun k x y=>k.wrap (BitVec.ofInt k.bits x &&& BitVec.ofInt k.bits y).toNat):=Classical.choose_spec (cO (α:=IntKind→Int→Int→Int) (fun k x y=>k.wrap (BitVec.ofInt k.bits x &&& BitVec.ofInt k.bits y).toNat))
theorem qU (k x y):pj k x y=k.wrap (BitVec.ofInt k.bits x &&& BitVec.ofInt k.bits y).toNat:=by rw[Gv]
def pU:IntKind→Int→Int→Int:=Classical.choose (cO (α:=IntKind→Int→Int→Int) (fun k x y=>k.wrap (BitVec.ofInt k.bits x ||| BitVec.ofInt k.bits y).toNat))
theorem KY:pU=(fun k x y=>k.wrap (BitVec.ofInt k.bits x ||| BitVec.ofInt k.bits y).toNat):=Classical.choose_spec (cO (α:=IntKind→Int→Int→Int) (fun k x y=>k.wrap (BitVec.ofInt k.bits x ||| BitVec.ofInt k.bits y).toNat))
theorem sW (k x y):pU k x y=k.wrap (BitVec.ofInt k.bits x ||| BitVec.ofInt k.bits y).toNat:=by rw[KY]
def Lv:IntKind→Int→Int→Int:=Classical.choose (cO (α:=IntKind→Int→Int→Int) (fun k x y=>k.wrap (BitVec.ofInt k.bits x ^^^ BitVec.ofInt k.bits y).toNat))
theorem Iq:Lv=(fun k x y=>k.wrap (BitVec.ofInt k.bits x ^^^ BitVec.ofInt k.bits y).toNat):=Classical.choose_spec (cO (α:=IntKind→Int→Int→Int) (fun k x y=>k.wrap (BitVec.ofInt k.bits x ^^^ BitVec.ofInt k.bits y).toNat))
theorem wS (k x y):Lv k x y=k.wrap (BitVec.ofInt k.bits x ^^^ BitVec.ofInt k.bits y).toNat:=by rw[Iq]
def Gt:IntKind→Int→Int→Int:=Classical.choose (cO (α:=IntKind→Int→Int→Int) (fun k x y=>k.wrap (BitVec.ofInt k.bits x &&& ~~~(BitVec.ofInt k.bits y)).toNat))
theorem JU:Gt=(fun k x y=>k.wrap (BitVec.ofInt k.bits x &&& ~~~(BitVec.ofInt k.bits y)).toNat):=Classical.choose_spec (cO (α:=IntKind→Int→Int→Int) (fun k x y=>k.wrap (BitVec.ofInt k.bits x &&& ~~~(BitVec.ofInt k.bits y)).toNat))
theorem rF (k x y):Gt k x y=k.wrap (BitVec.ofInt k.bits x &&& ~~~(BitVec.ofInt k.bits y)).toNat:=by rw[JU]
def dO:IntKind→Int→Int→Int:=Classical.choose (cO (α:=IntKind→Int→Int→Int) (fun k x y=>k.wrap (x*2 ^ (min y.toNat k.bits))))
theorem H6:dO=(fun k x y=>k.wrap (x*2 ^ (min y.toNat k.bits))):=Classical.choose_spec (cO (α:=IntKind→Int→Int→Int) (fun k x y=>k.wrap (x*2 ^ (min y.toNat k.bits))))
theorem wM (k x y):dO k x y=k.wrap (x*2 ^ (min y.toNat k.bits)):=by rw[H6]
def Lh:IntKind→Int→Int→Int:=Classical.choose (cO (α:=IntKind→Int→Int→Int) (fun k x y=>x.fdiv (2 ^ (min y.toNat k.bits))))
theorem H9:Lh=(fun k x y=>x.fdiv (2 ^ (min y.toNat k.bits))):=Classical.choose_spec (cO (α:=IntKind→Int→Int→Int) (fun k x y=>x.fdiv (2 ^ (min y.toNat k.bits))))
theorem H8 (k x y):Lh k x y=x.fdiv (2 ^ (min y.toNat k.bits)):=by rw[H9]
def CI:IntKind→Int→Int:=Classical.choose (cO (α:=IntKind→Int→Int) (fun k x=>k.wrap x))
theorem Lu:CI=(fun k x=>k.wrap x):=Classical.choose_spec (cO (α:=IntKind→Int→Int) (fun k x=>k.wrap x))
theorem Gb (k x):CI k x=k.wrap x:=by rw[Lu]
def Fj:IntKind→Int→Int:=Classical.choose (cO (α:=IntKind→Int→Int) (fun k x=>k.wrap (0-x)))
theorem Hr:Fj=(fun k x=>k.wrap (0-x)):=Classical.choose_spec (cO (α:=IntKind→Int→Int) (fun k x=>k.wrap (0-x)))
theorem B4 (k x):Fj k x=k.wrap (0-x):=by rw[Hr]
def cJ:Int→Int→Bool:=Classical.choose (cO (α:=Int→Int→Bool) (fun x y=>(x == y)))
theorem Kf:cJ=(fun x y=>(x == y)):=Classical.choose_spec (cO (α:=Int→Int→Bool) (fun x y=>(x == y)))
theorem aT (x y):cJ x y=(x == y):=by rw[Kf]
def bO:Int→Int→Bool:=Classical.choose (cO (α:=Int→Int→Bool) (fun x y=>decide (x<y)))
theorem KJ:bO=(fun x y=>decide (x<y)):=Classical.choose_spec (cO (α:=Int→Int→Bool) (fun x y=>decide (x<y)))
theorem bF (x y):bO x y=decide (x<y):=by rw[KJ]
def dN:Int→Int→Bool:=Classical.choose (cO (α:=Int→Int→Bool) (fun x y=>decide (x≤y)))
theorem KF:dN=(fun x y=>decide (x≤y)):=Classical.choose_spec (cO (α:=Int→Int→Bool) (fun x y=>decide (x≤y)))
theorem bt (x y):dN x y=decide (x≤y):=by rw[KF]
def bL:Bool→Bool:=Classical.choose (cO (α:=Bool→Bool) (fun b=>(!b)))
theorem Ht:bL=(fun b=>(!b)):=Classical.choose_spec (cO (α:=Bool→Bool) (fun b=>(!b)))
theorem aY (b):bL b=(!b):=by rw[Ht]
def b7:Bool→Bool→Bool:=Classical.choose (cO (α:=Bool→Bool→Bool) (fun a b=>(a && b)))
theorem Gu:b7=(fun a b=>(a && b)):=Classical.choose_spec (cO (α:=Bool→Bool→Bool) (fun a b=>(a && b)))
theorem bS (a b):b7 a b=(a && b):=by rw[Gu]
def Kd:Bool→Bool→Bool:=Classical.choose (cO (α:=Bool→Bool→Bool) (fun a b=>(a == b)))
theorem Ke:Kd=(fun a b=>(a == b)):=Classical.choose_spec (cO (α:=Bool→Bool→Bool) (fun a b=>(a == b)))
theorem z8 (a b):Kd a b=(a == b):=by rw[Ke]
def ya:Int→Int→Int:=Classical.choose (cO (α:=Int→Int→Int) (fun x y=>if y<x then y else x))
theorem Hj:ya=(fun x y=>if y<x then y else x):=Classical.choose_spec (cO (α:=Int→Int→Int) (fun x y=>if y<x then y else x))
theorem ri (x y):ya x y=if y<x then y else x:=by rw[Hj]
def uk:Int→Int→Int:=Classical.choose (cO (α:=Int→Int→Int) (fun x y=>if y > x then y else x))
theorem Hg:uk=(fun x y=>if y > x then y else x):=Classical.choose_spec (cO (α:=Int→Int→Int) (fun x y=>if y > x then y else x))
theorem rh (x y):uk x y=if y > x then y else x:=by rw[Hg]
def dj:Int→Nat→Bool:=Classical.choose (cO (α:=Int→Nat→Bool) (fun (i:Int) (n:Nat)=>decide (0≤i∧i<(n:Int))))
theorem Kz:dj=(fun (i:Int) (n:Nat)=>decide (0≤i∧i<(n:Int))):=Classical.choose_spec (cO (α:=Int→Nat→Bool) (fun (i:Int) (n:Nat)=>decide (0≤i∧i<(n:Int))))
theorem pH (i n):dj i n=decide (0≤i∧i<(n:Int)):=by rw[Kz]
def kx:Int→Nat→Bool:=Classical.choose (cO (α:=Int→Nat→Bool) (fun (i:Int) (n:Nat)=>decide (0≤i∧i≤(n:Int))))
theorem GG:kx=(fun (i:Int) (n:Nat)=>decide (0≤i∧i≤(n:Int))):=Classical.choose_spec (cO (α:=Int→Nat→Bool) (fun (i:Int) (n:Nat)=>decide (0≤i∧i≤(n:Int))))
theorem Bk (i n):kx i n=decide (0≤i∧i≤(n:Int)):=by rw[GG]
def DP:Int→Int→Nat→Bool:=Classical.choose (cO (α:=Int→Int→Nat→Bool) (fun l c b=>decide (0≤l∧l≤c∧c.toNat*b≤room∧c.toNat≤room)))
theorem KO:DP=(fun l c b=>decide (0≤l∧l≤c∧c.toNat*b≤room∧c.toNat≤room)):=Classical.choose_spec (cO (α:=Int→Int→Nat→Bool) (fun l c b=>decide (0≤l∧l≤c∧c.toNat*b≤room∧c.toNat≤room)))
theorem Ay (l c b):DP l c b=decide (0≤l∧l≤c∧c.toNat*b≤room∧c.toNat≤room):=by rw[KO]
def bR:Int→Nat:=Classical.choose (cO (α:=Int→Nat) (fun i=>i.toNat))
theorem Lr:bR=(fun i=>i.toNat):=Classical.choose_spec (cO (α:=Int→Nat) (fun i=>i.toNat))
theorem lf (i):bR i=i.toNat:=by rw[Lr]
def aC:Nat→Int→Nat→Nat:=Classical.choose (cO (α:=Nat→Int→Nat→Nat) (fun o i s=>o+i.toNat*s))
theorem Kw:aC=(fun o i s=>o+i.toNat*s):=Classical.choose_spec (cO (α:=Nat→Int→Nat→Nat) (fun o i s=>o+i.toNat*s))
theorem bY (o i s):aC o i s=o+i.toNat*s:=by rw[Kw]
def av:Nat→Nat→Nat:=Classical.choose (cO (α:=Nat→Nat→Nat) (fun a b=>a+b))
theorem Gp:av=(fun a b=>a+b):=Classical.choose_spec (cO (α:=Nat→Nat→Nat) (fun a b=>a+b))
theorem aH (a b):av a b=a+b:=by rw[Gp]
def dD:Nat→Nat→Nat:=Classical.choose (cO (α:=Nat→Nat→Nat) (fun a b=>a-b))
theorem Ig:dD=(fun a b=>a-b):=Classical.choose_spec (cO (α:=Nat→Nat→Nat) (fun a b=>a-b))
theorem gf (a b):dD a b=a-b:=by rw[Ig]
def ar:Nat→Nat→Nat:=Classical.choose (cO (α:=Nat→Nat→Nat) (fun a b=>a*b))
theorem Hn:ar=(fun a b=>a*b):=Classical.choose_spec (cO (α:=Nat→Nat→Nat) (fun a b=>a*b))
theorem oS (a b):ar a b=a*b:=by rw[Hn]
def Hh:Nat→Nat→Nat:=Classical.choose (cO (α:=Nat→Nat→Nat) (fun a b=>min a b))
theorem Hi:Hh=(fun a b=>min a b):=Classical.choose_spec (cO (α:=Nat→Nat→Nat) (fun a b=>min a b))
theorem BZ (a b):Hh a b=min a b:=by rw[Hi]
def cZ:Nat→Nat→Bool:=Classical.choose (cO (α:=Nat→Nat→Bool) (fun a b=>decide (a<b)))
theorem KL:cZ=(fun a b=>decide (a<b)):=Classical.choose_spec (cO (α:=Nat→Nat→Bool) (fun a b=>decide (a<b)))
theorem ij (a b):cZ a b=decide (a<b):=by rw[KL]
def gm:Nat→Nat→Bool:=Classical.choose (cO (α:=Nat→Nat→Bool) (fun a b=>decide (a≤b)))
theorem KG:gm=(fun a b=>decide (a≤b)):=Classical.choose_spec (cO (α:=Nat→Nat→Bool) (fun a b=>decide (a≤b)))
theorem kM (a b):gm a b=decide (a≤b):=by rw[KG]
def cG:Nat→Nat→Bool:=Classical.choose (cO (α:=Nat→Nat→Bool) (fun a b=>decide (a=b)))
theorem Kg:cG=(fun a b=>decide (a=b)):=Classical.choose_spec (cO (α:=Nat→Nat→Bool) (fun a b=>decide (a=b)))
theorem fO (a b):cG a b=decide (a=b):=by rw[Kg]
def fC:Nat→Nat→Nat→Nat→Bool:=Classical.choose (cO (α:=Nat→Nat→Nat→Nat→Bool) (fun o m p n=>decide (p≤o∧o+m≤p+n)))
theorem KB:fC=(fun o m p n=>decide (p≤o∧o+m≤p+n)):=Classical.choose_spec (cO (α:=Nat→Nat→Nat→Nat→Bool) (fun o m p n=>decide (p≤o∧o+m≤p+n)))
theorem jJ (o m p n):fC o m p n=decide (p≤o∧o+m≤p+n):=by rw[KB]
def JT:(Nat→AV)→IntKind→Nat→Bool→Prop:=Classical.choose (cO (α:=(Nat→AV)→IntKind→Nat→Bool→Prop) (fun f k sz full=>∀ j,∃ z n m,f j=AV.slcT none (Row.M [an.arr k z n]) sz m full))
theorem Gs:JT=(fun f k sz full=>∀ j,∃ z n m,f j=AV.slcT none (Row.M [an.arr k z n]) sz m full):=Classical.choose_spec (cO (α:=(Nat→AV)→IntKind→Nat→Bool→Prop) (fun f k sz full=>∀ j,∃ z n m,f j=AV.slcT none (Row.M [an.arr k z n]) sz m full))
theorem Gr (f k sz full):JT f k sz full=∀ j,∃ z n m,f j=AV.slcT none (Row.M [an.arr k z n]) sz m full:=by rw[Gs]
def Le:Bool→(Nat→Int)→(Nat→Int)→Nat→Int:=Classical.choose (cO (α:=Bool→(Nat→Int)→(Nat→Int)→Nat→Int) (fun b x y=>cond b x y))
theorem HW:Le=(fun b x y=>cond b x y):=Classical.choose_spec (cO (α:=Bool→(Nat→Int)→(Nat→Int)→Nat→Int) (fun b x y=>cond b x y))
theorem HU (b x y):Le b x y=cond b x y:=by rw[HW]
def HR:Bool→Nat→Nat→Nat:=Classical.choose (cO (α:=Bool→Nat→Nat→Nat) (fun b x y=>cond b x y))
theorem HT:HR=(fun b x y=>cond b x y):=Classical.choose_spec (cO (α:=Bool→Nat→Nat→Nat) (fun b x y=>cond b x y))
theorem HS (b x y):HR b x y=cond b x y:=by rw[HT]
def jA:Nat→Nat→Nat→Bool:=Classical.choose (cO (α:=Nat→Nat→Nat→Bool) (fun m n b=>decide ((m+n)*b≤room∧m+n≤room)))
theorem FM:jA=(fun m n b=>decide ((m+n)*b≤room∧m+n≤room)):=Classical.choose_spec (cO (α:=Nat→Nat→Nat→Bool) (fun m n b=>decide ((m+n)*b≤room∧m+n≤room)))
theorem yC (m n b):jA m n b=decide ((m+n)*b≤room∧m+n≤room):=by rw[FM]
def eW:(Nat→Int)→Nat→Int→Nat→Int:=Classical.choose (cO (α:=(Nat→Int)→Nat→Int→Nat→Int) (fun z i x=>fun j=>if j=i then x else z j))
theorem rA:eW=(fun z i x=>fun j=>if j=i then x else z j):=Classical.choose_spec (cO (α:=(Nat→Int)→Nat→Int→Nat→Int) (fun z i x=>fun j=>if j=i then x else z j))
theorem lg (z i x):eW z i x=fun j=>if j=i then x else z j:=by rw[rA]
def rv:(Nat→Int)→Nat→Nat→Int:=Classical.choose (cO (α:=(Nat→Int)→Nat→Nat→Int) (fun z o=>fun j=>z (o+j)))
theorem mr:rv=(fun z o=>fun j=>z (o+j)):=Classical.choose_spec (cO (α:=(Nat→Int)→Nat→Nat→Int) (fun z o=>fun j=>z (o+j)))
def oo:(Nat→Int)→Nat→(Nat→Int)→Nat→Nat→Int:=Classical.choose (cO (α:=(Nat→Int)→Nat→(Nat→Int)→Nat→Nat→Int) (fun z o z' n=>xh z o z' n))
theorem GN:oo=(fun z o z' n=>xh z o z' n):=Classical.choose_spec (cO (α:=(Nat→Int)→Nat→(Nat→Int)→Nat→Nat→Int) (fun z o z' n=>xh z o z' n))
theorem vM (z o z' n):oo z o z' n=xh z o z' n:=by rw[GN]
def po:(Nat→Int)→Nat→(Nat→Int)→Nat→Int:=Classical.choose (cO (α:=(Nat→Int)→Nat→(Nat→Int)→Nat→Int) (fun z n z'=>fun i=>if i<n then z i else z' (i-n)))
theorem my:po=(fun z n z'=>fun i=>if i<n then z i else z' (i-n)):=Classical.choose_spec (cO (α:=(Nat→Int)→Nat→(Nat→Int)→Nat→Int) (fun z n z'=>fun i=>if i<n then z i else z' (i-n)))
def G9:List Int→Nat:=Classical.choose (cO (α:=List Int→Nat) (fun l=>l.length))
theorem Ha:G9=(fun l=>l.length):=Classical.choose_spec (cO (α:=List Int→Nat) (fun l=>l.length))
theorem BS (l):G9 l=l.length:=by rw[Ha]
def aS:List Int→Nat→Int:=Classical.choose (cO (α:=List Int→Nat→Int) (fun l=>fun j=>l.getD j 0))
theorem kO:aS=(fun l=>fun j=>l.getD j 0):=Classical.choose_spec (cO (α:=List Int→Nat→Int) (fun l=>fun j=>l.getD j 0))
theorem gK (l):aS l=fun j=>l.getD j 0:=by rw[kO]
def lA:(Nat→Int)→(Nat→Int)→Nat→Bool:=Classical.choose (cO (α:=(Nat→Int)→(Nat→Int)→Nat→Bool) (fun z z' n=>allEq z z' n))
theorem CL:lA=(fun z z' n=>allEq z z' n):=Classical.choose_spec (cO (α:=(Nat→Int)→(Nat→Int)→Nat→Bool) (fun z z' n=>allEq z z' n))
theorem uB (z z' n):lA z z' n=allEq z z' n:=by rw[CL]
def mn:(List Int→Bool)→List Int→Bool→List Int→Bool:=Classical.choose (cO (α:=(List Int→Bool)→List Int→Bool→List Int→Bool) (fun h n b=>fo h n b))
theorem FV:mn=(fun h n b=>fo h n b):=Classical.choose_spec (cO (α:=(List Int→Bool)→List Int→Bool→List Int→Bool) (fun h n b=>fo h n b))
theorem gU (h n b):mn h n b=fo h n b:=by rw[FV]
def mq:(List Int→Int)→List Int→Int→List Int→Int:=Classical.choose (cO (α:=(List Int→Int)→List Int→Int→List Int→Int) (fun g n x=>iJ g n x))
theorem FW:mq=(fun g n x=>iJ g n x):=Classical.choose_spec (cO (α:=(List Int→Int)→List Int→Int→List Int→Int) (fun g n x=>iJ g n x))
theorem gY (g n x):mq g n x=iJ g n x:=by rw[FW]
def qd:Bool→Nat→Nat:=Classical.choose (cO (α:=Bool→Nat→Nat) (fun b c=>tU b c))
theorem Ef:qd=(fun b c=>tU b c):=Classical.choose_spec (cO (α:=Bool→Nat→Nat) (fun b c=>tU b c))
theorem lF (b c):qd b c=tU b c:=by rw[Ef]
def xg:Bool→Nat→Nat:=Classical.choose (cO (α:=Bool→Nat→Nat) (fun b c=>xf b c))
theorem Eg:xg=(fun b c=>xf b c):=Classical.choose_spec (cO (α:=Bool→Nat→Nat) (fun b c=>xf b c))
theorem rW (b c):xg b c=xf b c:=by rw[Eg]

end
end Go.Eng
end
