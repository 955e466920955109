/- The engine: tables of calls that are known beforehand. -/
import Derived.Test.YtoomemfhcbajoaaV5EngXx3
set_option linter.unusedVariables false
set_option linter.unusedSimpArgs false
section
namespace Go.Eng

def RS (f:AV→Bool) (r:Row):Bool :=
 match r with
 | .I ..=>true
 | .G l=>l.all f
 | .F ..=>true
 | .M l=>fU l
def qK:Nat→AV→Bool
 | 0,_=>false
 | n+1,v=>match v with
   | .undef | .bool _ | .int _ _ | .str _ | .nilp | .nils | .nilm | .nilf=>true
   | .ptrT none _ _=>true
   | .slcT none _ _ _ _=>true
   | .agg r=>RS (qK n) r
   | .tup l=>l.all (qK n)
   | .fn _ a b=>a.all (qK n) && b.all (qK n)
   | _=>false
theorem fR {f:AV→Bool}:∀ {l:List AV} {j:Nat},l.all f=true→j<l.length→f (l.getD j .undef)=true
 | [],j,_,h=>by simp at h
 | x::l,0,h,_=>by simp at h;simpa using h.1
 | x::l,j+1,h,hj=>by
   simp only[List.all_cons,Bool.and_eq_true] at h
   rw[List.getD_cons_succ]
   exact fR h.2 (by simpa using hj)
theorem mJ {p:aA} {M N:Mu}:∀ (n:Nat) {v:AV} {c:Value},qK n v=true→aj p M v c→aj p N v c
 | 0,v,c,h,_=>by simp[qK] at h
 | n + 1,v,c,h,hv=>by
   have ih:=@mJ p M N n
   cases hv with
   | undef c=>exact .undef c
   | bool b=>exact .bool b
   | int k n=>exact .int k n
   | str s=>exact .str s
   | nilp=>exact .nilp
   | nils=>exact .nils
   | nilm=>exact .nilm
   | nilf=>exact .nilf
   | ptr h0=>simp[qK] at h
   | slc h0=>simp[qK] at h
   | map h0=>simp[qK] at h
   | yld h0=>simp[qK] at h
   | ptrT vs h0 h1 hv =>
     rename_i s r off b o
     cases s with
     | some s=>simp[qK] at h
     | none=>exact .ptrT vs h0 h1 hv
   | slcT vs h0 h1 hv hl hf hx =>
     rename_i s r sz len b o x cc full
     cases s with
     | some s=>simp[qK] at h
     | none=>exact .slcT vs h0 h1 hv hl hf hx
   | slcN=>exact .slcN
   | fn ha hb va vb =>
     simp only[qK,Bool.and_eq_true] at h
     exact .fn ha hb (fun j hj=>ih (fR h.1 hj) (va j hj)) (fun j hj=>ih (fR h.2 hj) (vb j hj))
   | agg hs h1 hv =>
     rename_i r cs
     simp only[qK] at h
     cases r with
     | I k l=>exact .agg hs h1 (fun j hj=>(hv j hj).bA _ _)
     | F f m=>exact .agg hs h1 hv
     | M l=>exact .agg hs h1 (aT.fU h hv)
     | G l=>exact .agg hs h1 (fun j hj=>ih (fR (f:=qK n) h hj) (hv j hj))
   | tup hs hv =>
     simp only[qK] at h
     exact .tup hs (fun j hj=>ih (fR h hj) (hv j hj))

structure fL where
 f:FuncId
 args:List AV
 v:AV
def bu (P:Program) (e:fL):Prop:=∀ (H:aa),H≠[]→∀ (p:aA) (M:Mu) (w:World) (cargs:Array Value),aV p M H w→iM p M e.args cargs →
 (∃ fn,P.funcs[e.f]?=some fn∧fn.body.isNone=false)∧CallsIn Fence.wide 0 P e.f cargs w (pt p M H w e.v H)

theorem yP {P:Program} {call:aQ} (hC:cr P call) {e:fL} {H':aa} (h:call (.fn e.f) e.args [⟨true,[]⟩]=some (e.v,H')) (hn:e.args.all (qK 9)=true):bu P e:=by
 intro H hne p M w cargs hH hA
 have hH0:aV p Mu.no [⟨true,[]⟩] w:=⟨hH.pers,(fun d i v B hg hB=>by
  cases d<;>simp[aq,ao] at hg<;>exact absurd hg.2.symm hB),(fun d i v B d' i' v' B' b o t o' t' hg hB hg' hB' hm hm'=>by cases hm),(fun d i v t hm=>by cases hm)⟩
 have hA0:iM p Mu.no e.args cargs:=⟨hA.1,fun j hj=>mJ 9 (fR hn hj) (hA.2 j hj)⟩
 obtain ⟨h1,h2⟩:=hC (.fn e.f) e.args _ e.v H' h (by simp) p Mu.no w cargs hH0 hA0
 refine ⟨h1,h2.mono ?_⟩
 rintro en w' ⟨cv,rfl,st,p',M',hE,hv⟩
 have hM:Mu.le M' M:=fun d i v t hm=>by
  have h3:=(hE.rel.dom d i v t hm).1
  have h4:au [⟨true,[]⟩] d=true:=by cases d<;>rfl
  rw[st.next d h4] at h3
  cases d<;>simp[ak] at h3
 have all:∀ b,Go.Eng.aZ Mu.no [⟨true,[]⟩] b:=fun b d i u B _ _ _ o t hm=>by cases hm
 have no:∀ {b:Nat},¬ (au [⟨true,[]⟩] 0=false∧∃ i u o' t',Mu.no 0 i u=some (b,o',t')):=fun h=>by have:=h.1;cases this
 refine ⟨cv,rfl,Still.refl H,p',M,{ bX.refl hH with pst:=hE.pst,rel:=⟨hE.rel.pers,?_,hH.apart,hH.dom⟩,stay:=hE.stay.weaken (fun b _ _=>all b),fresh:=fun b o v hv=>(hE.fresh b o v hv).imp_right fun h=>h.elim .inl fun h=>(no h).elim },hv.mono (aA.le.refl _) hM⟩
 intro d i u B hg hB
 obtain ⟨b,o,t,k1,k2,k3⟩:=hH.live d i u B hg hB
 have hlt:=k2.lt hB
 refine ⟨b,o,t,k1,k2.mono hE.pst (Mu.le.refl _) (hE.stay.block b hlt (all b)),fun x=>?_⟩
 cases hx:p' b x with
 | none=>rfl
 | some y =>
   rcases hE.fresh b x y hx with h | h | ⟨h,_⟩
   · rw[k3] at h;cases h
   · omega
   · cases h

noncomputable def tK (f:AV→AV→Bool) (r s:Row):Bool :=
 match r,s with
 | .I k l,.I k' l'=>gu k k' && listEqI l l'
 | .G l,.G l'=>listEqV f l l'
 | _,_=>false
where
 listEqI:List Int→List Int→Bool
  | [],[]=>true
  | x::a,y::b=>FR x y && listEqI a b
  | _,_=>false
 listEqV (f:AV→AV→Bool):List AV→List AV→Bool
  | [],[]=>true
  | x::a,y::b=>f x y && listEqV f a b
  | _,_=>false
def Ad:Option Nat→Option Nat→Bool
 | none,none=>true
 | some a,some b=>Nat.beq a b
 | _,_=>false
noncomputable def IY:Nat→AV→AV→Bool
 | 0,_,_=>false
 | n+1,v,u=>match v,u with
   | .bool a,.bool b=>a == b
   | .int k a,.int k' b=>gu k k' && FR a b
   | .nilp,.nilp=>true
   | .nils,.nils=>true
   | .nilm,.nilm=>true
   | .ptrT s r o,.ptrT s' r' o'=>Ad s s' && (tK (IY n) r r' && Nat.beq o o')
   | .slcT s r z l b,.slcT s' r' z' l' b'=>Ad s s' && (tK (IY n) r r' && (Nat.beq z z' && (Nat.beq l l' && b == b')))
   | .agg r,.agg r'=>tK (IY n) r r'
   | _,_=>false
theorem sr:∀ (l m:List Int),tK.listEqI l m=true→l=m
 | [],[],_=>rfl
 | [],_::_,h=>by simp[tK.listEqI] at h
 | _::_,[],h=>by simp[tK.listEqI] at h
 | x::a,y::b,h=>by
   simp only[tK.listEqI,Bool.and_eq_true,vV,beq_iff_eq] at h
   rw[h.1,sr a b h.2]
theorem gI {f:AV→AV→Bool} (hf:∀ x y,f x y=true→x=y):∀ (l m:List AV),tK.listEqV f l m=true→l=m
 | [],[],_=>rfl
 | [],_::_,h=>by simp[tK.listEqV] at h
 | _::_,[],h=>by simp[tK.listEqV] at h
 | x::a,y::b,h=>by
   simp only[tK.listEqV,Bool.and_eq_true] at h
   rw[hf _ _ h.1,gI hf a b h.2]
theorem nr {f:AV→AV→Bool} (hf:∀ x y,f x y=true→x=y) (r s:Row) (h:tK f r s=true):r=s:=by
 cases r<;>cases s<;>simp only[tK,Bool.and_eq_true,eG,decide_eq_true_eq] at h<;>try (simp at h;done)
 · rw[h.1,sr _ _ h.2]
 · rw[gI hf _ _ h]
theorem ov (a b:Option Nat) (h:Ad a b=true):a=b:=by
 cases a<;>cases b<;>simp[Ad] at h ⊢;exact h
theorem Ec:∀ (n:Nat) (x y:AV),IY n x y=true→x=y
 | 0,x,y,h=>by simp[IY] at h
 | n+1,x,y,h=>by
   have ih:=Ec n
   cases x<;>cases y<;>simp only[IY,Bool.and_eq_true,eG,vV,decide_eq_true_eq,beq_iff_eq] at h<;>try (first | rfl | (simp at h;done))
   case bool.bool=>rw[h]
   case int.int=>rw[h.1,h.2]
   case ptrT.ptrT=>rw[ov _ _ h.1,nr ih _ _ h.2.1,Nat.eq_of_beq_eq_true h.2.2]
   case slcT.slcT=>rw[ov _ _ h.1,nr ih _ _ h.2.1,Nat.eq_of_beq_eq_true h.2.2.1,Nat.eq_of_beq_eq_true h.2.2.2.1,h.2.2.2.2]
   case agg.agg=>rw[nr ih _ _ h]

noncomputable def AB:List fL→aQ→FuncId→List AV→aa→Option (AV×aa)
 | [],_,_,_,_=>none
 | e::r,c,f,args,H=>if Nat.beq e.f f && tK.listEqV (IY 9) e.args args then some (e.v,H) else AB r c f args H
theorem wx {P:Program}:∀ (tab:List fL),(∀ e ∈ tab,bu P e)→uk P (AB tab)
 | [],_=>fun call _ f args H v H' h=>by simp[AB] at h
 | e :: r,hT=>fun call hC f args H v H' h=>by
   simp only[AB] at h
   split at h
   · rename_i hc
     simp only[Bool.and_eq_true] at hc
     have e1:=Nat.eq_of_beq_eq_true hc.1
     have e2:=gI (Ec 9) _ _ hc.2
     have e3:=Option.some.inj h
     simp only[Prod.mk.injEq] at e3
     obtain ⟨e3,e4⟩:=e3
     subst e1;subst e2;subst e3;subst e4
     exact hT e (by simp) H
   · exact wx r (fun e' he=>hT e' (List.mem_cons_of_mem _ he)) call hC f args H v H' h

end Go.Eng
end
section
namespace Go.Eng
noncomputable section

inductive Tr (α:Type) where
 | ok (a:α)
 | bad
 | ite (c:Bool) (t e:Tr α)
 | req (c:Bool) (t:Tr α)
 | reqP (p:Prop) (t:Tr α)
open Classical in
def Tr.run {α:Type}:Tr α→Option α
 | .ok a=>some a
 | .bad=>none
 | .ite c t e=>cond c t.run e.run
 | .req c t=>cond c t.run none
 | .reqP p t=>if p then t.run else none
def Tr.bind {α β:Type} (t:Tr α) (f:α→Tr β):Tr β:=Tr.rec (motive:=fun _=>Tr β) f .bad (fun c _ _ a b=>.ite c a b) (fun c _ a=>.req c a) (fun p _ a=>.reqP p a) t
theorem Tr.DU {α β:Type} (t:Tr α) (f:α→Tr β):(t.bind f).run=t.run.bind fun a=>(f a).run:=by
 induction t with
 | ok a=>rfl
 | bad=>rfl
 | ite c a b iha ihb =>
   have e:(Tr.ite c a b).bind f=.ite c (a.bind f) (b.bind f):=rfl
   rw[e];simp only[Tr.run,iha,ihb];cases c<;>rfl
 | req c a ih =>
   have e:(Tr.req c a).bind f=.req c (a.bind f):=rfl
   rw[e];simp only[Tr.run,ih];cases c<;>rfl
 | reqP p a ih =>
   have e:(Tr.reqP p a).bind f=.reqP p (a.bind f):=rfl
   rw[e];simp only[Tr.run,ih]
   by_cases hp:p
   · rw[if_pos hp,if_pos hp]
   · rw[if_neg hp,if_neg hp];rfl
theorem Tr.cW {α:Type} {p:Prop} {t:Tr α} {x:α} (h:(Tr.reqP p t).run=some x):p∧t.run=some x:=by
 simp only[Tr.run] at h
 by_cases hp:p
 · rw[if_pos hp] at h;exact ⟨hp,h⟩
 · rw[if_neg hp] at h;cases h
theorem Tr.Fy {α:Type} {p:Prop} {a:Tr α} (h:p):(Tr.reqP p a).run=a.run:=by simp only[Tr.run];rw[if_pos h]
theorem Tr.bind_some {α β:Type} {t:Tr α} {f:α→Tr β} {y:β} (h:(t.bind f).run=some y):∃ x,t.run=some x∧(f x).run=some y:=by
 rw[Tr.DU] at h
 exact Option.bind_eq_some_iff.1 h
theorem Tr.aH {α:Type} {c:Bool} {t:Tr α} {x:α} (h:(Tr.req c t).run=some x):c=true∧t.run=some x:=by
 cases c with
 | true=>exact ⟨rfl,h⟩
 | false=>simp[Tr.run] at h
theorem Tr.gd {α:Type} {c:Bool} {t e:Tr α} {x:α} (h:(Tr.ite c t e).run=some x):(c=true∧t.run=some x)∨(c=false∧e.run=some x):=by
 cases c with
 | true=>exact .inl ⟨rfl,h⟩
 | false=>exact .inr ⟨rfl,h⟩
theorem Tr.ab {α:Type} {a x:α} (h:(Tr.ok a).run=some x):a=x:=Option.some.inj h
theorem Tr.ae {α:Type} {x:α} (h:(Tr.bad:Tr α).run=some x):False:=by simp[Tr.run] at h
def vi {α:Type} (o:Option α):Tr α:=Option.rec (motive:=fun _=>Tr α) .bad .ok o
theorem cR {α:Type} (o:Option α):(vi o).run=o:=by cases o<;>rfl
theorem cV {α:Type} (f:α):∃ g,g=f:=⟨f,rfl⟩

def br:IntKind→Int→Int→Int:=Classical.choose (cV (α:=IntKind→Int→Int→Int) (fun k x y=>k.wrap (x+y)))
theorem FW:br=(fun k x y=>k.wrap (x+y)):=Classical.choose_spec (cV (α:=IntKind→Int→Int→Int) (fun k x y=>k.wrap (x+y)))
theorem jj (k x y):br k x y=k.wrap (x+y):=by rw[FW]
def bP:IntKind→Int→Int→Int:=Classical.choose (cV (α:=IntKind→Int→Int→Int) (fun k x y=>k.wrap (x-y)))
theorem Hu:bP=(fun k x y=>k.wrap (x-y)):=Classical.choose_spec (cV (α:=IntKind→Int→Int→Int) (fun k x y=>k.wrap (x-y)))
theorem mN (k x y):bP k x y=k.wrap (x-y):=by rw[Hu]
def yF:IntKind→Int→Int→Int:=Classical.choose (cV (α:=IntKind→Int→Int→Int) (fun k x y=>k.wrap (x*y)))
theorem GS:yF=(fun k x y=>k.wrap (x*y)):=Classical.choose_spec (cV (α:=IntKind→Int→Int→Int) (fun k x y=>k.wrap (x*y)))
theorem mI (k x y):yF k x y=k.wrap (x*y):=by rw[GS]
def JF:IntKind→Int→Int→Int:=Classical.choose (cV (α:=IntKind→Int→Int→Int) (fun k x y=>k.wrap (x.tdiv y)))
theorem Hf:JF=(fun k x y=>k.wrap (x.tdiv y)):=Classical.choose_spec (cV (α:=IntKind→Int→Int→Int) (fun k x y=>k.wrap (x.tdiv y)))
theorem He (k x y):JF k x y=k.wrap (x.tdiv y):=by rw[Hf]
def kZ:IntKind→Int→Int→Int:=Classical.choose (cV (α:=IntKind→Int→Int→Int) (fun k x y=>x.tmod y))
theorem Hi:kZ=(fun k x y=>x.tmod y):=Classical.choose_spec (cV (α:=IntKind→Int→Int→Int) (fun k x y=>x.tmod y))
theorem wP (k x y):kZ k x y=x.tmod y:=by rw[Hi]
def IJ:IntKind→Int→Int→Int:=Classical.choose (cV (α:=IntKind→Int→Int→Int) (fun k x y=>k.wrap (BitVec.ofInt k.bits x &&& BitVec.ofInt k.bits y).toNat))
theorem F0:IJ=(fun k x y=>k.wrap (BitVec.ofInt k.bits x &&& BitVec.ofInt k.bits y).toNat):=Classical.choose_spec (cV (α:=IntKind→Int→Int→Int) (fun k x y=>k.wrap (BitVec.ofInt k.bits x &&& BitVec.ofInt k.bits y).toNat))
theorem vG (k x y):IJ k x y=k.wrap (BitVec.ofInt k.bits x &&& BitVec.ofInt k.bits y).toNat:=by rw[F0]
def N2:IntKind→Int→Int→Int:=Classical.choose (cV (α:=IntKind→Int→Int→Int) (fun k x y=>k.wrap (BitVec.ofInt k.bits x ||| BitVec.ofInt k.bits y).toNat))
theorem Jx:N2=(fun k x y=>k.wrap (BitVec.ofInt k.bits x ||| BitVec.ofInt k.bits y).toNat):=Classical.choose_spec (cV (α:=IntKind→Int→Int→Int) (fun k x y=>k.wrap (BitVec.ofInt k.bits x ||| BitVec.ofInt k.bits y).toNat))
theorem AA (k x y):N2 k x y=k.wrap (BitVec.ofInt k.bits x ||| BitVec.ofInt k.bits y).toNat:=by rw[Jx]
def J4:IntKind→Int→Int→Int:=Classical.choose (cV (α:=IntKind→Int→Int→Int) (fun k x y=>k.wrap (BitVec.ofInt k.bits x ^^^ BitVec.ofInt k.bits y).toNat))
theorem HI:J4=(fun k x y=>k.wrap (BitVec.ofInt k.bits x ^^^ BitVec.ofInt k.bits y).toNat):=Classical.choose_spec (cV (α:=IntKind→Int→Int→Int) (fun k x y=>k.wrap (BitVec.ofInt k.bits x ^^^ BitVec.ofInt k.bits y).toNat))
theorem xl (k x y):J4 k x y=k.wrap (BitVec.ofInt k.bits x ^^^ BitVec.ofInt k.bits y).toNat:=by rw[HI]
def Mp:IntKind→Int→Int→Int:=Classical.choose (cV (α:=IntKind→Int→Int→Int) (fun k x y=>k.wrap (BitVec.ofInt k.bits x &&& ~~~(BitVec.ofInt k.bits y)).toNat))
theorem IG:Mp=(fun k x y=>k.wrap (BitVec.ofInt k.bits x &&& ~~~(BitVec.ofInt k.bits y)).toNat):=Classical.choose_spec (cV (α:=IntKind→Int→Int→Int) (fun k x y=>k.wrap (BitVec.ofInt k.bits x &&& ~~~(BitVec.ofInt k.bits y)).toNat))
theorem zS (k x y):Mp k x y=k.wrap (BitVec.ofInt k.bits x &&& ~~~(BitVec.ofInt k.bits y)).toNat:=by rw[IG]
def JN:IntKind→Int→Int→Int:=Classical.choose (cV (α:=IntKind→Int→Int→Int) (fun k x y=>k.wrap (x*2 ^ (min y.toNat k.bits))))
theorem Hq:JN=(fun k x y=>k.wrap (x*2 ^ (min y.toNat k.bits))):=Classical.choose_spec (cV (α:=IntKind→Int→Int→Int) (fun k x y=>k.wrap (x*2 ^ (min y.toNat k.bits))))
theorem Hp (k x y):JN k x y=k.wrap (x*2 ^ (min y.toNat k.bits)):=by rw[Hq]
def JO:IntKind→Int→Int→Int:=Classical.choose (cV (α:=IntKind→Int→Int→Int) (fun k x y=>x.fdiv (2 ^ (min y.toNat k.bits))))
theorem Hs:JO=(fun k x y=>x.fdiv (2 ^ (min y.toNat k.bits))):=Classical.choose_spec (cV (α:=IntKind→Int→Int→Int) (fun k x y=>x.fdiv (2 ^ (min y.toNat k.bits))))
theorem Hr (k x y):JO k x y=x.fdiv (2 ^ (min y.toNat k.bits)):=by rw[Hs]
def tE:IntKind→Int→Int:=Classical.choose (cV (α:=IntKind→Int→Int) (fun k x=>k.wrap x))
theorem J3:tE=(fun k x=>k.wrap x):=Classical.choose_spec (cV (α:=IntKind→Int→Int) (fun k x=>k.wrap x))
theorem AT (k x):tE k x=k.wrap x:=by rw[J3]
def Jt:IntKind→Int→Int:=Classical.choose (cV (α:=IntKind→Int→Int) (fun k x=>k.wrap (0-x)))
theorem G0:Jt=(fun k x=>k.wrap (0-x)):=Classical.choose_spec (cV (α:=IntKind→Int→Int) (fun k x=>k.wrap (0-x)))
theorem GZ (k x):Jt k x=k.wrap (0-x):=by rw[G0]
def cQ:Int→Int→Bool:=Classical.choose (cV (α:=Int→Int→Bool) (fun x y=>(x == y)))
theorem I0:cQ=(fun x y=>(x == y)):=Classical.choose_spec (cV (α:=Int→Int→Bool) (fun x y=>(x == y)))
theorem fW (x y):cQ x y=(x == y):=by rw[I0]
def cq:Int→Int→Bool:=Classical.choose (cV (α:=Int→Int→Bool) (fun x y=>decide (x<y)))
theorem Jp:cq=(fun x y=>decide (x<y)):=Classical.choose_spec (cV (α:=Int→Int→Bool) (fun x y=>decide (x<y)))
theorem eY (x y):cq x y=decide (x<y):=by rw[Jp]
def lH:Int→Int→Bool:=Classical.choose (cV (α:=Int→Int→Bool) (fun x y=>decide (x≤y)))
theorem Ji:lH=(fun x y=>decide (x≤y)):=Classical.choose_spec (cV (α:=Int→Int→Bool) (fun x y=>decide (x≤y)))
theorem l5 (x y):lH x y=decide (x≤y):=by rw[Ji]
def ba:Bool→Bool:=Classical.choose (cV (α:=Bool→Bool) (fun b=>(!b)))
theorem G3:ba=(fun b=>(!b)):=Classical.choose_spec (cV (α:=Bool→Bool) (fun b=>(!b)))
theorem gU (b):ba b=(!b):=by rw[G3]
def cM:Bool→Bool→Bool:=Classical.choose (cV (α:=Bool→Bool→Bool) (fun a b=>(a && b)))
theorem FZ:cM=(fun a b=>(a && b)):=Classical.choose_spec (cV (α:=Bool→Bool→Bool) (fun a b=>(a && b)))
theorem n8 (a b):cM a b=(a && b):=by rw[FZ]
def Gj:Bool→Bool→Bool:=Classical.choose (cV (α:=Bool→Bool→Bool) (fun a b=>(a == b)))
theorem IZ:Gj=(fun a b=>(a == b)):=Classical.choose_spec (cV (α:=Bool→Bool→Bool) (fun a b=>(a == b)))
theorem Ac (a b):Gj a b=(a == b):=by rw[IZ]
def ub:Int→Int→Int:=Classical.choose (cV (α:=Int→Int→Int) (fun x y=>if y<x then y else x))
theorem GR:ub=(fun x y=>if y<x then y else x):=Classical.choose_spec (cV (α:=Int→Int→Int) (fun x y=>if y<x then y else x))
theorem BL (x y):ub x y=if y<x then y else x:=by rw[GR]
def ua:Int→Int→Int:=Classical.choose (cV (α:=Int→Int→Int) (fun x y=>if y > x then y else x))
theorem GP:ua=(fun x y=>if y > x then y else x):=Classical.choose_spec (cV (α:=Int→Int→Int) (fun x y=>if y > x then y else x))
theorem BK (x y):ua x y=if y > x then y else x:=by rw[GP]
def dv:Int→Nat→Bool:=Classical.choose (cV (α:=Int→Nat→Bool) (fun (i:Int) (n:Nat)=>decide (0≤i∧i<(n:Int))))
theorem I9:dv=(fun (i:Int) (n:Nat)=>decide (0≤i∧i<(n:Int))):=Classical.choose_spec (cV (α:=Int→Nat→Bool) (fun (i:Int) (n:Nat)=>decide (0≤i∧i<(n:Int))))
theorem pS (i n):dv i n=decide (0≤i∧i<(n:Int)):=by rw[I9]
def tJ:Int→Nat→Bool:=Classical.choose (cV (α:=Int→Nat→Bool) (fun (i:Int) (n:Nat)=>decide (0≤i∧i≤(n:Int))))
theorem F7:tJ=(fun (i:Int) (n:Nat)=>decide (0≤i∧i≤(n:Int))):=Classical.choose_spec (cV (α:=Int→Nat→Bool) (fun (i:Int) (n:Nat)=>decide (0≤i∧i≤(n:Int))))
theorem Bb (i n):tJ i n=decide (0≤i∧i≤(n:Int)):=by rw[F7]
def H6:Int→Int→Nat→Bool:=Classical.choose (cV (α:=Int→Int→Nat→Bool) (fun l c b=>decide (0≤l∧l≤c∧c.toNat*b≤room∧c.toNat≤room)))
theorem Jr:H6=(fun l c b=>decide (0≤l∧l≤c∧c.toNat*b≤room∧c.toNat≤room)):=Classical.choose_spec (cV (α:=Int→Int→Nat→Bool) (fun l c b=>decide (0≤l∧l≤c∧c.toNat*b≤room∧c.toNat≤room)))
theorem Au (l c b):H6 l c b=decide (0≤l∧l≤c∧c.toNat*b≤room∧c.toNat≤room):=by rw[Jr]
def fy:Int→Nat:=Classical.choose (cV (α:=Int→Nat) (fun i=>i.toNat))
theorem JX:fy=(fun i=>i.toNat):=Classical.choose_spec (cV (α:=Int→Nat) (fun i=>i.toNat))
theorem qi (i):fy i=i.toNat:=by rw[JX]
def ay:Nat→Int→Nat→Nat:=Classical.choose (cV (α:=Nat→Int→Nat→Nat) (fun o i s=>o+i.toNat*s))
theorem I7:ay=(fun o i s=>o+i.toNat*s):=Classical.choose_spec (cV (α:=Nat→Int→Nat→Nat) (fun o i s=>o+i.toNat*s))
theorem kO (o i s):ay o i s=o+i.toNat*s:=by rw[I7]
def bB:Nat→Nat→Nat:=Classical.choose (cV (α:=Nat→Nat→Nat) (fun a b=>a+b))
theorem FX:bB=(fun a b=>a+b):=Classical.choose_spec (cV (α:=Nat→Nat→Nat) (fun a b=>a+b))
theorem bD (a b):bB a b=a+b:=by rw[FX]
def th:Nat→Nat→Nat:=Classical.choose (cV (α:=Nat→Nat→Nat) (fun a b=>a-b))
theorem Hw:th=(fun a b=>a-b):=Classical.choose_spec (cV (α:=Nat→Nat→Nat) (fun a b=>a-b))
theorem lg (a b):th a b=a-b:=by rw[Hw]
def GU:Nat→Nat→Nat:=Classical.choose (cV (α:=Nat→Nat→Nat) (fun a b=>a*b))
theorem GV:GU=(fun a b=>a*b):=Classical.choose_spec (cV (α:=Nat→Nat→Nat) (fun a b=>a*b))
theorem BO (a b):GU a b=a*b:=by rw[GV]
def p9:Nat→Nat→Nat:=Classical.choose (cV (α:=Nat→Nat→Nat) (fun a b=>min a b))
theorem GQ:p9=(fun a b=>min a b):=Classical.choose_spec (cV (α:=Nat→Nat→Nat) (fun a b=>min a b))
theorem oZ (a b):p9 a b=min a b:=by rw[GQ]
def c9:Nat→Nat→Bool:=Classical.choose (cV (α:=Nat→Nat→Bool) (fun a b=>decide (a<b)))
theorem Jq:c9=(fun a b=>decide (a<b)):=Classical.choose_spec (cV (α:=Nat→Nat→Bool) (fun a b=>decide (a<b)))
theorem gf (a b):c9 a b=decide (a<b):=by rw[Jq]
def bY:Nat→Nat→Bool:=Classical.choose (cV (α:=Nat→Nat→Bool) (fun a b=>decide (a≤b)))
theorem Jj:bY=(fun a b=>decide (a≤b)):=Classical.choose_spec (cV (α:=Nat→Nat→Bool) (fun a b=>decide (a≤b)))
theorem kQ (a b):bY a b=decide (a≤b):=by rw[Jj]
def bM:Nat→Nat→Bool:=Classical.choose (cV (α:=Nat→Nat→Bool) (fun a b=>decide (a=b)))
theorem I1:bM=(fun a b=>decide (a=b)):=Classical.choose_spec (cV (α:=Nat→Nat→Bool) (fun a b=>decide (a=b)))
theorem gz (a b):bM a b=decide (a=b):=by rw[I1]
def iB:Nat→Nat→Nat→Nat→Bool:=Classical.choose (cV (α:=Nat→Nat→Nat→Nat→Bool) (fun o m p n=>decide (p≤o∧o+m≤p+n)))
theorem Ja:iB=(fun o m p n=>decide (p≤o∧o+m≤p+n)):=Classical.choose_spec (cV (α:=Nat→Nat→Nat→Nat→Bool) (fun o m p n=>decide (p≤o∧o+m≤p+n)))
theorem gG (o m p n):iB o m p n=decide (p≤o∧o+m≤p+n):=by rw[Ja]
def DG:(Nat→AV)→IntKind→Nat→Bool→Prop:=Classical.choose (cV (α:=(Nat→AV)→IntKind→Nat→Bool→Prop) (fun f k sz full=>∀ j,∃ z n m,f j=AV.slcT none (Row.M [ah.arr k z n]) sz m full))
theorem FY:DG=(fun f k sz full=>∀ j,∃ z n m,f j=AV.slcT none (Row.M [ah.arr k z n]) sz m full):=Classical.choose_spec (cV (α:=(Nat→AV)→IntKind→Nat→Bool→Prop) (fun f k sz full=>∀ j,∃ z n m,f j=AV.slcT none (Row.M [ah.arr k z n]) sz m full))
theorem A5 (f k sz full):DG f k sz full=∀ j,∃ z n m,f j=AV.slcT none (Row.M [ah.arr k z n]) sz m full:=by rw[FY]
def Hl:Bool→(Nat→Int)→(Nat→Int)→Nat→Int:=Classical.choose (cV (α:=Bool→(Nat→Int)→(Nat→Int)→Nat→Int) (fun b x y=>cond b x y))
theorem Hm:Hl=(fun b x y=>cond b x y):=Classical.choose_spec (cV (α:=Bool→(Nat→Int)→(Nat→Int)→Nat→Int) (fun b x y=>cond b x y))
theorem w9 (b x y):Hl b x y=cond b x y:=by rw[Hm]
def Dq:Bool→Nat→Nat→Nat:=Classical.choose (cV (α:=Bool→Nat→Nat→Nat) (fun b x y=>cond b x y))
theorem Hk:Dq=(fun b x y=>cond b x y):=Classical.choose_spec (cV (α:=Bool→Nat→Nat→Nat) (fun b x y=>cond b x y))
theorem w8 (b x y):Dq b x y=cond b x y:=by rw[Hk]
def cF:Nat→Nat→Nat→Bool:=Classical.choose (cV (α:=Nat→Nat→Nat→Bool) (fun m n b=>decide ((m+n)*b≤room∧m+n≤room)))
theorem Fs:cF=(fun m n b=>decide ((m+n)*b≤room∧m+n≤room)):=Classical.choose_spec (cV (α:=Nat→Nat→Nat→Bool) (fun m n b=>decide ((m+n)*b≤room∧m+n≤room)))
theorem zi (m n b):cF m n b=decide ((m+n)*b≤room∧m+n≤room):=by rw[Fs]
def gm:(Nat→Int)→Nat→Int→Nat→Int:=Classical.choose (cV (α:=(Nat→Int)→Nat→Int→Nat→Int) (fun z i x=>fun j=>if j=i then x else z j))
theorem mR:gm=(fun z i x=>fun j=>if j=i then x else z j):=Classical.choose_spec (cV (α:=(Nat→Int)→Nat→Int→Nat→Int) (fun z i x=>fun j=>if j=i then x else z j))
def bm:(Nat→Int)→Nat→Nat→Int:=Classical.choose (cV (α:=(Nat→Int)→Nat→Nat→Int) (fun z o=>fun j=>z (o+j)))
theorem ml:bm=(fun z o=>fun j=>z (o+j)):=Classical.choose_spec (cV (α:=(Nat→Int)→Nat→Nat→Int) (fun z o=>fun j=>z (o+j)))
def iO:(Nat→Int)→Nat→(Nat→Int)→Nat→Nat→Int:=Classical.choose (cV (α:=(Nat→Int)→Nat→(Nat→Int)→Nat→Nat→Int) (fun z o z' n=>CF z o z' n))
theorem Bc:iO=(fun z o z' n=>CF z o z' n):=Classical.choose_spec (cV (α:=(Nat→Int)→Nat→(Nat→Int)→Nat→Nat→Int) (fun z o z' n=>CF z o z' n))
theorem Gd (z o z' n):iO z o z' n=CF z o z' n:=by rw[Bc]
def jO:(Nat→Int)→Nat→(Nat→Int)→Nat→Int:=Classical.choose (cV (α:=(Nat→Int)→Nat→(Nat→Int)→Nat→Int) (fun z n z'=>fun i=>if i<n then z i else z' (i-n)))
theorem vH:jO=(fun z n z'=>fun i=>if i<n then z i else z' (i-n)):=Classical.choose_spec (cV (α:=(Nat→Int)→Nat→(Nat→Int)→Nat→Int) (fun z n z'=>fun i=>if i<n then z i else z' (i-n)))
def Jl:List Int→Nat:=Classical.choose (cV (α:=List Int→Nat) (fun l=>l.length))
theorem GI:Jl=(fun l=>l.length):=Classical.choose_spec (cV (α:=List Int→Nat) (fun l=>l.length))
theorem GH (l):Jl l=l.length:=by rw[GI]
def al:List Int→Nat→Int:=Classical.choose (cV (α:=List Int→Nat→Int) (fun l=>fun j=>l.getD j 0))
theorem gT:al=(fun l=>fun j=>l.getD j 0):=Classical.choose_spec (cV (α:=List Int→Nat→Int) (fun l=>fun j=>l.getD j 0))
theorem BF (l):al l=fun j=>l.getD j 0:=by rw[gT]
def nk:(Nat→Int)→(Nat→Int)→Nat→Bool:=Classical.choose (cV (α:=(Nat→Int)→(Nat→Int)→Nat→Bool) (fun z z' n=>allEq z z' n))
theorem Ct:nk=(fun z z' n=>allEq z z' n):=Classical.choose_spec (cV (α:=(Nat→Int)→(Nat→Int)→Nat→Bool) (fun z z' n=>allEq z z' n))
theorem uo (z z' n):nk z z' n=allEq z z' n:=by rw[Ct]
def mg:(List Int→Bool)→List Int→Bool→List Int→Bool:=Classical.choose (cV (α:=(List Int→Bool)→List Int→Bool→List Int→Bool) (fun h n b=>ia h n b))
theorem mh:mg=(fun h n b=>ia h n b):=Classical.choose_spec (cV (α:=(List Int→Bool)→List Int→Bool→List Int→Bool) (fun h n b=>ia h n b))
theorem zj (h n b):mg h n b=ia h n b:=by rw[mh]
def mi:(List Int→Int)→List Int→Int→List Int→Int:=Classical.choose (cV (α:=(List Int→Int)→List Int→Int→List Int→Int) (fun g n x=>ld g n x))
theorem s9:mi=(fun g n x=>ld g n x):=Classical.choose_spec (cV (α:=(List Int→Int)→List Int→Int→List Int→Int) (fun g n x=>ld g n x))
theorem zn (g n x):mi g n x=ld g n x:=by rw[s9]
def rX:Bool→Nat→Nat:=Classical.choose (cV (α:=Bool→Nat→Nat) (fun b c=>xz b c))
theorem D3:rX=(fun b c=>xz b c):=Classical.choose_spec (cV (α:=Bool→Nat→Nat) (fun b c=>xz b c))
theorem xA (b c):rX b c=xz b c:=by rw[D3]
def uA:Bool→Nat→Nat:=Classical.choose (cV (α:=Bool→Nat→Nat) (fun b c=>CE b c))
theorem D4:uA=(fun b c=>CE b c):=Classical.choose_spec (cV (α:=Bool→Nat→Nat) (fun b c=>CE b c))
theorem xB (b c):uA b c=CE b c:=by rw[D4]

end
end Go.Eng
end
