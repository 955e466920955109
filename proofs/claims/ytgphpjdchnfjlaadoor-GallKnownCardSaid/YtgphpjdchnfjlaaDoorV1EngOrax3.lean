/- The engine: tables of calls that are known beforehand. -/
import Derived.Test.YtgphpjdchnfjlaaDoorV1EngXx3
import Derived.ProofKit
set_option linter.unusedVariables false
set_option linter.unusedSimpArgs false
section
namespace Go.Eng

def Lj (f:AV→Bool) (r:Row):Bool :=
 match r with
 | .I ..=>true
 | .G l=>l.all f
 | .F ..=>true
 | .M l=>dN l
def p7:Nat→AV→Bool
 | 0,_=>false
 | n+1,v=>match v with
   | .undef | .bool _ | .int _ _ | .str _ | .nilp | .nils | .nilm | .nilf=>true
   | .ptrT none _ _=>true
   | .slcT none _ _ _ _=>true
   | .agg r=>Lj (p7 n) r
   | .tup l=>l.all (p7 n)
   | .fn _ a b=>a.all (p7 n) && b.all (p7 n)
   | _=>false
theorem eE {f:AV→Bool}:∀ {l:List AV} {j:Nat},l.all f=true→j<l.length→f (l.getD j .undef)=true
 | [],j,_,h=>by simp at h
 | x::l,0,h,_=>by simp at h;simpa using h.1
 | x::l,j+1,h,hj=>by
   simp only[List.all_cons,Bool.and_eq_true] at h
   rw[List.getD_cons_succ]
   exact eE h.2 (by simpa using hj)
theorem lD {p:al} {M N:Mu}:∀ (n:Nat) {v:AV} {c:Value},p7 n v=true→ae p M v c→ae p N v c
 | 0,v,c,h,_=>by simp[p7] at h
 | n + 1,v,c,h,hv=>by
   have ih:=@lD p M N n
   cases hv with
   | undef c=>exact .undef c
   | bool b=>exact .bool b
   | int k n=>exact .int k n
   | str s=>exact .str s
   | nilp=>exact .nilp
   | nils=>exact .nils
   | nilm=>exact .nilm
   | nilf=>exact .nilf
   | ptr h0=>simp[p7] at h
   | slc h0=>simp[p7] at h
   | map h0=>simp[p7] at h
   | yld h0=>simp[p7] at h
   | ptrT vs h0 h1 hv =>
     rename_i s r off b o
     cases s with
     | some s=>simp[p7] at h
     | none=>exact .ptrT vs h0 h1 hv
   | slcT vs h0 h1 hv hl hf hx =>
     rename_i s r sz len b o x cc full
     cases s with
     | some s=>simp[p7] at h
     | none=>exact .slcT vs h0 h1 hv hl hf hx
   | slcN=>exact .slcN
   | fn ha hb va vb =>
     simp only[p7,Bool.and_eq_true] at h
     exact .fn ha hb (fun j hj=>ih (eE h.1 hj) (va j hj)) (fun j hj=>ih (eE h.2 hj) (vb j hj))
   | agg hs h1 hv =>
     rename_i r cs
     simp only[p7] at h
     cases r with
     | I k l=>exact .agg hs h1 (fun j hj=>(hv j hj).aK _ _)
     | F f m=>exact .agg hs h1 hv
     | M l=>exact .agg hs h1 (aD.dN h hv)
     | G l=>exact .agg hs h1 (fun j hj=>ih (eE (f:=p7 n) h hj) (hv j hj))
   | tup hs hv =>
     simp only[p7] at h
     exact .tup hs (fun j hj=>ih (eE h hj) (hv j hj))

structure a8 where
 f:FuncId
 args:List AV
 v:AV
def aj (P:Program) (e:a8):Prop:=∀ (H:aa),H≠[]→∀ (p:al) (M:Mu) (w:World) (cargs:Array Value),aE p M H w→dI p M e.args cargs →
 (∃ fn,P.funcs[e.f]?=some fn∧fn.body.isNone=false)∧CallsIn Fence.wide 0 P e.f cargs w (eD p M H w e.v H)

theorem tE {P:Program} {call:ak} (hC:aW P call) {e:a8} {H':aa} (h:call (.fn e.f) e.args [⟨true,[]⟩]=some (e.v,H')) (hn:e.args.all (p7 9)=true):aj P e:=by
 intro H hne p M w cargs hH hA
 have hH0:aE p Mu.no [⟨true,[]⟩] w:=⟨hH.pers,(fun d i v B hg hB=>by
  cases d<;>simp[ah,ag] at hg<;>exact absurd hg.2.symm hB),(fun d i v B d' i' v' B' b o t o' t' hg hB hg' hB' hm hm'=>by cases hm),(fun d i v t hm=>by cases hm)⟩
 have hA0:dI p Mu.no e.args cargs:=⟨hA.1,fun j hj=>lD 9 (eE hn hj) (hA.2 j hj)⟩
 obtain ⟨h1,h2⟩:=hC (.fn e.f) e.args _ e.v H' h (by simp) p Mu.no w cargs hH0 hA0
 refine ⟨h1,h2.mono ?_⟩
 rintro en w' ⟨cv,rfl,st,p',M',hE,hv⟩
 have hM:Mu.le M' M:=fun d i v t hm=>by
  have h3:=(hE.rel.dom d i v t hm).1
  have h4:an [⟨true,[]⟩] d=true:=by cases d<;>rfl
  rw[st.next d h4] at h3
  cases d<;>simp[af] at h3
 have all:∀ b,Go.Eng.aJ Mu.no [⟨true,[]⟩] b:=fun b d i u B _ _ _ o t hm=>by cases hm
 have no:∀ {b:Nat},¬ (an [⟨true,[]⟩] 0=false∧∃ i u o' t',Mu.no 0 i u=some (b,o',t')):=fun h=>by have:=h.1;cases this
 refine ⟨cv,rfl,Still.refl H,p',M,{ bh.refl hH with pst:=hE.pst,rel:=⟨hE.rel.pers,?_,hH.apart,hH.dom⟩,stay:=hE.stay.weaken (fun b _ _=>all b),fresh:=fun b o v hv=>(hE.fresh b o v hv).imp_right fun h=>h.elim .inl fun h=>(no h).elim },hv.mono (al.le.refl _) hM⟩
 intro d i u B hg hB
 obtain ⟨b,o,t,k1,k2,k3⟩:=hH.live d i u B hg hB
 have hlt:=k2.lt hB
 refine ⟨b,o,t,k1,k2.mono hE.pst (Mu.le.refl _) (hE.stay.block b hlt (all b)),fun x=>?_⟩
 cases hx:p' b x with
 | none=>rfl
 | some y =>
   rcases hE.fresh b x y hx with h | h | ⟨h,_⟩
   · rw[k3] at h;cases h
   · omega
   · cases h

noncomputable def wL (f:AV→AV→Bool) (r s:Row):Bool :=
 match r,s with
 | .I k l,.I k' l'=>eJ k k' && listEqI l l'
 | .G l,.G l'=>listEqV f l l'
 | _,_=>false
where
 listEqI:List Int→List Int→Bool
  | [],[]=>true
  | x::a,y::b=>Br x y && listEqI a b
  | _,_=>false
 listEqV (f:AV→AV→Bool):List AV→List AV→Bool
  | [],[]=>true
  | x::a,y::b=>f x y && listEqV f a b
  | _,_=>false
def Bq:Option Nat→Option Nat→Bool
 | none,none=>true
 | some a,some b=>Nat.beq a b
 | _,_=>false
noncomputable def DZ:Nat→AV→AV→Bool
 | 0,_,_=>false
 | n+1,v,u=>match v,u with
   | .bool a,.bool b=>a == b
   | .int k a,.int k' b=>eJ k k' && Br a b
   | .nilp,.nilp=>true
   | .nils,.nils=>true
   | .nilm,.nilm=>true
   | .ptrT s r o,.ptrT s' r' o'=>Bq s s' && (wL (DZ n) r r' && Nat.beq o o')
   | .slcT s r z l b,.slcT s' r' z' l' b'=>Bq s s' && (wL (DZ n) r r' && (Nat.beq z z' && (Nat.beq l l' && b == b')))
   | .agg r,.agg r'=>wL (DZ n) r r'
   | _,_=>false
theorem oZ:∀ (l m:List Int),wL.listEqI l m=true→l=m
 | [],[],_=>rfl
 | [],_::_,h=>by simp[wL.listEqI] at h
 | _::_,[],h=>by simp[wL.listEqI] at h
 | x::a,y::b,h=>by
   simp only[wL.listEqI,Bool.and_eq_true,vI,beq_iff_eq] at h
   rw[h.1,oZ a b h.2]
theorem kj {f:AV→AV→Bool} (hf:∀ x y,f x y=true→x=y):∀ (l m:List AV),wL.listEqV f l m=true→l=m
 | [],[],_=>rfl
 | [],_::_,h=>by simp[wL.listEqV] at h
 | _::_,[],h=>by simp[wL.listEqV] at h
 | x::a,y::b,h=>by
   simp only[wL.listEqV,Bool.and_eq_true] at h
   rw[hf _ _ h.1,kj hf a b h.2]
theorem vH {f:AV→AV→Bool} (hf:∀ x y,f x y=true→x=y) (r s:Row) (h:wL f r s=true):r=s:=by
 cases r<;>cases s<;>simp only[wL,Bool.and_eq_true,dg,decide_eq_true_eq] at h<;>try (simp at h;done)
 · rw[h.1,oZ _ _ h.2]
 · rw[kj hf _ _ h]
theorem wK (a b:Option Nat) (h:Bq a b=true):a=b:=by
 cases a<;>cases b<;>simp[Bq] at h ⊢;exact h
theorem zt:∀ (n:Nat) (x y:AV),DZ n x y=true→x=y
 | 0,x,y,h=>by simp[DZ] at h
 | n+1,x,y,h=>by
   have ih:=zt n
   cases x<;>cases y<;>simp only[DZ,Bool.and_eq_true,dg,vI,decide_eq_true_eq,beq_iff_eq] at h<;>try (first | rfl | (simp at h;done))
   case bool.bool=>rw[h]
   case int.int=>rw[h.1,h.2]
   case ptrT.ptrT=>rw[wK _ _ h.1,vH ih _ _ h.2.1,Nat.eq_of_beq_eq_true h.2.2]
   case slcT.slcT=>rw[wK _ _ h.1,vH ih _ _ h.2.1,Nat.eq_of_beq_eq_true h.2.2.1,Nat.eq_of_beq_eq_true h.2.2.2.1,h.2.2.2.2]
   case agg.agg=>rw[vH ih _ _ h]

noncomputable def yr:List a8→ak→FuncId→List AV→aa→Option (AV×aa)
 | [],_,_,_,_=>none
 | e::r,c,f,args,H=>if Nat.beq e.f f && wL.listEqV (DZ 9) e.args args then some (e.v,H) else yr r c f args H
theorem r4 {P:Program}:∀ (tab:List a8),(∀ e ∈ tab,aj P e)→qC P (yr tab)
 | [],_=>fun call _ f args H v H' h=>by simp[yr] at h
 | e :: r,hT=>fun call hC f args H v H' h=>by
   simp only[yr] at h
   split at h
   · rename_i hc
     simp only[Bool.and_eq_true] at hc
     have e1:=Nat.eq_of_beq_eq_true hc.1
     have e2:=kj (zt 9) _ _ hc.2
     have e3:=Option.some.inj h
     simp only[Prod.mk.injEq] at e3
     obtain ⟨e3,e4⟩:=e3
     subst e1;subst e2;subst e3;subst e4
     exact hT e (by simp) H
   · exact r4 r (fun e' he=>hT e' (List.mem_cons_of_mem _ he)) call hC f args H v H' h

end Go.Eng
end
section
namespace Go.Eng
open Go.ChangeShapes Go.RowKit

theorem qx {H:Type} {enc:TypeId×Value→H} {P:Program} {f:Func} {s:ChangeSpec} {apart fresh handsOn again:Bool} {W W':World} {args:Array Value} {v:Value} {ds gs:List (DataW H)} {before pa pv:List MemPlace}
 (hW:DataW.Whole enc P f.params.toList s.vars apart W args.toList ds gs before) (hb:Below W.heap.size W W')
 (hres:∀ (b:Nat) (sp:Nat→Bool) (hd:Bool),DataW.TrodAll enc P W' b sp hd f.resultTypes.toList (v.resultList f.resultTypes.size) (s.fn H (ds++gs)).results [])
 (hargs:∀ sp:Nat→Bool,(∀ p ∈ before,sp p.block=true)→DataW.TrodAll enc P W' 0 sp true f.params.toList args.toList (s.fn H (ds++gs)).args pa)
 (hvars:∀ sp:Nat→Bool,(∀ p ∈ before,sp p.block=true)→DataW.TrodVars enc P W' sp s.vars (s.fn H (ds++gs)).vars pv) (hps:before=pa++pv)
 (hok:∀ (j:Nat) (t:TypeId) (r:Value),f.resultTypes[j]?=some t→(v.resultList f.resultTypes.size)[j]?=some r→Value.okWide P W' .any 0 t r) :
 s.post enc P f apart fresh handsOn again W args v W':=by
 have old:∀ p ∈ before,p.block<W.heap.size:=fun p hp=>hW.lt p hp
 have hz:=hW
 obtain ⟨_,_,_,_,_,hz,hn⟩:=hz
 refine ⟨ds,gs,before,[],pa,pv,hW,hres _ _ _,hargs _ (fun p hp=>by simpa using old p hp),hvars _ (fun p hp=>by simpa using old p hp),hb.frame _,fun _=>⟨hok,_,_,[]++pa++pv,⟨[]++pa,pv,trodAll_append (hargs _ (fun _ _=>rfl)) (hres _ _ _),hvars _ (fun _ _=>rfl),rfl,?_,?_⟩,?_⟩⟩
 · intro b off hp
   have hp':MemPlace.cell b off ∈ before:=by rw[hps];simpa using hp
   rw[hb.frozen (old _ hp')]
   exact hz b off hp'
 · intro ha
   have:=hn ha
   rw[hps] at this
   simpa using this
 · intro p hp _
   rw[hps]
   simpa using hp

end Go.Eng
end
section
namespace Go.Eng
noncomputable section

inductive Tr (α:Type) where
 | ok (a:α)
 | bad
 | ite (c:Bool) (t e:Tr α)
 | req (c:Bool) (t:Tr α)
 | reqP (p:Prop) (t:Tr α)
open Classical in
def Tr.run {α:Type}:Tr α→Option α
 | .ok a=>some a
 | .bad=>none
 | .ite c t e=>cond c t.run e.run
 | .req c t=>cond c t.run none
 | .reqP p t=>if p then t.run else none
def Tr.bind {α β:Type} (t:Tr α) (f:α→Tr β):Tr β:=Tr.rec (motive:=fun _=>Tr β) f .bad (fun c _ _ a b=>.ite c a b) (fun c _ a=>.req c a) (fun p _ a=>.reqP p a) t
theorem Tr.yZ {α β:Type} (t:Tr α) (f:α→Tr β):(t.bind f).run=t.run.bind fun a=>(f a).run:=by
 induction t with
 | ok a=>rfl
 | bad=>rfl
 | ite c a b iha ihb =>
   have e:(Tr.ite c a b).bind f=.ite c (a.bind f) (b.bind f):=rfl
   rw[e];simp only[Tr.run,iha,ihb];cases c<;>rfl
 | req c a ih =>
   have e:(Tr.req c a).bind f=.req c (a.bind f):=rfl
   rw[e];simp only[Tr.run,ih];cases c<;>rfl
 | reqP p a ih =>
   have e:(Tr.reqP p a).bind f=.reqP p (a.bind f):=rfl
   rw[e];simp only[Tr.run,ih]
   by_cases hp:p
   · rw[if_pos hp,if_pos hp]
   · rw[if_neg hp,if_neg hp];rfl
theorem Tr.jN {α:Type} {p:Prop} {t:Tr α} {x:α} (h:(Tr.reqP p t).run=some x):p∧t.run=some x:=by
 simp only[Tr.run] at h
 by_cases hp:p
 · rw[if_pos hp] at h;exact ⟨hp,h⟩
 · rw[if_neg hp] at h;cases h
theorem Tr.AA {α:Type} {p:Prop} {a:Tr α} (h:p):(Tr.reqP p a).run=a.run:=by simp only[Tr.run];rw[if_pos h]
theorem Tr.bind_some {α β:Type} {t:Tr α} {f:α→Tr β} {y:β} (h:(t.bind f).run=some y):∃ x,t.run=some x∧(f x).run=some y:=by
 rw[Tr.yZ] at h
 exact Option.bind_eq_some_iff.1 h
theorem Tr.au {α:Type} {c:Bool} {t:Tr α} {x:α} (h:(Tr.req c t).run=some x):c=true∧t.run=some x:=by
 cases c with
 | true=>exact ⟨rfl,h⟩
 | false=>simp[Tr.run] at h
theorem Tr.jk {α:Type} {c:Bool} {t e:Tr α} {x:α} (h:(Tr.ite c t e).run=some x):(c=true∧t.run=some x)∨(c=false∧e.run=some x):=by
 cases c with
 | true=>exact .inl ⟨rfl,h⟩
 | false=>exact .inr ⟨rfl,h⟩
theorem Tr.ab {α:Type} {a x:α} (h:(Tr.ok a).run=some x):a=x:=Option.some.inj h
theorem Tr.ad {α:Type} {x:α} (h:(Tr.bad:Tr α).run=some x):False:=by simp[Tr.run] at h
def ri {α:Type} (o:Option α):Tr α:=Option.rec (motive:=fun _=>Tr α) .bad .ok o
theorem bz {α:Type} (o:Option α):(ri o).run=o:=by cases o<;>rfl
theorem bA {α:Type} (f:α):∃ g,g=f:=⟨f,rfl⟩

def nv:IntKind→Int→Int→Int:=Classical.choose (bA (α:=IntKind→Int→Int→Int) (fun k x y=>k.wrap (x+y)))
theorem A3:nv=(fun k x y=>k.wrap (x+y)):=Classical.choose_spec (bA (α:=IntKind→Int→Int→Int) (fun k x y=>k.wrap (x+y)))
theorem fT (k x y):nv k x y=k.wrap (x+y):=by rw[A3]
def yK:IntKind→Int→Int→Int:=Classical.choose (bA (α:=IntKind→Int→Int→Int) (fun k x y=>k.wrap (x-y)))
theorem Cv:yK=(fun k x y=>k.wrap (x-y)):=Classical.choose_spec (bA (α:=IntKind→Int→Int→Int) (fun k x y=>k.wrap (x-y)))
theorem lP (k x y):yK k x y=k.wrap (x-y):=by rw[Cv]
def BQ:IntKind→Int→Int→Int:=Classical.choose (bA (α:=IntKind→Int→Int→Int) (fun k x y=>k.wrap (x*y)))
theorem BR:BQ=(fun k x y=>k.wrap (x*y)):=Classical.choose_spec (bA (α:=IntKind→Int→Int→Int) (fun k x y=>k.wrap (x*y)))
theorem nM (k x y):BQ k x y=k.wrap (x*y):=by rw[BR]
def EF:IntKind→Int→Int→Int:=Classical.choose (bA (α:=IntKind→Int→Int→Int) (fun k x y=>k.wrap (x.tdiv y)))
theorem Cd:EF=(fun k x y=>k.wrap (x.tdiv y)):=Classical.choose_spec (bA (α:=IntKind→Int→Int→Int) (fun k x y=>k.wrap (x.tdiv y)))
theorem Cc (k x y):EF k x y=k.wrap (x.tdiv y):=by rw[Cd]
def EH:IntKind→Int→Int→Int:=Classical.choose (bA (α:=IntKind→Int→Int→Int) (fun k x y=>x.tmod y))
theorem Ch:EH=(fun k x y=>x.tmod y):=Classical.choose_spec (bA (α:=IntKind→Int→Int→Int) (fun k x y=>x.tmod y))
theorem Cg (k x y):EH k x y=x.tmod y:=by rw[Ch]
def vo:IntKind→Int→Int→Int:=Classical.choose (bA (α:=IntKind→Int→Int→Int) (fun k x y=>k.wrap (BitVec.ofInt k.bits x &&& BitVec.ofInt k.bits y).toNat))
theorem A9:vo=(fun k x y=>k.wrap (BitVec.ofInt k.bits x &&& BitVec.ofInt k.bits y).toNat):=Classical.choose_spec (bA (α:=IntKind→Int→Int→Int) (fun k x y=>k.wrap (BitVec.ofInt k.bits x &&& BitVec.ofInt k.bits y).toNat))
theorem nF (k x y):vo k x y=k.wrap (BitVec.ofInt k.bits x &&& BitVec.ofInt k.bits y).toNat:=by rw[A9]
def yo:IntKind→Int→Int→Int:=Classical.choose (bA (α:=IntKind→Int→Int→Int) (fun k x y=>k.wrap (BitVec.ofInt k.bits x ||| BitVec.ofInt k.bits y).toNat))
theorem Ey:yo=(fun k x y=>k.wrap (BitVec.ofInt k.bits x ||| BitVec.ofInt k.bits y).toNat):=Classical.choose_spec (bA (α:=IntKind→Int→Int→Int) (fun k x y=>k.wrap (BitVec.ofInt k.bits x ||| BitVec.ofInt k.bits y).toNat))
theorem rZ (k x y):yo k x y=k.wrap (BitVec.ofInt k.bits x ||| BitVec.ofInt k.bits y).toNat:=by rw[Ey]
def Fb:IntKind→Int→Int→Int:=Classical.choose (bA (α:=IntKind→Int→Int→Int) (fun k x y=>k.wrap (BitVec.ofInt k.bits x ^^^ BitVec.ofInt k.bits y).toNat))
theorem CH:Fb=(fun k x y=>k.wrap (BitVec.ofInt k.bits x ^^^ BitVec.ofInt k.bits y).toNat):=Classical.choose_spec (bA (α:=IntKind→Int→Int→Int) (fun k x y=>k.wrap (BitVec.ofInt k.bits x ^^^ BitVec.ofInt k.bits y).toNat))
theorem sn (k x y):Fb k x y=k.wrap (BitVec.ofInt k.bits x ^^^ BitVec.ofInt k.bits y).toNat:=by rw[CH]
def DH:IntKind→Int→Int→Int:=Classical.choose (bA (α:=IntKind→Int→Int→Int) (fun k x y=>k.wrap (BitVec.ofInt k.bits x &&& ~~~(BitVec.ofInt k.bits y)).toNat))
theorem DI:DH=(fun k x y=>k.wrap (BitVec.ofInt k.bits x &&& ~~~(BitVec.ofInt k.bits y)).toNat):=Classical.choose_spec (bA (α:=IntKind→Int→Int→Int) (fun k x y=>k.wrap (BitVec.ofInt k.bits x &&& ~~~(BitVec.ofInt k.bits y)).toNat))
theorem rB (k x y):DH k x y=k.wrap (BitVec.ofInt k.bits x &&& ~~~(BitVec.ofInt k.bits y)).toNat:=by rw[DI]
def iQ:IntKind→Int→Int→Int:=Classical.choose (bA (α:=IntKind→Int→Int→Int) (fun k x y=>k.wrap (x*2 ^ (min y.toNat k.bits))))
theorem Cr:iQ=(fun k x y=>k.wrap (x*2 ^ (min y.toNat k.bits))):=Classical.choose_spec (bA (α:=IntKind→Int→Int→Int) (fun k x y=>k.wrap (x*2 ^ (min y.toNat k.bits))))
theorem xx (k x y):iQ k x y=k.wrap (x*2 ^ (min y.toNat k.bits)):=by rw[Cr]
def ES:IntKind→Int→Int→Int:=Classical.choose (bA (α:=IntKind→Int→Int→Int) (fun k x y=>x.fdiv (2 ^ (min y.toNat k.bits))))
theorem Ct:ES=(fun k x y=>x.fdiv (2 ^ (min y.toNat k.bits))):=Classical.choose_spec (bA (α:=IntKind→Int→Int→Int) (fun k x y=>x.fdiv (2 ^ (min y.toNat k.bits))))
theorem Cs (k x y):ES k x y=x.fdiv (2 ^ (min y.toNat k.bits)):=by rw[Ct]
def IH:IntKind→Int→Int:=Classical.choose (bA (α:=IntKind→Int→Int) (fun k x=>k.wrap x))
theorem Fa:IH=(fun k x=>k.wrap x):=Classical.choose_spec (bA (α:=IntKind→Int→Int) (fun k x=>k.wrap x))
theorem E0 (k x):IH k x=k.wrap x:=by rw[Fa]
def Ep:IntKind→Int→Int:=Classical.choose (bA (α:=IntKind→Int→Int) (fun k x=>k.wrap (0-x)))
theorem BX:Ep=(fun k x=>k.wrap (0-x)):=Classical.choose_spec (bA (α:=IntKind→Int→Int) (fun k x=>k.wrap (0-x)))
theorem BW (k x):Ep k x=k.wrap (0-x):=by rw[BX]
def qM:Int→Int→Bool:=Classical.choose (bA (α:=Int→Int→Bool) (fun x y=>(x == y)))
theorem D2:qM=(fun x y=>(x == y)):=Classical.choose_spec (bA (α:=Int→Int→Bool) (fun x y=>(x == y)))
theorem ef (x y):qM x y=(x == y):=by rw[D2]
def yP:Int→Int→Bool:=Classical.choose (bA (α:=Int→Int→Bool) (fun x y=>decide (x<y)))
theorem El:yP=(fun x y=>decide (x<y)):=Classical.choose_spec (bA (α:=Int→Int→Bool) (fun x y=>decide (x<y)))
theorem o6 (x y):yP x y=decide (x<y):=by rw[El]
def qp:Int→Int→Bool:=Classical.choose (bA (α:=Int→Int→Bool) (fun x y=>decide (x≤y)))
theorem Eh:qp=(fun x y=>decide (x≤y)):=Classical.choose_spec (bA (α:=Int→Int→Bool) (fun x y=>decide (x≤y)))
theorem gn (x y):qp x y=decide (x≤y):=by rw[Eh]
def nB:Bool→Bool:=Classical.choose (bA (α:=Bool→Bool) (fun b=>(!b)))
theorem B0:nB=(fun b=>(!b)):=Classical.choose_spec (bA (α:=Bool→Bool) (fun b=>(!b)))
theorem eC (b):nB b=(!b):=by rw[B0]
def qa:Bool→Bool→Bool:=Classical.choose (bA (α:=Bool→Bool→Bool) (fun a b=>(a && b)))
theorem A8:qa=(fun a b=>(a && b)):=Classical.choose_spec (bA (α:=Bool→Bool→Bool) (fun a b=>(a && b)))
theorem kQ (a b):qa a b=(a && b):=by rw[A8]
def GH:Bool→Bool→Bool:=Classical.choose (bA (α:=Bool→Bool→Bool) (fun a b=>(a == b)))
theorem D1:GH=(fun a b=>(a == b)):=Classical.choose_spec (bA (α:=Bool→Bool→Bool) (fun a b=>(a == b)))
theorem D0 (a b):GH a b=(a == b):=by rw[D1]
def z7:Int→Int→Int:=Classical.choose (bA (α:=Int→Int→Int) (fun x y=>if y<x then y else x))
theorem BP:z7=(fun x y=>if y<x then y else x):=Classical.choose_spec (bA (α:=Int→Int→Int) (fun x y=>if y<x then y else x))
theorem xf (x y):z7 x y=if y<x then y else x:=by rw[BP]
def zZ:Int→Int→Int:=Classical.choose (bA (α:=Int→Int→Int) (fun x y=>if y > x then y else x))
theorem BM:zZ=(fun x y=>if y > x then y else x):=Classical.choose_spec (bA (α:=Int→Int→Int) (fun x y=>if y > x then y else x))
theorem xc (x y):zZ x y=if y > x then y else x:=by rw[BM]
def yO:Int→Nat→Bool:=Classical.choose (bA (α:=Int→Nat→Bool) (fun (i:Int) (n:Nat)=>decide (0≤i∧i<(n:Int))))
theorem Ec:yO=(fun (i:Int) (n:Nat)=>decide (0≤i∧i<(n:Int))):=Classical.choose_spec (bA (α:=Int→Nat→Bool) (fun (i:Int) (n:Nat)=>decide (0≤i∧i<(n:Int))))
theorem mr (i n):yO i n=decide (0≤i∧i<(n:Int)):=by rw[Ec]
def qd:Int→Nat→Bool:=Classical.choose (bA (α:=Int→Nat→Bool) (fun (i:Int) (n:Nat)=>decide (0≤i∧i≤(n:Int))))
theorem Be:qd=(fun (i:Int) (n:Nat)=>decide (0≤i∧i≤(n:Int))):=Classical.choose_spec (bA (α:=Int→Nat→Bool) (fun (i:Int) (n:Nat)=>decide (0≤i∧i≤(n:Int))))
theorem wC (i n):qd i n=decide (0≤i∧i≤(n:Int)):=by rw[Be]
def Fj:Int→Int→Nat→Bool:=Classical.choose (bA (α:=Int→Int→Nat→Bool) (fun l c b=>decide (0≤l∧l≤c∧c.toNat*b≤room∧c.toNat≤room)))
theorem En:Fj=(fun l c b=>decide (0≤l∧l≤c∧c.toNat*b≤room∧c.toNat≤room)):=Classical.choose_spec (bA (α:=Int→Int→Nat→Bool) (fun l c b=>decide (0≤l∧l≤c∧c.toNat*b≤room∧c.toNat≤room)))
theorem vS (l c b):Fj l c b=decide (0≤l∧l≤c∧c.toNat*b≤room∧c.toNat≤room):=by rw[En]
def vi:Int→Nat:=Classical.choose (bA (α:=Int→Nat) (fun i=>i.toNat))
theorem EX:vi=(fun i=>i.toNat):=Classical.choose_spec (bA (α:=Int→Nat) (fun i=>i.toNat))
theorem pQ (i):vi i=i.toNat:=by rw[EX]
def oS:Nat→Int→Nat→Nat:=Classical.choose (bA (α:=Nat→Int→Nat→Nat) (fun o i s=>o+i.toNat*s))
theorem Ea:oS=(fun o i s=>o+i.toNat*s):=Classical.choose_spec (bA (α:=Nat→Int→Nat→Nat) (fun o i s=>o+i.toNat*s))
theorem mq (o i s):oS o i s=o+i.toNat*s:=by rw[Ea]
def dM:Nat→Nat→Nat:=Classical.choose (bA (α:=Nat→Nat→Nat) (fun a b=>a+b))
theorem A4:dM=(fun a b=>a+b):=Classical.choose_spec (bA (α:=Nat→Nat→Nat) (fun a b=>a+b))
theorem bc (a b):dM a b=a+b:=by rw[A4]
def mQ:Nat→Nat→Nat:=Classical.choose (bA (α:=Nat→Nat→Nat) (fun a b=>a-b))
theorem Cy:mQ=(fun a b=>a-b):=Classical.choose_spec (bA (α:=Nat→Nat→Nat) (fun a b=>a-b))
theorem jR (a b):mQ a b=a-b:=by rw[Cy]
def kB:Nat→Nat→Nat:=Classical.choose (bA (α:=Nat→Nat→Nat) (fun a b=>a*b))
theorem BS:kB=(fun a b=>a*b):=Classical.choose_spec (bA (α:=Nat→Nat→Nat) (fun a b=>a*b))
theorem nN (a b):kB a b=a*b:=by rw[BS]
def BN:Nat→Nat→Nat:=Classical.choose (bA (α:=Nat→Nat→Nat) (fun a b=>min a b))
theorem BO:BN=(fun a b=>min a b):=Classical.choose_spec (bA (α:=Nat→Nat→Nat) (fun a b=>min a b))
theorem xe (a b):BN a b=min a b:=by rw[BO]
def sq:Nat→Nat→Bool:=Classical.choose (bA (α:=Nat→Nat→Bool) (fun a b=>decide (a<b)))
theorem Em:sq=(fun a b=>decide (a<b)):=Classical.choose_spec (bA (α:=Nat→Nat→Bool) (fun a b=>decide (a<b)))
theorem eU (a b):sq a b=decide (a<b):=by rw[Em]
def tg:Nat→Nat→Bool:=Classical.choose (bA (α:=Nat→Nat→Bool) (fun a b=>decide (a≤b)))
theorem Ei:tg=(fun a b=>decide (a≤b)):=Classical.choose_spec (bA (α:=Nat→Nat→Bool) (fun a b=>decide (a≤b)))
theorem iq (a b):tg a b=decide (a≤b):=by rw[Ei]
def qf:Nat→Nat→Bool:=Classical.choose (bA (α:=Nat→Nat→Bool) (fun a b=>decide (a=b)))
theorem D3:qf=(fun a b=>decide (a=b)):=Classical.choose_spec (bA (α:=Nat→Nat→Bool) (fun a b=>decide (a=b)))
theorem dP (a b):qf a b=decide (a=b):=by rw[D3]
def vm:Nat→Nat→Nat→Nat→Bool:=Classical.choose (bA (α:=Nat→Nat→Nat→Nat→Bool) (fun o m p n=>decide (p≤o∧o+m≤p+n)))
theorem Ed:vm=(fun o m p n=>decide (p≤o∧o+m≤p+n)):=Classical.choose_spec (bA (α:=Nat→Nat→Nat→Nat→Bool) (fun o m p n=>decide (p≤o∧o+m≤p+n)))
theorem gl (o m p n):vm o m p n=decide (p≤o∧o+m≤p+n):=by rw[Ed]
def DG:(Nat→AV)→IntKind→Nat→Bool→Prop:=Classical.choose (bA (α:=(Nat→AV)→IntKind→Nat→Bool→Prop) (fun f k sz full=>∀ j,∃ z n m,f j=AV.slcT none (Row.M [bL.arr k z n]) sz m full))
theorem A7:DG=(fun f k sz full=>∀ j,∃ z n m,f j=AV.slcT none (Row.M [bL.arr k z n]) sz m full):=Classical.choose_spec (bA (α:=(Nat→AV)→IntKind→Nat→Bool→Prop) (fun f k sz full=>∀ j,∃ z n m,f j=AV.slcT none (Row.M [bL.arr k z n]) sz m full))
theorem A6 (f k sz full):DG f k sz full=∀ j,∃ z n m,f j=AV.slcT none (Row.M [bL.arr k z n]) sz m full:=by rw[A7]
def EN:Bool→(Nat→Int)→(Nat→Int)→Nat→Int:=Classical.choose (bA (α:=Bool→(Nat→Int)→(Nat→Int)→Nat→Int) (fun b x y=>cond b x y))
theorem Co:EN=(fun b x y=>cond b x y):=Classical.choose_spec (bA (α:=Bool→(Nat→Int)→(Nat→Int)→Nat→Int) (fun b x y=>cond b x y))
theorem Cn (b x y):EN b x y=cond b x y:=by rw[Co]
def Ck:Bool→Nat→Nat→Nat:=Classical.choose (bA (α:=Bool→Nat→Nat→Nat) (fun b x y=>cond b x y))
theorem Cm:Ck=(fun b x y=>cond b x y):=Classical.choose_spec (bA (α:=Bool→Nat→Nat→Nat) (fun b x y=>cond b x y))
theorem Cl (b x y):Ck b x y=cond b x y:=by rw[Cm]
def pC:Nat→Nat→Nat→Bool:=Classical.choose (bA (α:=Nat→Nat→Nat→Bool) (fun m n b=>decide ((m+n)*b≤room∧m+n≤room)))
theorem Ax:pC=(fun m n b=>decide ((m+n)*b≤room∧m+n≤room)):=Classical.choose_spec (bA (α:=Nat→Nat→Nat→Bool) (fun m n b=>decide ((m+n)*b≤room∧m+n≤room)))
theorem ua (m n b):pC m n b=decide ((m+n)*b≤room∧m+n≤room):=by rw[Ax]
def CF:(Nat→Int)→Nat→Int→Nat→Int:=Classical.choose (bA (α:=(Nat→Int)→Nat→Int→Nat→Int) (fun z i x=>fun j=>if j=i then x else z j))
theorem sk:CF=(fun z i x=>fun j=>if j=i then x else z j):=Classical.choose_spec (bA (α:=(Nat→Int)→Nat→Int→Nat→Int) (fun z i x=>fun j=>if j=i then x else z j))
def AI:(Nat→Int)→Nat→Nat→Int:=Classical.choose (bA (α:=(Nat→Int)→Nat→Nat→Int) (fun z o=>fun j=>z (o+j)))
theorem jC:AI=(fun z o=>fun j=>z (o+j)):=Classical.choose_spec (bA (α:=(Nat→Int)→Nat→Nat→Int) (fun z o=>fun j=>z (o+j)))
def DU:(Nat→Int)→Nat→(Nat→Int)→Nat→Nat→Int:=Classical.choose (bA (α:=(Nat→Int)→Nat→(Nat→Int)→Nat→Nat→Int) (fun z o z' n=>x3 z o z' n))
theorem Bj:DU=(fun z o z' n=>x3 z o z' n):=Classical.choose_spec (bA (α:=(Nat→Int)→Nat→(Nat→Int)→Nat→Nat→Int) (fun z o z' n=>x3 z o z' n))
theorem Bi (z o z' n):DU z o z' n=x3 z o z' n:=by rw[Bj]
def yW:(Nat→Int)→Nat→(Nat→Int)→Nat→Int:=Classical.choose (bA (α:=(Nat→Int)→Nat→(Nat→Int)→Nat→Int) (fun z n z'=>fun i=>if i<n then z i else z' (i-n)))
theorem rC:yW=(fun z n z'=>fun i=>if i<n then z i else z' (i-n)):=Classical.choose_spec (bA (α:=(Nat→Int)→Nat→(Nat→Int)→Nat→Int) (fun z n z'=>fun i=>if i<n then z i else z' (i-n)))
def Ej:List Int→Nat:=Classical.choose (bA (α:=List Int→Nat) (fun l=>l.length))
theorem BH:Ej=(fun l=>l.length):=Classical.choose_spec (bA (α:=List Int→Nat) (fun l=>l.length))
theorem BG (l):Ej l=l.length:=by rw[BH]
def bx:List Int→Nat→Int:=Classical.choose (bA (α:=List Int→Nat→Int) (fun l=>fun j=>l.getD j 0))
theorem jK:bx=(fun l=>fun j=>l.getD j 0):=Classical.choose_spec (bA (α:=List Int→Nat→Int) (fun l=>fun j=>l.getD j 0))
theorem iu (l):bx l=fun j=>l.getD j 0:=by rw[jK]
def vn:(Nat→Int)→(Nat→Int)→Nat→Bool:=Classical.choose (bA (α:=(Nat→Int)→(Nat→Int)→Nat→Bool) (fun z z' n=>allEq z z' n))
theorem xS:vn=(fun z z' n=>allEq z z' n):=Classical.choose_spec (bA (α:=(Nat→Int)→(Nat→Int)→Nat→Bool) (fun z z' n=>allEq z z' n))
theorem xR (z z' n):vn z z' n=allEq z z' n:=by rw[xS]
def jA:(List Int→Bool)→List Int→Bool→List Int→Bool:=Classical.choose (bA (α:=(List Int→Bool)→List Int→Bool→List Int→Bool) (fun h n b=>dA h n b))
theorem AG:jA=(fun h n b=>dA h n b):=Classical.choose_spec (bA (α:=(List Int→Bool)→List Int→Bool→List Int→Bool) (fun h n b=>dA h n b))
theorem eN (h n b):jA h n b=dA h n b:=by rw[AG]
def jB:(List Int→Int)→List Int→Int→List Int→Int:=Classical.choose (bA (α:=(List Int→Int)→List Int→Int→List Int→Int) (fun g n x=>fi g n x))
theorem AH:jB=(fun g n x=>fi g n x):=Classical.choose_spec (bA (α:=(List Int→Int)→List Int→Int→List Int→Int) (fun g n x=>fi g n x))
theorem eO (g n x):jB g n x=fi g n x:=by rw[AH]
def mV:Bool→Nat→Nat:=Classical.choose (bA (α:=Bool→Nat→Nat) (fun b c=>qe b c))
theorem zj:mV=(fun b c=>qe b c):=Classical.choose_spec (bA (α:=Bool→Nat→Nat) (fun b c=>qe b c))
theorem iX (b c):mV b c=qe b c:=by rw[zj]
def sB:Bool→Nat→Nat:=Classical.choose (bA (α:=Bool→Nat→Nat) (fun b c=>sA b c))
theorem zk:sB=(fun b c=>sA b c):=Classical.choose_spec (bA (α:=Bool→Nat→Nat) (fun b c=>sA b c))
theorem oz (b c):sB b c=sA b c:=by rw[zk]

end
end Go.Eng
end
