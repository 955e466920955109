/- The engine: a law's arguments as abstract values. -/
import Derived.Test.YtjmjkhpfipglcaaV8EngTgx4
section
namespace Go.Eng
open Go.ChangeShapes
set_option linter.unusedVariables false
set_option linter.unusedSimpArgs false

def Pw (w:World):Pst:=fun b o=>w.cell? ⟨b,o,none⟩
theorem HRel.all (w:World):HRel (Pw w) Mu.no [⟨true,[]⟩] w where
 pers:=fun b o v h=>h
 live:=fun d i v B hg hB=>by
  cases d<;>simp[hGet,nthBlk] at hg<;>exact absurd hg.2.symm hB
 apart:=fun d i v B d' i' v' B' b o t o' t' hg hB hg' hB' hm hm'=>by cases hm
 dom:=fun d i v t hm=>by cases hm

theorem calls_law {P:Program} {call:CallT} (hC:CallOk P call) {f:FuncId} {args:List AV} {x:Bool} {H':Heap} (h:call (.fn f) args [⟨true,[]⟩]=some (.bool x,H')) {cargs:Array Value} {w:World} (hA:CRel (Pw w) Mu.no args cargs) :
 Calls P f cargs w (fun e w'=>e=.returned (.bool x)∧Go.RowKit.Below w.heap.size w w'):=by
 have:=(hC (.fn f) args _ (.bool x) H' h (by simp) _ _ w cargs (HRel.all w) hA).2
 refine (callsIn_wide.1 this).mono ?_
 rintro e w' ⟨cv,rfl,_,p',M',hE,hv⟩
 cases hv
 exact ⟨rfl,(hE.stay.weaken (fun b _ _ d i v B _ _ _ o t hm=>by cases hm)).below⟩

def FlatK (k:IntKind) (P:Program) (t:TypeId) (n:Nat):Prop:=∀ (H:Type) (enc:TypeId×Value→H) (w:World) (base:Nat) (sp:Nat→Bool) (held:Bool) (fuel:Nat) (cs:List Value) (x:DataW H×List MemPlace),
 DataW.trod enc P w base sp held fuel t cs=some x→cs.length=n∧∀ j,j<n→∃ z:Int,cs[j]?=some (.int k z)∧(Lit.int k z).wf=true
abbrev FlatI (P:Program) (t:TypeId) (n:Nat):Prop:=FlatK .i64 P t n
theorem flat_int {P:Program} {t:TypeId} {k:IntKind} (ht:P.underlying t=some (.int k)):FlatK k P t 1:=by
 intro H enc w base sp held fuel cs x h
 obtain ⟨n,rfl,_,hw⟩:=DataW.trod_int ht h
 refine ⟨rfl,fun j hj=>?_⟩
 obtain rfl:j=0:=by omega
 exact ⟨n,rfl,hw⟩
theorem flat_struct2 {P:Program} {k:IntKind} {t:TypeId} {f0 f1:Field} {n0 n1:Nat} (ht:P.underlying t=some (.struct #[f0,f1])) (h0:FlatK k P f0.type n0) (h1:FlatK k P f1.type n1) (o0:f0.offset=0) (o1:f1.offset=n0) (c0:P.cellsOf f0.type=n0) (c1:P.cellsOf f1.type=n1) (c:P.cellsOf t=n0+n1):FlatK k P t (n0+n1):=by
 intro H enc w base sp held fuel cs x h
 obtain ⟨y0,y1,n,_,hl,g0,g1⟩:=trod_struct2 ht h
 obtain ⟨k0,k1⟩:=h0 _ _ _ _ _ _ _ _ _ g0
 obtain ⟨m0,m1⟩:=h1 _ _ _ _ _ _ _ _ _ g1
 refine ⟨by rw[hl,c],fun j hj=>?_⟩
 by_cases hlt:j<n0
 · obtain ⟨z,hz,hw⟩:=k1 j hlt
   refine ⟨z,?_,hw⟩
   rw[o0,c0] at hz
   simpa[List.getElem?_take,hlt] using hz
 · obtain ⟨z,hz,hw⟩:=m1 (j-n0) (by omega)
   refine ⟨z,?_,hw⟩
   rw[o1,c1] at hz
   have hlt2:j-n0<n1:=by omega
   simpa[List.getElem?_take,hlt2,List.getElem?_drop,show n0+(j-n0)=j by omega] using hz

theorem cells_mapM {w:World} {a:Addr}:∀ (l:List Nat) (cs:List Value),(l.mapM fun i=>w.cell? (a.add i))=some cs→∀ (j i:Nat),l[j]?=some i→∃ v,cs[j]?=some v∧w.cell? (a.add i)=some v
 | [],cs,h,j,i,hi=>by simp at hi
 | x::l,cs,h,j,i,hi=>by
   simp only[List.mapM_cons,Option.bind_eq_bind,Option.bind_eq_some_iff,Option.pure_def,Option.some.injEq] at h
   obtain ⟨v,hv,r,hr,rfl⟩:=h
   cases j with
   | zero=>simp at hi;subst hi;exact ⟨v,rfl,hv⟩
   | succ j=>exact cells_mapM l r hr j i (by simpa using hi)

theorem slice_flat {P:Program} {k:IntKind} {t e:TypeId} {n:Nat} (ht:P.underlying t=some (.slice e)) (he:FlatK k P e n) (hn:0<n) (hc:P.cellsOf e=n) {H:Type} {enc:TypeId×Value→H} {w:World} {base:Nat} {sp:Nat→Bool} {held:Bool} {fuel:Nat} {v:Value} {x:DataW H×List MemPlace}
 (hspot:∀ a l c,v=.slice (some a) l c→a.spot=none) (h:DataW.trod enc P w base sp held fuel t [v]=some x) :
 (v=.slice none 0 0)∨∃ (zs:Nat→Int) (len:Nat),VRel (Pw w) Mu.no (.slcT none (.F (fun j=>.int k (zs j)) (len*n)) n len false) v∧∀ j,j<len*n→(Lit.int k (zs j)).wf=true:=by
 rcases DataW.trod_slice ht h with ⟨h0,_⟩ | ⟨a,len,cap,elems,rest,m,_,hcs,_,_,hl,_,hlen,hel,_,_⟩
 · left;simpa using h0
 · right
   simp only[List.cons.injEq,and_true] at hcs
   have hsp:=hspot a len cap hcs
   have cell:∀ j,j<len*n→∃ z:Int,w.cell? ⟨a.block,a.off+j,none⟩=some (.int k z)∧(Lit.int k z).wf=true:=by
    intro j hj
    have hi:j / n<len:=by rw[Nat.div_lt_iff_lt_mul hn];exact hj
    have:=hel (j / n) hi
    have hex:elems[j / n]?≠none:=by simp;omega
    rw[← this] at hex
    cases hcl:w.cells? base (a.add (j / n*P.cellsOf e)) (P.cellsOf e) with
    | none=>rw[hcl] at hex;simp at hex
    | some cs =>
      rw[hcl] at hex
      cases hy:DataW.trod enc P w base sp held m e cs with
      | none=>simp[hy] at hex
      | some y =>
        obtain ⟨k0,k1⟩:=he _ _ _ _ _ _ _ _ _ hy
        obtain ⟨z,hz,hw⟩:=k1 (j % n) (Nat.mod_lt _ hn)
        unfold World.cells? at hcl
        split at hcl
        · obtain ⟨u,hu,hcu⟩:=cells_mapM _ _ hcl (j % n) (j % n) (by rw[hc];simp[Nat.mod_lt _ hn])
          rw[hz] at hu
          have hu:=Option.some.inj hu
          subst hu
          refine ⟨z,?_,hw⟩
          rw[hc] at hcu
          have e1:(a.add (j / n*n)).add (j % n)=⟨a.block,a.off+j,none⟩:=by
           have hd:=Nat.div_add_mod j n
           have hd2:j / n*n+j % n=j:=by rw[Nat.mul_comm];exact hd
           cases a
           simp only at hsp
           subst hsp
           have ad:∀ (b o i:Nat),Addr.add ⟨b,o,none⟩ i=⟨b,o+i,none⟩:=fun b o i=>by
            unfold Addr.add
            split
            · rename_i h0;subst h0;rfl
            · rfl
           rw[ad,ad,Nat.add_assoc,hd2]
          rw[← e1];exact hcu
        · simp at hcl
   obtain ⟨zs,hzs⟩:∃ zs:Nat→Int,∀ j,j<len*n→w.cell? ⟨a.block,a.off+j,none⟩=some (.int k (zs j))∧(Lit.int k (zs j)).wf=true :=
    ⟨fun j=>if h:j<len*n then Classical.choose (cell j h) else 0,fun j hj=>by
      have:=Classical.choose_spec (cell j hj)
      simp only[dif_pos hj]
      exact this⟩
   refine ⟨zs,len,?_,fun j hj=>(hzs j hj).2⟩
   rw[hcs]
   obtain ⟨b,o,sp'⟩:=a
   simp only at hsp
   subst hsp
   exact .slcT (o:=o) (fun j=>.int k (zs j)) (fun j hj=>(hzs j hj).1) (fun j hj=>rfl) (fun j hj=>.int _ _) hl (fun h=>by cases h) (.inr rfl)

end Go.Eng
end
section
namespace Go.Eng
set_option linter.unusedVariables false
set_option linter.unusedSimpArgs false
noncomputable section

def rdE (base:CallTr) (d0 i0:Nat) (args0:List AV) (H0:Heap) (u:Tr (AV×Heap)):CallTr:=fun tgt args H=>match tgt with
 | .round d i=>cond (Nat.beq d d0 && Nat.beq i i0) (.reqP (avs args=args0∧H=H0) (u.bind fun y=>.ok ((y.1,none),y.2))) .bad
 | .fn g=>base (.fn g) args H
 | .mode=>base .mode args H
theorem rdE_ok {base:CallTr} {call:CallT} (h:base.Ok call) {d0 i0:Nat} {args0:List AV} {H0:Heap} {u:Tr (AV×Heap)} (k:∀ x,u.run=some x→call (.round d0 i0) args0 H0=some x):(rdE base d0 i0 args0 H0 u).Ok call:=by
 refine ⟨h.1,fun tgt args H x hx=>?_⟩
 cases tgt with
 | fn g=>exact h.2 _ _ _ _ hx
 | mode=>exact h.2 _ _ _ _ hx
 | round d i =>
   unfold rdE at hx
   obtain ⟨hc,hx2⟩:=Tr.cond_bad hx
   clear hx
   rw[Bool.and_eq_true] at hc
   have e1:=Nat.eq_of_beq_eq_true hc.1
   have e2:=Nat.eq_of_beq_eq_true hc.2
   subst e1;subst e2
   obtain ⟨⟨e3,e4⟩,hx3⟩:=Tr.reqP_some hx2
   obtain ⟨y,h1,h2⟩:=Tr.bind_some hx3
   rw[e3,e4,k _ h1,← Tr.ok_some h2]

theorem round_of {P:Program} {ora:CallT→FuncId→List AV→Heap→Option (AV×Heap)} {KT:FuncId→Nat→Nat} {fu n d i:Nat} {args:List AV} {H H1 H2:Heap} {l l1 l2:ALoop} {fr fr1 fr2:Frm} {e:Ex} {lv:Lvl}
 (hg:hGet H d i=(0,.loop l)) (hl:hLock H d=false) (hs:l.state=.ready) (hp:putPs l.nt (upFrm (d+1) l.fr) l.params (args.map (upV 1))=some fr)
 (h1:exec ⟨P,callN P ora KT fu n,fu,l.fn,l.nt,KT l.fn,some (d+1,i)⟩ l.assign fr (⟨false,[]⟩::H)=some (.normal,fr1,H1)) (hg1:hGet H1 (d+1) i=(0,.loop l1)) (hs1:l1.state=.ready)
 (h2:exec ⟨P,callN P ora KT fu n,fu,l.fn,l.nt,KT l.fn,some (d+1,i)⟩ l.body fr1 (hSet H1 (d+1) i (0,.loop { l1 with state:=.busy }))=some (e,fr2,lv::H2)) (hg2:hGet H2 d i=(0,.loop l2)) :
 callN P ora KT fu (n+1) (.round d i) args H=some (.bool (jumpOf e).isNone,hSet H2 d i (0,.loop { l2 with state:=if (jumpOf e).isNone then .ready else .done,pending:=jumpOf e })):=by
 simp only[callN,hg,hl,Bool.false_eq_true,if_false,hs,hp,h1,hg1,hs1,h2,hg2]
theorem range_of {cx:Cx} {f:Operand} {ps:Array Tmp} {as bd:Code} {fr:Frm} {H H1:Heap} {g:FuncId} {a b:List AV} {v:AV} {l:ALoop} {e:Ex} (hf:opd fr f=.fn (.func g) a b) (hh:cx.here H=true) (hl:hLock H 0=false)
 (hc:cx.call (.fn g) (a++(.yld 0 (hNext H)::b)) (rangeStart fr H cx ps as bd)=some (v,H1)) (hg:hGet H1 0 (hNext H)=(0,.loop l)) (hb:(l.state == .busy)=false) (he:endEx l.pending=some e) :
 exec cx (.rangeFunc f ps as bd) fr H=some (e,fr,hKill H1 0 (hNext H)):=by
 unfold exec
 rw[hf]
 dsimp only
 rw[hh,hl]
 simp only[Bool.not_true,Bool.false_or,Bool.false_eq_true,if_false,hc,hg,hb,he]

end
end Go.Eng
end
section
namespace Go.Eng
set_option linter.unusedVariables false
set_option linter.unusedSimpArgs false
noncomputable section

def Tr.all {α:Type} (T:Tr α) (Q:α→Prop):Prop:=∃ x,T.run=some x∧Q x
theorem Tr.all_ok {α:Type} {a:α} {Q:α→Prop} (h:Q a):(Tr.ok a).all Q:=⟨a,rfl,h⟩
theorem Tr.all_ite {α:Type} {c:Bool} {a b:Tr α} {Q:α→Prop} (h1:c=true→a.all Q) (h2:c=false→b.all Q):(Tr.ite c a b).all Q:=by
 cases c with
 | true=>exact h1 rfl
 | false=>exact h2 rfl
theorem Tr.all_req {α:Type} {c:Bool} {a:Tr α} {Q:α→Prop} (h:c=true) (k:a.all Q):(Tr.req c a).all Q:=by
 subst h;exact k
theorem Tr.all_reqP {α:Type} {p:Prop} {a:Tr α} {Q:α→Prop} (h:p) (k:a.all Q):(Tr.reqP p a).all Q:=by
 obtain ⟨x,h1,h2⟩:=k
 exact ⟨x,(Tr.run_reqP h).trans h1,h2⟩
theorem notB_t (b:Bool):(notB b=true)=(b=false):=by rw[notB_eq];cases b<;>simp
theorem notB_f (b:Bool):(notB b=false)=(b=true):=by rw[notB_eq];cases b<;>simp
theorem andB_t (a b:Bool):(andB a b=true)=(a=true∧b=true):=by rw[andB_eq];cases a<;>cases b<;>simp
theorem andB_f (a b:Bool):(andB a b=false)=¬ (a=true∧b=true):=by rw[andB_eq];cases a<;>cases b<;>simp
theorem ltI_t (x y:Int):(ltI x y=true)=(x<y):=by rw[ltI_eq];simp
theorem ltI_f (x y:Int):(ltI x y=false)=(y≤x):=by rw[ltI_eq];simp
theorem leI_t (x y:Int):(leI x y=true)=(x≤y):=by rw[leI_eq];simp
theorem leI_f (x y:Int):(leI x y=false)=(y<x):=by rw[leI_eq];simp
theorem eqI_t (x y:Int):(eqI x y=true)=(x=y):=by rw[eqI_eq];simp
theorem eqI_f (x y:Int):(eqI x y=false)=¬ (x=y):=by rw[eqI_eq];simp
theorem inI_t (x:Int) (n:Nat):(inI x n=true)=(0≤x∧x<(n:Int)):=by rw[inI_eq];simp
theorem bndI_t (x:Int) (n:Nat):(bndI x n=true)=(0≤x∧x≤(n:Int)):=by rw[bndI_eq];simp
theorem ltN_t (x y:Nat):(ltN x y=true)=(x<y):=by rw[ltN_eq];simp
theorem ltN_f (x y:Nat):(ltN x y=false)=(y≤x):=by rw[ltN_eq];simp
theorem leN_t (x y:Nat):(leN x y=true)=(x≤y):=by rw[leN_eq];simp
theorem leN_f (x y:Nat):(leN x y=false)=(y<x):=by rw[leN_eq];simp
theorem eqN_t (x y:Nat):(eqN x y=true)=(x=y):=by rw[eqN_eq];simp
theorem eqN_f (x y:Nat):(eqN x y=false)=¬ (x=y):=by rw[eqN_eq];simp
theorem inO_t (o m p n:Nat):(inO o m p n=true)=(p≤o∧o+m≤p+n):=by rw[inO_eq];simp
theorem minO_min (x y:Int):minO x y=min x y:=by rw[minO_eq];omega
theorem maxO_max (x y:Int):maxO x y=max x y:=by rw[maxO_eq];omega
theorem roomO_t (m n b:Nat):(roomO m n b=true)=((m+n)*b≤70368744177664∧m+n≤70368744177664):=by rw[roomO_eq];exact decide_eq_true_eq
theorem mkO_t (l c:Int) (b:Nat):(mkO l c b=true)=(0≤l∧l≤c∧c.toNat*b≤70368744177664∧c.toNat≤70368744177664):=by rw[mkO_eq];exact decide_eq_true_eq
theorem ofNat_cast (n:Nat):Int.ofNat n=(n:Int):=rfl
theorem negSucc_one:Int.negSucc 1=-2:=rfl
theorem negSucc_zero:Int.negSucc 0=-1:=rfl
theorem negSucc_two:Int.negSucc 2=-3:=rfl
theorem tn_succ {x:Int} (h:0≤x):(x+1).toNat=x.toNat+1:=by omega
theorem wr_64 {k:Int} (h1:-9223372036854775808≤k) (h2:k≤9223372036854775807):IntKind.i64.wrap k=k:=Go.IntWalk.i64_in _ (by omega)

theorem nV:(∀ x y:Int,(ltI x y=true)=(x<y)) ∧
 (∀ x y:Int,(ltI x y=false)=(y≤x)) ∧
 (∀ x y:Int,(leI x y=true)=(x≤y)) ∧
 (∀ x y:Int,(leI x y=false)=(y<x)) ∧
 (∀ x y:Int,(eqI x y=true)=(x=y)) ∧
 (∀ x y:Int,(eqI x y=false)=¬ (x=y)) ∧
 (∀ b:Bool,(notB b=true)=(b=false)) ∧
 (∀ b:Bool,(notB b=false)=(b=true)) ∧
 (∀ a b:Bool,(andB a b=true)=(a=true∧b=true)) ∧
 (∀ a b:Bool,(andB a b=false)=¬ (a=true∧b=true)) ∧
 (∀ (x:Int) (n:Nat),(inI x n=true)=(0≤x∧x<(n:Int))) ∧
 (∀ (x:Int) (n:Nat),(bndI x n=true)=(0≤x∧x≤(n:Int))) ∧
 (∀ x y:Nat,(ltN x y=true)=(x<y)) ∧
 (∀ x y:Nat,(ltN x y=false)=(y≤x)) ∧
 (∀ x y:Nat,(leN x y=true)=(x≤y)) ∧
 (∀ x y:Nat,(leN x y=false)=(y<x)) ∧
 (∀ x y:Nat,(eqN x y=true)=(x=y)) ∧
 (∀ x y:Nat,(eqN x y=false)=¬ (x=y)) ∧
 (∀ o m p n:Nat,(inO o m p n=true)=(p≤o∧o+m≤p+n)) ∧
 (∀ m n b:Nat,(roomO m n b=true)=((m+n)*b≤70368744177664∧m+n≤70368744177664)) ∧
 (∀ (l c:Int) (b:Nat),(mkO l c b=true)=(0≤l∧l≤c∧c.toNat*b≤70368744177664∧c.toNat≤70368744177664)) ∧
 (∀ x y:Int,minO x y=min x y) ∧
 (∀ x y:Int,maxO x y=max x y) ∧
 (∀ (o:Nat) (i:Int) (s:Nat),idO o i s=o+i.toNat*s) ∧
 (∀ a b:Nat,addO a b=a+b) ∧
 (∀ a b:Nat,subO a b=a-b) ∧
 (∀ i:Int,toN i=i.toNat) ∧
 (∀ (k:IntKind) (x y:Int),addI k x y=k.wrap (x+y)) ∧
 (∀ (k:IntKind) (x y:Int),subI k x y=k.wrap (x-y)) ∧
 (∀ (k:IntKind) (x y:Int),mulI k x y=k.wrap (x*y)) ∧
 (∀ n:Nat,Int.ofNat n=(n:Int)) ∧
 (Int.negSucc 0=-1) ∧
 (Int.negSucc 1=-2) ∧
 (Int.negSucc 2=-3) ∧
 (∀ {k:Int},-9223372036854775808≤k→k≤9223372036854775807→IntKind.i64.wrap k=k) ∧
 (∀ {x:Int},0≤x→(x+1).toNat=x.toNat+1) ∧
 ((0:Int).toNat=0) ∧
 (∀ n:Nat,0*n=0) ∧
 (∀ n:Nat,1*n=n) ∧
 (∀ n:Nat,(n:Int).toNat=n) ∧
 (((0:Nat):Int)=0) ∧
 (((1:Nat):Int)=1) ∧
 (∀ n:Nat,0+n=n) ∧
 ((¬ True)=False) ∧
 ((¬ False)=True) ∧
 ((true=false)=False) ∧
 ((false=true)=False) ∧
 ((!true)=false) ∧
 ((!false)=true) ∧
 (∀ p:Prop,(True∧p)=p) ∧
 (∀ p:Prop,(p∧True)=p) ∧
 (∀ p:Prop,(False∧p)=False) ∧
 (∀ p:Prop,(p∧False)=False) :=
 ⟨ltI_t,ltI_f,leI_t,leI_f,eqI_t,eqI_f,notB_t,notB_f,andB_t,andB_f,inI_t,bndI_t,ltN_t,ltN_f,leN_t,leN_f,eqN_t,eqN_f,inO_t,roomO_t,mkO_t,minO_min,maxO_max,idO_eq,addO_eq,subO_eq,toN_eq,addI_eq,subI_eq,mulI_eq,ofNat_cast,negSucc_zero,negSucc_one,negSucc_two,wr_64,tn_succ,Int.toNat_zero,Nat.zero_mul,Nat.one_mul,Int.toNat_natCast,Int.natCast_zero,Int.natCast_one,Nat.zero_add,not_true_eq_false,not_false_eq_true,Bool.true_eq_false,Bool.false_eq_true,Bool.not_true,Bool.not_false,true_and,and_true,false_and,and_false⟩
theorem nW:(∀ a b:Nat,mulO a b=a*b)∧(∀ {α:Type} (a:α),(a=a)=True)∧(∀ {n:Nat},((no_index (OfNat.ofNat n):Nat):Int)=OfNat.ofNat n):=⟨mulO_eq,fun a=>eq_self a,Int.cast_ofNat_Int⟩
end
end Go.Eng
end
