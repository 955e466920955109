/- The engine: functions whose second result is a slice of a row of their own, which their caller may write; a function run with other ways of calls. -/
import Derived.Test.YtigmfpmabgekoaaGreatV7EngRn4x4
import Derived.Test.YtigmfpmabgekoaaGreatV7EngTgx4
import Derived.Test.YtigmfpmabgekoaaGreatV7EngOx6
import Derived.Sort.Row
import Derived.Sort.Grow
import Derived.Sort.OwnSortedInts
section
namespace Go.Eng
set_option linter.unusedVariables false
set_option linter.unusedSimpArgs false

theorem func_own2 {P:Program} {f:FuncId} {fn:Func} {c:Code} (hf:P.funcs[f]?=some fn) (hb:fn.body=some c) {args:List AV} (hle:args.length≤fn.ntmps) {H:Heap} {e:Ex} {fr:Frm} {l:Lvl} {H':Heap} (he:e=.normal∨e=.ret) {v0:AV}
 {j ver off sz len:Nat} {cap:Option Nat} {q:Row} (hv:resV P fr (l::H') fn.results.toList=some [v0,.slc 0 j ver off sz len cap]) (hq:hRow (l::H') 0 j ver=some q) (hl0:l.lock=false) (hl1:hLock H' 0=false) (hne:H'≠[])
 (hC:CodeOk P Fence.wide none fn.ntmps c (argFrm 0 args) (⟨false,[]⟩::H) e fr (l::H')) {p:Pst} {M:Mu} {w:World} {cargs:Array Value} (hH:HRel p M H w) (hA:CRel p M args cargs) :
 CallsIn Fence.wide 0 P f cargs w (Post p M H w (frzV (setBlk l.bs j ((hGet (l::H') 0 j).1,.dead)) 5 (.tup [v0,.slc 1 (hNextAt H' 0) 0 off sz len cap])) (hPushAt H' 0 (.row (dnR 1 q)))):=by
 refine callsIn_of_wp_marks hf hb trivial (hC w.heap.size p (muDown M) _ w _ (args_rel hA hle) hH.down (by simp) rfl (Marks.nil _ _ _) (fun a' w' ⟨p',M',k1,k2,k3⟩=>?_)) rfl
 have main:LeavesInM Fence.wide 0 P fn a'.tmps (Post p M H w (frzV (setBlk l.bs j ((hGet (l::H') 0 j).1,.dead)) 5 (.tup [v0,.slc 1 (hNextAt H' 0) 0 off sz len cap])) (hPushAt H' 0 (.row (dnR 1 q)))) a'.defers .returning w':=by
  obtain ⟨rs,h1,h2,_,h3⟩:=k3
  rw[h1]
  refine leaves_rel (p:=p) (M:=muDown M) (H:=⟨false,[]⟩::H) (w:=w) (p':=p') (M':=M') (H':=l::H') (fun w2 hE=>?_) rs w' h2 (fun r hr=>⟨(h3 r hr).1,(h3 r hr).2.2⟩) k1
  obtain ⟨cv,r1,r2⟩:=results_rel k2 hE.rel hv
  have r2':VRel p' M' (.tup [v0,.slc 0 j ver off sz len cap]) cv:=r2
  cases r2' with
  | tup hs hvv =>
    rename_i cs
    have e0:=hvv 0 (by simp)
    have e1:=hvv 1 (by simp)
    simp only[List.getD_cons_zero,List.getD_cons_succ] at e0 e1
    generalize hc1:cs.getD 1 undef=c1 at e1
    cases e1 with
    | slc hm h5 h6 h7 h8 =>
      rename_i b o t x cc
      have mv:=hE.rel.move (d:=1) hq hm hl0 hl1 (by
       cases H' with
       | nil=>exact absurd rfl hne
       | cons y r=>simp) (by omega)
      have hE2:=hE.trans mv
      have hk:hPushAt (hKill (l::H') 0 j) 1 (.row (dnR 1 q))=(⟨l.lock,(setBlk l.bs j ((hGet (l::H') 0 j).1,.dead))⟩:Lvl)::hPushAt H' 0 (.row (dnR 1 q)):=rfl
      rw[hk] at hE2
      refine ⟨_,r1,_,rfl,⟨fun d i hl=>hE2.same (d+1) i (by omega) hl,fun d hl=>hE2.next (d+1) (by omega) hl⟩,_,_,hE2.pop,?_⟩
      have:=frz_rel hE2.rel 5 (.tup [v0,.slc 1 (hNextAt H' 0) 0 off sz len cap]) (.tuple cs) (.tup (by simpa using hs) (fun j2 hj2=>by
       have h01:j2=0∨j2=1:=by simp at hj2;omega
       rcases h01 with rfl | rfl
       · simp only[List.getD_cons_zero]
         exact e0.mono (Pst.le.refl _) mv.mu
       · simp only[List.getD_cons_zero,List.getD_cons_succ]
         rw[hc1]
         refine .slc (b:=b) (o:=o) (t:=t) ?_ h5 h6 h7 h8
         show muSet M' 1 (hNextAt (l::H') 1) 0 (b,o,t) 1 (hNextAt H' 0) 0=some (b,o,t)
         unfold muSet
         exact if_pos ⟨rfl,rfl,rfl⟩))
      exact this
 rcases he with rfl | rfl
 · exact main
 · exact main

noncomputable def oCall2 (P:Program) (KT:FuncId→Nat→Nat) (fu:Nat) (f:FuncId) (call:CallT) (args:List AV) (H:Heap):Option (AV×Heap) :=
 match P.funcs[f]? with
 | none=>none
 | some fn => match fn.body with
   | none=>none
   | some c=>if Nat.ble args.length fn.ntmps then
     match execX ⟨P,call,fu,f,fn.ntmps,KT f,none⟩ c (argFrm 0 args) (⟨false,[]⟩::H) with
     | some (e,fr,l::l1::H')=>(match e with
       | .normal | .ret=>match resV P fr (l::l1::H') fn.results.toList with
         | some [v0,.slc 0 j ver off sz len cap]=>match hRow (l::l1::H') 0 j ver with
           | some q=>if l.lock || l1.lock then none else some (frzV (setBlk l.bs j ((hGet (l::l1::H') 0 j).1,.dead)) 5 (.tup [v0,.slc 1 l1.bs.length 0 off sz len cap]),hPushAt (l1::H') 0 (.row (dnR 1 q)))
           | none=>none
         | _=>none
       | _=>none)
     | _=>none
     else none
theorem oCall2_ok {P:Program} (hN:Named P) (hD:DrawOk P) {f:FuncId} (KT:FuncId→Nat→Nat) (fu:Nat) {call:CallT} (hC:CallOk P call) {args:List AV} {H:Heap} {v:AV} {H':Heap} (h:oCall2 P KT fu f call args H=some (v,H'))
 {p:Pst} {M:Mu} {w:World} {cargs:Array Value} (hH:HRel p M H w) (hA:CRel p M args cargs):(∃ fn,P.funcs[f]?=some fn∧fn.body.isNone=false)∧CallsIn Fence.wide 0 P f cargs w (Post p M H w v H'):=by
 unfold oCall2 at h
 split at h
 · simp at h
 rename_i fn hf
 split at h
 · simp at h
 rename_i c hb
 split at h
 case isFalse=>simp at h
 rename_i hle
 split at h
 case h_2=>simp at h
 rename_i e fr l l1 H1 he
 rw[execX_eq] at he
 have hcode:=exec_rel (cx:=⟨P,call,fu,f,fn.ntmps,KT f,none⟩) Wide.wide hN hC (more hN hD hC _ _ rfl rfl Wide.wide) _ _ _ _ _ _ he
 have fin:(e=.normal∨e=.ret)→(match resV P fr (l::l1::H1) fn.results.toList with
  | some [v0,.slc 0 j ver off sz len cap]=>match hRow (l::l1::H1) 0 j ver with
    | some q=>if l.lock || l1.lock then none else some (frzV (setBlk l.bs j ((hGet (l::l1::H1) 0 j).1,.dead)) 5 (AV.tup [v0,.slc 1 l1.bs.length 0 off sz len cap]),hPushAt (l1::H1) 0 (.row (dnR 1 q)))
    | none=>none
  | _=>none)=some (v,H')→(∃ fn,P.funcs[f]?=some fn∧fn.body.isNone=false)∧CallsIn Fence.wide 0 P f cargs w (Post p M H w v H'):=fun he h=>by
  split at h
  case h_2=>simp at h
  rename_i v0 j ver off sz len cap hv
  split at h
  case h_2=>simp at h
  rename_i q hq
  split at h
  case isTrue=>simp at h
  rename_i hlk
  simp only[Bool.or_eq_true,not_or,Bool.not_eq_true] at hlk
  simp only[nP] at h
  obtain ⟨rfl,rfl⟩:=h
  exact ⟨⟨fn,hf,by rw[hb];rfl⟩,func_own2 hf hb (by simpa using hle) he hv hq hlk.1 hlk.2 (by simp) hcode hH hA⟩
 split at h
 · exact fin (.inl rfl) h
 · exact fin (.inr rfl) h
 · simp at h

noncomputable def runC (P:Program) (KT:FuncId→Nat→Nat) (fu:Nat) (f:FuncId) (call:CallT) (args:List AV) (H:Heap):Option (AV×Heap) :=
 match P.funcs[f]? with
 | none=>none
 | some fn=>match fn.body with
   | none=>none
   | some c=>if Nat.ble args.length fn.ntmps then
     match exec ⟨P,call,fu,f,fn.ntmps,KT f,none⟩ c (argFrm 0 args) (⟨false,[]⟩::H) with
     | some (e,fr,l::H')=>(match e with
       | .normal | .ret=>match resV P fr (l::H') fn.results.toList with
         | some vs=>some (frzV l.bs 5 (one vs),H')
         | none=>none
       | _=>none)
     | _=>none
     else none
theorem runC_ok {P:Program} (hN:Named P) (hD:DrawOk P) {f:FuncId} (KT:FuncId→Nat→Nat) (fu:Nat) {call:CallT} (hC:CallOk P call) {args:List AV} {H:Heap} {v:AV} {H':Heap} (h:runC P KT fu f call args H=some (v,H'))
 {p:Pst} {M:Mu} {w:World} {cargs:Array Value} (hH:HRel p M H w) (hA:CRel p M args cargs):(∃ fn,P.funcs[f]?=some fn∧fn.body.isNone=false)∧CallsIn Fence.wide 0 P f cargs w (Post p M H w v H'):=by
 unfold runC at h
 split at h
 · simp at h
 rename_i fn hf
 split at h
 · simp at h
 rename_i c hb
 split at h
 case isFalse=>simp at h
 rename_i hle
 split at h
 case h_2=>simp at h
 rename_i e fr l H1 he
 have hcode:=exec_rel (cx:=⟨P,call,fu,f,fn.ntmps,KT f,none⟩) Wide.wide hN hC (more hN hD hC _ _ rfl rfl Wide.wide) _ _ _ _ _ _ he
 have fin:(e=.normal∨e=.ret)→(match resV P fr (l::H1) fn.results.toList with
  | some vs=>some (frzV l.bs 5 (one vs),H1)
  | none=>none)=some (v,H')→(∃ fn,P.funcs[f]?=some fn∧fn.body.isNone=false)∧CallsIn Fence.wide 0 P f cargs w (Post p M H w v H'):=fun he h=>by
  split at h
  case h_2=>simp at h
  rename_i vs hv
  simp only[nP] at h
  obtain ⟨rfl,rfl⟩:=h
  exact ⟨⟨fn,hf,by rw[hb];rfl⟩,func_rel hf hb (by simpa using hle) he hv hcode hH hA⟩
 split at h
 · exact fin (.inl rfl) h
 · exact fin (.inr rfl) h
 · simp at h
noncomputable def withO2 (P:Program) (KT:FuncId→Nat→Nat) (fu:Nat) (g:FuncId) (call:CallT):CallT:=fun tgt args H=>match tgt with
 | .fn f=>if Nat.beq f g then oCall2 P KT fu g call args H else call (.fn f) args H
 | tgt=>call tgt args H
theorem withO2_ok {P:Program} (hN:Named P) (hD:DrawOk P) (KT:FuncId→Nat→Nat) (fu:Nat) (g:FuncId) {call:CallT} (hC:CallOk P call):CallOk P (withO2 P KT fu g call):=by
 intro tgt args H v H' h hne p M w cargs hH hA
 cases tgt with
 | fn f =>
   unfold withO2 at h
   dsimp only at h
   split at h
   · rename_i e
     have:=Nat.eq_of_beq_eq_true e
     subst this
     exact oCall2_ok hN hD KT fu hC h hH hA
   · exact hC (.fn f) args H v H' h hne p M w cargs hH hA
 | round d i=>exact hC (.round d i) args H v H' h hne p M w cargs hH hA
 | mode=>exact hC .mode args H v H' h hne p M w cargs hH hA
end Go.Eng
end
section
namespace Go.Eng
set_option linter.unusedVariables false
set_option linter.unusedSimpArgs false
noncomputable section

end
end Go.Eng
end
section
namespace Go.Eng
set_option linter.unusedVariables false
set_option linter.unusedSimpArgs false
noncomputable section

def Tr.all {α:Type} (T:Tr α) (Q:α→Prop):Prop:=∃ x,T.run=some x∧Q x
theorem Tr.all_ok {α:Type} {a:α} {Q:α→Prop} (h:Q a):(Tr.ok a).all Q:=⟨a,rfl,h⟩
theorem Tr.all_ite {α:Type} {c:Bool} {a b:Tr α} {Q:α→Prop} (h1:c=true→a.all Q) (h2:c=false→b.all Q):(Tr.ite c a b).all Q:=by
 cases c with
 | true=>exact h1 rfl
 | false=>exact h2 rfl
theorem Tr.all_req {α:Type} {c:Bool} {a:Tr α} {Q:α→Prop} (h:c=true) (k:a.all Q):(Tr.req c a).all Q:=by
 subst h;exact k
theorem Tr.all_reqP {α:Type} {p:Prop} {a:Tr α} {Q:α→Prop} (h:p) (k:a.all Q):(Tr.reqP p a).all Q:=by
 obtain ⟨x,h1,h2⟩:=k
 exact ⟨x,(Tr.run_reqP h).trans h1,h2⟩
theorem notB_t (b:Bool):(notB b=true)=(b=false):=by rw[notB_eq];cases b<;>simp
theorem notB_f (b:Bool):(notB b=false)=(b=true):=by rw[notB_eq];cases b<;>simp
theorem andB_t (a b:Bool):(andB a b=true)=(a=true∧b=true):=by rw[andB_eq];cases a<;>cases b<;>simp
theorem andB_f (a b:Bool):(andB a b=false)=¬ (a=true∧b=true):=by rw[andB_eq];cases a<;>cases b<;>simp
theorem ltI_t (x y:Int):(ltI x y=true)=(x<y):=by rw[ltI_eq];simp
theorem ltI_f (x y:Int):(ltI x y=false)=(y≤x):=by rw[ltI_eq];simp
theorem leI_t (x y:Int):(leI x y=true)=(x≤y):=by rw[leI_eq];simp
theorem leI_f (x y:Int):(leI x y=false)=(y<x):=by rw[leI_eq];simp
theorem eqI_t (x y:Int):(eqI x y=true)=(x=y):=by rw[eqI_eq];simp
theorem eqI_f (x y:Int):(eqI x y=false)=¬ (x=y):=by rw[eqI_eq];simp
theorem inI_t (x:Int) (n:Nat):(inI x n=true)=(0≤x∧x<(n:Int)):=by rw[inI_eq];simp
theorem bndI_t (x:Int) (n:Nat):(bndI x n=true)=(0≤x∧x≤(n:Int)):=by rw[bndI_eq];simp
theorem ltN_t (x y:Nat):(ltN x y=true)=(x<y):=by rw[ltN_eq];simp
theorem ltN_f (x y:Nat):(ltN x y=false)=(y≤x):=by rw[ltN_eq];simp
theorem leN_t (x y:Nat):(leN x y=true)=(x≤y):=by rw[leN_eq];simp
theorem leN_f (x y:Nat):(leN x y=false)=(y<x):=by rw[leN_eq];simp
theorem eqN_t (x y:Nat):(eqN x y=true)=(x=y):=by rw[eqN_eq];simp
theorem eqN_f (x y:Nat):(eqN x y=false)=¬ (x=y):=by rw[eqN_eq];simp
theorem inO_t (o m p n:Nat):(inO o m p n=true)=(p≤o∧o+m≤p+n):=by rw[inO_eq];simp
theorem minO_min (x y:Int):minO x y=min x y:=by rw[minO_eq];omega
theorem maxO_max (x y:Int):maxO x y=max x y:=by rw[maxO_eq];omega
theorem roomO_t (m n b:Nat):(roomO m n b=true)=((m+n)*b≤70368744177664∧m+n≤70368744177664):=by rw[roomO_eq];exact decide_eq_true_eq
theorem mkO_t (l c:Int) (b:Nat):(mkO l c b=true)=(0≤l∧l≤c∧c.toNat*b≤70368744177664∧c.toNat≤70368744177664):=by rw[mkO_eq];exact decide_eq_true_eq
theorem ofNat_cast (n:Nat):Int.ofNat n=(n:Int):=rfl
theorem negSucc_one:Int.negSucc 1=-2:=rfl
theorem negSucc_zero:Int.negSucc 0=-1:=rfl
theorem negSucc_two:Int.negSucc 2=-3:=rfl
theorem tn_succ {x:Int} (h:0≤x):(x+1).toNat=x.toNat+1:=by omega
theorem wr_64 {k:Int} (h1:-9223372036854775808≤k) (h2:k≤9223372036854775807):IntKind.i64.wrap k=k:=Go.IntWalk.i64_in _ (by omega)

theorem nV:(∀ x y:Int,(ltI x y=true)=(x<y)) ∧
 (∀ x y:Int,(ltI x y=false)=(y≤x)) ∧
 (∀ x y:Int,(leI x y=true)=(x≤y)) ∧
 (∀ x y:Int,(leI x y=false)=(y<x)) ∧
 (∀ x y:Int,(eqI x y=true)=(x=y)) ∧
 (∀ x y:Int,(eqI x y=false)=¬ (x=y)) ∧
 (∀ b:Bool,(notB b=true)=(b=false)) ∧
 (∀ b:Bool,(notB b=false)=(b=true)) ∧
 (∀ a b:Bool,(andB a b=true)=(a=true∧b=true)) ∧
 (∀ a b:Bool,(andB a b=false)=¬ (a=true∧b=true)) ∧
 (∀ (x:Int) (n:Nat),(inI x n=true)=(0≤x∧x<(n:Int))) ∧
 (∀ (x:Int) (n:Nat),(bndI x n=true)=(0≤x∧x≤(n:Int))) ∧
 (∀ x y:Nat,(ltN x y=true)=(x<y)) ∧
 (∀ x y:Nat,(ltN x y=false)=(y≤x)) ∧
 (∀ x y:Nat,(leN x y=true)=(x≤y)) ∧
 (∀ x y:Nat,(leN x y=false)=(y<x)) ∧
 (∀ x y:Nat,(eqN x y=true)=(x=y)) ∧
 (∀ x y:Nat,(eqN x y=false)=¬ (x=y)) ∧
 (∀ o m p n:Nat,(inO o m p n=true)=(p≤o∧o+m≤p+n)) ∧
 (∀ m n b:Nat,(roomO m n b=true)=((m+n)*b≤70368744177664∧m+n≤70368744177664)) ∧
 (∀ (l c:Int) (b:Nat),(mkO l c b=true)=(0≤l∧l≤c∧c.toNat*b≤70368744177664∧c.toNat≤70368744177664)) ∧
 (∀ x y:Int,minO x y=min x y) ∧
 (∀ x y:Int,maxO x y=max x y) ∧
 (∀ (o:Nat) (i:Int) (s:Nat),idO o i s=o+i.toNat*s) ∧
 (∀ a b:Nat,addO a b=a+b) ∧
 (∀ a b:Nat,subO a b=a-b) ∧
 (∀ i:Int,toN i=i.toNat) ∧
 (∀ (k:IntKind) (x y:Int),addI k x y=k.wrap (x+y)) ∧
 (∀ (k:IntKind) (x y:Int),subI k x y=k.wrap (x-y)) ∧
 (∀ (k:IntKind) (x y:Int),mulI k x y=k.wrap (x*y)) ∧
 (∀ n:Nat,Int.ofNat n=(n:Int)) ∧
 (Int.negSucc 0=-1) ∧
 (Int.negSucc 1=-2) ∧
 (Int.negSucc 2=-3) ∧
 (∀ {k:Int},-9223372036854775808≤k→k≤9223372036854775807→IntKind.i64.wrap k=k) ∧
 (∀ {x:Int},0≤x→(x+1).toNat=x.toNat+1) ∧
 ((0:Int).toNat=0) ∧
 (∀ n:Nat,0*n=0) ∧
 (∀ n:Nat,1*n=n) ∧
 (∀ n:Nat,(n:Int).toNat=n) ∧
 (((0:Nat):Int)=0) ∧
 (((1:Nat):Int)=1) ∧
 (∀ n:Nat,0+n=n) ∧
 ((¬ True)=False) ∧
 ((¬ False)=True) ∧
 ((true=false)=False) ∧
 ((false=true)=False) ∧
 ((!true)=false) ∧
 ((!false)=true) ∧
 (∀ p:Prop,(True∧p)=p) ∧
 (∀ p:Prop,(p∧True)=p) ∧
 (∀ p:Prop,(False∧p)=False) ∧
 (∀ p:Prop,(p∧False)=False) :=
 ⟨ltI_t,ltI_f,leI_t,leI_f,eqI_t,eqI_f,notB_t,notB_f,andB_t,andB_f,inI_t,bndI_t,ltN_t,ltN_f,leN_t,leN_f,eqN_t,eqN_f,inO_t,roomO_t,mkO_t,minO_min,maxO_max,idO_eq,addO_eq,subO_eq,toN_eq,addI_eq,subI_eq,mulI_eq,ofNat_cast,negSucc_zero,negSucc_one,negSucc_two,wr_64,tn_succ,Int.toNat_zero,Nat.zero_mul,Nat.one_mul,Int.toNat_natCast,Int.natCast_zero,Int.natCast_one,Nat.zero_add,not_true_eq_false,not_false_eq_true,Bool.true_eq_false,Bool.false_eq_true,Bool.not_true,Bool.not_false,true_and,and_true,false_and,and_false⟩
theorem nW:(∀ a b:Nat,mulO a b=a*b)∧(∀ {α:Type} (a:α),(a=a)=True)∧(∀ {n:Nat},((no_index (OfNat.ofNat n):Nat):Int)=OfNat.ofNat n):=⟨mulO_eq,fun a=>eq_self a,Int.cast_ofNat_Int⟩
end
end Go.Eng
end
section
namespace Go.Eng
set_option linter.unusedVariables false
set_option linter.unusedSimpArgs false
theorem runC_T {P:Program} {KT:FuncId→Nat→Nat} {fu:Nat} {f:FuncId} {call:CallT} {fn:Func} (hf:P.funcs[f]?=some fn) (hb:fn.body.isSome=true) {args:List HV} {H:Heap} (hle:Nat.ble args.length fn.ntmps=true)
 {callR:CallTr} (hC:callR.Ok call) {bl:BlkT} (hB:bl.Ok ⟨P,call,fu,f,fn.ntmps,KT f,none⟩ (bodyOf fn)) {rg:RgT} (hR:rg.Ok ⟨P,call,fu,f,fn.ntmps,KT f,none⟩ (bodyOf fn)) {y:HV×Heap}
 (h:(bodyT P call fu f fn (KT f) callR bl rg args H).run=some y):runC P KT fu f call (avs args) H=some (y.1.1,y.2):=by
 unfold bodyT at h
 obtain ⟨x,h1,h⟩:=Tr.bind_some h
 have h1:=execT_ok hC _ hB hR _ _ _ h1
 rw[argH_eq] at h1
 obtain ⟨l,vs,k1,k2,k3,k4⟩:=outT_ok h
 obtain ⟨c,hc⟩:=Option.isSome_iff_exists.1 hb
 have hbody:bodyOf fn=c:=by unfold bodyOf;rw[hc]
 rw[hbody] at h1
 obtain ⟨e,fr,H1⟩:=x
 dsimp only[Res.st] at h1 k1 k2 k3
 rw[k1] at h1 k3
 have hl:(avs args).length=args.length:=by unfold avs;rw[mapX_eq,List.length_map]
 simp only[runC,hf,hc,hl,hle,if_true,h1]
 rcases k2 with rfl | rfl<;>simp only[k3]<;>rw[k4]
end Go.Eng
end
section
namespace Go.Eng
open Go.Sort
set_option linter.unusedVariables false
set_option linter.unusedSimpArgs false

noncomputable def rwZ (g:List Int→List Int) (z:Nat→Int) (off len:Nat):Nat→Int:=fun x=>if off≤x∧x<off+len then (g ((List.range len).map fun q=>z (off+q))).getD (x-off) 0 else z x
noncomputable def rowC (g:List Int→List Int) (args:List AV) (H:Heap):Option (AV×Heap) :=
 match args with
 | [.slc d i ver off 1 len cap]=>match hRow H d i ver with
   | some (.M [.arr .i64 z n])=>if hLock H d=false∧0<len∧len<4611686018427387904∧off+len≤n then some (.tup [],hSet H d i (ver,.row (.M [.arr .i64 (rwZ g z off len) n]))) else none
   | _=>none
 | _=>none
def RowFn (P:Program) (f:FuncId) (g:List Int→List Int):Prop:=(∃ fn,P.funcs[f]?=some fn∧fn.body.isNone=false)∧(∀ L,(g L).length=L.length) ∧
 ∀ (blk off cap:Nat) (zs:List Int) (w:World),Holds (Value.int .i64) w blk off zs.toArray→blk<w.heap.size→zs.length<4611686018427387904 →
  Calls P f #[.slice (some ⟨blk,off,none⟩) zs.length cap] w fun e w'=>e=.returned (.tuple #[])∧∃ n os,w'=grow (putRow (Value.int .i64) (Sort.ahead w n) blk off (g zs).toArray) os
theorem rowC_ok {P:Program} {f:FuncId} {g:List Int→List Int} (hS:RowFn P f g) {args:List AV} {H:Heap} {v:AV} {H':Heap} (h:rowC g args H=some (v,H')) (hne:H≠[])
 {p:Pst} {M:Mu} {w:World} {cargs:Array Value} (hH:HRel p M H w) (hA:CRel p M args cargs):(∃ fn,P.funcs[f]?=some fn∧fn.body.isNone=false)∧CallsIn Fence.wide 0 P f cargs w (Post p M H w v H'):=by
 obtain ⟨hfn,hlen,hcall⟩:=hS
 refine ⟨hfn,callsIn_wide.2 ?_⟩
 unfold rowC at h
 split at h
 case h_2=>simp at h
 rename_i d i ver off len cap
 split at h
 case h_2=>simp at h
 rename_i z n hq
 split at h
 case isFalse=>simp at h
 rename_i hc
 obtain ⟨hl,hpos,hsz,hoff⟩:=hc
 simp only[nP] at h
 obtain ⟨rfl,rfl⟩:=h
 have hg:=hRow_some hq
 obtain ⟨b,o,t,hm,⟨c,e,hb,hct,hot,hr⟩,_⟩:=hH.live d i ver (.row (.M [.arr .i64 z n])) hg (by simp)
 have hn:Row.len (.M [.arr .i64 z n])=n:=by simp[Row.len,lenM,segLen]
 rw[hn] at hot
 have hgetM:∀ (y:Nat→Int) (j:Nat),j<n→Row.get (.M [.arr .i64 y n]) j=.int .i64 (y j):=fun y j hj=>by
  show getM [.arr .i64 y n] j=_
  simp only[getM]
  rw[if_pos hj]
 have hcell:∀ j,j<n→c.getD (o+j) undef=.int .i64 (z j):=fun j hj=>by
  have:=hr.get j (by rw[hn];exact hj)
  rw[hgetM z j hj] at this
  exact this.ofInt
 have hblt:b<w.heap.size:=(Array.getElem?_eq_some_iff.1 hb).1
 have hsize:cargs.size=1:=hA.1
 have hv:=hA.2 0 (by simp)
 have hd:cargs=#[cargs.getD 0 undef]:=by
  apply Array.ext
  · simpa using hsize
  · intro j h1 h2
    have:j=0:=by omega
    subst this
    simp[Array.getD,hsize]
 generalize cargs.getD 0 undef=cv at hv hd
 subst hd
 have hv:VRel p M (.slc d i ver off 1 len cap) cv:=hv
 cases hv with
 | slc hm2 hl2 hc2 hn2 hx2 =>
   rename_i b2 o2 t2 x cc
   rw[hm] at hm2
   simp only[nP] at hm2
   obtain ⟨rfl,rfl,rfl⟩:=hm2
   have hx:x=o+off:=by
    rcases hx2 with h0 | h0
    · omega
    · exact h0
   subst hx
   have hzl:((List.range len).map fun q=>z (off+q)).length=len:=by simp
   generalize hzs:((List.range len).map fun q=>z (off+q))=zs at hzl
   have hz:∀ j,(hj:j<zs.length)→zs[j]=z (off+j):=fun j hj=>by
    subst hzs;simp
   have hsz2:zs.length<4611686018427387904:=by rw[hzl];exact hsz
   have hh:Holds (Value.int .i64) w b (o+off) zs.toArray:=by
    intro j hj
    have hj':j<zs.length:=by simpa using hj
    have h1:=hcell (off+j) (by omega)
    have hcs:o+off+j<c.size:=by omega
    refine ⟨?_,by simp[World.frozen?,hb]⟩
    simp only[World.cell?,hb]
    simp only[Option.isSome_none,Bool.false_eq_true,if_false]
    rw[show o+(off+j)=o+off+j by omega] at h1
    have h2:c[o+off+j]?=some (.int .i64 (z (off+j))):=by
     rw[Array.getElem?_eq_getElem hcs]
     simp only[Array.getD,hcs,dif_pos] at h1
     simpa using h1
    rw[h2]
    simp[hj',hz j hj']
   rw[← hzl]
   refine (hcall b (o+off) cc zs w hh hblt hsz2).mono ?_
   rintro en w' ⟨rfl,nn,os,rfl⟩
   rw[hzl]
   have hgl:=hlen zs
   have hb':(grow (putRow (Value.int .i64) (Sort.ahead w nn) b (o+off) (g zs).toArray) os).heap[b]?=some (.cells (putCells (Value.int .i64) (o+off) (g zs).toArray c) e (0,0)):=by
    rw[heap_grow_old _ _ (by simpa[putRow,mapBlock,Sort.ahead] using hblt)]
    simp[putRow,mapBlock,Sort.ahead,Array.getElem?_modify,hb,onCells]
   have st:Stay (fun x=>x≠b) w (grow (putRow (Value.int .i64) (Sort.ahead w nn) b (o+off) (g zs).toArray) os):=by
    refine ⟨rfl,rfl,rfl,?_,fun k hk hne=>?_⟩
    · simp[grow,putRow,mapBlock,Sort.ahead]
    · rw[heap_grow_old _ _ (by simpa[putRow,mapBlock,Sort.ahead] using hk)]
      simp[putRow,mapBlock,Sort.ahead,Array.getElem?_modify]
      intro h;exact absurd h.symm hne
   have hrel:BRel p (M.up d) (.row (.M [.arr .i64 (rwZ g z off len) n])) b o t (grow (putRow (Value.int .i64) (Sort.ahead w nn) b (o+off) (g zs).toArray) os):=by
    have hn':Row.len (.M [.arr .i64 (rwZ g z off len) n])=n:=by simp[Row.len,lenM,segLen]
    refine ⟨_,e,hb',by simp[putCells,hct],by rw[hn'];exact hot,fun j hj=>?_⟩
    rw[hn'] at hj
    have hcs:o+j<c.size:=by omega
    have key:(putCells (Value.int .i64) (o+off) (g zs).toArray c).getD (o+j) undef=.int .i64 (rwZ g z off len j):=by
     have h1:=hcell j hj
     simp only[Array.getD,hcs,dif_pos] at h1
     simp only[Array.getD,putCells,Array.size_mapIdx,hcs,dif_pos,Array.getInternal_eq_getElem,Array.getElem_mapIdx]
     unfold rwZ
     rw[hzs]
     have hs3:(g zs).toArray.size=len:=by simp[hgl,hzl]
     by_cases hin:off≤j∧j<off+len
     · rw[if_pos (by rw[hs3];omega),if_pos hin]
       have e1:o+j-(o+off)=j-off:=by omega
       rw[e1]
       have hlt:j-off<(g zs).length:=by omega
       simp[List.getD_eq_getElem?_getD,hlt]
     · rw[if_neg (by rw[hs3];omega),if_neg hin]
       simpa using h1
    refine ⟨?_,by show ((putCells (Value.int .i64) (o+off) (g zs).toArray c).getD (o+j) undef).oneCell'=true;rw[key];rfl⟩
    show VRel p (muR (M.up d) (.M [.arr .i64 (rwZ g z off len) n])) (Row.get (.M [.arr .i64 (rwZ g z off len) n]) j) ((putCells (Value.int .i64) (o+off) (g zs).toArray c).getD (o+j) undef)
    rw[key,hgetM _ j hj]
    exact .int _ _
   obtain ⟨p',M',hE,hvt⟩:=drel_on (v:=.tup []) (δ:=.set d i (ver,.row (.M [.arr .i64 (rwZ g z off len) n]))) (cv:=.tuple #[]) hne hH ⟨ver,_,b,o,t,b,o,t,hg,by simp,hl,hm,by simp,hrel,st,.inl rfl,.tup rfl (fun j hj=>absurd hj (by simp)),.inl ⟨rfl,rfl,rfl,rfl⟩⟩
   refine ⟨_,rfl,⟨fun d' i' hl'=>?_,fun d' _=>hNextAt_set _ _ _ _ _⟩,p',M',hE,hvt⟩
   rw[hGet_set,if_neg]
   rintro ⟨rfl,_,_⟩
   rw[hl] at hl';cases hl'
end Go.Eng
end
