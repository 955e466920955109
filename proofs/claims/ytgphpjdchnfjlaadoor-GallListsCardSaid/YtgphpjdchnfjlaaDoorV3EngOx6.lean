/- The engine, part O: rounds of loops over functions. -/
import Derived.Test.YtgphpjdchnfjlaaDoorV3EngKx4
import Derived.RangeFuncIn
set_option linter.unusedVariables false
set_option linter.unusedSimpArgs false
section
namespace Go.Eng

theorem b5.LV {p:aB} {M:Mu} {H:aa} {w:World} (h:aU p M H w) (hne:H≠[]) {d i b o t:Nat} {l l':nw} {r r':Loop} (hg:ar H d i=(0,.loop l)) (hm:M d i 0=some (b,o,t)) (hl:aC H d=false) (hr:w.heap[b]?=some (.loop r))
 (hrel:fb p (M.up d) (.loop l') b o t (w.putObj b (.loop r'))):∃ p' M',b5 p M H w p' M' (dE H d i (0,.loop l')) (w.putObj b (.loop r')):=by
 have hd:dX p M H (aN H) .undef (.set d i (0,.loop l')) Go.undef w (w.putObj b (.loop r')) :=
  ⟨0,.loop l,b,o,t,b,o,t,hg,by simp,hl,hm,by simp,hrel,⟨rfl,rfl,rfl,by rw[World.putObj_size];exact Nat.le_refl _,fun y _ hy=>World.putObj_heap_other hy⟩,.inl rfl,.undef _,.inl ⟨rfl,rfl,rfl,rfl⟩⟩
 obtain ⟨p',M',e1,_⟩:=qp hne h hd
 exact ⟨p',M',e1⟩

theorem rm:∀ (fr:az) (k x:Nat),bx (kJ k fr) x=kO k (bx fr x)
 | [],k,x=>by cases k<;>rfl
 | (y,v)::r,k,x=>by
   simp only[kJ,bx,rm r k x]
   split<;>rfl
theorem CQ {p:aB} {M:Mu} {nt k:Nat} {fr:az} {a:Act} (h:bQ p (M.up k) nt fr a):bQ p M nt (kJ k fr) a :=
 ⟨h.size,fun x=>by rw[rm];exact (h.at_ x).up⟩

theorem uw {p:aB} {M:Mu} {nt:Nat}:∀ (ts:List Tmp) (vs:List AV) (cs:List Value) (fr fr':az) (a:Act),jK nt fr ts vs=some fr'→bQ p M nt fr a→cs.length=vs.length→(∀ j,j<vs.length→ai p M (vs.getD j .undef) (cs.getD j Go.undef)) →
 cs.length=ts.length∧bQ p M nt fr' { tmps:=(ts.zip cs).foldl (fun tmps (t,c)=>tmps.setIfInBounds t c) a.tmps,defers:=a.defers }
 | [],[],cs,fr,fr',a,h,hF,hl,_=>by
   simp only[jK,Option.some.injEq] at h
   subst h
   have:cs=[]:=List.length_eq_zero_iff.1 (by simpa using hl)
   subst this
   exact ⟨rfl,⟨hF.size,hF.at_⟩⟩
 | t::ts,[],cs,fr,fr',a,h,_,_,_=>by simp[jK] at h
 | [],v::vs,cs,fr,fr',a,h,_,_,_=>by simp[jK] at h
 | t :: ts,v::vs,cs,fr,fr',a,h,hF,hl,hv=>by
   simp only[jK] at h
   split at h
   · rename_i hlt
     cases cs with
     | nil=>simp at hl
     | cons c cs =>
       have h0:=hF.put (some t) (v:=v) (c:=c) (by simpa using hv 0 (by simp))
       simp only[gF,hlt,if_true,Act.put] at h0
       have:=uw ts vs cs _ fr' _ h h0 (by simpa using hl) (fun j hj=>by have:=hv (j+1) (by simpa using hj);simpa using this)
       exact ⟨by simp[this.1],this.2⟩
   · simp at h

def BT (P:Program) (b:Nat) (R:Ending→World→Prop) (j:Option Code) (w:World):Prop:=∃ v w',(Instr.endRound b j).run P w=.ok v w'∧R (.returned v) w'
theorem vM {P:Program} {b:Nat} {R:Ending→World→Prop} {e:Ex} {a:Act} {w:World} (h:BT P b R (b7 e) w):roundPost P b R (J0 e) a w:=by
 cases e<;>exact h

theorem sl {P:Program} (hN:dc P) {call:aA} (hC:bM P call) (hX:∀ (cx:Cx) (F:Fence),cx.P=P→cx.call=call→dh F→ij cx F) {fu:Nat} {kt:Nat→Nat} {d i:Nat} {args:List AV} {H:aa} {l l1 l2:nw} {fr fr1 fr2:az} {H1 H2:aa} {lv:bL} {e:Ex}
 (hg:ar H d i=(0,.loop l)) (hl:aC H d=false) (hs:l.state=.ready) (hp:jK l.nt (kJ (d+1) l.fr) l.params (args.map (kO 1))=some fr)
 (he1:exec ⟨P,call,fu,l.fn,l.nt,kt,some (d+1,i)⟩ l.assign fr (⟨false,[]⟩::H)=some (.normal,fr1,H1)) (hg1:ar H1 (d+1) i=(0,.loop l1)) (hs1:l1.state=.ready)
 (he2:∀ b:Nat,dp P (Fence.wide.inRound b) (some (d+1,i)) l.nt l.body fr1 (dE H1 (d+1) i (0,.loop { l1 with state:=.busy })) e fr2 (lv::H2)) (hg2:ar H2 d i=(0,.loop l2))
 {p:aB} {M:Mu} {w:World} {cargs:Array Value} (hH:aU p M H w) (hA:dW p M args cargs) {b o t:Nat} (hm:M d i 0=some (b,o,t)) :
 ∃ f tmps assign body,(Instr.yield b cargs).run P w=.ok (.round b f tmps assign body) w ∧
  RoundIn Fence.wide 0 P b f tmps assign body w (fh p M H w (.bool (b7 e).isNone) (dE H2 d i (0,.loop { l2 with state:=if (b7 e).isNone then .ready else .done,pending:=b7 e }))):=by
 have record:∀ {p:aB} {M:Mu} {H:aa} {w:World} {d i:Nat} {l:nw} {b o t:Nat},aU p M H w→ar H d i=(0,.loop l)→M d i 0=some (b,o,t)→fb p (M.up d) (.loop l) b o t w:=by
  intro p M H w d i l b o t hH hg hm
  obtain ⟨b',o',t',k1,k2,_⟩:=hH.live d i 0 _ hg (by simp)
  rw[hm] at k1
  simp only[nP] at k1
  obtain ⟨rfl,rfl,rfl⟩:=k1
  exact k2
 obtain ⟨r,q1,q2,q3,q4,q5,q6,q7⟩:=record hH hg hm
 have hF0:bQ p (cN M) l.nt (kJ (d+1) l.fr) ⟨r.tmps,[]⟩:=CQ (k:=d+1) (M:=cN M) q7
 obtain ⟨z1,z2⟩:=uw l.params (args.map (kO 1)) cargs.toList _ fr _ hp hF0 (by simp[hA.1]) (fun j hj=>by
  have hj':j<args.length:=by simpa using hj
  rw[bJ _ _ _ hj']
  have:=ai.up (M:=cN M) (k:=1) (hA.2 j hj')
  simpa using this)
 have hpar:r.params=l.params.toArray:=by rw[← q4]
 have hsz:cargs.size=r.params.size:=by rw[hpar];simpa using z1
 refine ⟨_,_,_,_,run_yield q1 hsz,roundIn_of_wpIn trivial ?_⟩
 have htm:(r.params.zip cargs).foldl (fun tmps (t,a)=>tmps.setIfInBounds t a) r.tmps=(l.params.zip cargs.toList).foldl (fun tmps (t,c)=>tmps.setIfInBounds t c) r.tmps:=by
  rw[hpar,← Array.foldl_toList]
  simp
 rw[htm,q5,q6]
 have hW:=dh.inRound b
 have x1:=cu (cx:=⟨P,call,fu,l.fn,l.nt,kt,some (d+1,i)⟩) hW hN hC (hX _ _ rfl rfl hW) _ _ _ _ _ _ he1
 have hR:sR (Fence.wide.inRound b) (some (d+1,i)) (cN M):=⟨b,o,t,rfl,hm⟩
 refine x1 w.heap.size p (cN M) _ w _ z2 hH.down (by simp) hR (Marks.nil _ _ _) (fun a1 w1 ⟨p1,M1,k1,k2,k3⟩=>?_)
 have hm1:M1 (d+1) i 0=some (b,o,t):=k1.mu _ _ _ _ hm
 obtain ⟨r1,u1,u2,u3,u4,u5,u6,u7⟩:=record k1.rel hg1 hm1
 have hl1:aC H1 (d+1)=false:=by rw[k1.lock];exact hl
 have hlt:∀ {w:World} {b:Nat} {x:Obj},w.heap[b]?=some x→b<w.heap.size:=fun e=>(Array.getElem?_eq_some_iff.1 e).1
 obtain ⟨p2,M2,t1⟩:=b5.LV (l':={ l1 with state:=.busy }) (r':={ r1 with state:=.busy }) k1.rel (k1.ne (by simp)) hg1 hm1 hl1 u1 ⟨_,World.putObj_heap_same (hlt u1),rfl,u3,u4,u5,u6,u7⟩
 refine ⟨_,run_beginRound u1 (by rw[u2];exact hs1),?_⟩
 have x2:=he2 b
 have KZ:=k1.trans t1
 refine x2 w.heap.size p2 M2 a1 _ _ (k2.mono t1.pst t1.mu) t1.rel (KZ.ne (by simp)) (hR.mono KZ.mu) (k3.wv t1) (fun a3 w3 ⟨p3,M3,v1,_,_⟩=>vM ?_)
 have kk:=KZ.trans v1
 have hm3:(M3.up 1) d i 0=some (b,o,t):=kk.mu (d+1) i 0 _ hm
 have kp:=kk.pop
 obtain ⟨r3,y1,y2,y3,y4,y5,y6,y7⟩:=record kp.rel hg2 hm3
 have hne:H≠[]:=by intro e0;rw[e0] at hg;simp[ar] at hg
 have hl3:aC H2 d=false:=by rw[kp.lock];exact hl
 obtain ⟨p4,M4,t4⟩:=b5.LV (l':={ l2 with state:=if (b7 e).isNone then .ready else .done,pending:=b7 e }) (r':={ r3 with state:=if (b7 e).isNone then .ready else .done,pending:=b7 e }) kp.rel (kp.ne hne) hg2 hm3 hl3 y1
  ⟨_,World.putObj_heap_same (hlt y1),rfl,rfl,y4,y5,y6,y7⟩
 have st:Still H (dE H2 d i (0,.loop { l2 with state:=if (b7 e).isNone then .ready else .done,pending:=b7 e })):=⟨fun d1 i1 hk9=>by
  rw[dz,if_neg (by rintro ⟨e9,_,_⟩;rw[e9,hl] at hk9;simp at hk9)]
  exact kk.same (d1+1) i1 (by omega) hk9,fun d1 hk9=>by
  rw[bZ]
  exact kk.next (d1+1) (by omega) hk9⟩
 exact ⟨_,_,run_endRound _ y1,_,rfl,st,p4,M4,kp.trans t4,.bool _⟩
theorem CD {P:Program} (hN:dc P) {call:aA} (hC:bM P call) (hX:∀ (cx:Cx) (F:Fence),cx.P=P→cx.call=call→dh F→ij cx F) {fu:Nat} {kt:Nat→Nat} {d i:Nat} {args:List AV} {H:aa} {l l1 l2:nw} {fr fr1 fr2:az} {H1 H2:aa} {lv:bL} {e:Ex}
 (hg:ar H d i=(0,.loop l)) (hl:aC H d=false) (hs:l.state=.ready) (hp:jK l.nt (kJ (d+1) l.fr) l.params (args.map (kO 1))=some fr)
 (he1:exec ⟨P,call,fu,l.fn,l.nt,kt,some (d+1,i)⟩ l.assign fr (⟨false,[]⟩::H)=some (.normal,fr1,H1)) (hg1:ar H1 (d+1) i=(0,.loop l1)) (hs1:l1.state=.ready)
 (he2:exec ⟨P,call,fu,l.fn,l.nt,kt,some (d+1,i)⟩ l.body fr1 (dE H1 (d+1) i (0,.loop { l1 with state:=.busy }))=some (e,fr2,lv::H2)) (hg2:ar H2 d i=(0,.loop l2))
 {p:aB} {M:Mu} {w:World} {cargs:Array Value} (hH:aU p M H w) (hA:dW p M args cargs) {b o t:Nat} (hm:M d i 0=some (b,o,t)) :
 ∃ f tmps assign body,(Instr.yield b cargs).run P w=.ok (.round b f tmps assign body) w ∧
  RoundIn Fence.wide 0 P b f tmps assign body w (fh p M H w (.bool (b7 e).isNone) (dE H2 d i (0,.loop { l2 with state:=if (b7 e).isNone then .ready else .done,pending:=b7 e }))) :=
 sl hN hC hX hg hl hs hp he1 hg1 hs1 (fun b=>cu (cx:=⟨P,call,fu,l.fn,l.nt,kt,some (d+1,i)⟩) (dh.inRound b) hN hC (hX _ _ rfl rfl (dh.inRound b)) _ _ _ _ _ _ he2) hg2 hH hA hm

end Go.Eng
end
section
namespace Go.Eng

def fI (P:Program):Prop:=∀ (cx:Cx) (F:Fence),cx.P=P→bM P cx.call→dh F→∀ (id:Nat) (ops:Array Oper) (fr:az) (H:aa) (fr':az) (H':aa),ep ops (Region.before ops)=true →
 eG cx.P cx.nt cx.call ops (Region.before ops) 0 ops.toList fr (lj H (cg ops.toList)) (aN H) []=some (fr',H')→dp cx.P F cx.ro cx.nt (.region id ops true) fr H .normal fr' H'

def qG (P:Program) (ora:aA→FuncId→List AV→aa→Option (AV×aa)):Prop:=∀ (call:aA),bM P call→∀ (f:FuncId) (args:List AV) (H:aa) (v:AV) (H':aa),ora call f args H=some (v,H')→H≠[]→∀ (p:aB) (M:Mu) (w:World) (cargs:Array Value),aU p M H w→dW p M args cargs →
 (∃ fn,P.funcs[f]?=some fn∧fn.body.isNone=false)∧CallsIn Fence.wide 0 P f cargs w (fh p M H w v H')
theorem more {P:Program} (hN:dc P) (hD:fI P) {call:aA} (hC:bM P call) (cx:Cx) (F:Fence) (h1:cx.P=P) (h2:cx.call=call) (hW:dh F):ij cx F:=by
 subst h1;subst h2
 exact ⟨fun id ops fr H fr' H' hs hr=>hD cx F rfl hC hW id ops fr H fr' H' hs hr,fun f ps assign body fr H e fr' H' h=>Cz hW hN hC f ps assign body fr H e fr' H' h⟩

theorem lZ {P        : Program} (hN:dc P) (hD:fI P) {ora:aA→FuncId→List AV→aa→Option (AV×aa)} (hO:qG P ora) (KT:FuncId→Nat→Nat) (fu:Nat):∀ n,bM P (cU P ora KT fu n)
 | 0=>fun tgt args H v H' h _ _ _ _ _ _ _=>by cases tgt<;>first | trivial | simp[cU] at h
 | n + 1 => by
   have ih:=lZ hN hD hO KT fu n
   intro tgt args H v H' h hne p M w cargs hH hA
   cases tgt with
   | fn f =>
     simp only[cU] at h
     cases ho:ora (cU P ora KT fu n) f args H with
     | some u =>
       rw[ho] at h
       dsimp only at h
       rw[Option.some.injEq] at h
       subst h
       exact hO _ ih f args H v H' ho hne p M w cargs hH hA
     | none =>
       rw[ho] at h
       simp only at h
       cases hf:P.funcs[f]? with
       | none=>rw[hf] at h;simp at h
       | some fn =>
         rw[hf] at h
         simp only at h
         cases hb:fn.body with
         | none=>rw[hb] at h;simp at h
         | some c =>
           rw[hb] at h
           simp only at h
           split at h
           · rename_i hle
             split at h
             · rename_i e fr l H1 he
               split at h
               · cases hv:fT P fr (l::H1) fn.results.toList with
                 | none=>rw[hv] at h;simp at h
                 | some vs =>
                   rw[hv] at h
                   simp only[nP] at h
                   obtain ⟨rfl,rfl⟩:=h
                   exact ⟨⟨fn,hf,by rw[hb];rfl⟩,ru hf hb (by simpa using hle) (.inl rfl) hv (cu dh.wide hN ih (more hN hD ih _ _ rfl rfl dh.wide) _ _ _ _ _ _ he) hH hA⟩
               · cases hv:fT P fr (l::H1) fn.results.toList with
                 | none=>rw[hv] at h;simp at h
                 | some vs =>
                   rw[hv] at h
                   simp only[nP] at h
                   obtain ⟨rfl,rfl⟩:=h
                   exact ⟨⟨fn,hf,by rw[hb];rfl⟩,ru hf hb (by simpa using hle) (.inr rfl) hv (cu dh.wide hN ih (more hN hD ih _ _ rfl rfl dh.wide) _ _ _ _ _ _ he) hH hA⟩
               · simp at h
             · simp at h
           · simp at h
   | mode=>trivial
   | round d i =>
     intro b o t hm
     simp only[cU] at h
     split at h
     · rename_i l hg
       split at h
       · simp at h
       · rename_i hl
         split at h
         · rename_i hs
           split at h
           · rename_i fr hp
             split at h
             · rename_i fr1 H1 he1
               split at h
               · rename_i l1 hg1
                 split at h
                 · rename_i hs1
                   split at h
                   · rename_i e fr2 lv H2 he2
                     split at h
                     · rename_i l2 hg2
                       simp only[nP] at h
                       obtain ⟨rfl,rfl⟩:=h
                       exact CD hN ih (fun cx F h1 h2 hW=>more hN hD ih cx F h1 h2 hW) hg (by simpa using hl) hs hp he1 hg1 hs1 he2 hg2 hH hA hm
                     · simp at h
                   · simp at h
                 · simp at h
               · simp at h
             · simp at h
           · simp at h
         · simp at h
     · simp at h

end Go.Eng
end
section
namespace Go.Eng

theorem cZ.below {w w':World} (h:cZ (fun _=>True) w w'):Go.RowKit.Below w.heap.size w w':=⟨h.os,h.tape,h.output,h.size,fun k hk=>h.block k hk trivial⟩

end Go.Eng
end
section
namespace Go.Eng

theorem iI {fr fr':az}:∀ {l:List Operand},(∀ x ∈ l,bE fr x=bE fr' x)→jk fr l=jk fr' l
 | [],_=>rfl
 | x::l,h=>by simp only[jk];rw[h x (by simp),iI (fun y hy=>h y (by simp[hy]))]
theorem kf {fr fr':az}:∀ {l:List (Nat×Operand)},(∀ x ∈ l,bE fr x.2=bE fr' x.2)→dv fr l=dv fr' l
 | [],_=>rfl
 | (i,x)::l,h=>by
   simp only[dv]
   have:=h (i,x) (by simp)
   simp only at this
   rw[this,kf (fun y hy=>h y (by simp[hy]))]

theorem wj {P:Program} {call:aA} {fr fr':az} {H:aa} {nx:Nat} {c:Call} (h:∀ x ∈ c.operands.toList,bE fr x=bE fr' x):eU P call fr H nx c=eU P call fr' H nx c:=by
 have hargs:∀ x ∈ c.args.toList,bE fr x=bE fr' x:=fun x hx=>h x (by unfold Call.operands;rw[Array.toList_append];exact List.mem_append_right _ hx)
 unfold eU
 cases hc:c.callee with
 | value f =>
   have hf:bE fr f=bE fr' f:=h f (by unfold Call.operands;rw[hc];simp)
   dsimp only
   rw[hf,iI hargs]
 | invoke r m=>rfl
 | builtin b =>
   cases b<;>dsimp only<;>try rfl
   all_goals first
    | (rw[iI hargs];done)
    | (generalize c.args.toList=l at hargs
       generalize c.argTypes.toList=ts
       rcases ts with _ | ⟨t,_ | ⟨u,ts⟩⟩<;>rcases l with _ | ⟨x,_ | ⟨y,l⟩⟩<;>dsimp only <;>
        first
        | rfl
        | (rw[hargs x (by simp),hargs y (by simp)])
        | (rw[hargs x (by simp)]))

theorem nK {P:Program} {call:aA} {fr fr':az} {H:aa} {nx:Nat} {o:Oper} (h:∀ x ∈ o.op.operands.toList,bE fr x=bE fr' x):evalOp P call fr H nx o=evalOp P call fr' H nx o:=by
 unfold evalOp
 cases ho:o.op<;>rw[ho] at h<;>simp only[Op.operands] at h
 all_goals try (simp at h;simp[h];done)
 all_goals try rfl
 case build t ps =>
  dsimp only
  rw[kf (l:=ps.toList) (fun x hx=>h x.2 (by simp only[List.mem_map];exact ⟨x,hx,rfl⟩))]
 case buildSlice t n ps =>
  dsimp only
  rw[kf (l:=ps.toList) (fun x hx=>h x.2 (by simp only[List.mem_map];exact ⟨x,hx,rfl⟩))]
 case makeFunc f a b =>
  simp at h
  dsimp only
  rw[iI (l:=a.toList) (fun x hx=>h x (.inl (by simpa using hx))),iI (l:=b.toList) (fun x hx=>h x (.inr (by simpa using hx)))]
 case makeMap t r=>cases r<;>rfl
 case slice t x lo hi mx =>
  cases lo<;>cases hi<;>cases mx<;>simp at h<;>simp[h]
 case call c=>exact wj h

end Go.Eng
end
section
namespace Go.Eng

def je:Touch→Nat→Nat→Prop
 | .none,_,_=>False
 | .blk e j,d,i=>e=d∧j=i
 | .all,_,_=>True

theorem rA {H H':aa} {d i:Nat} (h:ar H' d i=ar H d i) (v:Nat):cG H' d i v=cG H d i v:=by unfold cG;rw[h]

theorem mK {P:Program} {H H':aa} {t:TypeId} {m k x:AV} (hl:∀ d,aC H' d=aC H d)
 (hr:∀ d i,je (match m with | .ptr d i _ _=>.blk d i | .slc d i _ _ _ _ _=>.blk d i | .map d i=>.blk d i | _=>.none) d i→ar H' d i=ar H d i):jg P H' t m k x=jg P H t m k x:=by
 unfold jg
 cases m<;>dsimp only at hr ⊢
 case map d i =>
  have h1:=hl d
  have h2:=hr d i ⟨rfl,rfl⟩
  cases P.underlying t with
  | none=>rfl
  | some td=>cases td<;>dsimp only<;>rw[h1,h2]
 all_goals (cases P.underlying t with
  | none=>rfl
  | some td=>cases td<;>rfl)

theorem wu {P:Program} {call:aA} {fr:az} {H H':aa} {nx:Nat} {o:Oper} {v:AV} {δ:Delta} (h:evalOp P call fr H nx o=some (v,δ)) (hδ:∀ X,δ≠.heap X) (hl:∀ d,aC H' d=aC H d)
 (hr:∀ d i,je (ct fr o) d i→ar H' d i=ar H d i) (ha:ct fr o=.all→H'=H):evalOp P call fr H' nx o=some (v,δ):=by
 by_cases hall:ct fr o=.all
 · rw[ha hall];exact h
 unfold evalOp at h ⊢
 unfold ct at hr hall
 cases ho:o.op<;>rw[ho] at h hr hall<;>dsimp only at h hr hall ⊢<;>try exact h
 case load t a =>
  unfold kp at h ⊢
  unfold lz at h ⊢
  cases hx:bE fr a<;>rw[hx] at h hr<;>dsimp only at h hr ⊢<;>try exact h
  rw[rA (hr _ _ ⟨rfl,rfl⟩)]
  exact h
 case store t a x =>
  unfold fC at h ⊢
  cases hx:bE fr a<;>rw[hx] at h hr<;>dsimp only at h hr ⊢<;>try exact h
  rename_i d i ver off
  have e:=rA (hr _ _ ⟨rfl,rfl⟩) ver
  rw[hl,e]
  split at h
  · simp at h
  · rename_i hlk
    rw[if_neg hlk]
    split at h
    · rename_i r n q e1 e2 e3
      split at h
      · rename_i hc
        rw[if_pos hc]
        split at h
        · split at h
          · simp at h
          · split at h
            · simp only[Option.map_some,Option.some.injEq,Prod.mk.injEq] at h
              exact absurd h.2.symm (hδ _)
            · simp at h
        · rename_i hno
          first
          | exact h
          | (split
             · rename_i d' j w o' sz len cap
               exact absurd rfl (hno d' j w o' sz len cap rfl)
             · exact h)
      · simp at h
    · simp at h
 case lookup t m k ok =>
  unfold kp at h ⊢
  unfold oc at h ⊢
  have e:tQ H' (bE fr m)=tQ H (bE fr m):=by
   unfold tQ
   cases hx:bE fr m<;>rw[hx] at hr<;>dsimp only at hr ⊢
   rw[hr _ _ ⟨rfl,rfl⟩]
  have e0:tW H' (bE fr m)=tW H (bE fr m):=by
   unfold tW
   cases hx:bE fr m<;>rw[hx] at hr<;>dsimp only at hr ⊢
   rw[hr _ _ ⟨rfl,rfl⟩]
  rw[e,e0];exact h
 case mapUpdate t m k x =>
  rw[mK hl hr];exact h
 case insert t m k x =>
  rw[mK hl hr];exact h
 case makeMap t r=>cases r<;>exact h
 case call c =>
  unfold eU at h ⊢
  cases hc:c.callee with
  | value f=>rw[hc] at hall;simp at hall
  | invoke r m=>rw[hc] at h;simp at h
  | builtin b =>
    rw[hc] at h hr hall
    cases b<;>dsimp only at h hr hall ⊢<;>try exact h
    all_goals try (simp at hall;done)
    generalize c.args.toList=l at h hr hall ⊢
    generalize c.argTypes.toList=ts at h hr hall ⊢
    rcases l with _ | ⟨x,l⟩
    · exact h
    · rcases ts with _ | ⟨t,ts⟩
      · exact h
      · dsimp only at h hr ⊢
        have e:tg P H' t (bE fr x)=tg P H t (bE fr x):=by
         unfold tg
         cases P.underlying t with
         | none=>rfl
         | some td =>
           cases hx:bE fr x<;>rw[hx] at hr<;>cases td<;>dsimp only at hr ⊢
           rw[hr _ _ ⟨rfl,rfl⟩]
        rw[e];exact h

def pS (k:Nat→Bool):Nat→List (Nat×av)→List (Nat×av)
 | _,[]=>[]
 | i,b::r=>(if k i then b else (b.1,.dead))::pS k (i+1) r
def kI (k:Nat→Nat→Bool):Nat→aa→aa
 | _,[]=>[]
 | d,l::r=>{ l with bs:=pS (k d) 0 l.bs } :: kI k (d+1) r
theorem oe (k:Nat→Bool):∀ (l:List (Nat×av)) (s:Nat),(pS k s l).length=l.length
 | [],_=>rfl
 | b::l,s=>by simp[pS,oe k l]
theorem um (k:Nat→Bool):∀ (l:List (Nat×av)) (s i:Nat),ao (pS k s l) i=if k (s+i) then ao l i else ((ao l i).1,.dead)
 | [],s,i=>by simp[pS,ao]
 | b::l,s,0=>by simp[pS,ao]
 | b::l,s,i+1=>by
   simp only[pS,ao,um k l (s+1) i]
   rw[show s+1+i=s+(i+1) by omega]
theorem pj (k:Nat→Nat→Bool):∀ (H:aa) (s d i:Nat),ar (kI k s H) d i=if k (s+d) i then ar H d i else ((ar H d i).1,.dead)
 | [],s,d,i=>by simp[kI,ar]
 | l::r,s,0,i=>by simp[kI,ar,um]
 | l::r,s,d+1,i=>by
   simp only[kI,ar,pj k r (s+1) d i]
   rw[show s+1+d=s+(d+1) by omega]
theorem rQ (k:Nat→Nat→Bool):∀ (H:aa) (s d:Nat),aC (kI k s H) d=aC H d
 | [],_,_=>rfl
 | l::r,s,0=>rfl
 | l::r,s,d+1=>by simp[kI,aC,rQ k r]
theorem rR (k:Nat→Nat→Bool):∀ (H:aa) (s d:Nat),aj (kI k s H) d=aj H d
 | [],_,_=>rfl
 | l::r,s,0=>by simp[kI,aj,oe]
 | l::r,s,d+1=>by simp[kI,aj,rR k r]

def star (t:Touch) (e:aa):aa :=
 match t with
 | .all=>e
 | .none=>kI (fun _ _=>false) 0 e
 | .blk d i=>kI (fun a b=>a == d && b == i) 0 e
theorem xW (t:Touch) (e:aa) (d i:Nat):(je t d i∧ar (star t e) d i=ar e d i)∨(¬ je t d i∧ar (star t e) d i=((ar e d i).1,.dead)):=by
 cases t with
 | all=>exact .inl ⟨trivial,rfl⟩
 | none=>exact .inr ⟨id,by simp[star,pj]⟩
 | blk a b =>
   simp only[star,pj,Nat.zero_add,je]
   by_cases e1:a=d∧b=i
   · obtain ⟨rfl,rfl⟩:=e1;exact .inl ⟨⟨rfl,rfl⟩,by simp⟩
   · refine .inr ⟨e1,if_neg ?_⟩
     simp only[Bool.and_eq_true,beq_iff_eq]
     exact fun x=>e1 ⟨x.1.symm,x.2.symm⟩
theorem uF (t:Touch) (e:aa) (d:Nat):aC (star t e) d=aC e d:=by
 cases t<;>simp[star,rQ]
theorem CN (t:Touch) (e:aa) (d:Nat):aj (star t e) d=aj e d:=by
 cases t<;>simp[star,rR]

structure tA (e H:aa):Prop where
 get:∀ d i,ar e d i=ar H d i∨(ar e d i).2=.dead
 next:∀ d,aj e d=aj H d
theorem tA.live {e H:aa} (h:tA e H) {d i v:Nat} {B:av} (hg:ar e d i=(v,B)) (hB:B≠.dead):ar H d i=(v,B):=by
 rcases h.get d i with h1 | h1
 · rw[← h1];exact hg
 · rw[hg] at h1;exact absurd h1 hB
theorem aU.under {p:aB} {M:Mu} {e H:aa} {w:World} (h:aU p M H w) (u:tA e H):aU p M e w where
 pers:=h.pers
 live:=fun d i v B hg hB=>h.live d i v B (u.live hg hB) hB
 apart:=fun d i v B d' i' v' B' b o t o' t' hg hB hg' hB' hm hm'=>h.apart d i v B d' i' v' B' b o t o' t' (u.live hg hB) hB (u.live hg' hB') hB' hm hm'
 dom:=fun d i v t hm=>by
  have:=h.dom d i v t hm
  rw[u.next]
  refine ⟨this.1,?_⟩
  rcases u.get d i with h1 | h1
  · rw[h1];exact this.2
  · exact fun hne=>absurd h1 hne
theorem dX.under {p:aB} {M:Mu} {e H:aa} {nx:Nat} {v:AV} {δ:Delta} {cv:Value} {w w':World} (h:dX p M e nx v δ cv w w') (u:tA e H) (hl:∀ d,aC e d=aC H d) (hδ:∀ X,δ≠.heap X):dX p M H nx v δ cv w w':=by
 cases δ with
 | a8=>exact h
 | push B=>exact h
 | set d i x =>
   obtain ⟨ver',B'⟩:=x
   obtain ⟨ver,B,b,o,t,b',o',t',hg,hB,hk,rest⟩:=h
   exact ⟨ver,B,b,o,t,b',o',t',u.live hg hB,hB,by rw[← hl];exact hk,rest⟩
 | heap X=>exact absurd rfl (hδ X)

theorem Dh:∀ (l m:List (Nat×av)),l.length=m.length→(∀ i,ao l i=ao m i)→l=m
 | [],[],_,_=>rfl
 | [],_::_,h,_=>by simp at h
 | _::_,[],h,_=>by simp at h
 | a::l,b::m,h,g=>by
   have h0:=g 0
   simp only[ao] at h0
   rw[h0,Dh l m (by simpa using h) (fun i=>g (i+1))]
theorem rB:∀ (H K:aa),H.length=K.length→(∀ d i,ar H d i=ar K d i)→(∀ d,aj H d=aj K d)→(∀ d,aC H d=aC K d)→H=K
 | [],[],_,_,_,_=>rfl
 | [],_::_,h,_,_,_=>by simp at h
 | _::_,[],h,_,_,_=>by simp at h
 | l::r,m::s,h,g,n,k=>by
   have h0:l.bs=m.bs:=Dh _ _ (n 0) (fun i=>g 0 i)
   have h1:l.lock=m.lock:=k 0
   have h2:=rB r s (by simpa using h) (fun d i=>g (d+1) i) (fun d=>n (d+1)) (fun d=>k (d+1))
   cases l;cases m
   simp only at h0 h1
   rw[h0,h1,h2]

def ta (bef:Nat) (recs:List Rec) (d i:Nat):Prop:=∃ r ∈ recs,r.writes=some (d,i)∧bef.testBit r.ix=false
theorem jB (bef:Nat):∀ (recs:List Rec) (H:aa) (d i:Nat),(¬ ta bef recs d i∧ar (cJ H bef recs) d i=ar H d i)∨(ta bef recs d i∧ar (cJ H bef recs) d i=((ar H d i).1,.dead))
 | [],H,d,i=>.inl ⟨(by rintro ⟨r,hr,_⟩;cases hr),rfl⟩
 | r :: l,H,d,i=>by
   simp only[cJ]
   have skip:(∀ x,r.writes=some x→bef.testBit r.ix=true)→(ta bef (r::l) d i↔ta bef l d i):=fun hx=>by
    constructor
    · rintro ⟨q,hq,h1,h2⟩
      rcases List.mem_cons.1 hq with rfl | hq
      · rw[hx _ h1] at h2;cases h2
      · exact ⟨q,hq,h1,h2⟩
    · rintro ⟨q,hq,h1,h2⟩;exact ⟨q,List.mem_cons_of_mem _ hq,h1,h2⟩
   cases hw:r.writes with
   | none =>
     rw[skip (fun x hx=>by rw[hw] at hx;cases hx)]
     exact jB bef l H d i
   | some x =>
     obtain ⟨a,b⟩:=x
     dsimp only
     split
     · rename_i hb
       rw[skip (fun _ _=>hb)]
       exact jB bef l H d i
     · rename_i hb
       have hb:bef.testBit r.ix=false:=by simpa using hb
       have ih:=jB bef l (dH H a b) d i
       rw[dY] at ih
       by_cases e:d=a∧i=b
       · rw[if_pos e] at ih
         have e':=e
         obtain ⟨rfl,rfl⟩:=e'
         refine .inr ⟨⟨r,by simp,hw,hb⟩,?_⟩
         rcases ih with ⟨_,h⟩ | ⟨_,h⟩<;>exact h
       · rw [if_neg e] at ih
         have:ta bef (r::l) d i↔ta bef l d i:=by
          constructor
          · rintro ⟨q,hq,h1,h2⟩
            rcases List.mem_cons.1 hq with rfl | hq
            · rw[hw] at h1;simp only[nP] at h1;exact absurd ⟨h1.1.symm,h1.2.symm⟩ e
            · exact ⟨q,hq,h1,h2⟩
          · rintro ⟨q,hq,h1,h2⟩;exact ⟨q,List.mem_cons_of_mem _ hq,h1,h2⟩
         rw[this]
         exact ih
theorem kd (bef:Nat):∀ (recs:List Rec) (H:aa) (d:Nat),aC (cJ H bef recs) d=aC H d
 | [],_,_=>rfl
 | r :: l,H,d=>by
   simp only[cJ]
   split
   · split
     · exact kd bef l H d
     · rw[kd bef l,iv]
   · exact kd bef l H d
theorem iu (bef:Nat):∀ (recs:List Rec) (H:aa) (d:Nat),aj (cJ H bef recs) d=aj H d
 | [],_,_=>rfl
 | r :: l,H,d=>by
   simp only[cJ]
   split
   · split
     · exact iu bef l H d
     · rw[iu bef l,bS]
   · exact iu bef l H d
theorem mF (bef d i:Nat):∀ (recs:List Rec),iG bef d i recs=true→∀ r ∈ recs,bef.testBit r.ix=true∨¬ je r.reads d i
 | [],_,r,hr=>by cases hr
 | q :: l,h,r,hr=>by
   simp only[iG,Bool.and_eq_true,Bool.or_eq_true] at h
   rcases List.mem_cons.1 hr with rfl | hr
   · refine h.1.imp id fun h1=>?_
     cases hq:r.reads with
     | none=>exact id
     | all=>rw[hq] at h1;simp at h1
     | blk e j =>
       rw[hq] at h1
       simp only[Bool.not_eq_true',Bool.and_eq_false_iff] at h1
       rintro ⟨rfl,rfl⟩
       simp at h1
   · exact mF bef d i l h.2 r hr

theorem tJ (acc:Array Nat) (i:Nat):∀ (l:List Edge) (s:Nat),(l.foldl (fun s e=>if Region.binds .any e then s ||| 2 ^ e.on ||| acc.getD e.on 0 else s) s).testBit i=true ↔
 s.testBit i=true∨∃ e ∈ l,Region.binds .any e=true∧(i=e.on∨(acc.getD e.on 0).testBit i=true)
 | [],s=>by simp
 | e :: l, s=>by
   rw[List.foldl_cons,tJ acc i l]
   by_cases hb:Region.binds .any e=true
   · rw[if_pos hb]
     simp only[Nat.testBit_or,Bool.or_eq_true,Nat.testBit_two_pow,decide_eq_true_eq]
     constructor
     · rintro (((h | h) | h) | ⟨x,hx,h⟩)
       · exact .inl h
       · exact .inr ⟨e,by simp,hb,.inl h.symm⟩
       · exact .inr ⟨e,by simp,hb,.inr h⟩
       · exact .inr ⟨x,by simp[hx],h⟩
     · rintro (h | ⟨x,hx,h1,h2⟩)
       · exact .inl (.inl (.inl h))
       · rcases List.mem_cons.1 hx with rfl | hx
         · rcases h2 with h2 | h2
           · exact .inl (.inl (.inr h2.symm))
           · exact .inl (.inr h2)
         · exact .inr ⟨x,hx,h1,h2⟩
   · rw[if_neg hb]
     constructor
     · rintro (h | ⟨x,hx,h⟩)
       · exact .inl h
       · exact .inr ⟨x,by simp[hx],h⟩
     · rintro (h | ⟨x,hx,h1,h2⟩)
       · exact .inl h
       · rcases List.mem_cons.1 hx with rfl | hx
         · exact absurd h1 hb
         · exact .inr ⟨x,hx,h1,h2⟩

theorem pB:∀ (l:List Oper) (acc:Array Nat),∃ R:Array Nat,l.foldl (fun acc o=>acc.push (o.after.foldl (fun s e=>if Region.binds .any e then s ||| 2 ^ e.on ||| acc.getD e.on 0 else s) 0)) acc=R ∧
 R.size=acc.size+l.length∧(∀ j,j<acc.size→R.getD j 0=acc.getD j 0) ∧
 ∀ j o,l[j]?=some o→∀ i,(R.getD (acc.size+j) 0).testBit i=true↔∃ e ∈ o.after,Region.binds .any e=true∧(i=e.on∨(e.on<acc.size+j∧(R.getD e.on 0).testBit i=true))
 | [],acc=>⟨acc,rfl,by simp,fun _ _=>rfl,fun j o h=>by simp at h⟩
 | o :: l,acc=>by
   obtain ⟨R,h1,h2,h3,h4⟩:=pB l (acc.push (o.after.foldl (fun s e=>if Region.binds .any e then s ||| 2 ^ e.on ||| acc.getD e.on 0 else s) 0))
   have hlow:∀ j,j<acc.size→R.getD j 0=acc.getD j 0:=fun j hj=>by
    rw[h3 j (by simp;omega)]
    simp only[Array.getD_eq_getD_getElem?]
    rw[Array.getElem?_push_lt hj,Array.getElem?_eq_getElem hj]
   refine ⟨R,by rw[List.foldl_cons];exact h1,by rw[h2];simp;omega,hlow,fun j o' hj i=>?_⟩
   cases j with
   | zero =>
     simp only[List.getElem?_cons_zero,Option.some.injEq] at hj
     subst hj
     rw[Nat.add_zero,h3 _ (by simp)]
     have:(acc.push (o.after.foldl (fun s e=>if Region.binds .any e then s ||| 2 ^ e.on ||| acc.getD e.on 0 else s) 0)).getD acc.size 0=o.after.foldl (fun s e=>if Region.binds .any e then s ||| 2 ^ e.on ||| acc.getD e.on 0 else s) 0:=by
      simp[Array.getD_eq_getD_getElem?]
     rw[this,← Array.foldl_toList,tJ]
     simp only[Nat.zero_testBit,Bool.false_eq_true,false_or,Array.mem_toList_iff]
     constructor
     · rintro ⟨e,he,hb,h⟩
       refine ⟨e,he,hb,h.imp id fun h=>?_⟩
       have hlt:e.on<acc.size:=by
        refine Nat.lt_of_not_le fun hle=>?_
        rw[Array.getD_eq_getD_getElem?,Array.getElem?_eq_none hle] at h
        simp at h
       exact ⟨hlt,by rw[hlow _ hlt];exact h⟩
     · rintro ⟨e,he,hb,h⟩
       refine ⟨e,he,hb,h.imp id fun h=>?_⟩
       rw[← hlow _ h.1];exact h.2
   | succ j =>
     simp only[List.getElem?_cons_succ] at hj
     have:=h4 j o' hj i
     simp only[Array.size_push] at this
     rw[show acc.size+(j+1)=acc.size+1+j by omega]
     exact this

theorem qP {ops:Array Oper} {j:Nat} {o:Oper} (ho:ops[j]?=some o) (i:Nat):((Region.before ops).getD j 0).testBit i=true ↔
 ∃ e ∈ o.after,Region.binds .any e=true∧(i=e.on∨(e.on<j∧((Region.before ops).getD e.on 0).testBit i=true)):=by
 obtain ⟨R,h1,h2,h3,h4⟩:=pB ops.toList #[]
 have hR:Region.before ops=R:=by rw[← h1];unfold Region.before;rw[← Array.foldl_toList]
 rw[hR]
 have:=h4 j o (by simpa using ho) i
 simpa using this

end Go.Eng
end
section
namespace Go.Eng

abbrev fg:Nat→Bool:=fun _=>true
def j9 (nt:Nat) (ops:Array Oper) (T:Nat→sL) (dy:az) (S:Nat→Bool):Nat→az
 | 0=>dy
 | k+1=>if S k then gF nt (j9 nt ops T dy S k) ((ops[k]?).bind (·.dst)) (T k).v else j9 nt ops T dy S k
def hS (T:Nat→sL) (H0:aa) (S:Nat→Bool):Nat→aa
 | 0=>H0
 | k+1=>if S k then qj (hS T H0 S k) (T k).wr else hS T H0 S k
def b9 (ops:Array Oper) (k:Nat):Bool:=((ops[k]?).map fz).getD false
def jT (ops:Array Oper) (n0:Nat):Nat→Nat
 | 0=>n0
 | k+1=>if b9 ops k then jT ops n0 k+1 else jT ops n0 k
def ew (T:Nat→sL):Nat→List Rec
 | 0=>[]
 | k+1=>⟨k,(T k).rd,(T k).wr.map fun x=>(x.1,x.2.1)⟩::ew T k
theorem ot (T:Nat→sL):∀ (k:Nat) (r:Rec),r ∈ ew T k↔∃ j,j<k∧r=⟨j,(T j).rd,(T j).wr.map fun x=>(x.1,x.2.1)⟩
 | 0,r=>by simp[ew]
 | k + 1,r=>by
   simp only[ew,List.mem_cons,ot T k r]
   constructor
   · rintro (rfl | ⟨j,hj,rfl⟩)
     · exact ⟨k,by omega,rfl⟩
     · exact ⟨j,by omega,rfl⟩
   · rintro ⟨j,hj,rfl⟩
     by_cases e:j=k
     · subst e;exact .inl rfl
     · exact .inr ⟨j,by omega,rfl⟩

theorem l7 {nt:Nat} {ops:Array Oper} {T T':Nat→sL} {dy:az} {S S':Nat→Bool}:∀ (n:Nat),(∀ k,k<n→T k=T' k∧S k=S' k)→j9 nt ops T dy S n=j9 nt ops T' dy S' n
 | 0,_=>rfl
 | n+1,h=>by simp only[j9];rw[(h n (by omega)).1,(h n (by omega)).2,l7 n (fun k hk=>h k (by omega))]
theorem nT {T T':Nat→sL} {H0:aa} {S S':Nat→Bool}:∀ (n:Nat),(∀ k,k<n→T k=T' k∧S k=S' k)→hS T H0 S n=hS T' H0 S' n
 | 0,_=>rfl
 | n+1,h=>by simp only[hS];rw[(h n (by omega)).1,(h n (by omega)).2,nT n (fun k hk=>h k (by omega))]
theorem nf {T T':Nat→sL}:∀ (n:Nat),(∀ k,k<n→T k=T' k)→ew T n=ew T' n
 | 0,_=>rfl
 | n+1,h=>by simp only[ew];rw[h n (by omega),nf n (fun k hk=>h k (by omega))]

def Fact (P:Program) (nt:Nat) (call:aA) (ops:Array Oper) (befs:Array Nat) (dy:az) (H0:aa) (n0:Nat) (T:Nat→sL):Prop :=
 ∀ k o,ops[k]?=some o→dQ P call ops (befs.getD k 0) (j9 nt ops T dy fg k) (hS T H0 fg k) (jT ops n0 k) (ew T k) o=some (T k)

theorem trace {P:Program} {nt:Nat} {call:aA} {ops:Array Oper} {befs:Array Nat} {dy:az} {H0:aa} {n0:Nat} {fr':az} {H':aa}:∀ (l:List Oper) (j:Nat) (T:Nat→sL),ops.toList.drop j=l→j≤ops.size →
 eG P nt call ops befs j l (j9 nt ops T dy fg j) (hS T H0 fg j) (jT ops n0 j) (ew T j)=some (fr',H') →
 ∃ T',(∀ k,k<j→T' k=T k)∧(∀ k o,j≤k→ops[k]?=some o→dQ P call ops (befs.getD k 0) (j9 nt ops T' dy fg k) (hS T' H0 fg k) (jT ops n0 k) (ew T' k) o=some (T' k)) ∧
  j9 nt ops T' dy fg ops.size=fr'∧hS T' H0 fg ops.size=H'
 | [],j,T,hl,hj,h=>by
   have:ops.size≤j:=by simpa using hl
   obtain rfl:j=ops.size:=by omega
   simp only[eG,Option.some.injEq,Prod.mk.injEq] at h
   exact ⟨T,fun _ _=>rfl,fun k o hk ho=>by have:=(Array.getElem?_eq_some_iff.1 ho).1;omega,h.1,h.2⟩
 | o :: l,j,T,hl,hj,h=>by
   have ho:ops[j]?=some o:=by
    have:(ops.toList.drop j)[0]?=some o:=by rw[hl];rfl
    simpa using this
   have hlt:j<ops.size:=(Array.getElem?_eq_some_iff.1 ho).1
   simp only[eG] at h
   cases he:dQ P call ops (befs.getD j 0) (j9 nt ops T dy fg j) (hS T H0 fg j) (jT ops n0 j) (ew T j) o with
   | none=>rw[he] at h;simp at h
   | some e =>
     rw[he] at h
     dsimp only at h
     let T1:Nat→sL:=fun i=>if i=j then e else T i
     have e1:T1 j=e:=if_pos rfl
     have eb:∀ k,k<j→T1 k=T k:=fun k hk=>if_neg (by omega)
     have f1:j9 nt ops T1 dy fg (j+1)=gF nt (j9 nt ops T dy fg j) o.dst e.v:=by
      simp only[j9,ho,Option.bind_some,e1,if_true]
      rw[l7 j (fun k hk=>⟨eb k hk,rfl⟩)]
     have f2:hS T1 H0 fg (j+1)=qj (hS T H0 fg j) e.wr:=by
      simp only[hS,e1,if_true]
      rw[nT j (fun k hk=>⟨eb k hk,rfl⟩)]
     have f3:jT ops n0 (j+1)=if fz o then jT ops n0 j+1 else jT ops n0 j:=by
      simp only[jT,b9,ho,Option.map_some,Option.getD_some]
     have f4:ew T1 (j+1)=⟨j,e.rd,e.wr.map fun x=>(x.1,x.2.1)⟩::ew T j:=by
      simp only[ew,e1]
      rw[nf j eb]
     rw[← f1,← f2,← f3,← f4] at h
     obtain ⟨T',g1,g2,g3,g4⟩:=trace l (j+1) T1 (by rw[← List.tail_drop,hl];rfl) hlt h
     have gj:∀ k,k<j→T' k=T k:=fun k hk=>(g1 k (by omega)).trans (eb k hk)
     refine ⟨T',gj,fun k o' hk ho'=>?_,g3,g4⟩
     by_cases hkj:k=j
     · subst hkj
       rw[ho] at ho'
       obtain rfl:=Option.some.inj ho'
       rw[l7 k (fun i hi=>⟨gj i hi,rfl⟩),nT k (fun i hi=>⟨gj i hi,rfl⟩),nf k gj,he,g1 k (by omega),e1]
     · exact g2 k o' (by omega) ho'

theorem JR {P:Program} {nt:Nat} {call:aA} {ops:Array Oper} {befs:Array Nat} {dy:az} {H0:aa} {n0:Nat} {fr':az} {H':aa} (h:eG P nt call ops befs 0 ops.toList dy H0 n0 []=some (fr',H')) :
 ∃ T,Fact P nt call ops befs dy H0 n0 T∧j9 nt ops T dy fg ops.size=fr'∧hS T H0 fg ops.size=H':=by
 obtain ⟨T,_,h2,h3,h4⟩:=trace ops.toList 0 (fun _=>⟨.undef,.none,none⟩) rfl (Nat.zero_le _) h
 exact ⟨T,fun k o ho=>h2 k o (Nat.zero_le _) ho,h3,h4⟩

theorem r6       (ops:Array Oper) (n0:Nat):∀ (m k:Nat),k≤m→jT ops n0 k≤jT ops n0 m
 | 0,k,h=>by     obtain rfl:k=0:=by omega
                 exact Nat.le_refl _
 | m + 1,k,h=>by
   by_cases e:k=m+1
   · subst e;exact Nat.le_refl _
   · have:=r6 ops n0 m k (by omega)
     simp only[jT]
     split<;>omega
theorem zN {ops:Array Oper} {n0 k m:Nat} (h:k<m) (hp:b9 ops k=true):jT ops n0 k<jT ops n0 m:=by
 have:=r6 ops n0 m (k+1) h
 simp only[jT,hp,if_true] at this
 omega
theorem Jk (ops:Array Oper) (n0 k:Nat):n0≤jT ops n0 k:=r6 ops n0 k 0 (Nat.zero_le _)
theorem Bj (ops:Array Oper) (n0:Nat):∀ (k:Nat),k≤ops.size→jT ops n0 k+cg (ops.toList.drop k)=n0+cg ops.toList
 | 0,_=>rfl
 | k+1,h=>by
   have ih:=Bj ops n0 k (by omega)
   have hk:k<ops.size:=by omega
   have e:ops.toList.drop k=ops[k]::ops.toList.drop (k+1):=by rw[List.drop_eq_getElem_cons (by simpa using hk)];simp
   rw[e] at ih
   simp only[cg] at ih
   have e2:b9 ops k=fz ops[k]:=by simp[b9,Array.getElem?_eq_getElem hk]
   simp only[jT,e2]
   split at ih<;>split<;>rename_i a b<;>first | (simp[a] at b;done) | omega
theorem Bk {ops:Array Oper} {n0 k:Nat} (hk:b9 ops k=true):jT ops n0 k<n0+cg ops.toList:=by
 have hlt:k<ops.size:=by
  refine Nat.lt_of_not_le fun h=>?_
  simp[b9,Array.getElem?_eq_none h] at hk
 have h1:=zN (n0:=n0) (Nat.lt_succ_self k) hk
 have h2:=Bj ops n0 (k+1) hlt
 have h3:jT ops n0 (k+1)≤n0+cg ops.toList:=by omega
 exact Nat.lt_of_lt_of_le h1 h3

theorem uy (H:aa) (x:Option (Nat×Nat×(Nat×av))) (d:Nat):aj (qj H x) d=aj H d:=by
 cases x with
 | none=>rfl
 | some x=>exact bZ _ _ _ _ _
theorem ux (H:aa) (x:Option (Nat×Nat×(Nat×av))) (d:Nat):aC (qj H x) d=aC H d:=by
 cases x with
 | none=>rfl
 | some x=>exact eW _ _ _ _ _
theorem xG (H:aa) (x:Option (Nat×Nat×(Nat×av))):(qj H x).length=H.length:=by
 cases x with
 | none=>rfl
 | some x=>exact ll _ _ _ _
theorem fY (T:Nat→sL) (H0:aa) (S:Nat→Bool) (d:Nat):∀ k,aj (hS T H0 S k) d=aj H0 d
 | 0=>rfl
 | k+1=>by
   simp only[hS]
   split
   · rw[uy,fY T H0 S d k]
   · exact fY T H0 S d k
theorem iX (T:Nat→sL) (H0:aa) (S:Nat→Bool) (d:Nat):∀ k,aC (hS T H0 S k) d=aC H0 d
 | 0=>rfl
 | k+1=>by
   simp only[hS]
   split
   · rw[ux,iX T H0 S d k]
   · exact iX T H0 S d k
theorem oZ (T:Nat→sL) (H0:aa) (S:Nat→Bool):∀ k,(hS T H0 S k).length=H0.length
 | 0=>rfl
 | k+1=>by
   simp only[hS]
   split
   · rw[xG,oZ T H0 S k]
   · exact oZ T H0 S k

def kE (T:Nat→sL) (k d i:Nat):Option (Nat×av) :=
 match (T k).wr with
 | some (d',i',b)=>if d=d'∧i=i' then some b else none
 | none=>none
theorem jQ {T:Nat→sL} {k d i:Nat} {b:Nat×av}:kE T k d i=some b↔(T k).wr=some (d,i,b):=by
 unfold kE
 cases h:(T k).wr with
 | none=>simp
 | some x =>
   obtain ⟨d',i',b'⟩:=x
   simp only[nP]
   constructor
   · intro h1
     split at h1
     · rename_i e;simp only[Option.some.injEq] at h1;exact ⟨e.1.symm,e.2.symm,h1⟩
     · cases h1
   · rintro ⟨rfl,rfl,rfl⟩;simp

end Go.Eng
end
