/- The engine, part O: rounds of loops over functions. -/
import Derived.Test.YtgphpjdchnfjlaaDoorV6EngKx4
import Derived.RangeFuncIn
set_option linter.unusedVariables false
set_option linter.unusedSimpArgs false
section
namespace Go.Eng

theorem ct.PG {p:aG} {M:Mu} {H:ab} {w:World} (h:bn p M H w) (hne:H≠[]) {d i b o t:Nat} {l l':jY} {r r':Loop} (hg:az H d i=(0,.loop l)) (hm:M d i 0=some (b,o,t)) (hl:aK H d=false) (hr:w.heap[b]?=some (.loop r))
 (hrel:fI p (M.up d) (.loop l') b o t (w.putObj b (.loop r'))):∃ p' M',ct p M H w p' M' (dG H d i (0,.loop l')) (w.putObj b (.loop r')):=by
 have hd:eM p M H (aW H) .undef (.set d i (0,.loop l')) Go.undef w (w.putObj b (.loop r')) :=
  ⟨0,.loop l,b,o,t,b,o,t,hg,by simp,hl,hm,by simp,hrel,⟨rfl,rfl,rfl,by rw[World.putObj_size];exact Nat.le_refl _,fun y _ hy=>World.putObj_heap_other hy⟩,.inl rfl,.undef _,.inl ⟨rfl,rfl,rfl,rfl⟩⟩
 obtain ⟨p',M',e1,_⟩:=rf hne h hd
 exact ⟨p',M',e1⟩

theorem sl:∀ (fr:aC) (k x:Nat),bH (kD k fr) x=mH k (bH fr x)
 | [],k,x=>by cases k<;>rfl
 | (y,v)::r,k,x=>by
   simp only[kD,bH,sl r k x];split<;>rfl
theorem EF {p:aG} {M:Mu} {nt k:Nat} {fr:aC} {a:Act} (h:bR p (M.up k) nt fr a):bR p M nt (kD k fr) a :=
 ⟨h.size,fun x=>by rw[sl];exact (h.at_ x).up⟩

theorem vH {p:aG} {M:Mu} {nt:Nat}:∀ (ts:List Tmp) (vs:List AV) (cs:List Value) (fr fr':aC) (a:Act),jD nt fr ts vs=some fr'→bR p M nt fr a→cs.length=vs.length→(∀ j,j<vs.length→al p M (vs.getD j .undef) (cs.getD j Go.undef)) →
 cs.length=ts.length∧bR p M nt fr' { tmps:=(ts.zip cs).foldl (fun tmps (t,c)=>tmps.setIfInBounds t c) a.tmps,defers:=a.defers }
 | [],[],cs,fr,fr',a,h,hF,hl,_=>by
   simp only[jD,Option.some.injEq] at h;subst h;have:cs=[]:=List.length_eq_zero_iff.1 (by simpa using hl);subst this;exact ⟨rfl,⟨hF.size,hF.at_⟩⟩
 | t::ts,[],cs,fr,fr',a,h,_,_,_=>by simp[jD] at h
 | [],v::vs,cs,fr,fr',a,h,_,_,_=>by simp[jD] at h
 | t :: ts,v::vs,cs,fr,fr',a,h,hF,hl,hv=>by
   simp only[jD] at h;split at h
   · rename_i hlt;cases cs with
     | nil=>simp at hl
     | cons c cs =>
       have h0:=hF.put (some t) (v:=v) (c:=c) (by simpa using hv 0 (by simp));simp only[iF,hlt,if_true,Act.put] at h0;have:=vH ts vs cs _ fr' _ h h0 (by simpa using hl) (fun j hj=>by have:=hv (j+1) (by simpa using hj);simpa using this);exact ⟨by simp[this.1],this.2⟩
   · simp at h

def DH (P:Program) (b:Nat) (R:Ending→World→Prop) (j:Option Code) (w:World):Prop:=∃ v w',(Instr.endRound b j).run P w=.ok v w'∧R (.returned v) w'
theorem xc {P:Program} {b:Nat} {R:Ending→World→Prop} {e:Ex} {a:Act} {w:World} (h:DH P b R (cD e) w):roundPost P b R (Nk e) a w:=by
 cases e<;>exact h

theorem tK {P:Program} (hN:dI P) {call:aJ} (hC:bW P call) (hX:∀ (cx:Cx) (F:Fence),cx.P=P→cx.call=call→dK F→iQ cx F) {fu:Nat} {kt:Nat→Nat} {d i:Nat} {args:List AV} {H:ab} {l l1 l2:jY} {fr fr1 fr2:aC} {H1 H2:ab} {lv:bG} {e:Ex}
 (hg:az H d i=(0,.loop l)) (hl:aK H d=false) (hs:l.state=.ready) (hp:jD l.nt (kD (d+1) l.fr) l.params (args.map (mH 1))=some fr)
 (he1:exec ⟨P,call,fu,l.fn,l.nt,kt,some (d+1,i)⟩ l.assign fr (⟨false,[]⟩::H)=some (.normal,fr1,H1)) (hg1:az H1 (d+1) i=(0,.loop l1)) (hs1:l1.state=.ready)
 (he2:∀ b:Nat,dQ P (Fence.wide.inRound b) (some (d+1,i)) l.nt l.body fr1 (dG H1 (d+1) i (0,.loop { l1 with state:=.busy })) e fr2 (lv::H2)) (hg2:az H2 d i=(0,.loop l2))
 {p:aG} {M:Mu} {w:World} {cargs:Array Value} (hH:bn p M H w) (hA:eK p M args cargs) {b o t:Nat} (hm:M d i 0=some (b,o,t)) :
 ∃ f tmps assign body,(Instr.yield b cargs).run P w=.ok (.round b f tmps assign body) w ∧
  RoundIn Fence.wide 0 P b f tmps assign body w (eW p M H w (.bool (cD e).isNone) (dG H2 d i (0,.loop { l2 with state:=if (cD e).isNone then .ready else .done,pending:=cD e }))):=by
 have record:∀ {p:aG} {M:Mu} {H:ab} {w:World} {d i:Nat} {l:jY} {b o t:Nat},bn p M H w→az H d i=(0,.loop l)→M d i 0=some (b,o,t)→fI p (M.up d) (.loop l) b o t w:=by
  intro p M H w d i l b o t hH hg hm;obtain ⟨b',o',t',k1,k2,_⟩:=hH.live d i 0 _ hg (by simp);rw[hm] at k1;simp only[nP] at k1;obtain ⟨rfl,rfl,rfl⟩:=k1;exact k2
 obtain ⟨r,q1,q2,q3,q4,q5,q6,q7⟩:=record hH hg hm
 have hF0:bR p (dv M) l.nt (kD (d+1) l.fr) ⟨r.tmps,[]⟩:=EF (k:=d+1) (M:=dv M) q7
 obtain ⟨z1,z2⟩:=vH l.params (args.map (mH 1)) cargs.toList _ fr _ hp hF0 (by simp[hA.1]) (fun j hj=>by
  have hj':j<args.length:=by simpa using hj
  rw[bS _ _ _ hj'];have:=al.up (M:=dv M) (k:=1) (hA.2 j hj');simpa using this)
 have hpar:r.params=l.params.toArray:=by rw[← q4]
 have hsz:cargs.size=r.params.size:=by rw[hpar];simpa using z1
 refine ⟨_,_,_,_,run_yield q1 hsz,roundIn_of_wpIn trivial ?_⟩
 have htm:(r.params.zip cargs).foldl (fun tmps (t,a)=>tmps.setIfInBounds t a) r.tmps=(l.params.zip cargs.toList).foldl (fun tmps (t,c)=>tmps.setIfInBounds t c) r.tmps:=by
  rw[hpar,← Array.foldl_toList];simp
 rw[htm,q5,q6]
 have hW:=dK.inRound b
 have x1:=cW (cx:=⟨P,call,fu,l.fn,l.nt,kt,some (d+1,i)⟩) hW hN hC (hX _ _ rfl rfl hW) _ _ _ _ _ _ he1
 have hR:uv (Fence.wide.inRound b) (some (d+1,i)) (dv M):=⟨b,o,t,rfl,hm⟩
 refine x1 w.heap.size p (dv M) _ w _ z2 hH.down (by simp) hR (Marks.nil _ _ _) (fun a1 w1 ⟨p1,M1,k1,k2,k3⟩=>?_)
 have hm1:M1 (d+1) i 0=some (b,o,t):=k1.mu _ _ _ _ hm
 obtain ⟨r1,u1,u2,u3,u4,u5,u6,u7⟩:=record k1.rel hg1 hm1
 have hl1:aK H1 (d+1)=false:=by rw[k1.lock];exact hl
 have hlt:∀ {w:World} {b:Nat} {x:Obj},w.heap[b]?=some x→b<w.heap.size:=fun e=>(Array.getElem?_eq_some_iff.1 e).1
 obtain ⟨p2,M2,t1⟩:=ct.PG (l':={ l1 with state:=.busy }) (r':={ r1 with state:=.busy }) k1.rel (k1.ne (by simp)) hg1 hm1 hl1 u1 ⟨_,World.putObj_heap_same (hlt u1),rfl,u3,u4,u5,u6,u7⟩
 refine ⟨_,run_beginRound u1 (by rw[u2];exact hs1),?_⟩
 have x2:=he2 b
 have Oj:=k1.trans t1
 refine x2 w.heap.size p2 M2 a1 _ _ (k2.mono t1.pst t1.mu) t1.rel (Oj.ne (by simp)) (hR.mono Oj.mu) (k3.xx t1) (fun a3 w3 ⟨p3,M3,v1,_,_⟩=>xc ?_)
 have kk:=Oj.trans v1
 have hm3:(M3.up 1) d i 0=some (b,o,t):=kk.mu (d+1) i 0 _ hm
 have kp:=kk.pop
 obtain ⟨r3,y1,y2,y3,y4,y5,y6,y7⟩:=record kp.rel hg2 hm3
 have hne:H≠[]:=by intro e0;rw[e0] at hg;simp[az] at hg
 have hl3:aK H2 d=false:=by rw[kp.lock];exact hl
 obtain ⟨p4,M4,t4⟩:=ct.PG (l':={ l2 with state:=if (cD e).isNone then .ready else .done,pending:=cD e }) (r':={ r3 with state:=if (cD e).isNone then .ready else .done,pending:=cD e }) kp.rel (kp.ne hne) hg2 hm3 hl3 y1
  ⟨_,World.putObj_heap_same (hlt y1),rfl,rfl,y4,y5,y6,y7⟩
 have st:Still H (dG H2 d i (0,.loop { l2 with state:=if (cD e).isNone then .ready else .done,pending:=cD e })):=⟨fun d1 i1 hk9=>by
  rw[dV,if_neg (by rintro ⟨e9,_,_⟩;rw[e9,hl] at hk9;simp at hk9)];exact kk.same (d1+1) i1 wO hk9,fun d1 hk9=>by
  rw[cE];exact kk.next (d1+1) wO hk9⟩
 exact ⟨_,_,run_endRound _ y1,_,rfl,st,p4,M4,kp.trans t4,.bool _⟩
theorem Et {P:Program} (hN:dI P) {call:aJ} (hC:bW P call) (hX:∀ (cx:Cx) (F:Fence),cx.P=P→cx.call=call→dK F→iQ cx F) {fu:Nat} {kt:Nat→Nat} {d i:Nat} {args:List AV} {H:ab} {l l1 l2:jY} {fr fr1 fr2:aC} {H1 H2:ab} {lv:bG} {e:Ex}
 (hg:az H d i=(0,.loop l)) (hl:aK H d=false) (hs:l.state=.ready) (hp:jD l.nt (kD (d+1) l.fr) l.params (args.map (mH 1))=some fr)
 (he1:exec ⟨P,call,fu,l.fn,l.nt,kt,some (d+1,i)⟩ l.assign fr (⟨false,[]⟩::H)=some (.normal,fr1,H1)) (hg1:az H1 (d+1) i=(0,.loop l1)) (hs1:l1.state=.ready)
 (he2:exec ⟨P,call,fu,l.fn,l.nt,kt,some (d+1,i)⟩ l.body fr1 (dG H1 (d+1) i (0,.loop { l1 with state:=.busy }))=some (e,fr2,lv::H2)) (hg2:az H2 d i=(0,.loop l2))
 {p:aG} {M:Mu} {w:World} {cargs:Array Value} (hH:bn p M H w) (hA:eK p M args cargs) {b o t:Nat} (hm:M d i 0=some (b,o,t)) :
 ∃ f tmps assign body,(Instr.yield b cargs).run P w=.ok (.round b f tmps assign body) w ∧
  RoundIn Fence.wide 0 P b f tmps assign body w (eW p M H w (.bool (cD e).isNone) (dG H2 d i (0,.loop { l2 with state:=if (cD e).isNone then .ready else .done,pending:=cD e }))) :=
 tK hN hC hX hg hl hs hp he1 hg1 hs1 (fun b=>cW (cx:=⟨P,call,fu,l.fn,l.nt,kt,some (d+1,i)⟩) (dK.inRound b) hN hC (hX _ _ rfl rfl (dK.inRound b)) _ _ _ _ _ _ he2) hg2 hH hA hm

end Go.Eng
end
section
namespace Go.Eng

def gl (P:Program):Prop:=∀ (cx:Cx) (F:Fence),cx.P=P→bW P cx.call→dK F→∀ (id:Nat) (ops:Array Oper) (fr:aC) (H:ab) (fr':aC) (H':ab),gd ops (Region.before ops)=true →
 gE cx.P cx.nt cx.call ops (Region.before ops) 0 ops.toList fr (nF H (c8 ops.toList)) (aW H) []=some (fr',H')→dQ cx.P F cx.ro cx.nt (.region id ops true) fr H .normal fr' H'

def rQ (P:Program) (ora:aJ→FuncId→List AV→ab→Option (AV×ab)):Prop:=∀ (call:aJ),bW P call→∀ (f:FuncId) (args:List AV) (H:ab) (v:AV) (H':ab),ora call f args H=some (v,H')→H≠[]→∀ (p:aG) (M:Mu) (w:World) (cargs:Array Value),bn p M H w→eK p M args cargs →
 (∃ fn,P.funcs[f]?=some fn∧fn.body.isNone=false)∧CallsIn Fence.wide 0 P f cargs w (eW p M H w v H')
theorem more {P:Program} (hN:dI P) (hD:gl P) {call:aJ} (hC:bW P call) (cx:Cx) (F:Fence) (h1:cx.P=P) (h2:cx.call=call) (hW:dK F):iQ cx F:=by
 subst h1;subst h2;exact ⟨fun id ops fr H fr' H' hs hr=>hD cx F rfl hC hW id ops fr H fr' H' hs hr,fun f ps assign body fr H e fr' H' h=>Ep hW hN hC f ps assign body fr H e fr' H' h⟩

theorem mM {P        : Program} (hN:dI P) (hD:gl P) {ora:aJ→FuncId→List AV→ab→Option (AV×ab)} (hO:rQ P ora) (KT:FuncId→Nat→Nat) (fu:Nat):∀ n,bW P (dh P ora KT fu n)
 | 0=>fun tgt args H v H' h _ _ _ _ _ _ _=>by cases tgt<;>first | trivial | simp[dh] at h
 | n + 1 => by
   have ih:=mM hN hD hO KT fu n;intro tgt args H v H' h hne p M w cargs hH hA;cases tgt with
   | fn f =>
     simp only[dh] at h;cases ho:ora (dh P ora KT fu n) f args H with
     | some u =>
       rw[ho] at h;dsimp only at h;rw[Option.some.injEq] at h;subst h;exact hO _ ih f args H v H' ho hne p M w cargs hH hA
     | none =>
       rw[ho] at h;simp only at h;cases hf:P.funcs[f]? with
       | none=>rw[hf] at h;simp at h
       | some fn =>
         rw[hf] at h;simp only at h;cases hb:fn.body with
         | none=>rw[hb] at h;simp at h
         | some c =>
           rw[hb] at h;simp only at h;split at h
           · rename_i hle;split at h
             · rename_i e fr l H1 he;split at h
               · cases hv:ir P fr (l::H1) fn.results.toList with
                 | none=>rw[hv] at h;simp at h
                 | some vs =>
                   rw[hv] at h;simp only[nP] at h;obtain ⟨rfl,rfl⟩:=h;exact ⟨⟨fn,hf,by rw[hb];rfl⟩,ss hf hb (by simpa using hle) (.inl rfl) hv (cW dK.wide hN ih (more hN hD ih _ _ rfl rfl dK.wide) _ _ _ _ _ _ he) hH hA⟩
               · cases hv:ir P fr (l::H1) fn.results.toList with
                 | none=>rw[hv] at h;simp at h
                 | some vs =>
                   rw[hv] at h;simp only[nP] at h;obtain ⟨rfl,rfl⟩:=h;exact ⟨⟨fn,hf,by rw[hb];rfl⟩,ss hf hb (by simpa using hle) (.inr rfl) hv (cW dK.wide hN ih (more hN hD ih _ _ rfl rfl dK.wide) _ _ _ _ _ _ he) hH hA⟩
               · simp at h
             · simp at h
           · simp at h
   | mode=>trivial
   | round d i =>
     intro b o t hm;simp only[dh] at h;split at h
     · rename_i l hg;split at h
       · simp at h
       · rename_i hl;split at h
         · rename_i hs;split at h
           · rename_i fr hp;split at h
             · rename_i fr1 H1 he1;split at h
               · rename_i l1 hg1;split at h
                 · rename_i hs1;split at h
                   · rename_i e fr2 lv H2 he2;split at h
                     · rename_i l2 hg2;simp only[nP] at h;obtain ⟨rfl,rfl⟩:=h;exact Et hN ih (fun cx F h1 h2 hW=>more hN hD ih cx F h1 h2 hW) hg (by simpa using hl) hs hp he1 hg1 hs1 he2 hg2 hH hA hm
                     · simp at h
                   · simp at h
                 · simp at h
               · simp at h
             · simp at h
           · simp at h
         · simp at h
     · simp at h

end Go.Eng
end
section
namespace Go.Eng

theorem dB.below {w w':World} (h:dB (fun _=>True) w w'):Go.RowKit.Below w.heap.size w w':=⟨h.os,h.tape,h.output,h.size,fun k hk=>h.block k hk trivial⟩

end Go.Eng
end
section
namespace Go.Eng

theorem je {fr fr':aC}:∀ {l:List Operand},(∀ x ∈ l,bU fr x=bU fr' x)→lj fr l=lj fr' l
 | [],_=>rfl
 | x::l,h=>by simp only[lj];rw[h x (by simp),je (fun y hy=>h y (by simp[hy]))]
theorem kY {fr fr':aC}:∀ {l:List (Nat×Operand)},(∀ x ∈ l,bU fr x.2=bU fr' x.2)→dS fr l=dS fr' l
 | [],_=>rfl
 | (i,x)::l,h=>by
   simp only[dS];have:=h (i,x) (by simp);simp only at this;rw[this,kY (fun y hy=>h y (by simp[hy]))]

theorem xH {P:Program} {call:aJ} {fr fr':aC} {H:ab} {nx:Nat} {c:Call} (h:∀ x ∈ c.operands.toList,bU fr x=bU fr' x):gN P call fr H nx c=gN P call fr' H nx c:=by
 have hargs:∀ x ∈ c.args.toList,bU fr x=bU fr' x:=fun x hx=>h x (by unfold Call.operands;rw[Array.toList_append];exact List.mem_append_right _ hx);unfold gN;cases hc:c.callee with
 | value f =>
   have hf:bU fr f=bU fr' f:=h f (by unfold Call.operands;rw[hc];simp);dsimp only;rw[hf,je hargs]
 | invoke r m=>rfl
 | builtin b =>
   cases b<;>dsimp only<;>try rfl
   all_goals first
    | (rw[je hargs];done)
    | (generalize c.args.toList=l at hargs
       generalize c.argTypes.toList=ts
       rcases ts with _ | ⟨t,_ | ⟨u,ts⟩⟩<;>rcases l with _ | ⟨x,_ | ⟨y,l⟩⟩<;>dsimp only <;>
        first
        | rfl
        | (rw[hargs x (by simp),hargs y (by simp)])
        | (rw[hargs x (by simp)]))

theorem oJ {P:Program} {call:aJ} {fr fr':aC} {H:ab} {nx:Nat} {o:Oper} (h:∀ x ∈ o.op.operands.toList,bU fr x=bU fr' x):evalOp P call fr H nx o=evalOp P call fr' H nx o:=by
 unfold evalOp;cases ho:o.op<;>rw[ho] at h<;>simp only[Op.operands] at h;all_goals try (simp at h;simp[h];done)
 all_goals try rfl
 case build t ps =>
  dsimp only
  rw[kY (l:=ps.toList) (fun x hx=>h x.2 (by simp only[List.mem_map];exact ⟨x,hx,rfl⟩))]
 case buildSlice t n ps =>
  dsimp only
  rw[kY (l:=ps.toList) (fun x hx=>h x.2 (by simp only[List.mem_map];exact ⟨x,hx,rfl⟩))]
 case makeFunc f a b =>
  simp at h
  dsimp only
  rw[je (l:=a.toList) (fun x hx=>h x (.inl (by simpa using hx))),je (l:=b.toList) (fun x hx=>h x (.inr (by simpa using hx)))]
 case makeMap t r=>cases r<;>rfl
 case slice t x lo hi mx =>
  cases lo<;>cases hi<;>cases mx<;>simp at h<;>simp[h]
 case call c=>exact xH h

end Go.Eng
end
section
namespace Go.Eng

def jH:Touch→Nat→Nat→Prop
 | .none,_,_=>False
 | .blk e j,d,i=>e=d∧j=i
 | .all,_,_=>True

theorem sx {H H':ab} {d i:Nat} (h:az H' d i=az H d i) (v:Nat):da H' d i v=da H d i v:=by unfold da;rw[h]

theorem nq {P:Program} {H H':ab} {t:TypeId} {m k x:AV} (hl:∀ d,aK H' d=aK H d)
 (hr:∀ d i,jH (match m with | .ptr d i _ _=>.blk d i | .slc d i _ _ _ _ _=>.blk d i | .map d i=>.blk d i | _=>.none) d i→az H' d i=az H d i):jJ P H' t m k x=jJ P H t m k x:=by
 unfold jJ
 cases m<;>dsimp only at hr ⊢
 case map d i =>
  have h1:=hl d
  have h2:=hr d i ⟨rfl,rfl⟩
  cases P.underlying t with
  | none=>rfl
  | some td=>cases td<;>dsimp only<;>rw[h1,h2]
 all_goals (cases P.underlying t with
  | none=>rfl
  | some td=>cases td<;>rfl)

theorem xO {P:Program} {call:aJ} {fr:aC} {H H':ab} {nx:Nat} {o:Oper} {v:AV} {δ:Delta} (h:evalOp P call fr H nx o=some (v,δ)) (hδ:∀ X,δ≠.heap X) (hl:∀ d,aK H' d=aK H d)
 (hr:∀ d i,jH (cU fr o) d i→az H' d i=az H d i) (ha:cU fr o=.all→H'=H):evalOp P call fr H' nx o=some (v,δ):=by
 by_cases hall:cU fr o=.all
 · rw[ha hall];exact h
 unfold evalOp at h ⊢
 unfold cU at hr hall
 cases ho:o.op<;>rw[ho] at h hr hall<;>dsimp only at h hr hall ⊢<;>try exact h
 case load t a =>
  unfold kp at h ⊢
  unfold o6 at h ⊢
  cases hx:bU fr a<;>rw[hx] at h hr<;>dsimp only at h hr ⊢<;>try exact h
  rw[sx (hr _ _ ⟨rfl,rfl⟩)]
  exact h
 case store t a x =>
  unfold gy at h ⊢
  cases hx:bU fr a<;>rw[hx] at h hr<;>dsimp only at h hr ⊢<;>try exact h
  rename_i d i ver off
  have e:=sx (hr _ _ ⟨rfl,rfl⟩) ver
  rw[hl,e]
  split at h
  · simp at h
  · rename_i hlk
    rw[if_neg hlk]
    split at h
    · rename_i r n q e1 e2 e3
      split at h
      · rename_i hc
        rw[if_pos hc]
        split at h
        · split at h
          · simp at h
          · split at h
            · simp only[Option.map_some,Option.some.injEq,Prod.mk.injEq] at h
              exact absurd h.2.symm (hδ _)
            · simp at h
        · rename_i hno
          first
          | exact h
          | (split
             · rename_i d' j w o' sz len cap
               exact absurd rfl (hno d' j w o' sz len cap rfl)
             · exact h)
      · simp at h
    · simp at h
 case lookup t m k ok =>
  unfold kp at h ⊢
  unfold rv at h ⊢
  have e:vh H' (bU fr m)=vh H (bU fr m):=by
   unfold vh;cases hx:bU fr m<;>rw[hx] at hr<;>dsimp only at hr ⊢;rw[hr _ _ ⟨rfl,rfl⟩]
  have e0:vn H' (bU fr m)=vn H (bU fr m):=by
   unfold vn;cases hx:bU fr m<;>rw[hx] at hr<;>dsimp only at hr ⊢;rw[hr _ _ ⟨rfl,rfl⟩]
  rw[e,e0];exact h
 case mapUpdate t m k x =>
  rw[nq hl hr];exact h
 case insert t m k x =>
  rw[nq hl hr];exact h
 case makeMap t r=>cases r<;>exact h
 case call c =>
  unfold gN at h ⊢
  cases hc:c.callee with
  | value f=>rw[hc] at hall;simp at hall
  | invoke r m=>rw[hc] at h;simp at h
  | builtin b =>
    rw[hc] at h hr hall
    cases b<;>dsimp only at h hr hall ⊢<;>try exact h
    all_goals try (simp at hall;done)
    generalize c.args.toList=l at h hr hall ⊢
    generalize c.argTypes.toList=ts at h hr hall ⊢
    rcases l with _ | ⟨x,l⟩
    · exact h
    · rcases ts with _ | ⟨t,ts⟩
      · exact h
      · dsimp only at h hr ⊢
        have e:uJ P H' t (bU fr x)=uJ P H t (bU fr x):=by
         unfold uJ;cases P.underlying t with
         | none=>rfl
         | some td =>
           cases hx:bU fr x<;>rw[hx] at hr<;>cases td<;>dsimp only at hr ⊢;rw[hr _ _ ⟨rfl,rfl⟩]
        rw[e];exact h

def qF (k:Nat→Bool):Nat→List (Nat×an)→List (Nat×an)
 | _,[]=>[]
 | i,b::r=>(if k i then b else (b.1,.dead))::qF k (i+1) r
def lG (k:Nat→Nat→Bool):Nat→ab→ab
 | _,[]=>[]
 | d,l::r=>{ l with bs:=qF (k d) 0 l.bs } :: lG k (d+1) r
theorem o8 (k:Nat→Bool):∀ (l:List (Nat×an)) (s:Nat),(qF k s l).length=l.length
 | [],_=>rfl
 | b::l,s=>by simp[qF,o8 k l]
theorem vB (k:Nat→Bool):∀ (l:List (Nat×an)) (s i:Nat),aq (qF k s l) i=if k (s+i) then aq l i else ((aq l i).1,.dead)
 | [],s,i=>by simp[qF,aq]
 | b::l,s,0=>by simp[qF,aq]
 | b::l,s,i+1=>by
   simp only[qF,aq,vB k l (s+1) i];rw[show s+1+i=s+(i+1) by omega]
theorem qa (k:Nat→Nat→Bool):∀ (H:ab) (s d i:Nat),az (lG k s H) d i=if k (s+d) i then az H d i else ((az H d i).1,.dead)
 | [],s,d,i=>by simp[lG,az]
 | l::r,s,0,i=>by simp[lG,az,vB]
 | l::r,s,d+1,i=>by
   simp only[lG,az,qa k r (s+1) d i];rw[show s+1+d=s+(d+1) by omega]
theorem sY (k:Nat→Nat→Bool):∀ (H:ab) (s d:Nat),aK (lG k s H) d=aK H d
 | [],_,_=>rfl
 | l::r,s,0=>rfl
 | l::r,s,d+1=>by simp[lG,aK,sY k r]
theorem sZ (k:Nat→Nat→Bool):∀ (H:ab) (s d:Nat),ao (lG k s H) d=ao H d
 | [],_,_=>rfl
 | l::r,s,0=>by simp[lG,ao,o8]
 | l::r,s,d+1=>by simp[lG,ao,sZ k r]

def star (t:Touch) (e:ab):ab :=
 match t with
 | .all=>e
 | .none=>lG (fun _ _=>false) 0 e
 | .blk d i=>lG (fun a b=>a == d && b == i) 0 e
theorem zq (t:Touch) (e:ab) (d i:Nat):(jH t d i∧az (star t e) d i=az e d i)∨(¬ jH t d i∧az (star t e) d i=((az e d i).1,.dead)):=by
 cases t with
 | all=>exact .inl ⟨trivial,rfl⟩
 | none=>exact .inr ⟨id,by simp[star,qa]⟩
 | blk a b =>
   simp only[star,qa,Nat.zero_add,jH];by_cases e1:a=d∧b=i
   · obtain ⟨rfl,rfl⟩:=e1;exact .inl ⟨⟨rfl,rfl⟩,by simp⟩
   · refine .inr ⟨e1,if_neg ?_⟩;simp only[Bool.and_eq_true,beq_iff_eq];exact fun x=>e1 ⟨x.1.symm,x.2.symm⟩
theorem vP (t:Touch) (e:ab) (d:Nat):aK (star t e) d=aK e d:=by
 cases t<;>simp[star,sY]
theorem EC (t:Touch) (e:ab) (d:Nat):ao (star t e) d=ao e d:=by
 cases t<;>simp[star,sZ]

structure uW (e H:ab):Prop where
 get:∀ d i,az e d i=az H d i∨(az e d i).2=.dead
 next:∀ d,ao e d=ao H d
theorem uW.live {e H:ab} (h:uW e H) {d i v:Nat} {B:an} (hg:az e d i=(v,B)) (hB:B≠.dead):az H d i=(v,B):=by
 rcases h.get d i with h1 | h1
 · rw[← h1];exact hg
 · rw[hg] at h1;exact absurd h1 hB
theorem bn.under {p:aG} {M:Mu} {e H:ab} {w:World} (h:bn p M H w) (u:uW e H):bn p M e w where
 pers:=h.pers
 live:=fun d i v B hg hB=>h.live d i v B (u.live hg hB) hB
 apart:=fun d i v B d' i' v' B' b o t o' t' hg hB hg' hB' hm hm'=>h.apart d i v B d' i' v' B' b o t o' t' (u.live hg hB) hB (u.live hg' hB') hB' hm hm'
 dom:=fun d i v t hm=>by
  have:=h.dom d i v t hm;rw[u.next];refine ⟨this.1,?_⟩;rcases u.get d i with h1 | h1
  · rw[h1];exact this.2
  · exact fun hne=>absurd h1 hne
theorem eM.under {p:aG} {M:Mu} {e H:ab} {nx:Nat} {v:AV} {δ:Delta} {cv:Value} {w w':World} (h:eM p M e nx v δ cv w w') (u:uW e H) (hl:∀ d,aK e d=aK H d) (hδ:∀ X,δ≠.heap X):eM p M H nx v δ cv w w':=by
 cases δ with
 | bC=>exact h
 | push B=>exact h
 | set d i x =>
   obtain ⟨ver',B'⟩:=x;obtain ⟨ver,B,b,o,t,b',o',t',hg,hB,hk,rest⟩:=h;exact ⟨ver,B,b,o,t,b',o',t',u.live hg hB,hB,by rw[← hl];exact hk,rest⟩
 | heap X=>exact absurd rfl (hδ X)

theorem Fp:∀ (l m:List (Nat×an)),l.length=m.length→(∀ i,aq l i=aq m i)→l=m
 | [],[],_,_=>rfl
 | [],_::_,h,_=>by simp at h
 | _::_,[],h,_=>by simp at h
 | a::l,b::m,h,g=>by
   have h0:=g 0;simp only[aq] at h0;rw[h0,Fp l m (by simpa using h) (fun i=>g (i+1))]
theorem sC:∀ (H K:ab),H.length=K.length→(∀ d i,az H d i=az K d i)→(∀ d,ao H d=ao K d)→(∀ d,aK H d=aK K d)→H=K
 | [],[],_,_,_,_=>rfl
 | [],_::_,h,_,_,_=>by simp at h
 | _::_,[],h,_,_,_=>by simp at h
 | l::r,m::s,h,g,n,k=>by
   have h0:l.bs=m.bs:=Fp _ _ (n 0) (fun i=>g 0 i);have h1:l.lock=m.lock:=k 0;have h2:=sC r s (by simpa using h) (fun d i=>g (d+1) i) (fun d=>n (d+1)) (fun d=>k (d+1));cases l;cases m;simp only at h0 h1;rw[h0,h1,h2]

def uF (bef:Nat) (recs:List Rec) (d i:Nat):Prop:=∃ r ∈ recs,r.writes=some (d,i)∧bef.testBit r.ix=false
theorem ke (bef:Nat):∀ (recs:List Rec) (H:ab) (d i:Nat),(¬ uF bef recs d i∧az (dm H bef recs) d i=az H d i)∨(uF bef recs d i∧az (dm H bef recs) d i=((az H d i).1,.dead))
 | [],H,d,i=>.inl ⟨(by rintro ⟨r,hr,_⟩;cases hr),rfl⟩
 | r :: l,H,d,i=>by
   simp only[dm];have skip:(∀ x,r.writes=some x→bef.testBit r.ix=true)→(uF bef (r::l) d i↔uF bef l d i):=fun hx=>by
    constructor
    · rintro ⟨q,hq,h1,h2⟩;rcases List.mem_cons.1 hq with rfl | hq
      · rw[hx _ h1] at h2;cases h2
      · exact ⟨q,hq,h1,h2⟩
    · rintro ⟨q,hq,h1,h2⟩;exact ⟨q,List.mem_cons_of_mem _ hq,h1,h2⟩
   cases hw:r.writes with
   | none =>
     rw[skip (fun x hx=>by rw[hw] at hx;cases hx)];exact ke bef l H d i
   | some x =>
     obtain ⟨a,b⟩:=x;dsimp only;split
     · rename_i hb;rw[skip (fun _ _=>hb)];exact ke bef l H d i
     · rename_i hb;have hb:bef.testBit r.ix=false:=by simpa using hb
       have ih:=ke bef l (dW H a b) d i;rw[eP] at ih;by_cases e:d=a∧i=b
       · rw[if_pos e] at ih;have e':=e;obtain ⟨rfl,rfl⟩:=e';refine .inr ⟨⟨r,by simp,hw,hb⟩,?_⟩;rcases ih with ⟨_,h⟩ | ⟨_,h⟩<;>exact h
       · rw [if_neg e] at ih;have:uF bef (r::l) d i↔uF bef l d i:=by
          constructor
          · rintro ⟨q,hq,h1,h2⟩;rcases List.mem_cons.1 hq with rfl | hq
            · rw[hw] at h1;simp only[nP] at h1;exact absurd ⟨h1.1.symm,h1.2.symm⟩ e
            · exact ⟨q,hq,h1,h2⟩
          · rintro ⟨q,hq,h1,h2⟩;exact ⟨q,List.mem_cons_of_mem _ hq,h1,h2⟩
         rw[this];exact ih
theorem kS (bef:Nat):∀ (recs:List Rec) (H:ab) (d:Nat),aK (dm H bef recs) d=aK H d
 | [],_,_=>rfl
 | r :: l,H,d=>by
   simp only[dm];split
   · split
     · exact kS bef l H d
     · rw[kS bef l,iV]
   · exact kS bef l H d
theorem iU (bef:Nat):∀ (recs:List Rec) (H:ab) (d:Nat),ao (dm H bef recs) d=ao H d
 | [],_,_=>rfl
 | r :: l,H,d=>by
   simp only[dm];split
   · split
     · exact iU bef l H d
     · rw[iU bef l,b7]
   · exact iU bef l H d
theorem nk (bef d i:Nat):∀ (recs:List Rec),kn bef d i recs=true→∀ r ∈ recs,bef.testBit r.ix=true∨¬ jH r.reads d i
 | [],_,r,hr=>by cases hr
 | q :: l,h,r,hr=>by
   simp only[kn,Bool.and_eq_true,Bool.or_eq_true] at h;rcases List.mem_cons.1 hr with rfl | hr
   · refine h.1.imp id fun h1=>?_;cases hq:r.reads with
     | none=>exact id
     | all=>rw[hq] at h1;simp at h1
     | blk e j =>
       rw[hq] at h1;simp only[Bool.not_eq_true',Bool.and_eq_false_iff] at h1;rintro ⟨rfl,rfl⟩;simp at h1
   · exact nk bef d i l h.2 r hr

theorem vf (acc:Array Nat) (i:Nat):∀ (l:List Edge) (s:Nat),(l.foldl (fun s e=>if Region.binds .any e then s ||| 2 ^ e.on ||| acc.getD e.on 0 else s) s).testBit i=true ↔
 s.testBit i=true∨∃ e ∈ l,Region.binds .any e=true∧(i=e.on∨(acc.getD e.on 0).testBit i=true)
 | [],s=>by simp
 | e :: l, s=>by
   rw[List.foldl_cons,vf acc i l];by_cases hb:Region.binds .any e=true
   · rw[if_pos hb];simp only[Nat.testBit_or,Bool.or_eq_true,Nat.testBit_two_pow,decide_eq_true_eq];constructor
     · rintro (((h | h) | h) | ⟨x,hx,h⟩)
       · exact .inl h
       · exact .inr ⟨e,by simp,hb,.inl h.symm⟩
       · exact .inr ⟨e,by simp,hb,.inr h⟩
       · exact .inr ⟨x,by simp[hx],h⟩
     · rintro (h | ⟨x,hx,h1,h2⟩)
       · exact .inl (.inl (.inl h))
       · rcases List.mem_cons.1 hx with rfl | hx
         · rcases h2 with h2 | h2
           · exact .inl (.inl (.inr h2.symm))
           · exact .inl (.inr h2)
         · exact .inr ⟨x,hx,h1,h2⟩
   · rw[if_neg hb];constructor
     · rintro (h | ⟨x,hx,h⟩)
       · exact .inl h
       · exact .inr ⟨x,by simp[hx],h⟩
     · rintro (h | ⟨x,hx,h1,h2⟩)
       · exact .inl h
       · rcases List.mem_cons.1 hx with rfl | hx
         · exact absurd h1 hb
         · exact .inr ⟨x,hx,h1,h2⟩

theorem ql:∀ (l:List Oper) (acc:Array Nat),∃ R:Array Nat,l.foldl (fun acc o=>acc.push (o.after.foldl (fun s e=>if Region.binds .any e then s ||| 2 ^ e.on ||| acc.getD e.on 0 else s) 0)) acc=R ∧
 R.size=acc.size+l.length∧(∀ j,j<acc.size→R.getD j 0=acc.getD j 0) ∧
 ∀ j o,l[j]?=some o→∀ i,(R.getD (acc.size+j) 0).testBit i=true↔∃ e ∈ o.after,Region.binds .any e=true∧(i=e.on∨(e.on<acc.size+j∧(R.getD e.on 0).testBit i=true))
 | [],acc=>⟨acc,rfl,by simp,fun _ _=>rfl,fun j o h=>by simp at h⟩
 | o :: l,acc=>by
   obtain ⟨R,h1,h2,h3,h4⟩:=ql l (acc.push (o.after.foldl (fun s e=>if Region.binds .any e then s ||| 2 ^ e.on ||| acc.getD e.on 0 else s) 0));have hlow:∀ j,j<acc.size→R.getD j 0=acc.getD j 0:=fun j hj=>by
    rw[h3 j (by simp;omega)];simp only[Array.getD_eq_getD_getElem?];rw[Array.getElem?_push_lt hj,Array.getElem?_eq_getElem hj]
   refine ⟨R,by rw[List.foldl_cons];exact h1,by rw[h2];simp;omega,hlow,fun j o' hj i=>?_⟩;cases j with
   | zero =>
     simp only[List.getElem?_cons_zero,Option.some.injEq] at hj;subst hj;rw[Nat.add_zero,h3 _ (by simp)];have:(acc.push (o.after.foldl (fun s e=>if Region.binds .any e then s ||| 2 ^ e.on ||| acc.getD e.on 0 else s) 0)).getD acc.size 0=o.after.foldl (fun s e=>if Region.binds .any e then s ||| 2 ^ e.on ||| acc.getD e.on 0 else s) 0:=by
      simp[Array.getD_eq_getD_getElem?]
     rw[this,← Array.foldl_toList,vf];simp only[Nat.zero_testBit,Bool.false_eq_true,false_or,Array.mem_toList_iff];constructor
     · rintro ⟨e,he,hb,h⟩;refine ⟨e,he,hb,h.imp id fun h=>?_⟩;have hlt:e.on<acc.size:=by
        refine Nat.lt_of_not_le fun hle=>?_;rw[Array.getD_eq_getD_getElem?,Array.getElem?_eq_none hle] at h;simp at h
       exact ⟨hlt,by rw[hlow _ hlt];exact h⟩
     · rintro ⟨e,he,hb,h⟩;refine ⟨e,he,hb,h.imp id fun h=>?_⟩;rw[← hlow _ h.1];exact h.2
   | succ j =>
     simp only[List.getElem?_cons_succ] at hj;have:=h4 j o' hj i;simp only[Array.size_push] at this;rw[show acc.size+(j+1)=acc.size+1+j by omega];exact this

theorem rZ {ops:Array Oper} {j:Nat} {o:Oper} (ho:ops[j]?=some o) (i:Nat):((Region.before ops).getD j 0).testBit i=true ↔
 ∃ e ∈ o.after,Region.binds .any e=true∧(i=e.on∨(e.on<j∧((Region.before ops).getD e.on 0).testBit i=true)):=by
 obtain ⟨R,h1,h2,h3,h4⟩:=ql ops.toList #[]
 have hR:Region.before ops=R:=by rw[← h1];unfold Region.before;rw[← Array.foldl_toList]
 rw[hR]
 have:=h4 j o (by simpa using ho) i
 simpa using this

end Go.Eng
end
section
namespace Go.Eng

abbrev fL:Nat→Bool:=fun _=>true
def kQ (nt:Nat) (ops:Array Oper) (T:Nat→ur) (fr0:aC) (S:Nat→Bool):Nat→aC
 | 0=>fr0
 | k+1=>if S k then iF nt (kQ nt ops T fr0 S k) ((ops[k]?).bind (·.dst)) (T k).v else kQ nt ops T fr0 S k
def hS (T:Nat→ur) (H0:ab) (S:Nat→Bool):Nat→ab
 | 0=>H0
 | k+1=>if S k then qX (hS T H0 S k) (T k).wr else hS T H0 S k
def cM (ops:Array Oper) (k:Nat):Bool:=((ops[k]?).map jB).getD false
def kG (ops:Array Oper) (n0:Nat):Nat→Nat
 | 0=>n0
 | k+1=>if cM ops k then kG ops n0 k+1 else kG ops n0 k
def fa (T:Nat→ur):Nat→List Rec
 | 0=>[]
 | k+1=>⟨k,(T k).rd,(T k).wr.map fun x=>(x.1,x.2.1)⟩::fa T k
theorem ph (T:Nat→ur):∀ (k:Nat) (r:Rec),r ∈ fa T k↔∃ j,j<k∧r=⟨j,(T j).rd,(T j).wr.map fun x=>(x.1,x.2.1)⟩
 | 0,r=>by simp[fa]
 | k + 1,r=>by
   simp only[fa,List.mem_cons,ph T k r];constructor
   · rintro (rfl | ⟨j,hj,rfl⟩)
     · exact ⟨k,by omega,rfl⟩
     · exact ⟨j,by omega,rfl⟩
   · rintro ⟨j,hj,rfl⟩;by_cases e:j=k
     · subst e;exact .inl rfl
     · exact .inr ⟨j,by omega,rfl⟩

theorem mN {nt:Nat} {ops:Array Oper} {T T':Nat→ur} {fr0:aC} {S S':Nat→Bool}:∀ (n:Nat),(∀ k,k<n→T k=T' k∧S k=S' k)→kQ nt ops T fr0 S n=kQ nt ops T' fr0 S' n
 | 0,_=>rfl
 | n+1,h=>by simp only[kQ];rw[(h n wO).1,(h n wO).2,mN n (fun k hk=>h k wO)]
theorem oV {T T':Nat→ur} {H0:ab} {S S':Nat→Bool}:∀ (n:Nat),(∀ k,k<n→T k=T' k∧S k=S' k)→hS T H0 S n=hS T' H0 S' n
 | 0,_=>rfl
 | n+1,h=>by simp only[hS];rw[(h n wO).1,(h n wO).2,oV n (fun k hk=>h k wO)]
theorem oa {T T':Nat→ur}:∀ (n:Nat),(∀ k,k<n→T k=T' k)→fa T n=fa T' n
 | 0,_=>rfl
 | n+1,h=>by simp only[fa];rw[h n wO,oa n (fun k hk=>h k wO)]

def Fact (P:Program) (nt:Nat) (call:aJ) (ops:Array Oper) (befs:Array Nat) (fr0:aC) (H0:ab) (n0:Nat) (T:Nat→ur):Prop :=
 ∀ k o,ops[k]?=some o→gO P call ops (befs.getD k 0) (kQ nt ops T fr0 fL k) (hS T H0 fL k) (kG ops n0 k) (fa T k) o=some (T k)

theorem trace {P:Program} {nt:Nat} {call:aJ} {ops:Array Oper} {befs:Array Nat} {fr0:aC} {H0:ab} {n0:Nat} {fr':aC} {H':ab}:∀ (l:List Oper) (j:Nat) (T:Nat→ur),ops.toList.drop j=l→j≤ops.size →
 gE P nt call ops befs j l (kQ nt ops T fr0 fL j) (hS T H0 fL j) (kG ops n0 j) (fa T j)=some (fr',H') →
 ∃ T',(∀ k,k<j→T' k=T k)∧(∀ k o,j≤k→ops[k]?=some o→gO P call ops (befs.getD k 0) (kQ nt ops T' fr0 fL k) (hS T' H0 fL k) (kG ops n0 k) (fa T' k) o=some (T' k)) ∧
  kQ nt ops T' fr0 fL ops.size=fr'∧hS T' H0 fL ops.size=H'
 | [],j,T,hl,hj,h=>by
   have:ops.size≤j:=by simpa using hl
   obtain rfl:j=ops.size:=by omega
   simp only[gE,Option.some.injEq,Prod.mk.injEq] at h;exact ⟨T,fun _ _=>rfl,fun k o hk ho=>by have:=(Array.getElem?_eq_some_iff.1 ho).1;omega,h.1,h.2⟩
 | o :: l,j,T,hl,hj,h=>by
   have ho:ops[j]?=some o:=by
    have:(ops.toList.drop j)[0]?=some o:=by rw[hl];rfl
    simpa using this
   have hlt:j<ops.size:=(Array.getElem?_eq_some_iff.1 ho).1;simp only[gE] at h;cases he:gO P call ops (befs.getD j 0) (kQ nt ops T fr0 fL j) (hS T H0 fL j) (kG ops n0 j) (fa T j) o with
   | none=>rw[he] at h;simp at h
   | some e =>
     rw[he] at h;dsimp only at h;let T1:Nat→ur:=fun i=>if i=j then e else T i
     have e1:T1 j=e:=if_pos rfl;have eb:∀ k,k<j→T1 k=T k:=fun k hk=>if_neg wO;have f1:kQ nt ops T1 fr0 fL (j+1)=iF nt (kQ nt ops T fr0 fL j) o.dst e.v:=by
      simp only[kQ,ho,Option.bind_some,e1,if_true];rw[mN j (fun k hk=>⟨eb k hk,rfl⟩)]
     have f2:hS T1 H0 fL (j+1)=qX (hS T H0 fL j) e.wr:=by
      simp only[hS,e1,if_true];rw[oV j (fun k hk=>⟨eb k hk,rfl⟩)]
     have f3:kG ops n0 (j+1)=if jB o then kG ops n0 j+1 else kG ops n0 j:=by
      simp only[kG,cM,ho,Option.map_some,Option.getD_some]
     have f4:fa T1 (j+1)=⟨j,e.rd,e.wr.map fun x=>(x.1,x.2.1)⟩::fa T j:=by
      simp only[fa,e1];rw[oa j eb]
     rw[← f1,← f2,← f3,← f4] at h;obtain ⟨T',g1,g2,g3,g4⟩:=trace l (j+1) T1 (by rw[← List.tail_drop,hl];rfl) hlt h;have gj:∀ k,k<j→T' k=T k:=fun k hk=>(g1 k wO).trans (eb k hk);refine ⟨T',gj,fun k o' hk ho'=>?_,g3,g4⟩;by_cases hkj:k=j
     · subst hkj;rw[ho] at ho';obtain rfl:=Option.some.inj ho';rw[mN k (fun i hi=>⟨gj i hi,rfl⟩),oV k (fun i hi=>⟨gj i hi,rfl⟩),oa k gj,he,g1 k wO,e1]
     · exact g2 k o' wO ho'

theorem MZ {P:Program} {nt:Nat} {call:aJ} {ops:Array Oper} {befs:Array Nat} {fr0:aC} {H0:ab} {n0:Nat} {fr':aC} {H':ab} (h:gE P nt call ops befs 0 ops.toList fr0 H0 n0 []=some (fr',H')) :
 ∃ T,Fact P nt call ops befs fr0 H0 n0 T∧kQ nt ops T fr0 fL ops.size=fr'∧hS T H0 fL ops.size=H':=by
 obtain ⟨T,_,h2,h3,h4⟩:=trace ops.toList 0 (fun _=>⟨.undef,.none,none⟩) rfl (Nat.zero_le _) h
 exact ⟨T,fun k o ho=>h2 k o (Nat.zero_le _) ho,h3,h4⟩

theorem tk       (ops:Array Oper) (n0:Nat):∀ (m k:Nat),k≤m→kG ops n0 k≤kG ops n0 m
 | 0,k,h=>by     obtain rfl:k=0:=by omega
                 exact Nat.le_refl _
 | m + 1,k,h=>by
   by_cases e:k=m+1
   · subst e;exact Nat.le_refl _
   · have:=tk ops n0 m k wO;simp only[kG];split<;>omega
theorem Bp {ops:Array Oper} {n0 k m:Nat} (h:k<m) (hp:cM ops k=true):kG ops n0 k<kG ops n0 m:=by
 have:=tk ops n0 m (k+1) h;simp only[kG,hp,if_true] at this;omega
theorem Mp (ops:Array Oper) (n0 k:Nat):n0≤kG ops n0 k:=tk ops n0 k 0 (Nat.zero_le _)
theorem CW (ops:Array Oper) (n0:Nat):∀ (k:Nat),k≤ops.size→kG ops n0 k+c8 (ops.toList.drop k)=n0+c8 ops.toList
 | 0,_=>rfl
 | k+1,h=>by
   have ih:=CW ops n0 k wO;have hk:k<ops.size:=by omega
   have e:ops.toList.drop k=ops[k]::ops.toList.drop (k+1):=by rw[List.drop_eq_getElem_cons (by simpa using hk)];simp
   rw[e] at ih;simp only[c8] at ih;have e2:cM ops k=jB ops[k]:=by simp[cM,Array.getElem?_eq_getElem hk]
   simp only[kG,e2];split at ih<;>split<;>rename_i a b<;>first | (simp[a] at b;done) | omega
theorem CX {ops:Array Oper} {n0 k:Nat} (hk:cM ops k=true):kG ops n0 k<n0+c8 ops.toList:=by
 have hlt:k<ops.size:=by
  refine Nat.lt_of_not_le fun h=>?_;simp[cM,Array.getElem?_eq_none h] at hk
 have h1:=Bp (n0:=n0) (Nat.lt_succ_self k) hk;have h2:=CW ops n0 (k+1) hlt;have h3:kG ops n0 (k+1)≤n0+c8 ops.toList:=by omega
 exact Nat.lt_of_lt_of_le h1 h3

theorem vJ (H:ab) (x:Option (Nat×Nat×(Nat×an))) (d:Nat):ao (qX H x) d=ao H d:=by
 cases x with
 | none=>rfl
 | some x=>exact cE _ _ _ _ _
theorem vI (H:ab) (x:Option (Nat×Nat×(Nat×an))) (d:Nat):aK (qX H x) d=aK H d:=by
 cases x with
 | none=>rfl
 | some x=>exact fD _ _ _ _ _
theorem yT (H:ab) (x:Option (Nat×Nat×(Nat×an))):(qX H x).length=H.length:=by
 cases x with
 | none=>rfl
 | some x=>exact l9 _ _ _ _
theorem gF (T:Nat→ur) (H0:ab) (S:Nat→Bool) (d:Nat):∀ k,ao (hS T H0 S k) d=ao H0 d
 | 0=>rfl
 | k+1=>by
   simp only[hS];split
   · rw[vJ,gF T H0 S d k]
   · exact gF T H0 S d k
theorem jz (T:Nat→ur) (H0:ab) (S:Nat→Bool) (d:Nat):∀ k,aK (hS T H0 S k) d=aK H0 d
 | 0=>rfl
 | k+1=>by
   simp only[hS];split
   · rw[vI,jz T H0 S d k]
   · exact jz T H0 S d k
theorem pR (T:Nat→ur) (H0:ab) (S:Nat→Bool):∀ k,(hS T H0 S k).length=H0.length
 | 0=>rfl
 | k+1=>by
   simp only[hS];split
   · rw[yT,pR T H0 S k]
   · exact pR T H0 S k

def lz (T:Nat→ur) (k d i:Nat):Option (Nat×an) :=
 match (T k).wr with
 | some (d',i',b)=>if d=d'∧i=i' then some b else none
 | none=>none
theorem kE {T:Nat→ur} {k d i:Nat} {b:Nat×an}:lz T k d i=some b↔(T k).wr=some (d,i,b):=by
 unfold lz;cases h:(T k).wr with
 | none=>simp
 | some x =>
   obtain ⟨d',i',b'⟩:=x;simp only[nP];constructor
   · intro h1;split at h1
     · rename_i e;simp only[Option.some.injEq] at h1;exact ⟨e.1.symm,e.2.symm,h1⟩
     · cases h1
   · rintro ⟨rfl,rfl,rfl⟩;simp

end Go.Eng
end
