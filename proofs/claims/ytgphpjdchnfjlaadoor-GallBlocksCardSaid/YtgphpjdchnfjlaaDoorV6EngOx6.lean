/- The engine, part O: rounds of loops over functions. -/
import Derived.Test.YtgphpjdchnfjlaaDoorV6EngKx4
import Derived.RangeFuncIn
set_option linter.unusedVariables false
set_option linter.unusedSimpArgs false
section
namespace Go.Eng

theorem cC.PF {p:aF} {M:Mu} {H:ab} {w:World} (h:bj p M H w) (hne:H≠[]) {d i b o t:Nat} {l l':ot} {r r':Loop} (hg:az H d i=(0,.loop l)) (hm:M d i 0=some (b,o,t)) (hl:aL H d=false) (hr:w.heap[b]?=some (.loop r))
 (hrel:fB p (M.up d) (.loop l') b o t (w.putObj b (.loop r'))):∃ p' M',cC p M H w p' M' (eh H d i (0,.loop l')) (w.putObj b (.loop r')):=by
 have hd:eI p M H (aZ H) .undef (.set d i (0,.loop l')) Go.undef w (w.putObj b (.loop r')) :=
  ⟨0,.loop l,b,o,t,b,o,t,hg,by simp,hl,hm,by simp,hrel,⟨rfl,rfl,rfl,by rw[World.putObj_size];exact Nat.le_refl _,fun y _ hy=>World.putObj_heap_other hy⟩,.inl rfl,.undef _,.inl ⟨rfl,rfl,rfl,rfl⟩⟩
 obtain ⟨p',M',e1,_⟩:=rj hne h hd
 exact ⟨p',M',e1⟩

theorem si:∀ (fr:aA) (k x:Nat),bM (nq k fr) x=nr k (bM fr x)
 | [],k,x=>by cases k<;>rfl
 | (y,v)::r,k,x=>by
   simp only[nq,bM,si r k x];split<;>rfl
theorem EG {p:aF} {M:Mu} {nt k:Nat} {fr:aA} {a:Act} (h:bX p (M.up k) nt fr a):bX p M nt (nq k fr) a :=
 ⟨h.size,fun x=>by rw[si];exact (h.at_ x).up⟩

theorem vJ {p:aF} {M:Mu} {nt:Nat}:∀ (ts:List Tmp) (vs:List AV) (cs:List Value) (fr fr':aA) (a:Act),me nt fr ts vs=some fr'→bX p M nt fr a→cs.length=vs.length→(∀ j,j<vs.length→al p M (vs.getD j .undef) (cs.getD j Go.undef)) →
 cs.length=ts.length∧bX p M nt fr' { tmps:=(ts.zip cs).foldl (fun tmps (t,c)=>tmps.setIfInBounds t c) a.tmps,defers:=a.defers }
 | [],[],cs,fr,fr',a,h,hF,hl,_=>by
   simp only[me,Option.some.injEq] at h;subst h;have:cs=[]:=List.length_eq_zero_iff.1 (by simpa using hl);subst this;exact ⟨rfl,⟨hF.size,hF.at_⟩⟩
 | t::ts,[],cs,fr,fr',a,h,_,_,_=>by simp[me] at h
 | [],v::vs,cs,fr,fr',a,h,_,_,_=>by simp[me] at h
 | t :: ts,v::vs,cs,fr,fr',a,h,hF,hl,hv=>by
   simp only[me] at h;split at h
   · rename_i hlt;cases cs with
     | nil=>simp at hl
     | cons c cs =>
       have h0:=hF.put (some t) (v:=v) (c:=c) (by simpa using hv 0 (by simp));simp only[iu,hlt,if_true,Act.put] at h0;have:=vJ ts vs cs _ fr' _ h h0 (by simpa using hl) (fun j hj=>by have:=hv (j+1) (by simpa using hj);simpa using this);exact ⟨by simp[this.1],this.2⟩
   · simp at h

def DF (P:Program) (b:Nat) (R:Ending→World→Prop) (j:Option Code) (w:World):Prop:=∃ v w',(Instr.endRound b j).run P w=.ok v w'∧R (.returned v) w'
theorem xf {P:Program} {b:Nat} {R:Ending→World→Prop} {e:Ex} {a:Act} {w:World} (h:DF P b R (dv e) w):roundPost P b R (Na e) a w:=by
 cases e<;>exact h

theorem tE {P:Program} (hN:dG P) {call:aK} (hC:b9 P call) (hX:∀ (cx:Cx) (F:Fence),cx.P=P→cx.call=call→dJ F→iE cx F) {fu:Nat} {kt:Nat→Nat} {d i:Nat} {args:List AV} {H:ab} {l l1 l2:ot} {fr fr1 fr2:aA} {H1 H2:ab} {lv:bJ} {e:Ex}
 (hg:az H d i=(0,.loop l)) (hl:aL H d=false) (hs:l.state=.ready) (hp:me l.nt (nq (d+1) l.fr) l.params (args.map (nr 1))=some fr)
 (he1:exec ⟨P,call,fu,l.fn,l.nt,kt,some (d+1,i)⟩ l.assign fr (⟨false,[]⟩::H)=some (.normal,fr1,H1)) (hg1:az H1 (d+1) i=(0,.loop l1)) (hs1:l1.state=.ready)
 (he2:∀ b:Nat,dQ P (Fence.wide.inRound b) (some (d+1,i)) l.nt l.body fr1 (eh H1 (d+1) i (0,.loop { l1 with state:=.busy })) e fr2 (lv::H2)) (hg2:az H2 d i=(0,.loop l2))
 {p:aF} {M:Mu} {w:World} {cargs:Array Value} (hH:bj p M H w) (hA:eH p M args cargs) {b o t:Nat} (hm:M d i 0=some (b,o,t)) :
 ∃ f tmps assign body,(Instr.yield b cargs).run P w=.ok (.round b f tmps assign body) w ∧
  RoundIn Fence.wide 0 P b f tmps assign body w (eP p M H w (.bool (dv e).isNone) (eh H2 d i (0,.loop { l2 with state:=if (dv e).isNone then .ready else .done,pending:=dv e }))):=by
 have record:∀ {p:aF} {M:Mu} {H:ab} {w:World} {d i:Nat} {l:ot} {b o t:Nat},bj p M H w→az H d i=(0,.loop l)→M d i 0=some (b,o,t)→fB p (M.up d) (.loop l) b o t w:=by
  intro p M H w d i l b o t hH hg hm;obtain ⟨b',o',t',k1,k2,_⟩:=hH.live d i 0 _ hg (by simp);rw[hm] at k1;simp only[nP] at k1;obtain ⟨rfl,rfl,rfl⟩:=k1;exact k2
 obtain ⟨r,q1,q2,q3,q4,q5,q6,q7⟩:=record hH hg hm
 have hF0:bX p (dj M) l.nt (nq (d+1) l.fr) ⟨r.tmps,[]⟩:=EG (k:=d+1) (M:=dj M) q7
 obtain ⟨z1,z2⟩:=vJ l.params (args.map (nr 1)) cargs.toList _ fr _ hp hF0 (by simp[hA.1]) (fun j hj=>by
  have hj':j<args.length:=by simpa using hj
  rw[bY _ _ _ hj'];have:=al.up (M:=dj M) (k:=1) (hA.2 j hj');simpa using this)
 have hpar:r.params=l.params.toArray:=by rw[← q4]
 have hsz:cargs.size=r.params.size:=by rw[hpar];simpa using z1
 refine ⟨_,_,_,_,run_yield q1 hsz,roundIn_of_wpIn trivial ?_⟩
 have htm:(r.params.zip cargs).foldl (fun tmps (t,a)=>tmps.setIfInBounds t a) r.tmps=(l.params.zip cargs.toList).foldl (fun tmps (t,c)=>tmps.setIfInBounds t c) r.tmps:=by
  rw[hpar,← Array.foldl_toList];simp
 rw[htm,q5,q6]
 have hW:=dJ.inRound b
 have x1:=cV (cx:=⟨P,call,fu,l.fn,l.nt,kt,some (d+1,i)⟩) hW hN hC (hX _ _ rfl rfl hW) _ _ _ _ _ _ he1
 have hR:uo (Fence.wide.inRound b) (some (d+1,i)) (dj M):=⟨b,o,t,rfl,hm⟩
 refine x1 w.heap.size p (dj M) _ w _ z2 hH.down (by simp) hR (Marks.nil _ _ _) (fun a1 w1 ⟨p1,M1,k1,k2,k3⟩=>?_)
 have hm1:M1 (d+1) i 0=some (b,o,t):=k1.mu _ _ _ _ hm
 obtain ⟨r1,u1,u2,u3,u4,u5,u6,u7⟩:=record k1.rel hg1 hm1
 have hl1:aL H1 (d+1)=false:=by rw[k1.lock];exact hl
 have hlt:∀ {w:World} {b:Nat} {x:Obj},w.heap[b]?=some x→b<w.heap.size:=fun e=>(Array.getElem?_eq_some_iff.1 e).1
 obtain ⟨p2,M2,t1⟩:=cC.PF (l':={ l1 with state:=.busy }) (r':={ r1 with state:=.busy }) k1.rel (k1.ne (by simp)) hg1 hm1 hl1 u1 ⟨_,World.putObj_heap_same (hlt u1),rfl,u3,u4,u5,u6,u7⟩
 refine ⟨_,run_beginRound u1 (by rw[u2];exact hs1),?_⟩
 have x2:=he2 b
 have Of:=k1.trans t1
 refine x2 w.heap.size p2 M2 a1 _ _ (k2.mono t1.pst t1.mu) t1.rel (Of.ne (by simp)) (hR.mono Of.mu) (k3.xB t1) (fun a3 w3 ⟨p3,M3,v1,_,_⟩=>xf ?_)
 have kk:=Of.trans v1
 have hm3:(M3.up 1) d i 0=some (b,o,t):=kk.mu (d+1) i 0 _ hm
 have kp:=kk.pop
 obtain ⟨r3,y1,y2,y3,y4,y5,y6,y7⟩:=record kp.rel hg2 hm3
 have hne:H≠[]:=by intro e0;rw[e0] at hg;simp[az] at hg
 have hl3:aL H2 d=false:=by rw[kp.lock];exact hl
 obtain ⟨p4,M4,t4⟩:=cC.PF (l':={ l2 with state:=if (dv e).isNone then .ready else .done,pending:=dv e }) (r':={ r3 with state:=if (dv e).isNone then .ready else .done,pending:=dv e }) kp.rel (kp.ne hne) hg2 hm3 hl3 y1
  ⟨_,World.putObj_heap_same (hlt y1),rfl,rfl,y4,y5,y6,y7⟩
 have st:Still H (eh H2 d i (0,.loop { l2 with state:=if (dv e).isNone then .ready else .done,pending:=dv e })):=⟨fun d1 i1 hk9=>by
  rw[dW,if_neg (by rintro ⟨e9,_,_⟩;rw[e9,hl] at hk9;simp at hk9)];exact kk.same (d1+1) i1 wO hk9,fun d1 hk9=>by
  rw[cH];exact kk.next (d1+1) wO hk9⟩
 exact ⟨_,_,run_endRound _ y1,_,rfl,st,p4,M4,kp.trans t4,.bool _⟩
theorem Es {P:Program} (hN:dG P) {call:aK} (hC:b9 P call) (hX:∀ (cx:Cx) (F:Fence),cx.P=P→cx.call=call→dJ F→iE cx F) {fu:Nat} {kt:Nat→Nat} {d i:Nat} {args:List AV} {H:ab} {l l1 l2:ot} {fr fr1 fr2:aA} {H1 H2:ab} {lv:bJ} {e:Ex}
 (hg:az H d i=(0,.loop l)) (hl:aL H d=false) (hs:l.state=.ready) (hp:me l.nt (nq (d+1) l.fr) l.params (args.map (nr 1))=some fr)
 (he1:exec ⟨P,call,fu,l.fn,l.nt,kt,some (d+1,i)⟩ l.assign fr (⟨false,[]⟩::H)=some (.normal,fr1,H1)) (hg1:az H1 (d+1) i=(0,.loop l1)) (hs1:l1.state=.ready)
 (he2:exec ⟨P,call,fu,l.fn,l.nt,kt,some (d+1,i)⟩ l.body fr1 (eh H1 (d+1) i (0,.loop { l1 with state:=.busy }))=some (e,fr2,lv::H2)) (hg2:az H2 d i=(0,.loop l2))
 {p:aF} {M:Mu} {w:World} {cargs:Array Value} (hH:bj p M H w) (hA:eH p M args cargs) {b o t:Nat} (hm:M d i 0=some (b,o,t)) :
 ∃ f tmps assign body,(Instr.yield b cargs).run P w=.ok (.round b f tmps assign body) w ∧
  RoundIn Fence.wide 0 P b f tmps assign body w (eP p M H w (.bool (dv e).isNone) (eh H2 d i (0,.loop { l2 with state:=if (dv e).isNone then .ready else .done,pending:=dv e }))) :=
 tE hN hC hX hg hl hs hp he1 hg1 hs1 (fun b=>cV (cx:=⟨P,call,fu,l.fn,l.nt,kt,some (d+1,i)⟩) (dJ.inRound b) hN hC (hX _ _ rfl rfl (dJ.inRound b)) _ _ _ _ _ _ he2) hg2 hH hA hm

end Go.Eng
end
section
namespace Go.Eng

def gb (P:Program):Prop:=∀ (cx:Cx) (F:Fence),cx.P=P→b9 P cx.call→dJ F→∀ (id:Nat) (ops:Array Oper) (fr:aA) (H:ab) (fr':aA) (H':ab),fV ops (Region.before ops)=true →
 gr cx.P cx.nt cx.call ops (Region.before ops) 0 ops.toList fr (nH H (cY ops.toList)) (aZ H) []=some (fr',H')→dQ cx.P F cx.ro cx.nt (.region id ops true) fr H .normal fr' H'

def rP (P:Program) (ora:aK→FuncId→List AV→ab→Option (AV×ab)):Prop:=∀ (call:aK),b9 P call→∀ (f:FuncId) (args:List AV) (H:ab) (v:AV) (H':ab),ora call f args H=some (v,H')→H≠[]→∀ (p:aF) (M:Mu) (w:World) (cargs:Array Value),bj p M H w→eH p M args cargs →
 (∃ fn,P.funcs[f]?=some fn∧fn.body.isNone=false)∧CallsIn Fence.wide 0 P f cargs w (eP p M H w v H')
theorem more {P:Program} (hN:dG P) (hD:gb P) {call:aK} (hC:b9 P call) (cx:Cx) (F:Fence) (h1:cx.P=P) (h2:cx.call=call) (hW:dJ F):iE cx F:=by
 subst h1;subst h2;exact ⟨fun id ops fr H fr' H' hs hr=>hD cx F rfl hC hW id ops fr H fr' H' hs hr,fun f ps assign body fr H e fr' H' h=>Eo hW hN hC f ps assign body fr H e fr' H' h⟩

theorem mA {P        : Program} (hN:dG P) (hD:gb P) {ora:aK→FuncId→List AV→ab→Option (AV×ab)} (hO:rP P ora) (KT:FuncId→Nat→Nat) (fu:Nat):∀ n,b9 P (dH P ora KT fu n)
 | 0=>fun tgt args H v H' h _ _ _ _ _ _ _=>by cases tgt<;>first | trivial | simp[dH] at h
 | n + 1 => by
   have ih:=mA hN hD hO KT fu n;intro tgt args H v H' h hne p M w cargs hH hA;cases tgt with
   | fn f =>
     simp only[dH] at h;cases ho:ora (dH P ora KT fu n) f args H with
     | some u =>
       rw[ho] at h;dsimp only at h;rw[Option.some.injEq] at h;subst h;exact hO _ ih f args H v H' ho hne p M w cargs hH hA
     | none =>
       rw[ho] at h;simp only at h;cases hf:P.funcs[f]? with
       | none=>rw[hf] at h;simp at h
       | some fn =>
         rw[hf] at h;simp only at h;cases hb:fn.body with
         | none=>rw[hb] at h;simp at h
         | some c =>
           rw[hb] at h;simp only at h;split at h
           · rename_i hle;split at h
             · rename_i e fr l H1 he;split at h
               · cases hv:hJ P fr (l::H1) fn.results.toList with
                 | none=>rw[hv] at h;simp at h
                 | some vs =>
                   rw[hv] at h;simp only[nP] at h;obtain ⟨rfl,rfl⟩:=h;exact ⟨⟨fn,hf,by rw[hb];rfl⟩,so hf hb (by simpa using hle) (.inl rfl) hv (cV dJ.wide hN ih (more hN hD ih _ _ rfl rfl dJ.wide) _ _ _ _ _ _ he) hH hA⟩
               · cases hv:hJ P fr (l::H1) fn.results.toList with
                 | none=>rw[hv] at h;simp at h
                 | some vs =>
                   rw[hv] at h;simp only[nP] at h;obtain ⟨rfl,rfl⟩:=h;exact ⟨⟨fn,hf,by rw[hb];rfl⟩,so hf hb (by simpa using hle) (.inr rfl) hv (cV dJ.wide hN ih (more hN hD ih _ _ rfl rfl dJ.wide) _ _ _ _ _ _ he) hH hA⟩
               · simp at h
             · simp at h
           · simp at h
   | mode=>trivial
   | round d i =>
     intro b o t hm;simp only[dH] at h;split at h
     · rename_i l hg;split at h
       · simp at h
       · rename_i hl;split at h
         · rename_i hs;split at h
           · rename_i fr hp;split at h
             · rename_i fr1 H1 he1;split at h
               · rename_i l1 hg1;split at h
                 · rename_i hs1;split at h
                   · rename_i e fr2 lv H2 he2;split at h
                     · rename_i l2 hg2;simp only[nP] at h;obtain ⟨rfl,rfl⟩:=h;exact Es hN ih (fun cx F h1 h2 hW=>more hN hD ih cx F h1 h2 hW) hg (by simpa using hl) hs hp he1 hg1 hs1 he2 hg2 hH hA hm
                     · simp at h
                   · simp at h
                 · simp at h
               · simp at h
             · simp at h
           · simp at h
         · simp at h
     · simp at h

end Go.Eng
end
section
namespace Go.Eng

theorem dx.below {w w':World} (h:dx (fun _=>True) w w'):Go.RowKit.Below w.heap.size w w':=⟨h.os,h.tape,h.output,h.size,fun k hk=>h.block k hk trivial⟩

end Go.Eng
end
section
namespace Go.Eng

theorem iW {fr fr':aA}:∀ {l:List Operand},(∀ x ∈ l,b5 fr x=b5 fr' x)→kN fr l=kN fr' l
 | [],_=>rfl
 | x::l,h=>by simp only[kN];rw[h x (by simp),iW (fun y hy=>h y (by simp[hy]))]
theorem kH {fr fr':aA}:∀ {l:List (Nat×Operand)},(∀ x ∈ l,b5 fr x.2=b5 fr' x.2)→dS fr l=dS fr' l
 | [],_=>rfl
 | (i,x)::l,h=>by
   simp only[dS];have:=h (i,x) (by simp);simp only at this;rw[this,kH (fun y hy=>h y (by simp[hy]))]

theorem xL {P:Program} {call:aK} {fr fr':aA} {H:ab} {nx:Nat} {c:Call} (h:∀ x ∈ c.operands.toList,b5 fr x=b5 fr' x):gF P call fr H nx c=gF P call fr' H nx c:=by
 have hargs:∀ x ∈ c.args.toList,b5 fr x=b5 fr' x:=fun x hx=>h x (by unfold Call.operands;rw[Array.toList_append];exact List.mem_append_right _ hx);unfold gF;cases hc:c.callee with
 | value f =>
   have hf:b5 fr f=b5 fr' f:=h f (by unfold Call.operands;rw[hc];simp);dsimp only;rw[hf,iW hargs]
 | invoke r m=>rfl
 | builtin b =>
   cases b<;>dsimp only<;>try rfl
   all_goals first
    | (rw[iW hargs];done)
    | (generalize c.args.toList=l at hargs
       generalize c.argTypes.toList=ts
       rcases ts with _ | ⟨t,_ | ⟨u,ts⟩⟩<;>rcases l with _ | ⟨x,_ | ⟨y,l⟩⟩<;>dsimp only <;>
        first
        | rfl
        | (rw[hargs x (by simp),hargs y (by simp)])
        | (rw[hargs x (by simp)]))

theorem oK {P:Program} {call:aK} {fr fr':aA} {H:ab} {nx:Nat} {o:Oper} (h:∀ x ∈ o.op.operands.toList,b5 fr x=b5 fr' x):evalOp P call fr H nx o=evalOp P call fr' H nx o:=by
 unfold evalOp;cases ho:o.op<;>rw[ho] at h<;>simp only[Op.operands] at h;all_goals try (simp at h;simp[h];done)
 all_goals try rfl
 case build t ps =>
  dsimp only
  rw[kH (l:=ps.toList) (fun x hx=>h x.2 (by simp only[List.mem_map];exact ⟨x,hx,rfl⟩))]
 case buildSlice t n ps =>
  dsimp only
  rw[kH (l:=ps.toList) (fun x hx=>h x.2 (by simp only[List.mem_map];exact ⟨x,hx,rfl⟩))]
 case makeFunc f a b =>
  simp at h
  dsimp only
  rw[iW (l:=a.toList) (fun x hx=>h x (.inl (by simpa using hx))),iW (l:=b.toList) (fun x hx=>h x (.inr (by simpa using hx)))]
 case makeMap t r=>cases r<;>rfl
 case slice t x lo hi mx =>
  cases lo<;>cases hi<;>cases mx<;>simp at h<;>simp[h]
 case call c=>exact xL h

end Go.Eng
end
section
namespace Go.Eng

def jz:Touch→Nat→Nat→Prop
 | .none,_,_=>False
 | .blk e j,d,i=>e=d∧j=i
 | .all,_,_=>True

theorem sw {H H':ab} {d i:Nat} (h:az H' d i=az H d i) (v:Nat):dg H' d i v=dg H d i v:=by unfold dg;rw[h]

theorem nu {P:Program} {H H':ab} {t:TypeId} {m k x:AV} (hl:∀ d,aL H' d=aL H d)
 (hr:∀ d i,jz (match m with | .ptr d i _ _=>.blk d i | .slc d i _ _ _ _ _=>.blk d i | .map d i=>.blk d i | _=>.none) d i→az H' d i=az H d i):jC P H' t m k x=jC P H t m k x:=by
 unfold jC
 cases m<;>dsimp only at hr ⊢
 case map d i =>
  have h1:=hl d
  have h2:=hr d i ⟨rfl,rfl⟩
  cases P.underlying t with
  | none=>rfl
  | some td=>cases td<;>dsimp only<;>rw[h1,h2]
 all_goals (cases P.underlying t with
  | none=>rfl
  | some td=>cases td<;>rfl)

theorem xS {P:Program} {call:aK} {fr:aA} {H H':ab} {nx:Nat} {o:Oper} {v:AV} {δ:Delta} (h:evalOp P call fr H nx o=some (v,δ)) (hδ:∀ X,δ≠.heap X) (hl:∀ d,aL H' d=aL H d)
 (hr:∀ d i,jz (cQ fr o) d i→az H' d i=az H d i) (ha:cQ fr o=.all→H'=H):evalOp P call fr H' nx o=some (v,δ):=by
 by_cases hall:cQ fr o=.all
 · rw[ha hall];exact h
 unfold evalOp at h ⊢
 unfold cQ at hr hall
 cases ho:o.op<;>rw[ho] at h hr hall<;>dsimp only at h hr hall ⊢<;>try exact h
 case load t a =>
  unfold kp at h ⊢
  unfold oZ at h ⊢
  cases hx:b5 fr a<;>rw[hx] at h hr<;>dsimp only at h hr ⊢<;>try exact h
  rw[sw (hr _ _ ⟨rfl,rfl⟩)]
  exact h
 case store t a x =>
  unfold gp at h ⊢
  cases hx:b5 fr a<;>rw[hx] at h hr<;>dsimp only at h hr ⊢<;>try exact h
  rename_i d i ver off
  have e:=sw (hr _ _ ⟨rfl,rfl⟩) ver
  rw[hl,e]
  split at h
  · simp at h
  · rename_i hlk
    rw[if_neg hlk]
    split at h
    · rename_i r n q e1 e2 e3
      split at h
      · rename_i hc
        rw[if_pos hc]
        split at h
        · split at h
          · simp at h
          · split at h
            · simp only[Option.map_some,Option.some.injEq,Prod.mk.injEq] at h
              exact absurd h.2.symm (hδ _)
            · simp at h
        · rename_i hno
          first
          | exact h
          | (split
             · rename_i d' j w o' sz len cap
               exact absurd rfl (hno d' j w o' sz len cap rfl)
             · exact h)
      · simp at h
    · simp at h
 case lookup t m k ok =>
  unfold kp at h ⊢
  unfold ry at h ⊢
  have e:vj H' (b5 fr m)=vj H (b5 fr m):=by
   unfold vj;cases hx:b5 fr m<;>rw[hx] at hr<;>dsimp only at hr ⊢;rw[hr _ _ ⟨rfl,rfl⟩]
  have e0:vo H' (b5 fr m)=vo H (b5 fr m):=by
   unfold vo;cases hx:b5 fr m<;>rw[hx] at hr<;>dsimp only at hr ⊢;rw[hr _ _ ⟨rfl,rfl⟩]
  rw[e,e0];exact h
 case mapUpdate t m k x =>
  rw[nu hl hr];exact h
 case insert t m k x =>
  rw[nu hl hr];exact h
 case makeMap t r=>cases r<;>exact h
 case call c =>
  unfold gF at h ⊢
  cases hc:c.callee with
  | value f=>rw[hc] at hall;simp at hall
  | invoke r m=>rw[hc] at h;simp at h
  | builtin b =>
    rw[hc] at h hr hall
    cases b<;>dsimp only at h hr hall ⊢<;>try exact h
    all_goals try (simp at hall;done)
    generalize c.args.toList=l at h hr hall ⊢
    generalize c.argTypes.toList=ts at h hr hall ⊢
    rcases l with _ | ⟨x,l⟩
    · exact h
    · rcases ts with _ | ⟨t,ts⟩
      · exact h
      · dsimp only at h hr ⊢
        have e:uI P H' t (b5 fr x)=uI P H t (b5 fr x):=by
         unfold uI;cases P.underlying t with
         | none=>rfl
         | some td =>
           cases hx:b5 fr x<;>rw[hx] at hr<;>cases td<;>dsimp only at hr ⊢;rw[hr _ _ ⟨rfl,rfl⟩]
        rw[e];exact h

def qI (k:Nat→Bool):Nat→List (Nat×an)→List (Nat×an)
 | _,[]=>[]
 | i,b::r=>(if k i then b else (b.1,.dead))::qI k (i+1) r
def lg (k:Nat→Nat→Bool):Nat→ab→ab
 | _,[]=>[]
 | d,l::r=>{ l with bs:=qI (k d) 0 l.bs } :: lg k (d+1) r
theorem o8 (k:Nat→Bool):∀ (l:List (Nat×an)) (s:Nat),(qI k s l).length=l.length
 | [],_=>rfl
 | b::l,s=>by simp[qI,o8 k l]
theorem vD (k:Nat→Bool):∀ (l:List (Nat×an)) (s i:Nat),au (qI k s l) i=if k (s+i) then au l i else ((au l i).1,.dead)
 | [],s,i=>by simp[qI,au]
 | b::l,s,0=>by simp[qI,au]
 | b::l,s,i+1=>by
   simp only[qI,au,vD k l (s+1) i];rw[show s+1+i=s+(i+1) by omega]
theorem qb (k:Nat→Nat→Bool):∀ (H:ab) (s d i:Nat),az (lg k s H) d i=if k (s+d) i then az H d i else ((az H d i).1,.dead)
 | [],s,d,i=>by simp[lg,az]
 | l::r,s,0,i=>by simp[lg,az,vD]
 | l::r,s,d+1,i=>by
   simp only[lg,az,qb k r (s+1) d i];rw[show s+1+d=s+(d+1) by omega]
theorem sW (k:Nat→Nat→Bool):∀ (H:ab) (s d:Nat),aL (lg k s H) d=aL H d
 | [],_,_=>rfl
 | l::r,s,0=>rfl
 | l::r,s,d+1=>by simp[lg,aL,sW k r]
theorem sX (k:Nat→Nat→Bool):∀ (H:ab) (s d:Nat),ao (lg k s H) d=ao H d
 | [],_,_=>rfl
 | l::r,s,0=>by simp[lg,ao,o8]
 | l::r,s,d+1=>by simp[lg,ao,sX k r]

def star (t:Touch) (e:ab):ab :=
 match t with
 | .all=>e
 | .none=>lg (fun _ _=>false) 0 e
 | .blk d i=>lg (fun a b=>a == d && b == i) 0 e
theorem zu (t:Touch) (e:ab) (d i:Nat):(jz t d i∧az (star t e) d i=az e d i)∨(¬ jz t d i∧az (star t e) d i=((az e d i).1,.dead)):=by
 cases t with
 | all=>exact .inl ⟨trivial,rfl⟩
 | none=>exact .inr ⟨id,by simp[star,qb]⟩
 | blk a b =>
   simp only[star,qb,Nat.zero_add,jz];by_cases e1:a=d∧b=i
   · obtain ⟨rfl,rfl⟩:=e1;exact .inl ⟨⟨rfl,rfl⟩,by simp⟩
   · refine .inr ⟨e1,if_neg ?_⟩;simp only[Bool.and_eq_true,beq_iff_eq];exact fun x=>e1 ⟨x.1.symm,x.2.symm⟩
theorem vT (t:Touch) (e:ab) (d:Nat):aL (star t e) d=aL e d:=by
 cases t<;>simp[star,sW]
theorem ED (t:Touch) (e:ab) (d:Nat):ao (star t e) d=ao e d:=by
 cases t<;>simp[star,sX]

structure uV (e H:ab):Prop where
 get:∀ d i,az e d i=az H d i∨(az e d i).2=.dead
 next:∀ d,ao e d=ao H d
theorem uV.live {e H:ab} (h:uV e H) {d i v:Nat} {B:an} (hg:az e d i=(v,B)) (hB:B≠.dead):az H d i=(v,B):=by
 rcases h.get d i with h1 | h1
 · rw[← h1];exact hg
 · rw[hg] at h1;exact absurd h1 hB
theorem bj.under {p:aF} {M:Mu} {e H:ab} {w:World} (h:bj p M H w) (u:uV e H):bj p M e w where
 pers:=h.pers
 live:=fun d i v B hg hB=>h.live d i v B (u.live hg hB) hB
 apart:=fun d i v B d' i' v' B' b o t o' t' hg hB hg' hB' hm hm'=>h.apart d i v B d' i' v' B' b o t o' t' (u.live hg hB) hB (u.live hg' hB') hB' hm hm'
 dom:=fun d i v t hm=>by
  have:=h.dom d i v t hm;rw[u.next];refine ⟨this.1,?_⟩;rcases u.get d i with h1 | h1
  · rw[h1];exact this.2
  · exact fun hne=>absurd h1 hne
theorem eI.under {p:aF} {M:Mu} {e H:ab} {nx:Nat} {v:AV} {δ:Delta} {cv:Value} {w w':World} (h:eI p M e nx v δ cv w w') (u:uV e H) (hl:∀ d,aL e d=aL H d) (hδ:∀ X,δ≠.heap X):eI p M H nx v δ cv w w':=by
 cases δ with
 | bA=>exact h
 | push B=>exact h
 | set d i x =>
   obtain ⟨ver',B'⟩:=x;obtain ⟨ver,B,b,o,t,b',o',t',hg,hB,hk,rest⟩:=h;exact ⟨ver,B,b,o,t,b',o',t',u.live hg hB,hB,by rw[← hl];exact hk,rest⟩
 | heap X=>exact absurd rfl (hδ X)

theorem Fh:∀ (l m:List (Nat×an)),l.length=m.length→(∀ i,au l i=au m i)→l=m
 | [],[],_,_=>rfl
 | [],_::_,h,_=>by simp at h
 | _::_,[],h,_=>by simp at h
 | a::l,b::m,h,g=>by
   have h0:=g 0;simp only[au] at h0;rw[h0,Fh l m (by simpa using h) (fun i=>g (i+1))]
theorem sB:∀ (H K:ab),H.length=K.length→(∀ d i,az H d i=az K d i)→(∀ d,ao H d=ao K d)→(∀ d,aL H d=aL K d)→H=K
 | [],[],_,_,_,_=>rfl
 | [],_::_,h,_,_,_=>by simp at h
 | _::_,[],h,_,_,_=>by simp at h
 | l::r,m::s,h,g,n,k=>by
   have h0:l.bs=m.bs:=Fh _ _ (n 0) (fun i=>g 0 i);have h1:l.lock=m.lock:=k 0;have h2:=sB r s (by simpa using h) (fun d i=>g (d+1) i) (fun d=>n (d+1)) (fun d=>k (d+1));cases l;cases m;simp only at h0 h1;rw[h0,h1,h2]

def uE (bef:Nat) (recs:List Rec) (d i:Nat):Prop:=∃ r ∈ recs,r.writes=some (d,i)∧bef.testBit r.ix=false
theorem jW (bef:Nat):∀ (recs:List Rec) (H:ab) (d i:Nat),(¬ uE bef recs d i∧az (df H bef recs) d i=az H d i)∨(uE bef recs d i∧az (df H bef recs) d i=((az H d i).1,.dead))
 | [],H,d,i=>.inl ⟨(by rintro ⟨r,hr,_⟩;cases hr),rfl⟩
 | r :: l,H,d,i=>by
   simp only[df];have skip:(∀ x,r.writes=some x→bef.testBit r.ix=true)→(uE bef (r::l) d i↔uE bef l d i):=fun hx=>by
    constructor
    · rintro ⟨q,hq,h1,h2⟩;rcases List.mem_cons.1 hq with rfl | hq
      · rw[hx _ h1] at h2;cases h2
      · exact ⟨q,hq,h1,h2⟩
    · rintro ⟨q,hq,h1,h2⟩;exact ⟨q,List.mem_cons_of_mem _ hq,h1,h2⟩
   cases hw:r.writes with
   | none =>
     rw[skip (fun x hx=>by rw[hw] at hx;cases hx)];exact jW bef l H d i
   | some x =>
     obtain ⟨a,b⟩:=x;dsimp only;split
     · rename_i hb;rw[skip (fun _ _=>hb)];exact jW bef l H d i
     · rename_i hb;have hb:bef.testBit r.ix=false:=by simpa using hb
       have ih:=jW bef l (ev H a b) d i;rw[eJ] at ih;by_cases e:d=a∧i=b
       · rw[if_pos e] at ih;have e':=e;obtain ⟨rfl,rfl⟩:=e';refine .inr ⟨⟨r,by simp,hw,hb⟩,?_⟩;rcases ih with ⟨_,h⟩ | ⟨_,h⟩<;>exact h
       · rw [if_neg e] at ih;have:uE bef (r::l) d i↔uE bef l d i:=by
          constructor
          · rintro ⟨q,hq,h1,h2⟩;rcases List.mem_cons.1 hq with rfl | hq
            · rw[hw] at h1;simp only[nP] at h1;exact absurd ⟨h1.1.symm,h1.2.symm⟩ e
            · exact ⟨q,hq,h1,h2⟩
          · rintro ⟨q,hq,h1,h2⟩;exact ⟨q,List.mem_cons_of_mem _ hq,h1,h2⟩
         rw[this];exact ih
theorem kD (bef:Nat):∀ (recs:List Rec) (H:ab) (d:Nat),aL (df H bef recs) d=aL H d
 | [],_,_=>rfl
 | r :: l,H,d=>by
   simp only[df];split
   · split
     · exact kD bef l H d
     · rw[kD bef l,iL]
   · exact kD bef l H d
theorem iK (bef:Nat):∀ (recs:List Rec) (H:ab) (d:Nat),ao (df H bef recs) d=ao H d
 | [],_,_=>rfl
 | r :: l,H,d=>by
   simp only[df];split
   · split
     · exact iK bef l H d
     · rw[iK bef l,cr]
   · exact iK bef l H d
theorem nj (bef d i:Nat):∀ (recs:List Rec),j5 bef d i recs=true→∀ r ∈ recs,bef.testBit r.ix=true∨¬ jz r.reads d i
 | [],_,r,hr=>by cases hr
 | q :: l,h,r,hr=>by
   simp only[j5,Bool.and_eq_true,Bool.or_eq_true] at h;rcases List.mem_cons.1 hr with rfl | hr
   · refine h.1.imp id fun h1=>?_;cases hq:r.reads with
     | none=>exact id
     | all=>rw[hq] at h1;simp at h1
     | blk e j =>
       rw[hq] at h1;simp only[Bool.not_eq_true',Bool.and_eq_false_iff] at h1;rintro ⟨rfl,rfl⟩;simp at h1
   · exact nj bef d i l h.2 r hr

theorem vg (acc:Array Nat) (i:Nat):∀ (l:List Edge) (s:Nat),(l.foldl (fun s e=>if Region.binds .any e then s ||| 2 ^ e.on ||| acc.getD e.on 0 else s) s).testBit i=true ↔
 s.testBit i=true∨∃ e ∈ l,Region.binds .any e=true∧(i=e.on∨(acc.getD e.on 0).testBit i=true)
 | [],s=>by simp
 | e :: l, s=>by
   rw[List.foldl_cons,vg acc i l];by_cases hb:Region.binds .any e=true
   · rw[if_pos hb];simp only[Nat.testBit_or,Bool.or_eq_true,Nat.testBit_two_pow,decide_eq_true_eq];constructor
     · rintro (((h | h) | h) | ⟨x,hx,h⟩)
       · exact .inl h
       · exact .inr ⟨e,by simp,hb,.inl h.symm⟩
       · exact .inr ⟨e,by simp,hb,.inr h⟩
       · exact .inr ⟨x,by simp[hx],h⟩
     · rintro (h | ⟨x,hx,h1,h2⟩)
       · exact .inl (.inl (.inl h))
       · rcases List.mem_cons.1 hx with rfl | hx
         · rcases h2 with h2 | h2
           · exact .inl (.inl (.inr h2.symm))
           · exact .inl (.inr h2)
         · exact .inr ⟨x,hx,h1,h2⟩
   · rw[if_neg hb];constructor
     · rintro (h | ⟨x,hx,h⟩)
       · exact .inl h
       · exact .inr ⟨x,by simp[hx],h⟩
     · rintro (h | ⟨x,hx,h1,h2⟩)
       · exact .inl h
       · rcases List.mem_cons.1 hx with rfl | hx
         · exact absurd h1 hb
         · exact .inr ⟨x,hx,h1,h2⟩

theorem qn:∀ (l:List Oper) (acc:Array Nat),∃ R:Array Nat,l.foldl (fun acc o=>acc.push (o.after.foldl (fun s e=>if Region.binds .any e then s ||| 2 ^ e.on ||| acc.getD e.on 0 else s) 0)) acc=R ∧
 R.size=acc.size+l.length∧(∀ j,j<acc.size→R.getD j 0=acc.getD j 0) ∧
 ∀ j o,l[j]?=some o→∀ i,(R.getD (acc.size+j) 0).testBit i=true↔∃ e ∈ o.after,Region.binds .any e=true∧(i=e.on∨(e.on<acc.size+j∧(R.getD e.on 0).testBit i=true))
 | [],acc=>⟨acc,rfl,by simp,fun _ _=>rfl,fun j o h=>by simp at h⟩
 | o :: l,acc=>by
   obtain ⟨R,h1,h2,h3,h4⟩:=qn l (acc.push (o.after.foldl (fun s e=>if Region.binds .any e then s ||| 2 ^ e.on ||| acc.getD e.on 0 else s) 0));have hlow:∀ j,j<acc.size→R.getD j 0=acc.getD j 0:=fun j hj=>by
    rw[h3 j (by simp;omega)];simp only[Array.getD_eq_getD_getElem?];rw[Array.getElem?_push_lt hj,Array.getElem?_eq_getElem hj]
   refine ⟨R,by rw[List.foldl_cons];exact h1,by rw[h2];simp;omega,hlow,fun j o' hj i=>?_⟩;cases j with
   | zero =>
     simp only[List.getElem?_cons_zero,Option.some.injEq] at hj;subst hj;rw[Nat.add_zero,h3 _ (by simp)];have:(acc.push (o.after.foldl (fun s e=>if Region.binds .any e then s ||| 2 ^ e.on ||| acc.getD e.on 0 else s) 0)).getD acc.size 0=o.after.foldl (fun s e=>if Region.binds .any e then s ||| 2 ^ e.on ||| acc.getD e.on 0 else s) 0:=by
      simp[Array.getD_eq_getD_getElem?]
     rw[this,← Array.foldl_toList,vg];simp only[Nat.zero_testBit,Bool.false_eq_true,false_or,Array.mem_toList_iff];constructor
     · rintro ⟨e,he,hb,h⟩;refine ⟨e,he,hb,h.imp id fun h=>?_⟩;have hlt:e.on<acc.size:=by
        refine Nat.lt_of_not_le fun hle=>?_;rw[Array.getD_eq_getD_getElem?,Array.getElem?_eq_none hle] at h;simp at h
       exact ⟨hlt,by rw[hlow _ hlt];exact h⟩
     · rintro ⟨e,he,hb,h⟩;refine ⟨e,he,hb,h.imp id fun h=>?_⟩;rw[← hlow _ h.1];exact h.2
   | succ j =>
     simp only[List.getElem?_cons_succ] at hj;have:=h4 j o' hj i;simp only[Array.size_push] at this;rw[show acc.size+(j+1)=acc.size+1+j by omega];exact this

theorem rX {ops:Array Oper} {j:Nat} {o:Oper} (ho:ops[j]?=some o) (i:Nat):((Region.before ops).getD j 0).testBit i=true ↔
 ∃ e ∈ o.after,Region.binds .any e=true∧(i=e.on∨(e.on<j∧((Region.before ops).getD e.on 0).testBit i=true)):=by
 obtain ⟨R,h1,h2,h3,h4⟩:=qn ops.toList #[]
 have hR:Region.before ops=R:=by rw[← h1];unfold Region.before;rw[← Array.foldl_toList]
 rw[hR]
 have:=h4 j o (by simpa using ho) i
 simpa using this

end Go.Eng
end
section
namespace Go.Eng

abbrev fE:Nat→Bool:=fun _=>true
def kB (nt:Nat) (ops:Array Oper) (T:Nat→uk) (dV:aA) (S:Nat→Bool):Nat→aA
 | 0=>dV
 | k+1=>if S k then iu nt (kB nt ops T dV S k) ((ops[k]?).bind (·.dst)) (T k).v else kB nt ops T dV S k
def hS (T:Nat→uk) (H0:ab) (S:Nat→Bool):Nat→ab
 | 0=>H0
 | k+1=>if S k then qZ (hS T H0 S k) (T k).wr else hS T H0 S k
def cM (ops:Array Oper) (k:Nat):Bool:=((ops[k]?).map js).getD false
def kh (ops:Array Oper) (n0:Nat):Nat→Nat
 | 0=>n0
 | k+1=>if cM ops k then kh ops n0 k+1 else kh ops n0 k
def eU (T:Nat→uk):Nat→List Rec
 | 0=>[]
 | k+1=>⟨k,(T k).rd,(T k).wr.map fun x=>(x.1,x.2.1)⟩::eU T k
theorem ph (T:Nat→uk):∀ (k:Nat) (r:Rec),r ∈ eU T k↔∃ j,j<k∧r=⟨j,(T j).rd,(T j).wr.map fun x=>(x.1,x.2.1)⟩
 | 0,r=>by simp[eU]
 | k + 1,r=>by
   simp only[eU,List.mem_cons,ph T k r];constructor
   · rintro (rfl | ⟨j,hj,rfl⟩)
     · exact ⟨k,by omega,rfl⟩
     · exact ⟨j,by omega,rfl⟩
   · rintro ⟨j,hj,rfl⟩;by_cases e:j=k
     · subst e;exact .inl rfl
     · exact .inr ⟨j,by omega,rfl⟩

theorem mE {nt:Nat} {ops:Array Oper} {T T':Nat→uk} {dV:aA} {S S':Nat→Bool}:∀ (n:Nat),(∀ k,k<n→T k=T' k∧S k=S' k)→kB nt ops T dV S n=kB nt ops T' dV S' n
 | 0,_=>rfl
 | n+1,h=>by simp only[kB];rw[(h n wO).1,(h n wO).2,mE n (fun k hk=>h k wO)]
theorem oU {T T':Nat→uk} {H0:ab} {S S':Nat→Bool}:∀ (n:Nat),(∀ k,k<n→T k=T' k∧S k=S' k)→hS T H0 S n=hS T' H0 S' n
 | 0,_=>rfl
 | n+1,h=>by simp only[hS];rw[(h n wO).1,(h n wO).2,oU n (fun k hk=>h k wO)]
theorem ob {T T':Nat→uk}:∀ (n:Nat),(∀ k,k<n→T k=T' k)→eU T n=eU T' n
 | 0,_=>rfl
 | n+1,h=>by simp only[eU];rw[h n wO,ob n (fun k hk=>h k wO)]

def Fact (P:Program) (nt:Nat) (call:aK) (ops:Array Oper) (befs:Array Nat) (dV:aA) (H0:ab) (n0:Nat) (T:Nat→uk):Prop :=
 ∀ k o,ops[k]?=some o→gG P call ops (befs.getD k 0) (kB nt ops T dV fE k) (hS T H0 fE k) (kh ops n0 k) (eU T k) o=some (T k)

theorem trace {P:Program} {nt:Nat} {call:aK} {ops:Array Oper} {befs:Array Nat} {dV:aA} {H0:ab} {n0:Nat} {fr':aA} {H':ab}:∀ (l:List Oper) (j:Nat) (T:Nat→uk),ops.toList.drop j=l→j≤ops.size →
 gr P nt call ops befs j l (kB nt ops T dV fE j) (hS T H0 fE j) (kh ops n0 j) (eU T j)=some (fr',H') →
 ∃ T',(∀ k,k<j→T' k=T k)∧(∀ k o,j≤k→ops[k]?=some o→gG P call ops (befs.getD k 0) (kB nt ops T' dV fE k) (hS T' H0 fE k) (kh ops n0 k) (eU T' k) o=some (T' k)) ∧
  kB nt ops T' dV fE ops.size=fr'∧hS T' H0 fE ops.size=H'
 | [],j,T,hl,hj,h=>by
   have:ops.size≤j:=by simpa using hl
   obtain rfl:j=ops.size:=by omega
   simp only[gr,Option.some.injEq,Prod.mk.injEq] at h;exact ⟨T,fun _ _=>rfl,fun k o hk ho=>by have:=(Array.getElem?_eq_some_iff.1 ho).1;omega,h.1,h.2⟩
 | o :: l,j,T,hl,hj,h=>by
   have ho:ops[j]?=some o:=by
    have:(ops.toList.drop j)[0]?=some o:=by rw[hl];rfl
    simpa using this
   have hlt:j<ops.size:=(Array.getElem?_eq_some_iff.1 ho).1;simp only[gr] at h;cases he:gG P call ops (befs.getD j 0) (kB nt ops T dV fE j) (hS T H0 fE j) (kh ops n0 j) (eU T j) o with
   | none=>rw[he] at h;simp at h
   | some e =>
     rw[he] at h;dsimp only at h;let T1:Nat→uk:=fun i=>if i=j then e else T i
     have e1:T1 j=e:=if_pos rfl;have eb:∀ k,k<j→T1 k=T k:=fun k hk=>if_neg wO;have f1:kB nt ops T1 dV fE (j+1)=iu nt (kB nt ops T dV fE j) o.dst e.v:=by
      simp only[kB,ho,Option.bind_some,e1,if_true];rw[mE j (fun k hk=>⟨eb k hk,rfl⟩)]
     have f2:hS T1 H0 fE (j+1)=qZ (hS T H0 fE j) e.wr:=by
      simp only[hS,e1,if_true];rw[oU j (fun k hk=>⟨eb k hk,rfl⟩)]
     have f3:kh ops n0 (j+1)=if js o then kh ops n0 j+1 else kh ops n0 j:=by
      simp only[kh,cM,ho,Option.map_some,Option.getD_some]
     have f4:eU T1 (j+1)=⟨j,e.rd,e.wr.map fun x=>(x.1,x.2.1)⟩::eU T j:=by
      simp only[eU,e1];rw[ob j eb]
     rw[← f1,← f2,← f3,← f4] at h;obtain ⟨T',g1,g2,g3,g4⟩:=trace l (j+1) T1 (by rw[← List.tail_drop,hl];rfl) hlt h;have gj:∀ k,k<j→T' k=T k:=fun k hk=>(g1 k wO).trans (eb k hk);refine ⟨T',gj,fun k o' hk ho'=>?_,g3,g4⟩;by_cases hkj:k=j
     · subst hkj;rw[ho] at ho';obtain rfl:=Option.some.inj ho';rw[mE k (fun i hi=>⟨gj i hi,rfl⟩),oU k (fun i hi=>⟨gj i hi,rfl⟩),ob k gj,he,g1 k wO,e1]
     · exact g2 k o' wO ho'

theorem MR {P:Program} {nt:Nat} {call:aK} {ops:Array Oper} {befs:Array Nat} {dV:aA} {H0:ab} {n0:Nat} {fr':aA} {H':ab} (h:gr P nt call ops befs 0 ops.toList dV H0 n0 []=some (fr',H')) :
 ∃ T,Fact P nt call ops befs dV H0 n0 T∧kB nt ops T dV fE ops.size=fr'∧hS T H0 fE ops.size=H':=by
 obtain ⟨T,_,h2,h3,h4⟩:=trace ops.toList 0 (fun _=>⟨.undef,.none,none⟩) rfl (Nat.zero_le _) h
 exact ⟨T,fun k o ho=>h2 k o (Nat.zero_le _) ho,h3,h4⟩

theorem tg       (ops:Array Oper) (n0:Nat):∀ (m k:Nat),k≤m→kh ops n0 k≤kh ops n0 m
 | 0,k,h=>by     obtain rfl:k=0:=by omega
                 exact Nat.le_refl _
 | m + 1,k,h=>by
   by_cases e:k=m+1
   · subst e;exact Nat.le_refl _
   · have:=tg ops n0 m k wO;simp only[kh];split<;>omega
theorem Bs {ops:Array Oper} {n0 k m:Nat} (h:k<m) (hp:cM ops k=true):kh ops n0 k<kh ops n0 m:=by
 have:=tg ops n0 m (k+1) h;simp only[kh,hp,if_true] at this;omega
theorem Md (ops:Array Oper) (n0 k:Nat):n0≤kh ops n0 k:=tg ops n0 k 0 (Nat.zero_le _)
theorem CV (ops:Array Oper) (n0:Nat):∀ (k:Nat),k≤ops.size→kh ops n0 k+cY (ops.toList.drop k)=n0+cY ops.toList
 | 0,_=>rfl
 | k+1,h=>by
   have ih:=CV ops n0 k wO;have hk:k<ops.size:=by omega
   have e:ops.toList.drop k=ops[k]::ops.toList.drop (k+1):=by rw[List.drop_eq_getElem_cons (by simpa using hk)];simp
   rw[e] at ih;simp only[cY] at ih;have e2:cM ops k=js ops[k]:=by simp[cM,Array.getElem?_eq_getElem hk]
   simp only[kh,e2];split at ih<;>split<;>rename_i a b<;>first | (simp[a] at b;done) | omega
theorem CW {ops:Array Oper} {n0 k:Nat} (hk:cM ops k=true):kh ops n0 k<n0+cY ops.toList:=by
 have hlt:k<ops.size:=by
  refine Nat.lt_of_not_le fun h=>?_;simp[cM,Array.getElem?_eq_none h] at hk
 have h1:=Bs (n0:=n0) (Nat.lt_succ_self k) hk;have h2:=CV ops n0 (k+1) hlt;have h3:kh ops n0 (k+1)≤n0+cY ops.toList:=by omega
 exact Nat.lt_of_lt_of_le h1 h3

theorem vL (H:ab) (x:Option (Nat×Nat×(Nat×an))) (d:Nat):ao (qZ H x) d=ao H d:=by
 cases x with
 | none=>rfl
 | some x=>exact cH _ _ _ _ _
theorem vK (H:ab) (x:Option (Nat×Nat×(Nat×an))) (d:Nat):aL (qZ H x) d=aL H d:=by
 cases x with
 | none=>rfl
 | some x=>exact fw _ _ _ _ _
theorem yY (H:ab) (x:Option (Nat×Nat×(Nat×an))):(qZ H x).length=H.length:=by
 cases x with
 | none=>rfl
 | some x=>exact lR _ _ _ _
theorem gu (T:Nat→uk) (H0:ab) (S:Nat→Bool) (d:Nat):∀ k,ao (hS T H0 S k) d=ao H0 d
 | 0=>rfl
 | k+1=>by
   simp only[hS];split
   · rw[vL,gu T H0 S d k]
   · exact gu T H0 S d k
theorem jn (T:Nat→uk) (H0:ab) (S:Nat→Bool) (d:Nat):∀ k,aL (hS T H0 S k) d=aL H0 d
 | 0=>rfl
 | k+1=>by
   simp only[hS];split
   · rw[vK,jn T H0 S d k]
   · exact jn T H0 S d k
theorem pR (T:Nat→uk) (H0:ab) (S:Nat→Bool):∀ k,(hS T H0 S k).length=H0.length
 | 0=>rfl
 | k+1=>by
   simp only[hS];split
   · rw[yY,pR T H0 S k]
   · exact pR T H0 S k

def kX (T:Nat→uk) (k d i:Nat):Option (Nat×an) :=
 match (T k).wr with
 | some (d',i',b)=>if d=d'∧i=i' then some b else none
 | none=>none
theorem kf {T:Nat→uk} {k d i:Nat} {b:Nat×an}:kX T k d i=some b↔(T k).wr=some (d,i,b):=by
 unfold kX;cases h:(T k).wr with
 | none=>simp
 | some x =>
   obtain ⟨d',i',b'⟩:=x;simp only[nP];constructor
   · intro h1;split at h1
     · rename_i e;simp only[Option.some.injEq] at h1;exact ⟨e.1.symm,e.2.symm,h1⟩
     · cases h1
   · rintro ⟨rfl,rfl,rfl⟩;simp

end Go.Eng
end
