/- The engine, part O: rounds of loops over functions. -/
import Derived.Test.YtgphpjdchnfjlaaDoorV6EngKx4
import Derived.RangeFuncIn
set_option linter.unusedVariables false
set_option linter.unusedSimpArgs false
section
namespace Go.Eng

theorem cG.Rq {p:aL} {M:Mu} {H:aa} {w:World} (h:bn p M H w) (hne:H≠[]) {d i b o t:Nat} {l l':iO} {r r':Loop} (hg:aB H d i=(0,.loop l)) (hm:M d i 0=some (b,o,t)) (hl:aM H d=false) (hr:w.heap[b]?=some (.loop r))
 (hrel:fP p (M.up d) (.loop l') b o t (w.putObj b (.loop r'))):∃ p' M',cG p M H w p' M' (dD H d i (0,.loop l')) (w.putObj b (.loop r')):=by
 have hd:eX p M H (aY H) .undef (.set d i (0,.loop l')) Go.undef w (w.putObj b (.loop r')) :=
  ⟨0,.loop l,b,o,t,b,o,t,hg,by simp,hl,hm,by simp,hrel,⟨rfl,rfl,rfl,by rw[World.putObj_size];exact Nat.le_refl _,fun y _ hy=>World.putObj_heap_other hy⟩,.inl rfl,.undef _,.inl ⟨rfl,rfl,rfl,rfl⟩⟩
 obtain ⟨p',M',e1,_⟩:=rV hne h hd
 exact ⟨p',M',e1⟩

theorem sU:∀ (fr:aD) (k x:Nat),bO (kX k fr) x=m6 k (bO fr x)
 | [],k,x=>by cases k<;>rfl
 | (y,v)::r,k,x=>by
   simp only[kX,bO,sU r k x];split<;>rfl
theorem FB {p:aL} {M:Mu} {nt k:Nat} {fr:aD} {a:Act} (h:bZ p (M.up k) nt fr a):bZ p M nt (kX k fr) a :=
 ⟨h.size,fun x=>by rw[sU];exact (h.at_ x).up⟩

theorem wD {p:aL} {M:Mu} {nt:Nat}:∀ (ts:List Tmp) (vs:List AV) (cs:List Value) (fr fr':aD) (a:Act),jZ nt fr ts vs=some fr'→bZ p M nt fr a→cs.length=vs.length→(∀ j,j<vs.length→an p M (vs.getD j .undef) (cs.getD j Go.undef)) →
 cs.length=ts.length∧bZ p M nt fr' { tmps:=(ts.zip cs).foldl (fun tmps (t,c)=>tmps.setIfInBounds t c) a.tmps,defers:=a.defers }
 | [],[],cs,fr,fr',a,h,hF,hl,_=>by
   simp only[jZ,Option.some.injEq] at h;subst h;have:cs=[]:=List.length_eq_zero_iff.1 (by simpa using hl);subst this;exact ⟨rfl,⟨hF.size,hF.at_⟩⟩
 | t::ts,[],cs,fr,fr',a,h,_,_,_=>by simp[jZ] at h
 | [],v::vs,cs,fr,fr',a,h,_,_,_=>by simp[jZ] at h
 | t :: ts,v::vs,cs,fr,fr',a,h,hF,hl,hv=>by
   simp only[jZ] at h;split at h
   · rename_i hlt;cases cs with
     | nil=>simp at hl
     | cons c cs =>
       have h0:=hF.put (some t) (v:=v) (c:=c) (by simpa using hv 0 (by simp));simp only[iZ,hlt,if_true,Act.put] at h0;have:=wD ts vs cs _ fr' _ h h0 (by simpa using hl) (fun j hj=>by have:=hv (j+1) (by simpa using hj);simpa using this);exact ⟨by simp[this.1],this.2⟩
   · simp at h

def Er (P:Program) (b:Nat) (R:Ending→World→Prop) (j:Option Code) (w:World):Prop:=∃ v w',(Instr.endRound b j).run P w=.ok v w'∧R (.returned v) w'
theorem xR {P:Program} {b:Nat} {R:Ending→World→Prop} {e:Ex} {a:Act} {w:World} (h:Er P b R (cJ e) w):roundPost P b R (OT e) a w:=by
 cases e<;>exact h

theorem uC {P:Program} (hN:dK P) {call:aN} (hC:cq P call) (hX:∀ (cx:Cx) (F:Fence),cx.P=P→cx.call=call→dL F→jl cx F) {fu:Nat} {kt:Nat→Nat} {d i:Nat} {args:List AV} {H:aa} {l l1 l2:iO} {fr fr1 fr2:aD} {H1 H2:aa} {lv:bB} {e:Ex}
 (hg:aB H d i=(0,.loop l)) (hl:aM H d=false) (hs:l.state=.ready) (hp:jZ l.nt (kX (d+1) l.fr) l.params (args.map (m6 1))=some fr)
 (he1:exec ⟨P,call,fu,l.fn,l.nt,kt,some (d+1,i)⟩ l.assign fr (⟨false,[]⟩::H)=some (.normal,fr1,H1)) (hg1:aB H1 (d+1) i=(0,.loop l1)) (hs1:l1.state=.ready)
 (he2:∀ b:Nat,dU P (Fence.wide.inRound b) (some (d+1,i)) l.nt l.body fr1 (dD H1 (d+1) i (0,.loop { l1 with state:=.busy })) e fr2 (lv::H2)) (hg2:aB H2 d i=(0,.loop l2))
 {p:aL} {M:Mu} {w:World} {cargs:Array Value} (hH:bn p M H w) (hA:eW p M args cargs) {b o t:Nat} (hm:M d i 0=some (b,o,t)) :
 ∃ f tmps assign body,(Instr.yield b cargs).run P w=.ok (.round b f tmps assign body) w ∧
  RoundIn Fence.wide 0 P b f tmps assign body w (ff p M H w (.bool (cJ e).isNone) (dD H2 d i (0,.loop { l2 with state:=if (cJ e).isNone then .ready else .done,pending:=cJ e }))):=by
 have record:∀ {p:aL} {M:Mu} {H:aa} {w:World} {d i:Nat} {l:iO} {b o t:Nat},bn p M H w→aB H d i=(0,.loop l)→M d i 0=some (b,o,t)→fP p (M.up d) (.loop l) b o t w:=by
  intro p M H w d i l b o t hH hg hm;obtain ⟨b',o',t',k1,k2,_⟩:=hH.live d i 0 _ hg (by simp);rw[hm] at k1;simp only[nP] at k1;obtain ⟨rfl,rfl,rfl⟩:=k1;exact k2
 obtain ⟨r,q1,q2,q3,q4,q5,q6,q7⟩:=record hH hg hm
 have hF0:bZ p (dw M) l.nt (kX (d+1) l.fr) ⟨r.tmps,[]⟩:=FB (k:=d+1) (M:=dw M) q7
 obtain ⟨z1,z2⟩:=wD l.params (args.map (m6 1)) cargs.toList _ fr _ hp hF0 (by simp[hA.1]) (fun j hj=>by
  have hj':j<args.length:=by simpa using hj
  rw[b5 _ _ _ hj'];have:=an.up (M:=dw M) (k:=1) (hA.2 j hj');simpa using this)
 have hpar:r.params=l.params.toArray:=by rw[← q4]
 have hsz:cargs.size=r.params.size:=by rw[hpar];simpa using z1
 refine ⟨_,_,_,_,run_yield q1 hsz,roundIn_of_wpIn trivial ?_⟩
 have htm:(r.params.zip cargs).foldl (fun tmps (t,a)=>tmps.setIfInBounds t a) r.tmps=(l.params.zip cargs.toList).foldl (fun tmps (t,c)=>tmps.setIfInBounds t c) r.tmps:=by
  rw[hpar,← Array.foldl_toList];simp
 rw[htm,q5,q6]
 have hW:=dL.inRound b
 have x1:=c5 (cx:=⟨P,call,fu,l.fn,l.nt,kt,some (d+1,i)⟩) hW hN hC (hX _ _ rfl rfl hW) _ _ _ _ _ _ he1
 have hR:vg (Fence.wide.inRound b) (some (d+1,i)) (dw M):=⟨b,o,t,rfl,hm⟩
 refine x1 w.heap.size p (dw M) _ w _ z2 hH.down (by simp) hR (Marks.nil _ _ _) (fun a1 w1 ⟨p1,M1,k1,k2,k3⟩=>?_)
 have hm1:M1 (d+1) i 0=some (b,o,t):=k1.mu _ _ _ _ hm
 obtain ⟨r1,u1,u2,u3,u4,u5,u6,u7⟩:=record k1.rel hg1 hm1
 have hl1:aM H1 (d+1)=false:=by rw[k1.lock];exact hl
 have hlt:∀ {w:World} {b:Nat} {x:Obj},w.heap[b]?=some x→b<w.heap.size:=fun e=>(Array.getElem?_eq_some_iff.1 e).1
 obtain ⟨p2,M2,t1⟩:=cG.Rq (l':={ l1 with state:=.busy }) (r':={ r1 with state:=.busy }) k1.rel (k1.ne (by simp)) hg1 hm1 hl1 u1 ⟨_,World.putObj_heap_same (hlt u1),rfl,u3,u4,u5,u6,u7⟩
 refine ⟨_,run_beginRound u1 (by rw[u2];exact hs1),?_⟩
 have x2:=he2 b
 have PV:=k1.trans t1
 refine x2 w.heap.size p2 M2 a1 _ _ (k2.mono t1.pst t1.mu) t1.rel (PV.ne (by simp)) (hR.mono PV.mu) (k3.ye t1) (fun a3 w3 ⟨p3,M3,v1,_,_⟩=>xR ?_)
 have kk:=PV.trans v1
 have hm3:(M3.up 1) d i 0=some (b,o,t):=kk.mu (d+1) i 0 _ hm
 have kp:=kk.pop
 obtain ⟨r3,y1,y2,y3,y4,y5,y6,y7⟩:=record kp.rel hg2 hm3
 have hne:H≠[]:=by intro e0;rw[e0] at hg;simp[aB] at hg
 have hl3:aM H2 d=false:=by rw[kp.lock];exact hl
 obtain ⟨p4,M4,t4⟩:=cG.Rq (l':={ l2 with state:=if (cJ e).isNone then .ready else .done,pending:=cJ e }) (r':={ r3 with state:=if (cJ e).isNone then .ready else .done,pending:=cJ e }) kp.rel (kp.ne hne) hg2 hm3 hl3 y1
  ⟨_,World.putObj_heap_same (hlt y1),rfl,rfl,y4,y5,y6,y7⟩
 have st:Still H (dD H2 d i (0,.loop { l2 with state:=if (cJ e).isNone then .ready else .done,pending:=cJ e })):=⟨fun d1 i1 hk9=>by
  rw[eh,if_neg (by rintro ⟨e9,_,_⟩;rw[e9,hl] at hk9;simp at hk9)];exact kk.same (d1+1) i1 wO hk9,fun d1 hk9=>by
  rw[cM];exact kk.next (d1+1) wO hk9⟩
 exact ⟨_,_,run_endRound _ y1,_,rfl,st,p4,M4,kp.trans t4,.bool _⟩
theorem Fp {P:Program} (hN:dK P) {call:aN} (hC:cq P call) (hX:∀ (cx:Cx) (F:Fence),cx.P=P→cx.call=call→dL F→jl cx F) {fu:Nat} {kt:Nat→Nat} {d i:Nat} {args:List AV} {H:aa} {l l1 l2:iO} {fr fr1 fr2:aD} {H1 H2:aa} {lv:bB} {e:Ex}
 (hg:aB H d i=(0,.loop l)) (hl:aM H d=false) (hs:l.state=.ready) (hp:jZ l.nt (kX (d+1) l.fr) l.params (args.map (m6 1))=some fr)
 (he1:exec ⟨P,call,fu,l.fn,l.nt,kt,some (d+1,i)⟩ l.assign fr (⟨false,[]⟩::H)=some (.normal,fr1,H1)) (hg1:aB H1 (d+1) i=(0,.loop l1)) (hs1:l1.state=.ready)
 (he2:exec ⟨P,call,fu,l.fn,l.nt,kt,some (d+1,i)⟩ l.body fr1 (dD H1 (d+1) i (0,.loop { l1 with state:=.busy }))=some (e,fr2,lv::H2)) (hg2:aB H2 d i=(0,.loop l2))
 {p:aL} {M:Mu} {w:World} {cargs:Array Value} (hH:bn p M H w) (hA:eW p M args cargs) {b o t:Nat} (hm:M d i 0=some (b,o,t)) :
 ∃ f tmps assign body,(Instr.yield b cargs).run P w=.ok (.round b f tmps assign body) w ∧
  RoundIn Fence.wide 0 P b f tmps assign body w (ff p M H w (.bool (cJ e).isNone) (dD H2 d i (0,.loop { l2 with state:=if (cJ e).isNone then .ready else .done,pending:=cJ e }))) :=
 uC hN hC hX hg hl hs hp he1 hg1 hs1 (fun b=>c5 (cx:=⟨P,call,fu,l.fn,l.nt,kt,some (d+1,i)⟩) (dL.inRound b) hN hC (hX _ _ rfl rfl (dL.inRound b)) _ _ _ _ _ _ he2) hg2 hH hA hm

end Go.Eng
end
section
namespace Go.Eng

def gx (P:Program):Prop:=∀ (cx:Cx) (F:Fence),cx.P=P→cq P cx.call→dL F→∀ (id:Nat) (ops:Array Oper) (fr:aD) (H:aa) (fr':aD) (H':aa),gp ops (Region.before ops)=true →
 gU cx.P cx.nt cx.call ops (Region.before ops) 0 ops.toList fr (om H (dc ops.toList)) (aY H) []=some (fr',H')→dU cx.P F cx.ro cx.nt (.region id ops true) fr H .normal fr' H'

def ss (P:Program) (ora:aN→FuncId→List AV→aa→Option (AV×aa)):Prop:=∀ (call:aN),cq P call→∀ (f:FuncId) (args:List AV) (H:aa) (v:AV) (H':aa),ora call f args H=some (v,H')→H≠[]→∀ (p:aL) (M:Mu) (w:World) (cargs:Array Value),bn p M H w→eW p M args cargs →
 (∃ fn,P.funcs[f]?=some fn∧fn.body.isNone=false)∧CallsIn Fence.wide 0 P f cargs w (ff p M H w v H')
theorem more {P:Program} (hN:dK P) (hD:gx P) {call:aN} (hC:cq P call) (cx:Cx) (F:Fence) (h1:cx.P=P) (h2:cx.call=call) (hW:dL F):jl cx F:=by
 subst h1;subst h2;exact ⟨fun id ops fr H fr' H' hs hr=>hD cx F rfl hC hW id ops fr H fr' H' hs hr,fun f ps assign body fr H e fr' H' h=>Fl hW hN hC f ps assign body fr H e fr' H' h⟩

theorem nf {P        : Program} (hN:dK P) (hD:gx P) {ora:aN→FuncId→List AV→aa→Option (AV×aa)} (hO:ss P ora) (KT:FuncId→Nat→Nat) (fu:Nat):∀ n,cq P (dk P ora KT fu n)
 | 0=>fun tgt args H v H' h _ _ _ _ _ _ _=>by cases tgt<;>first | trivial | simp[dk] at h
 | n + 1 => by
   have ih:=nf hN hD hO KT fu n;intro tgt args H v H' h hne p M w cargs hH hA;cases tgt with
   | fn f =>
     simp only[dk] at h;cases ho:ora (dk P ora KT fu n) f args H with
     | some u =>
       rw[ho] at h;dsimp only at h;rw[Option.some.injEq] at h;subst h;exact hO _ ih f args H v H' ho hne p M w cargs hH hA
     | none =>
       rw[ho] at h;simp only at h;cases hf:P.funcs[f]? with
       | none=>rw[hf] at h;simp at h
       | some fn =>
         rw[hf] at h;simp only at h;cases hb:fn.body with
         | none=>rw[hb] at h;simp at h
         | some c =>
           rw[hb] at h;simp only at h;split at h
           · rename_i hle;split at h
             · rename_i e fr l H1 he;split at h
               · cases hv:gM P fr (l::H1) fn.results.toList with
                 | none=>rw[hv] at h;simp at h
                 | some vs =>
                   rw[hv] at h;simp only[nP] at h;obtain ⟨rfl,rfl⟩:=h;exact ⟨⟨fn,hf,by rw[hb];rfl⟩,s7 hf hb (by simpa using hle) (.inl rfl) hv (c5 dL.wide hN ih (more hN hD ih _ _ rfl rfl dL.wide) _ _ _ _ _ _ he) hH hA⟩
               · cases hv:gM P fr (l::H1) fn.results.toList with
                 | none=>rw[hv] at h;simp at h
                 | some vs =>
                   rw[hv] at h;simp only[nP] at h;obtain ⟨rfl,rfl⟩:=h;exact ⟨⟨fn,hf,by rw[hb];rfl⟩,s7 hf hb (by simpa using hle) (.inr rfl) hv (c5 dL.wide hN ih (more hN hD ih _ _ rfl rfl dL.wide) _ _ _ _ _ _ he) hH hA⟩
               · simp at h
             · simp at h
           · simp at h
   | mode=>trivial
   | round d i =>
     intro b o t hm;simp only[dk] at h;split at h
     · rename_i l hg;split at h
       · simp at h
       · rename_i hl;split at h
         · rename_i hs;split at h
           · rename_i fr hp;split at h
             · rename_i fr1 H1 he1;split at h
               · rename_i l1 hg1;split at h
                 · rename_i hs1;split at h
                   · rename_i e fr2 lv H2 he2;split at h
                     · rename_i l2 hg2;simp only[nP] at h;obtain ⟨rfl,rfl⟩:=h;exact Fp hN ih (fun cx F h1 h2 hW=>more hN hD ih cx F h1 h2 hW) hg (by simpa using hl) hs hp he1 hg1 hs1 he2 hg2 hH hA hm
                     · simp at h
                   · simp at h
                 · simp at h
               · simp at h
             · simp at h
           · simp at h
         · simp at h
     · simp at h

end Go.Eng
end
section
namespace Go.Eng

theorem dC.below {w w':World} (h:dC (fun _=>True) w w'):Go.RowKit.Below w.heap.size w w':=⟨h.os,h.tape,h.output,h.size,fun k hk=>h.block k hk trivial⟩

end Go.Eng
end
section
namespace Go.Eng

theorem jB {fr fr':aD}:∀ {l:List Operand},(∀ x ∈ l,b9 fr x=b9 fr' x)→lM fr l=lM fr' l
 | [],_=>rfl
 | x::l,h=>by simp only[lM];rw[h x (by simp),jB (fun y hy=>h y (by simp[hy]))]
theorem lH {fr fr':aD}:∀ {l:List (Nat×Operand)},(∀ x ∈ l,b9 fr x.2=b9 fr' x.2)→dX fr l=dX fr' l
 | [],_=>rfl
 | (i,x)::l,h=>by
   simp only[dX];have:=h (i,x) (by simp);simp only at this;rw[this,lH (fun y hy=>h y (by simp[hy]))]

theorem yo {P:Program} {call:aN} {fr fr':aD} {H:aa} {nx:Nat} {c:Call} (h:∀ x ∈ c.operands.toList,b9 fr x=b9 fr' x):ig P call fr H nx c=ig P call fr' H nx c:=by
 have hargs:∀ x ∈ c.args.toList,b9 fr x=b9 fr' x:=fun x hx=>h x (by unfold Call.operands;rw[Array.toList_append];exact List.mem_append_right _ hx);unfold ig;cases hc:c.callee with
 | value f =>
   have hf:b9 fr f=b9 fr' f:=h f (by unfold Call.operands;rw[hc];simp);dsimp only;rw[hf,jB hargs]
 | invoke r m=>rfl
 | builtin b =>
   cases b<;>dsimp only<;>try rfl
   all_goals first
    | (rw[jB hargs];done)
    | (generalize c.args.toList=l at hargs
       generalize c.argTypes.toList=ts
       rcases ts with _ | ⟨t,_ | ⟨u,ts⟩⟩<;>rcases l with _ | ⟨x,_ | ⟨y,l⟩⟩<;>dsimp only <;>
        first
        | rfl
        | (rw[hargs x (by simp),hargs y (by simp)])
        | (rw[hargs x (by simp)]))

theorem pb {P:Program} {call:aN} {fr fr':aD} {H:aa} {nx:Nat} {o:Oper} (h:∀ x ∈ o.op.operands.toList,b9 fr x=b9 fr' x):evalOp P call fr H nx o=evalOp P call fr' H nx o:=by
 unfold evalOp;cases ho:o.op<;>rw[ho] at h<;>simp only[Op.operands] at h;all_goals try (simp at h;simp[h];done)
 all_goals try rfl
 case build t ps =>
  dsimp only
  rw[lH (l:=ps.toList) (fun x hx=>h x.2 (by simp only[List.mem_map];exact ⟨x,hx,rfl⟩))]
 case buildSlice t n ps =>
  dsimp only
  rw[lH (l:=ps.toList) (fun x hx=>h x.2 (by simp only[List.mem_map];exact ⟨x,hx,rfl⟩))]
 case makeFunc f a b =>
  simp at h
  dsimp only
  rw[jB (l:=a.toList) (fun x hx=>h x (.inl (by simpa using hx))),jB (l:=b.toList) (fun x hx=>h x (.inr (by simpa using hx)))]
 case makeMap t r=>cases r<;>rfl
 case slice t x lo hi mx =>
  cases lo<;>cases hi<;>cases mx<;>simp at h<;>simp[h]
 case call c=>exact yo h

end Go.Eng
end
section
namespace Go.Eng

def j6:Touch→Nat→Nat→Prop
 | .none,_,_=>False
 | .blk e j,d,i=>e=d∧j=i
 | .all,_,_=>True

theorem tc {H H':aa} {d i:Nat} (h:aB H' d i=aB H d i) (v:Nat):c6 H' d i v=c6 H d i v:=by unfold c6;rw[h]

theorem nY {P:Program} {H H':aa} {t:TypeId} {m k x:AV} (hl:∀ d,aM H' d=aM H d)
 (hr:∀ d i,j6 (match m with | .ptr d i _ _=>.blk d i | .slc d i _ _ _ _ _=>.blk d i | .map d i=>.blk d i | _=>.none) d i→aB H' d i=aB H d i):j9 P H' t m k x=j9 P H t m k x:=by
 unfold j9
 cases m<;>dsimp only at hr ⊢
 case map d i =>
  have h1:=hl d
  have h2:=hr d i ⟨rfl,rfl⟩
  cases P.underlying t with
  | none=>rfl
  | some td=>cases td<;>dsimp only<;>rw[h1,h2]
 all_goals (cases P.underlying t with
  | none=>rfl
  | some td=>cases td<;>rfl)

theorem yw {P:Program} {call:aN} {fr:aD} {H H':aa} {nx:Nat} {o:Oper} {v:AV} {δ:Delta} (h:evalOp P call fr H nx o=some (v,δ)) (hδ:∀ X,δ≠.heap X) (hl:∀ d,aM H' d=aM H d)
 (hr:∀ d i,j6 (cZ fr o) d i→aB H' d i=aB H d i) (ha:cZ fr o=.all→H'=H):evalOp P call fr H' nx o=some (v,δ):=by
 by_cases hall:cZ fr o=.all
 · rw[ha hall];exact h
 unfold evalOp at h ⊢
 unfold cZ at hr hall
 cases ho:o.op<;>rw[ho] at h hr hall<;>dsimp only at h hr hall ⊢<;>try exact h
 case load t a =>
  unfold kp at h ⊢
  unfold pC at h ⊢
  cases hx:b9 fr a<;>rw[hx] at h hr<;>dsimp only at h hr ⊢<;>try exact h
  rw[tc (hr _ _ ⟨rfl,rfl⟩)]
  exact h
 case store t a x =>
  unfold gP at h ⊢
  cases hx:b9 fr a<;>rw[hx] at h hr<;>dsimp only at h hr ⊢<;>try exact h
  rename_i d i ver off
  have e:=tc (hr _ _ ⟨rfl,rfl⟩) ver
  rw[hl,e]
  split at h
  · simp at h
  · rename_i hlk
    rw[if_neg hlk]
    split at h
    · rename_i r n q e1 e2 e3
      split at h
      · rename_i hc
        rw[if_pos hc]
        split at h
        · split at h
          · simp at h
          · split at h
            · simp only[Option.map_some,Option.some.injEq,Prod.mk.injEq] at h
              exact absurd h.2.symm (hδ _)
            · simp at h
        · rename_i hno
          first
          | exact h
          | (split
             · rename_i d' j w o' sz len cap
               exact absurd rfl (hno d' j w o' sz len cap rfl)
             · exact h)
      · simp at h
    · simp at h
 case lookup t m k ok =>
  unfold kp at h ⊢
  unfold r9 at h ⊢
  have e:vV H' (b9 fr m)=vV H (b9 fr m):=by
   unfold vV;cases hx:b9 fr m<;>rw[hx] at hr<;>dsimp only at hr ⊢;rw[hr _ _ ⟨rfl,rfl⟩]
  have e0:v8 H' (b9 fr m)=v8 H (b9 fr m):=by
   unfold v8;cases hx:b9 fr m<;>rw[hx] at hr<;>dsimp only at hr ⊢;rw[hr _ _ ⟨rfl,rfl⟩]
  rw[e,e0];exact h
 case mapUpdate t m k x =>
  rw[nY hl hr];exact h
 case insert t m k x =>
  rw[nY hl hr];exact h
 case makeMap t r=>cases r<;>exact h
 case call c =>
  unfold ig at h ⊢
  cases hc:c.callee with
  | value f=>rw[hc] at hall;simp at hall
  | invoke r m=>rw[hc] at h;simp at h
  | builtin b =>
    rw[hc] at h hr hall
    cases b<;>dsimp only at h hr hall ⊢<;>try exact h
    all_goals try (simp at hall;done)
    generalize c.args.toList=l at h hr hall ⊢
    generalize c.argTypes.toList=ts at h hr hall ⊢
    rcases l with _ | ⟨x,l⟩
    · exact h
    · rcases ts with _ | ⟨t,ts⟩
      · exact h
      · dsimp only at h hr ⊢
        have e:vu P H' t (b9 fr x)=vu P H t (b9 fr x):=by
         unfold vu;cases P.underlying t with
         | none=>rfl
         | some td =>
           cases hx:b9 fr x<;>rw[hx] at hr<;>cases td<;>dsimp only at hr ⊢;rw[hr _ _ ⟨rfl,rfl⟩]
        rw[e];exact h

def rq (k:Nat→Bool):Nat→List (Nat×ak)→List (Nat×ak)
 | _,[]=>[]
 | i,b::r=>(if k i then b else (b.1,.dead))::rq k (i+1) r
def l8 (k:Nat→Nat→Bool):Nat→aa→aa
 | _,[]=>[]
 | d,l::r=>{ l with bs:=rq (k d) 0 l.bs } :: l8 k (d+1) r
theorem pE (k:Nat→Bool):∀ (l:List (Nat×ak)) (s:Nat),(rq k s l).length=l.length
 | [],_=>rfl
 | b::l,s=>by simp[rq,pE k l]
theorem wq (k:Nat→Bool):∀ (l:List (Nat×ak)) (s i:Nat),av (rq k s l) i=if k (s+i) then av l i else ((av l i).1,.dead)
 | [],s,i=>by simp[rq,av]
 | b::l,s,0=>by simp[rq,av]
 | b::l,s,i+1=>by
   simp only[rq,av,wq k l (s+1) i];rw[show s+1+i=s+(i+1) by omega]
theorem qI (k:Nat→Nat→Bool):∀ (H:aa) (s d i:Nat),aB (l8 k s H) d i=if k (s+d) i then aB H d i else ((aB H d i).1,.dead)
 | [],s,d,i=>by simp[l8,aB]
 | l::r,s,0,i=>by simp[l8,aB,wq]
 | l::r,s,d+1,i=>by
   simp only[l8,aB,qI k r (s+1) d i];rw[show s+1+d=s+(d+1) by omega]
theorem tL (k:Nat→Nat→Bool):∀ (H:aa) (s d:Nat),aM (l8 k s H) d=aM H d
 | [],_,_=>rfl
 | l::r,s,0=>rfl
 | l::r,s,d+1=>by simp[l8,aM,tL k r]
theorem tM (k:Nat→Nat→Bool):∀ (H:aa) (s d:Nat),ao (l8 k s H) d=ao H d
 | [],_,_=>rfl
 | l::r,s,0=>by simp[l8,ao,pE]
 | l::r,s,d+1=>by simp[l8,ao,tM k r]

def star (t:Touch) (e:aa):aa :=
 match t with
 | .all=>e
 | .none=>l8 (fun _ _=>false) 0 e
 | .blk d i=>l8 (fun a b=>a == d && b == i) 0 e
theorem Ag (t:Touch) (e:aa) (d i:Nat):(j6 t d i∧aB (star t e) d i=aB e d i)∨(¬ j6 t d i∧aB (star t e) d i=((aB e d i).1,.dead)):=by
 cases t with
 | all=>exact .inl ⟨trivial,rfl⟩
 | none=>exact .inr ⟨id,by simp[star,qI]⟩
 | blk a b =>
   simp only[star,qI,Nat.zero_add,j6];by_cases e1:a=d∧b=i
   · obtain ⟨rfl,rfl⟩:=e1;exact .inl ⟨⟨rfl,rfl⟩,by simp⟩
   · refine .inr ⟨e1,if_neg ?_⟩;simp only[Bool.and_eq_true,beq_iff_eq];exact fun x=>e1 ⟨x.1.symm,x.2.symm⟩
theorem wQ (t:Touch) (e:aa) (d:Nat):aM (star t e) d=aM e d:=by
 cases t<;>simp[star,tL]
theorem Fy (t:Touch) (e:aa) (d:Nat):ao (star t e) d=ao e d:=by
 cases t<;>simp[star,tM]

structure vL (e H:aa):Prop where
 get:∀ d i,aB e d i=aB H d i∨(aB e d i).2=.dead
 next:∀ d,ao e d=ao H d
theorem vL.live {e H:aa} (h:vL e H) {d i v:Nat} {B:ak} (hg:aB e d i=(v,B)) (hB:B≠.dead):aB H d i=(v,B):=by
 rcases h.get d i with h1 | h1
 · rw[← h1];exact hg
 · rw[hg] at h1;exact absurd h1 hB
theorem bn.under {p:aL} {M:Mu} {e H:aa} {w:World} (h:bn p M H w) (u:vL e H):bn p M e w where
 pers:=h.pers
 live:=fun d i v B hg hB=>h.live d i v B (u.live hg hB) hB
 apart:=fun d i v B d' i' v' B' b o t o' t' hg hB hg' hB' hm hm'=>h.apart d i v B d' i' v' B' b o t o' t' (u.live hg hB) hB (u.live hg' hB') hB' hm hm'
 dom:=fun d i v t hm=>by
  have:=h.dom d i v t hm;rw[u.next];refine ⟨this.1,?_⟩;rcases u.get d i with h1 | h1
  · rw[h1];exact this.2
  · exact fun hne=>absurd h1 hne
theorem eX.under {p:aL} {M:Mu} {e H:aa} {nx:Nat} {v:AV} {δ:Delta} {cv:Value} {w w':World} (h:eX p M e nx v δ cv w w') (u:vL e H) (hl:∀ d,aM e d=aM H d) (hδ:∀ X,δ≠.heap X):eX p M H nx v δ cv w w':=by
 cases δ with
 | bD=>exact h
 | push B=>exact h
 | set d i x =>
   obtain ⟨ver',B'⟩:=x;obtain ⟨ver,B,b,o,t,b',o',t',hg,hB,hk,rest⟩:=h;exact ⟨ver,B,b,o,t,b',o',t',u.live hg hB,hB,by rw[← hl];exact hk,rest⟩
 | heap X=>exact absurd rfl (hδ X)

theorem F8:∀ (l m:List (Nat×ak)),l.length=m.length→(∀ i,av l i=av m i)→l=m
 | [],[],_,_=>rfl
 | [],_::_,h,_=>by simp at h
 | _::_,[],h,_=>by simp at h
 | a::l,b::m,h,g=>by
   have h0:=g 0;simp only[av] at h0;rw[h0,F8 l m (by simpa using h) (fun i=>g (i+1))]
theorem th:∀ (H K:aa),H.length=K.length→(∀ d i,aB H d i=aB K d i)→(∀ d,ao H d=ao K d)→(∀ d,aM H d=aM K d)→H=K
 | [],[],_,_,_,_=>rfl
 | [],_::_,h,_,_,_=>by simp at h
 | _::_,[],h,_,_,_=>by simp at h
 | l::r,m::s,h,g,n,k=>by
   have h0:l.bs=m.bs:=F8 _ _ (n 0) (fun i=>g 0 i);have h1:l.lock=m.lock:=k 0;have h2:=th r s (by simpa using h) (fun d i=>g (d+1) i) (fun d=>n (d+1)) (fun d=>k (d+1));cases l;cases m;simp only at h0 h1;rw[h0,h1,h2]

def vp (bef:Nat) (recs:List Rec) (d i:Nat):Prop:=∃ r ∈ recs,r.writes=some (d,i)∧bef.testBit r.ix=false
theorem kI (bef:Nat):∀ (recs:List Rec) (H:aa) (d i:Nat),(¬ vp bef recs d i∧aB (dq H bef recs) d i=aB H d i)∨(vp bef recs d i∧aB (dq H bef recs) d i=((aB H d i).1,.dead))
 | [],H,d,i=>.inl ⟨(by rintro ⟨r,hr,_⟩;cases hr),rfl⟩
 | r :: l,H,d,i=>by
   simp only[dq];have skip:(∀ x,r.writes=some x→bef.testBit r.ix=true)→(vp bef (r::l) d i↔vp bef l d i):=fun hx=>by
    constructor
    · rintro ⟨q,hq,h1,h2⟩;rcases List.mem_cons.1 hq with rfl | hq
      · rw[hx _ h1] at h2;cases h2
      · exact ⟨q,hq,h1,h2⟩
    · rintro ⟨q,hq,h1,h2⟩;exact ⟨q,List.mem_cons_of_mem _ hq,h1,h2⟩
   cases hw:r.writes with
   | none =>
     rw[skip (fun x hx=>by rw[hw] at hx;cases hx)];exact kI bef l H d i
   | some x =>
     obtain ⟨a,b⟩:=x;dsimp only;split
     · rename_i hb;rw[skip (fun _ _=>hb)];exact kI bef l H d i
     · rename_i hb;have hb:bef.testBit r.ix=false:=by simpa using hb
       have ih:=kI bef l (dS H a b) d i;rw[eY] at ih;by_cases e:d=a∧i=b
       · rw[if_pos e] at ih;have e':=e;obtain ⟨rfl,rfl⟩:=e';refine .inr ⟨⟨r,by simp,hw,hb⟩,?_⟩;rcases ih with ⟨_,h⟩ | ⟨_,h⟩<;>exact h
       · rw [if_neg e] at ih;have:vp bef (r::l) d i↔vp bef l d i:=by
          constructor
          · rintro ⟨q,hq,h1,h2⟩;rcases List.mem_cons.1 hq with rfl | hq
            · rw[hw] at h1;simp only[nP] at h1;exact absurd ⟨h1.1.symm,h1.2.symm⟩ e
            · exact ⟨q,hq,h1,h2⟩
          · rintro ⟨q,hq,h1,h2⟩;exact ⟨q,List.mem_cons_of_mem _ hq,h1,h2⟩
         rw[this];exact ih
theorem lA (bef:Nat):∀ (recs:List Rec) (H:aa) (d:Nat),aM (dq H bef recs) d=aM H d
 | [],_,_=>rfl
 | r :: l,H,d=>by
   simp only[dq];split
   · split
     · exact lA bef l H d
     · rw[lA bef l,jr]
   · exact lA bef l H d
theorem jq (bef:Nat):∀ (recs:List Rec) (H:aa) (d:Nat),ao (dq H bef recs) d=ao H d
 | [],_,_=>rfl
 | r :: l,H,d=>by
   simp only[dq];split
   · split
     · exact jq bef l H d
     · rw[jq bef l,cw]
   · exact jq bef l H d
theorem nR (bef d i:Nat):∀ (recs:List Rec),kO bef d i recs=true→∀ r ∈ recs,bef.testBit r.ix=true∨¬ j6 r.reads d i
 | [],_,r,hr=>by cases hr
 | q :: l,h,r,hr=>by
   simp only[kO,Bool.and_eq_true,Bool.or_eq_true] at h;rcases List.mem_cons.1 hr with rfl | hr
   · refine h.1.imp id fun h1=>?_;cases hq:r.reads with
     | none=>exact id
     | all=>rw[hq] at h1;simp at h1
     | blk e j =>
       rw[hq] at h1;simp only[Bool.not_eq_true',Bool.and_eq_false_iff] at h1;rintro ⟨rfl,rfl⟩;simp at h1
   · exact nR bef d i l h.2 r hr

theorem vT (acc:Array Nat) (i:Nat):∀ (l:List Edge) (s:Nat),(l.foldl (fun s e=>if Region.binds .any e then s ||| 2 ^ e.on ||| acc.getD e.on 0 else s) s).testBit i=true ↔
 s.testBit i=true∨∃ e ∈ l,Region.binds .any e=true∧(i=e.on∨(acc.getD e.on 0).testBit i=true)
 | [],s=>by simp
 | e :: l, s=>by
   rw[List.foldl_cons,vT acc i l];by_cases hb:Region.binds .any e=true
   · rw[if_pos hb];simp only[Nat.testBit_or,Bool.or_eq_true,Nat.testBit_two_pow,decide_eq_true_eq];constructor
     · rintro (((h | h) | h) | ⟨x,hx,h⟩)
       · exact .inl h
       · exact .inr ⟨e,by simp,hb,.inl h.symm⟩
       · exact .inr ⟨e,by simp,hb,.inr h⟩
       · exact .inr ⟨x,by simp[hx],h⟩
     · rintro (h | ⟨x,hx,h1,h2⟩)
       · exact .inl (.inl (.inl h))
       · rcases List.mem_cons.1 hx with rfl | hx
         · rcases h2 with h2 | h2
           · exact .inl (.inl (.inr h2.symm))
           · exact .inl (.inr h2)
         · exact .inr ⟨x,hx,h1,h2⟩
   · rw[if_neg hb];constructor
     · rintro (h | ⟨x,hx,h⟩)
       · exact .inl h
       · exact .inr ⟨x,by simp[hx],h⟩
     · rintro (h | ⟨x,hx,h1,h2⟩)
       · exact .inl h
       · rcases List.mem_cons.1 hx with rfl | hx
         · exact absurd h1 hb
         · exact .inr ⟨x,hx,h1,h2⟩

theorem qW:∀ (l:List Oper) (acc:Array Nat),∃ R:Array Nat,l.foldl (fun acc o=>acc.push (o.after.foldl (fun s e=>if Region.binds .any e then s ||| 2 ^ e.on ||| acc.getD e.on 0 else s) 0)) acc=R ∧
 R.size=acc.size+l.length∧(∀ j,j<acc.size→R.getD j 0=acc.getD j 0) ∧
 ∀ j o,l[j]?=some o→∀ i,(R.getD (acc.size+j) 0).testBit i=true↔∃ e ∈ o.after,Region.binds .any e=true∧(i=e.on∨(e.on<acc.size+j∧(R.getD e.on 0).testBit i=true))
 | [],acc=>⟨acc,rfl,by simp,fun _ _=>rfl,fun j o h=>by simp at h⟩
 | o :: l,acc=>by
   obtain ⟨R,h1,h2,h3,h4⟩:=qW l (acc.push (o.after.foldl (fun s e=>if Region.binds .any e then s ||| 2 ^ e.on ||| acc.getD e.on 0 else s) 0));have hlow:∀ j,j<acc.size→R.getD j 0=acc.getD j 0:=fun j hj=>by
    rw[h3 j (by simp;omega)];simp only[Array.getD_eq_getD_getElem?];rw[Array.getElem?_push_lt hj,Array.getElem?_eq_getElem hj]
   refine ⟨R,by rw[List.foldl_cons];exact h1,by rw[h2];simp;omega,hlow,fun j o' hj i=>?_⟩;cases j with
   | zero =>
     simp only[List.getElem?_cons_zero,Option.some.injEq] at hj;subst hj;rw[Nat.add_zero,h3 _ (by simp)];have:(acc.push (o.after.foldl (fun s e=>if Region.binds .any e then s ||| 2 ^ e.on ||| acc.getD e.on 0 else s) 0)).getD acc.size 0=o.after.foldl (fun s e=>if Region.binds .any e then s ||| 2 ^ e.on ||| acc.getD e.on 0 else s) 0:=by
      simp[Array.getD_eq_getD_getElem?]
     rw[this,← Array.foldl_toList,vT];simp only[Nat.zero_testBit,Bool.false_eq_true,false_or,Array.mem_toList_iff];constructor
     · rintro ⟨e,he,hb,h⟩;refine ⟨e,he,hb,h.imp id fun h=>?_⟩;have hlt:e.on<acc.size:=by
        refine Nat.lt_of_not_le fun hle=>?_;rw[Array.getD_eq_getD_getElem?,Array.getElem?_eq_none hle] at h;simp at h
       exact ⟨hlt,by rw[hlow _ hlt];exact h⟩
     · rintro ⟨e,he,hb,h⟩;refine ⟨e,he,hb,h.imp id fun h=>?_⟩;rw[← hlow _ h.1];exact h.2
   | succ j =>
     simp only[List.getElem?_cons_succ] at hj;have:=h4 j o' hj i;simp only[Array.size_push] at this;rw[show acc.size+(j+1)=acc.size+1+j by omega];exact this

theorem sC {ops:Array Oper} {j:Nat} {o:Oper} (ho:ops[j]?=some o) (i:Nat):((Region.before ops).getD j 0).testBit i=true ↔
 ∃ e ∈ o.after,Region.binds .any e=true∧(i=e.on∨(e.on<j∧((Region.before ops).getD e.on 0).testBit i=true)):=by
 obtain ⟨R,h1,h2,h3,h4⟩:=qW ops.toList #[]
 have hR:Region.before ops=R:=by rw[← h1];unfold Region.before;rw[← Array.foldl_toList]
 rw[hR]
 have:=h4 j o (by simpa using ho) i
 simpa using this

end Go.Eng
end
section
namespace Go.Eng

abbrev fV:Nat→Bool:=fun _=>true
def ly (nt:Nat) (ops:Array Oper) (T:Nat→ve) (fr0:aD) (S:Nat→Bool):Nat→aD
 | 0=>fr0
 | k+1=>if S k then iZ nt (ly nt ops T fr0 S k) ((ops[k]?).bind (·.dst)) (T k).v else ly nt ops T fr0 S k
def hS (T:Nat→ve) (H0:aa) (S:Nat→Bool):Nat→aa
 | 0=>H0
 | k+1=>if S k then rK (hS T H0 S k) (T k).wr else hS T H0 S k
def cV (ops:Array Oper) (k:Nat):Bool:=((ops[k]?).map jX).getD false
def lf (ops:Array Oper) (n0:Nat):Nat→Nat
 | 0=>n0
 | k+1=>if cV ops k then lf ops n0 k+1 else lf ops n0 k
def fi (T:Nat→ve):Nat→List Rec
 | 0=>[]
 | k+1=>⟨k,(T k).rd,(T k).wr.map fun x=>(x.1,x.2.1)⟩::fi T k
theorem pN (T:Nat→ve):∀ (k:Nat) (r:Rec),r ∈ fi T k↔∃ j,j<k∧r=⟨j,(T j).rd,(T j).wr.map fun x=>(x.1,x.2.1)⟩
 | 0,r=>by simp[fi]
 | k + 1,r=>by
   simp only[fi,List.mem_cons,pN T k r];constructor
   · rintro (rfl | ⟨j,hj,rfl⟩)
     · exact ⟨k,by omega,rfl⟩
     · exact ⟨j,by omega,rfl⟩
   · rintro ⟨j,hj,rfl⟩;by_cases e:j=k
     · subst e;exact .inl rfl
     · exact .inr ⟨j,by omega,rfl⟩

theorem ng {nt:Nat} {ops:Array Oper} {T T':Nat→ve} {fr0:aD} {S S':Nat→Bool}:∀ (n:Nat),(∀ k,k<n→T k=T' k∧S k=S' k)→ly nt ops T fr0 S n=ly nt ops T' fr0 S' n
 | 0,_=>rfl
 | n+1,h=>by simp only[ly];rw[(h n wO).1,(h n wO).2,ng n (fun k hk=>h k wO)]
theorem pt {T T':Nat→ve} {H0:aa} {S S':Nat→Bool}:∀ (n:Nat),(∀ k,k<n→T k=T' k∧S k=S' k)→hS T H0 S n=hS T' H0 S' n
 | 0,_=>rfl
 | n+1,h=>by simp only[hS];rw[(h n wO).1,(h n wO).2,pt n (fun k hk=>h k wO)]
theorem oJ {T T':Nat→ve}:∀ (n:Nat),(∀ k,k<n→T k=T' k)→fi T n=fi T' n
 | 0,_=>rfl
 | n+1,h=>by simp only[fi];rw[h n wO,oJ n (fun k hk=>h k wO)]

def Fact (P:Program) (nt:Nat) (call:aN) (ops:Array Oper) (befs:Array Nat) (fr0:aD) (H0:aa) (n0:Nat) (T:Nat→ve):Prop :=
 ∀ k o,ops[k]?=some o→ij P call ops (befs.getD k 0) (ly nt ops T fr0 fV k) (hS T H0 fV k) (lf ops n0 k) (fi T k) o=some (T k)

theorem trace {P:Program} {nt:Nat} {call:aN} {ops:Array Oper} {befs:Array Nat} {fr0:aD} {H0:aa} {n0:Nat} {fr':aD} {H':aa}:∀ (l:List Oper) (j:Nat) (T:Nat→ve),ops.toList.drop j=l→j≤ops.size →
 gU P nt call ops befs j l (ly nt ops T fr0 fV j) (hS T H0 fV j) (lf ops n0 j) (fi T j)=some (fr',H') →
 ∃ T',(∀ k,k<j→T' k=T k)∧(∀ k o,j≤k→ops[k]?=some o→ij P call ops (befs.getD k 0) (ly nt ops T' fr0 fV k) (hS T' H0 fV k) (lf ops n0 k) (fi T' k) o=some (T' k)) ∧
  ly nt ops T' fr0 fV ops.size=fr'∧hS T' H0 fV ops.size=H'
 | [],j,T,hl,hj,h=>by
   have:ops.size≤j:=by simpa using hl
   obtain rfl:j=ops.size:=by omega
   simp only[gU,Option.some.injEq,Prod.mk.injEq] at h;exact ⟨T,fun _ _=>rfl,fun k o hk ho=>by have:=(Array.getElem?_eq_some_iff.1 ho).1;omega,h.1,h.2⟩
 | o :: l,j,T,hl,hj,h=>by
   have ho:ops[j]?=some o:=by
    have:(ops.toList.drop j)[0]?=some o:=by rw[hl];rfl
    simpa using this
   have hlt:j<ops.size:=(Array.getElem?_eq_some_iff.1 ho).1;simp only[gU] at h;cases he:ij P call ops (befs.getD j 0) (ly nt ops T fr0 fV j) (hS T H0 fV j) (lf ops n0 j) (fi T j) o with
   | none=>rw[he] at h;simp at h
   | some e =>
     rw[he] at h;dsimp only at h;let T1:Nat→ve:=fun i=>if i=j then e else T i
     have e1:T1 j=e:=if_pos rfl;have eb:∀ k,k<j→T1 k=T k:=fun k hk=>if_neg wO;have f1:ly nt ops T1 fr0 fV (j+1)=iZ nt (ly nt ops T fr0 fV j) o.dst e.v:=by
      simp only[ly,ho,Option.bind_some,e1,if_true];rw[ng j (fun k hk=>⟨eb k hk,rfl⟩)]
     have f2:hS T1 H0 fV (j+1)=rK (hS T H0 fV j) e.wr:=by
      simp only[hS,e1,if_true];rw[pt j (fun k hk=>⟨eb k hk,rfl⟩)]
     have f3:lf ops n0 (j+1)=if jX o then lf ops n0 j+1 else lf ops n0 j:=by
      simp only[lf,cV,ho,Option.map_some,Option.getD_some]
     have f4:fi T1 (j+1)=⟨j,e.rd,e.wr.map fun x=>(x.1,x.2.1)⟩::fi T j:=by
      simp only[fi,e1];rw[oJ j eb]
     rw[← f1,← f2,← f3,← f4] at h;obtain ⟨T',g1,g2,g3,g4⟩:=trace l (j+1) T1 (by rw[← List.tail_drop,hl];rfl) hlt h;have gj:∀ k,k<j→T' k=T k:=fun k hk=>(g1 k wO).trans (eb k hk);refine ⟨T',gj,fun k o' hk ho'=>?_,g3,g4⟩;by_cases hkj:k=j
     · subst hkj;rw[ho] at ho';obtain rfl:=Option.some.inj ho';rw[ng k (fun i hi=>⟨gj i hi,rfl⟩),pt k (fun i hi=>⟨gj i hi,rfl⟩),oJ k gj,he,g1 k wO,e1]
     · exact g2 k o' wO ho'

theorem Oy {P:Program} {nt:Nat} {call:aN} {ops:Array Oper} {befs:Array Nat} {fr0:aD} {H0:aa} {n0:Nat} {fr':aD} {H':aa} (h:gU P nt call ops befs 0 ops.toList fr0 H0 n0 []=some (fr',H')) :
 ∃ T,Fact P nt call ops befs fr0 H0 n0 T∧ly nt ops T fr0 fV ops.size=fr'∧hS T H0 fV ops.size=H':=by
 obtain ⟨T,_,h2,h3,h4⟩:=trace ops.toList 0 (fun _=>⟨.undef,.none,none⟩) rfl (Nat.zero_le _) h
 exact ⟨T,fun k o ho=>h2 k o (Nat.zero_le _) ho,h3,h4⟩

theorem ud       (ops:Array Oper) (n0:Nat):∀ (m k:Nat),k≤m→lf ops n0 k≤lf ops n0 m
 | 0,k,h=>by     obtain rfl:k=0:=by omega
                 exact Nat.le_refl _
 | m + 1,k,h=>by
   by_cases e:k=m+1
   · subst e;exact Nat.le_refl _
   · have:=ud ops n0 m k wO;simp only[lf];split<;>omega
theorem Ca {ops:Array Oper} {n0 k m:Nat} (h:k<m) (hp:cV ops k=true):lf ops n0 k<lf ops n0 m:=by
 have:=ud ops n0 m (k+1) h;simp only[lf,hp,if_true] at this;omega
theorem NR (ops:Array Oper) (n0 k:Nat):n0≤lf ops n0 k:=ud ops n0 k 0 (Nat.zero_le _)
theorem DG (ops:Array Oper) (n0:Nat):∀ (k:Nat),k≤ops.size→lf ops n0 k+dc (ops.toList.drop k)=n0+dc ops.toList
 | 0,_=>rfl
 | k+1,h=>by
   have ih:=DG ops n0 k wO;have hk:k<ops.size:=by omega
   have e:ops.toList.drop k=ops[k]::ops.toList.drop (k+1):=by rw[List.drop_eq_getElem_cons (by simpa using hk)];simp
   rw[e] at ih;simp only[dc] at ih;have e2:cV ops k=jX ops[k]:=by simp[cV,Array.getElem?_eq_getElem hk]
   simp only[lf,e2];split at ih<;>split<;>rename_i a b<;>first | (simp[a] at b;done) | omega
theorem DH {ops:Array Oper} {n0 k:Nat} (hk:cV ops k=true):lf ops n0 k<n0+dc ops.toList:=by
 have hlt:k<ops.size:=by
  refine Nat.lt_of_not_le fun h=>?_;simp[cV,Array.getElem?_eq_none h] at hk
 have h1:=Ca (n0:=n0) (Nat.lt_succ_self k) hk;have h2:=DG ops n0 (k+1) hlt;have h3:lf ops n0 (k+1)≤n0+dc ops.toList:=by omega
 exact Nat.lt_of_lt_of_le h1 h3

theorem wH (H:aa) (x:Option (Nat×Nat×(Nat×ak))) (d:Nat):ao (rK H x) d=ao H d:=by
 cases x with
 | none=>rfl
 | some x=>exact cM _ _ _ _ _
theorem wE (H:aa) (x:Option (Nat×Nat×(Nat×ak))) (d:Nat):aM (rK H x) d=aM H d:=by
 cases x with
 | none=>rfl
 | some x=>exact fJ _ _ _ _ _
theorem zO (H:aa) (x:Option (Nat×Nat×(Nat×ak))):(rK H x).length=H.length:=by
 cases x with
 | none=>rfl
 | some x=>exact mH _ _ _ _
theorem gY (T:Nat→ve) (H0:aa) (S:Nat→Bool) (d:Nat):∀ k,ao (hS T H0 S k) d=ao H0 d
 | 0=>rfl
 | k+1=>by
   simp only[hS];split
   · rw[wH,gY T H0 S d k]
   · exact gY T H0 S d k
theorem jU (T:Nat→ve) (H0:aa) (S:Nat→Bool) (d:Nat):∀ k,aM (hS T H0 S k) d=aM H0 d
 | 0=>rfl
 | k+1=>by
   simp only[hS];split
   · rw[wE,jU T H0 S d k]
   · exact jU T H0 S d k
theorem qq (T:Nat→ve) (H0:aa) (S:Nat→Bool):∀ k,(hS T H0 S k).length=H0.length
 | 0=>rfl
 | k+1=>by
   simp only[hS];split
   · rw[zO,qq T H0 S k]
   · exact qq T H0 S k

def lY (T:Nat→ve) (k d i:Nat):Option (Nat×ak) :=
 match (T k).wr with
 | some (d',i',b)=>if d=d'∧i=i' then some b else none
 | none=>none
theorem kY {T:Nat→ve} {k d i:Nat} {b:Nat×ak}:lY T k d i=some b↔(T k).wr=some (d,i,b):=by
 unfold lY;cases h:(T k).wr with
 | none=>simp
 | some x =>
   obtain ⟨d',i',b'⟩:=x;simp only[nP];constructor
   · intro h1;split at h1
     · rename_i e;simp only[Option.some.injEq] at h1;exact ⟨e.1.symm,e.2.symm,h1⟩
     · cases h1
   · rintro ⟨rfl,rfl,rfl⟩;simp

end Go.Eng
end
