/- The engine, part O: rounds of loops over functions. -/
import Derived.Test.YtgphpjdchnfjlaaDoorV6EngKx4
import Derived.RangeFuncIn
set_option linter.unusedVariables false
set_option linter.unusedSimpArgs false
section
namespace Go.Eng

theorem cE.PK {p:aH} {M:Mu} {H:aa} {w:World} (h:bj p M H w) (hne:H≠[]) {d i b o t:Nat} {l l':iy} {r r':Loop} (hg:az H d i=(0,.loop l)) (hm:M d i 0=some (b,o,t)) (hl:aK H d=false) (hr:w.heap[b]?=some (.loop r))
 (hrel:fH p (M.up d) (.loop l') b o t (w.putObj b (.loop r'))):∃ p' M',cE p M H w p' M' (dB H d i (0,.loop l')) (w.putObj b (.loop r')):=by
 have hd:eO p M H (aX H) .undef (.set d i (0,.loop l')) Go.undef w (w.putObj b (.loop r')) :=
  ⟨0,.loop l,b,o,t,b,o,t,hg,by simp,hl,hm,by simp,hrel,⟨rfl,rfl,rfl,by rw[World.putObj_size];exact Nat.le_refl _,fun y _ hy=>World.putObj_heap_other hy⟩,.inl rfl,.undef _,.inl ⟨rfl,rfl,rfl,rfl⟩⟩
 obtain ⟨p',M',e1,_⟩:=rI hne h hd
 exact ⟨p',M',e1⟩

theorem sG:∀ (fr:aE) (k x:Nat),bM (kN k fr) x=mX k (bM fr x)
 | [],k,x=>by cases k<;>rfl
 | (y,v)::r,k,x=>by
   simp only[kN,bM,sG r k x];split<;>rfl
theorem EN {p:aH} {M:Mu} {nt k:Nat} {fr:aE} {a:Act} (h:bZ p (M.up k) nt fr a):bZ p M nt (kN k fr) a :=
 ⟨h.size,fun x=>by rw[sG];exact (h.at_ x).up⟩

theorem vX {p:aH} {M:Mu} {nt:Nat}:∀ (ts:List Tmp) (vs:List AV) (cs:List Value) (fr fr':aE) (a:Act),jL nt fr ts vs=some fr'→bZ p M nt fr a→cs.length=vs.length→(∀ j,j<vs.length→al p M (vs.getD j .undef) (cs.getD j Go.undef)) →
 cs.length=ts.length∧bZ p M nt fr' { tmps:=(ts.zip cs).foldl (fun tmps (t,c)=>tmps.setIfInBounds t c) a.tmps,defers:=a.defers }
 | [],[],cs,fr,fr',a,h,hF,hl,_=>by
   simp only[jL,Option.some.injEq] at h;subst h;have:cs=[]:=List.length_eq_zero_iff.1 (by simpa using hl);subst this;exact ⟨rfl,⟨hF.size,hF.at_⟩⟩
 | t::ts,[],cs,fr,fr',a,h,_,_,_=>by simp[jL] at h
 | [],v::vs,cs,fr,fr',a,h,_,_,_=>by simp[jL] at h
 | t :: ts,v::vs,cs,fr,fr',a,h,hF,hl,hv=>by
   simp only[jL] at h;split at h
   · rename_i hlt;cases cs with
     | nil=>simp at hl
     | cons c cs =>
       have h0:=hF.put (some t) (v:=v) (c:=c) (by simpa using hv 0 (by simp));simp only[iJ,hlt,if_true,Act.put] at h0;have:=vX ts vs cs _ fr' _ h h0 (by simpa using hl) (fun j hj=>by have:=hv (j+1) (by simpa using hj);simpa using this);exact ⟨by simp[this.1],this.2⟩
   · simp at h

def DL (P:Program) (b:Nat) (R:Ending→World→Prop) (j:Option Code) (w:World):Prop:=∃ v w',(Instr.endRound b j).run P w=.ok v w'∧R (.returned v) w'
theorem xp {P:Program} {b:Nat} {R:Ending→World→Prop} {e:Ex} {a:Act} {w:World} (h:DL P b R (c5 e) w):roundPost P b R (Nm e) a w:=by
 cases e<;>exact h

theorem uh {P:Program} (hN:dG P) {call:aL} (hC:cj P call) (hX:∀ (cx:Cx) (F:Fence),cx.P=P→cx.call=call→dI F→iX cx F) {fu:Nat} {kt:Nat→Nat} {d i:Nat} {args:List AV} {H:aa} {l l1 l2:iy} {fr fr1 fr2:aE} {H1 H2:aa} {lv:bK} {e:Ex}
 (hg:az H d i=(0,.loop l)) (hl:aK H d=false) (hs:l.state=.ready) (hp:jL l.nt (kN (d+1) l.fr) l.params (args.map (mX 1))=some fr)
 (he1:exec ⟨P,call,fu,l.fn,l.nt,kt,some (d+1,i)⟩ l.assign fr (⟨false,[]⟩::H)=some (.normal,fr1,H1)) (hg1:az H1 (d+1) i=(0,.loop l1)) (hs1:l1.state=.ready)
 (he2:∀ b:Nat,dP P (Fence.wide.inRound b) (some (d+1,i)) l.nt l.body fr1 (dB H1 (d+1) i (0,.loop { l1 with state:=.busy })) e fr2 (lv::H2)) (hg2:az H2 d i=(0,.loop l2))
 {p:aH} {M:Mu} {w:World} {cargs:Array Value} (hH:bj p M H w) (hA:eN p M args cargs) {b o t:Nat} (hm:M d i 0=some (b,o,t)) :
 ∃ f tmps assign body,(Instr.yield b cargs).run P w=.ok (.round b f tmps assign body) w ∧
  RoundIn Fence.wide 0 P b f tmps assign body w (eX p M H w (.bool (c5 e).isNone) (dB H2 d i (0,.loop { l2 with state:=if (c5 e).isNone then .ready else .done,pending:=c5 e }))):=by
 have record:∀ {p:aH} {M:Mu} {H:aa} {w:World} {d i:Nat} {l:iy} {b o t:Nat},bj p M H w→az H d i=(0,.loop l)→M d i 0=some (b,o,t)→fH p (M.up d) (.loop l) b o t w:=by
  intro p M H w d i l b o t hH hg hm;obtain ⟨b',o',t',k1,k2,_⟩:=hH.live d i 0 _ hg (by simp);rw[hm] at k1;simp only[nP] at k1;obtain ⟨rfl,rfl,rfl⟩:=k1;exact k2
 obtain ⟨r,q1,q2,q3,q4,q5,q6,q7⟩:=record hH hg hm
 have hF0:bZ p (dk M) l.nt (kN (d+1) l.fr) ⟨r.tmps,[]⟩:=EN (k:=d+1) (M:=dk M) q7
 obtain ⟨z1,z2⟩:=vX l.params (args.map (mX 1)) cargs.toList _ fr _ hp hF0 (by simp[hA.1]) (fun j hj=>by
  have hj':j<args.length:=by simpa using hj
  rw[b5 _ _ _ hj'];have:=al.up (M:=dk M) (k:=1) (hA.2 j hj');simpa using this)
 have hpar:r.params=l.params.toArray:=by rw[← q4]
 have hsz:cargs.size=r.params.size:=by rw[hpar];simpa using z1
 refine ⟨_,_,_,_,run_yield q1 hsz,roundIn_of_wpIn trivial ?_⟩
 have htm:(r.params.zip cargs).foldl (fun tmps (t,a)=>tmps.setIfInBounds t a) r.tmps=(l.params.zip cargs.toList).foldl (fun tmps (t,c)=>tmps.setIfInBounds t c) r.tmps:=by
  rw[hpar,← Array.foldl_toList];simp
 rw[htm,q5,q6]
 have hW:=dI.inRound b
 have x1:=cW (cx:=⟨P,call,fu,l.fn,l.nt,kt,some (d+1,i)⟩) hW hN hC (hX _ _ rfl rfl hW) _ _ _ _ _ _ he1
 have hR:uM (Fence.wide.inRound b) (some (d+1,i)) (dk M):=⟨b,o,t,rfl,hm⟩
 refine x1 w.heap.size p (dk M) _ w _ z2 hH.down (by simp) hR (Marks.nil _ _ _) (fun a1 w1 ⟨p1,M1,k1,k2,k3⟩=>?_)
 have hm1:M1 (d+1) i 0=some (b,o,t):=k1.mu _ _ _ _ hm
 obtain ⟨r1,u1,u2,u3,u4,u5,u6,u7⟩:=record k1.rel hg1 hm1
 have hl1:aK H1 (d+1)=false:=by rw[k1.lock];exact hl
 have hlt:∀ {w:World} {b:Nat} {x:Obj},w.heap[b]?=some x→b<w.heap.size:=fun e=>(Array.getElem?_eq_some_iff.1 e).1
 obtain ⟨p2,M2,t1⟩:=cE.PK (l':={ l1 with state:=.busy }) (r':={ r1 with state:=.busy }) k1.rel (k1.ne (by simp)) hg1 hm1 hl1 u1 ⟨_,World.putObj_heap_same (hlt u1),rfl,u3,u4,u5,u6,u7⟩
 refine ⟨_,run_beginRound u1 (by rw[u2];exact hs1),?_⟩
 have x2:=he2 b
 have Ou:=k1.trans t1
 refine x2 w.heap.size p2 M2 a1 _ _ (k2.mono t1.pst t1.mu) t1.rel (Ou.ne (by simp)) (hR.mono Ou.mu) (k3.xJ t1) (fun a3 w3 ⟨p3,M3,v1,_,_⟩=>xp ?_)
 have kk:=Ou.trans v1
 have hm3:(M3.up 1) d i 0=some (b,o,t):=kk.mu (d+1) i 0 _ hm
 have kp:=kk.pop
 obtain ⟨r3,y1,y2,y3,y4,y5,y6,y7⟩:=record kp.rel hg2 hm3
 have hne:H≠[]:=by intro e0;rw[e0] at hg;simp[az] at hg
 have hl3:aK H2 d=false:=by rw[kp.lock];exact hl
 obtain ⟨p4,M4,t4⟩:=cE.PK (l':={ l2 with state:=if (c5 e).isNone then .ready else .done,pending:=c5 e }) (r':={ r3 with state:=if (c5 e).isNone then .ready else .done,pending:=c5 e }) kp.rel (kp.ne hne) hg2 hm3 hl3 y1
  ⟨_,World.putObj_heap_same (hlt y1),rfl,rfl,y4,y5,y6,y7⟩
 have st:Still H (dB H2 d i (0,.loop { l2 with state:=if (c5 e).isNone then .ready else .done,pending:=c5 e })):=⟨fun d1 i1 hk9=>by
  rw[ef,if_neg (by rintro ⟨e9,_,_⟩;rw[e9,hl] at hk9;simp at hk9)];exact kk.same (d1+1) i1 wO hk9,fun d1 hk9=>by
  rw[cI];exact kk.next (d1+1) wO hk9⟩
 exact ⟨_,_,run_endRound _ y1,_,rfl,st,p4,M4,kp.trans t4,.bool _⟩
theorem EC {P:Program} (hN:dG P) {call:aL} (hC:cj P call) (hX:∀ (cx:Cx) (F:Fence),cx.P=P→cx.call=call→dI F→iX cx F) {fu:Nat} {kt:Nat→Nat} {d i:Nat} {args:List AV} {H:aa} {l l1 l2:iy} {fr fr1 fr2:aE} {H1 H2:aa} {lv:bK} {e:Ex}
 (hg:az H d i=(0,.loop l)) (hl:aK H d=false) (hs:l.state=.ready) (hp:jL l.nt (kN (d+1) l.fr) l.params (args.map (mX 1))=some fr)
 (he1:exec ⟨P,call,fu,l.fn,l.nt,kt,some (d+1,i)⟩ l.assign fr (⟨false,[]⟩::H)=some (.normal,fr1,H1)) (hg1:az H1 (d+1) i=(0,.loop l1)) (hs1:l1.state=.ready)
 (he2:exec ⟨P,call,fu,l.fn,l.nt,kt,some (d+1,i)⟩ l.body fr1 (dB H1 (d+1) i (0,.loop { l1 with state:=.busy }))=some (e,fr2,lv::H2)) (hg2:az H2 d i=(0,.loop l2))
 {p:aH} {M:Mu} {w:World} {cargs:Array Value} (hH:bj p M H w) (hA:eN p M args cargs) {b o t:Nat} (hm:M d i 0=some (b,o,t)) :
 ∃ f tmps assign body,(Instr.yield b cargs).run P w=.ok (.round b f tmps assign body) w ∧
  RoundIn Fence.wide 0 P b f tmps assign body w (eX p M H w (.bool (c5 e).isNone) (dB H2 d i (0,.loop { l2 with state:=if (c5 e).isNone then .ready else .done,pending:=c5 e }))) :=
 uh hN hC hX hg hl hs hp he1 hg1 hs1 (fun b=>cW (cx:=⟨P,call,fu,l.fn,l.nt,kt,some (d+1,i)⟩) (dI.inRound b) hN hC (hX _ _ rfl rfl (dI.inRound b)) _ _ _ _ _ _ he2) hg2 hH hA hm

end Go.Eng
end
section
namespace Go.Eng

def gl (P:Program):Prop:=∀ (cx:Cx) (F:Fence),cx.P=P→cj P cx.call→dI F→∀ (id:Nat) (ops:Array Oper) (fr:aE) (H:aa) (fr':aE) (H':aa),ga ops (Region.before ops)=true →
 gI cx.P cx.nt cx.call ops (Region.before ops) 0 ops.toList fr (oj H (c6 ops.toList)) (aX H) []=some (fr',H')→dP cx.P F cx.ro cx.nt (.region id ops true) fr H .normal fr' H'

def sg (P:Program) (ora:aL→FuncId→List AV→aa→Option (AV×aa)):Prop:=∀ (call:aL),cj P call→∀ (f:FuncId) (args:List AV) (H:aa) (v:AV) (H':aa),ora call f args H=some (v,H')→H≠[]→∀ (p:aH) (M:Mu) (w:World) (cargs:Array Value),bj p M H w→eN p M args cargs →
 (∃ fn,P.funcs[f]?=some fn∧fn.body.isNone=false)∧CallsIn Fence.wide 0 P f cargs w (eX p M H w v H')
theorem more {P:Program} (hN:dG P) (hD:gl P) {call:aL} (hC:cj P call) (cx:Cx) (F:Fence) (h1:cx.P=P) (h2:cx.call=call) (hW:dI F):iX cx F:=by
 subst h1;subst h2;exact ⟨fun id ops fr H fr' H' hs hr=>hD cx F rfl hC hW id ops fr H fr' H' hs hr,fun f ps assign body fr H e fr' H' h=>Ez hW hN hC f ps assign body fr H e fr' H' h⟩

theorem m7 {P        : Program} (hN:dG P) (hD:gl P) {ora:aL→FuncId→List AV→aa→Option (AV×aa)} (hO:sg P ora) (KT:FuncId→Nat→Nat) (fu:Nat):∀ n,cj P (df P ora KT fu n)
 | 0=>fun tgt args H v H' h _ _ _ _ _ _ _=>by cases tgt<;>first | trivial | simp[df] at h
 | n + 1 => by
   have ih:=m7 hN hD hO KT fu n;intro tgt args H v H' h hne p M w cargs hH hA;cases tgt with
   | fn f =>
     simp only[df] at h;cases ho:ora (df P ora KT fu n) f args H with
     | some u =>
       rw[ho] at h;dsimp only at h;rw[Option.some.injEq] at h;subst h;exact hO _ ih f args H v H' ho hne p M w cargs hH hA
     | none =>
       rw[ho] at h;simp only at h;cases hf:P.funcs[f]? with
       | none=>rw[hf] at h;simp at h
       | some fn =>
         rw[hf] at h;simp only at h;cases hb:fn.body with
         | none=>rw[hb] at h;simp at h
         | some c =>
           rw[hb] at h;simp only at h;split at h
           · rename_i hle;split at h
             · rename_i e fr l H1 he;split at h
               · cases hv:gy P fr (l::H1) fn.results.toList with
                 | none=>rw[hv] at h;simp at h
                 | some vs =>
                   rw[hv] at h;simp only[nP] at h;obtain ⟨rfl,rfl⟩:=h;exact ⟨⟨fn,hf,by rw[hb];rfl⟩,sN hf hb (by simpa using hle) (.inl rfl) hv (cW dI.wide hN ih (more hN hD ih _ _ rfl rfl dI.wide) _ _ _ _ _ _ he) hH hA⟩
               · cases hv:gy P fr (l::H1) fn.results.toList with
                 | none=>rw[hv] at h;simp at h
                 | some vs =>
                   rw[hv] at h;simp only[nP] at h;obtain ⟨rfl,rfl⟩:=h;exact ⟨⟨fn,hf,by rw[hb];rfl⟩,sN hf hb (by simpa using hle) (.inr rfl) hv (cW dI.wide hN ih (more hN hD ih _ _ rfl rfl dI.wide) _ _ _ _ _ _ he) hH hA⟩
               · simp at h
             · simp at h
           · simp at h
   | mode=>trivial
   | round d i =>
     intro b o t hm;simp only[df] at h;split at h
     · rename_i l hg;split at h
       · simp at h
       · rename_i hl;split at h
         · rename_i hs;split at h
           · rename_i fr hp;split at h
             · rename_i fr1 H1 he1;split at h
               · rename_i l1 hg1;split at h
                 · rename_i hs1;split at h
                   · rename_i e fr2 lv H2 he2;split at h
                     · rename_i l2 hg2;simp only[nP] at h;obtain ⟨rfl,rfl⟩:=h;exact EC hN ih (fun cx F h1 h2 hW=>more hN hD ih cx F h1 h2 hW) hg (by simpa using hl) hs hp he1 hg1 hs1 he2 hg2 hH hA hm
                     · simp at h
                   · simp at h
                 · simp at h
               · simp at h
             · simp at h
           · simp at h
         · simp at h
     · simp at h

end Go.Eng
end
section
namespace Go.Eng

theorem dz.below {w w':World} (h:dz (fun _=>True) w w'):Go.RowKit.Below w.heap.size w w':=⟨h.os,h.tape,h.output,h.size,fun k hk=>h.block k hk trivial⟩

end Go.Eng
end
section
namespace Go.Eng

theorem jn {fr fr':aE}:∀ {l:List Operand},(∀ x ∈ l,b9 fr x=b9 fr' x)→lD fr l=lD fr' l
 | [],_=>rfl
 | x::l,h=>by simp only[lD];rw[h x (by simp),jn (fun y hy=>h y (by simp[hy]))]
theorem ly {fr fr':aE}:∀ {l:List (Nat×Operand)},(∀ x ∈ l,b9 fr x.2=b9 fr' x.2)→dU fr l=dU fr' l
 | [],_=>rfl
 | (i,x)::l,h=>by
   simp only[dU];have:=h (i,x) (by simp);simp only at this;rw[this,ly (fun y hy=>h y (by simp[hy]))]

theorem xU {P:Program} {call:aL} {fr fr':aE} {H:aa} {nx:Nat} {c:Call} (h:∀ x ∈ c.operands.toList,b9 fr x=b9 fr' x):gP P call fr H nx c=gP P call fr' H nx c:=by
 have hargs:∀ x ∈ c.args.toList,b9 fr x=b9 fr' x:=fun x hx=>h x (by unfold Call.operands;rw[Array.toList_append];exact List.mem_append_right _ hx);unfold gP;cases hc:c.callee with
 | value f =>
   have hf:b9 fr f=b9 fr' f:=h f (by unfold Call.operands;rw[hc];simp);dsimp only;rw[hf,jn hargs]
 | invoke r m=>rfl
 | builtin b =>
   cases b<;>dsimp only<;>try rfl
   all_goals first
    | (rw[jn hargs];done)
    | (generalize c.args.toList=l at hargs
       generalize c.argTypes.toList=ts
       rcases ts with _ | ⟨t,_ | ⟨u,ts⟩⟩<;>rcases l with _ | ⟨x,_ | ⟨y,l⟩⟩<;>dsimp only <;>
        first
        | rfl
        | (rw[hargs x (by simp),hargs y (by simp)])
        | (rw[hargs x (by simp)]))

theorem o9 {P:Program} {call:aL} {fr fr':aE} {H:aa} {nx:Nat} {o:Oper} (h:∀ x ∈ o.op.operands.toList,b9 fr x=b9 fr' x):evalOp P call fr H nx o=evalOp P call fr' H nx o:=by
 unfold evalOp;cases ho:o.op<;>rw[ho] at h<;>simp only[Op.operands] at h;all_goals try (simp at h;simp[h];done)
 all_goals try rfl
 case build t ps =>
  dsimp only
  rw[ly (l:=ps.toList) (fun x hx=>h x.2 (by simp only[List.mem_map];exact ⟨x,hx,rfl⟩))]
 case buildSlice t n ps =>
  dsimp only
  rw[ly (l:=ps.toList) (fun x hx=>h x.2 (by simp only[List.mem_map];exact ⟨x,hx,rfl⟩))]
 case makeFunc f a b =>
  simp at h
  dsimp only
  rw[jn (l:=a.toList) (fun x hx=>h x (.inl (by simpa using hx))),jn (l:=b.toList) (fun x hx=>h x (.inr (by simpa using hx)))]
 case makeMap t r=>cases r<;>rfl
 case slice t x lo hi mx =>
  cases lo<;>cases hi<;>cases mx<;>simp at h<;>simp[h]
 case call c=>exact xU h

end Go.Eng
end
section
namespace Go.Eng

def jQ:Touch→Nat→Nat→Prop
 | .none,_,_=>False
 | .blk e j,d,i=>e=d∧j=i
 | .all,_,_=>True

theorem sP {H H':aa} {d i:Nat} (h:az H' d i=az H d i) (v:Nat):cX H' d i v=cX H d i v:=by unfold cX;rw[h]

theorem nY {P:Program} {H H':aa} {t:TypeId} {m k x:AV} (hl:∀ d,aK H' d=aK H d)
 (hr:∀ d i,jQ (match m with | .ptr d i _ _=>.blk d i | .slc d i _ _ _ _ _=>.blk d i | .map d i=>.blk d i | _=>.none) d i→az H' d i=az H d i):jS P H' t m k x=jS P H t m k x:=by
 unfold jS
 cases m<;>dsimp only at hr ⊢
 case map d i =>
  have h1:=hl d
  have h2:=hr d i ⟨rfl,rfl⟩
  cases P.underlying t with
  | none=>rfl
  | some td=>cases td<;>dsimp only<;>rw[h1,h2]
 all_goals (cases P.underlying t with
  | none=>rfl
  | some td=>cases td<;>rfl)

theorem x4 {P:Program} {call:aL} {fr:aE} {H H':aa} {nx:Nat} {o:Oper} {v:AV} {δ:Delta} (h:evalOp P call fr H nx o=some (v,δ)) (hδ:∀ X,δ≠.heap X) (hl:∀ d,aK H' d=aK H d)
 (hr:∀ d i,jQ (cV fr o) d i→az H' d i=az H d i) (ha:cV fr o=.all→H'=H):evalOp P call fr H' nx o=some (v,δ):=by
 by_cases hall:cV fr o=.all
 · rw[ha hall];exact h
 unfold evalOp at h ⊢
 unfold cV at hr hall
 cases ho:o.op<;>rw[ho] at h hr hall<;>dsimp only at h hr hall ⊢<;>try exact h
 case load t a =>
  unfold kp at h ⊢
  unfold pB at h ⊢
  cases hx:b9 fr a<;>rw[hx] at h hr<;>dsimp only at h hr ⊢<;>try exact h
  rw[sP (hr _ _ ⟨rfl,rfl⟩)]
  exact h
 case store t a x =>
  unfold gF at h ⊢
  cases hx:b9 fr a<;>rw[hx] at h hr<;>dsimp only at h hr ⊢<;>try exact h
  rename_i d i ver off
  have e:=sP (hr _ _ ⟨rfl,rfl⟩) ver
  rw[hl,e]
  split at h
  · simp at h
  · rename_i hlk
    rw[if_neg hlk]
    split at h
    · rename_i r n q e1 e2 e3
      split at h
      · rename_i hc
        rw[if_pos hc]
        split at h
        · split at h
          · simp at h
          · split at h
            · simp only[Option.map_some,Option.some.injEq,Prod.mk.injEq] at h
              exact absurd h.2.symm (hδ _)
            · simp at h
        · rename_i hno
          first
          | exact h
          | (split
             · rename_i d' j w o' sz len cap
               exact absurd rfl (hno d' j w o' sz len cap rfl)
             · exact h)
      · simp at h
    · simp at h
 case lookup t m k ok =>
  unfold kp at h ⊢
  unfold rW at h ⊢
  have e:vA H' (b9 fr m)=vA H (b9 fr m):=by
   unfold vA;cases hx:b9 fr m<;>rw[hx] at hr<;>dsimp only at hr ⊢;rw[hr _ _ ⟨rfl,rfl⟩]
  have e0:vF H' (b9 fr m)=vF H (b9 fr m):=by
   unfold vF;cases hx:b9 fr m<;>rw[hx] at hr<;>dsimp only at hr ⊢;rw[hr _ _ ⟨rfl,rfl⟩]
  rw[e,e0];exact h
 case mapUpdate t m k x =>
  rw[nY hl hr];exact h
 case insert t m k x =>
  rw[nY hl hr];exact h
 case makeMap t r=>cases r<;>exact h
 case call c =>
  unfold gP at h ⊢
  cases hc:c.callee with
  | value f=>rw[hc] at hall;simp at hall
  | invoke r m=>rw[hc] at h;simp at h
  | builtin b =>
    rw[hc] at h hr hall
    cases b<;>dsimp only at h hr hall ⊢<;>try exact h
    all_goals try (simp at hall;done)
    generalize c.args.toList=l at h hr hall ⊢
    generalize c.argTypes.toList=ts at h hr hall ⊢
    rcases l with _ | ⟨x,l⟩
    · exact h
    · rcases ts with _ | ⟨t,ts⟩
      · exact h
      · dsimp only at h hr ⊢
        have e:u0 P H' t (b9 fr x)=u0 P H t (b9 fr x):=by
         unfold u0;cases P.underlying t with
         | none=>rfl
         | some td =>
           cases hx:b9 fr x<;>rw[hx] at hr<;>cases td<;>dsimp only at hr ⊢;rw[hr _ _ ⟨rfl,rfl⟩]
        rw[e];exact h

def q9 (k:Nat→Bool):Nat→List (Nat×ao)→List (Nat×ao)
 | _,[]=>[]
 | i,b::r=>(if k i then b else (b.1,.dead))::q9 k (i+1) r
def lV (k:Nat→Nat→Bool):Nat→aa→aa
 | _,[]=>[]
 | d,l::r=>{ l with bs:=q9 (k d) 0 l.bs } :: lV k (d+1) r
theorem pD (k:Nat→Bool):∀ (l:List (Nat×ao)) (s:Nat),(q9 k s l).length=l.length
 | [],_=>rfl
 | b::l,s=>by simp[q9,pD k l]
theorem vR (k:Nat→Bool):∀ (l:List (Nat×ao)) (s i:Nat),av (q9 k s l) i=if k (s+i) then av l i else ((av l i).1,.dead)
 | [],s,i=>by simp[q9,av]
 | b::l,s,0=>by simp[q9,av]
 | b::l,s,i+1=>by
   simp only[q9,av,vR k l (s+1) i];rw[show s+1+i=s+(i+1) by omega]
theorem qA (k:Nat→Nat→Bool):∀ (H:aa) (s d i:Nat),az (lV k s H) d i=if k (s+d) i then az H d i else ((az H d i).1,.dead)
 | [],s,d,i=>by simp[lV,az]
 | l::r,s,0,i=>by simp[lV,az,vR]
 | l::r,s,d+1,i=>by
   simp only[lV,az,qA k r (s+1) d i];rw[show s+1+d=s+(d+1) by omega]
theorem tp (k:Nat→Nat→Bool):∀ (H:aa) (s d:Nat),aK (lV k s H) d=aK H d
 | [],_,_=>rfl
 | l::r,s,0=>rfl
 | l::r,s,d+1=>by simp[lV,aK,tp k r]
theorem tr (k:Nat→Nat→Bool):∀ (H:aa) (s d:Nat),aq (lV k s H) d=aq H d
 | [],_,_=>rfl
 | l::r,s,0=>by simp[lV,aq,pD]
 | l::r,s,d+1=>by simp[lV,aq,tr k r]

def star (t:Touch) (e:aa):aa :=
 match t with
 | .all=>e
 | .none=>lV (fun _ _=>false) 0 e
 | .blk d i=>lV (fun a b=>a == d && b == i) 0 e
theorem zE (t:Touch) (e:aa) (d i:Nat):(jQ t d i∧az (star t e) d i=az e d i)∨(¬ jQ t d i∧az (star t e) d i=((az e d i).1,.dead)):=by
 cases t with
 | all=>exact .inl ⟨trivial,rfl⟩
 | none=>exact .inr ⟨id,by simp[star,qA]⟩
 | blk a b =>
   simp only[star,qA,Nat.zero_add,jQ];by_cases e1:a=d∧b=i
   · obtain ⟨rfl,rfl⟩:=e1;exact .inl ⟨⟨rfl,rfl⟩,by simp⟩
   · refine .inr ⟨e1,if_neg ?_⟩;simp only[Bool.and_eq_true,beq_iff_eq];exact fun x=>e1 ⟨x.1.symm,x.2.symm⟩
theorem wg (t:Touch) (e:aa) (d:Nat):aK (star t e) d=aK e d:=by
 cases t<;>simp[star,tp]
theorem EK (t:Touch) (e:aa) (d:Nat):aq (star t e) d=aq e d:=by
 cases t<;>simp[star,tr]

structure vn (e H:aa):Prop where
 get:∀ d i,az e d i=az H d i∨(az e d i).2=.dead
 next:∀ d,aq e d=aq H d
theorem vn.live {e H:aa} (h:vn e H) {d i v:Nat} {B:ao} (hg:az e d i=(v,B)) (hB:B≠.dead):az H d i=(v,B):=by
 rcases h.get d i with h1 | h1
 · rw[← h1];exact hg
 · rw[hg] at h1;exact absurd h1 hB
theorem bj.under {p:aH} {M:Mu} {e H:aa} {w:World} (h:bj p M H w) (u:vn e H):bj p M e w where
 pers:=h.pers
 live:=fun d i v B hg hB=>h.live d i v B (u.live hg hB) hB
 apart:=fun d i v B d' i' v' B' b o t o' t' hg hB hg' hB' hm hm'=>h.apart d i v B d' i' v' B' b o t o' t' (u.live hg hB) hB (u.live hg' hB') hB' hm hm'
 dom:=fun d i v t hm=>by
  have:=h.dom d i v t hm;rw[u.next];refine ⟨this.1,?_⟩;rcases u.get d i with h1 | h1
  · rw[h1];exact this.2
  · exact fun hne=>absurd h1 hne
theorem eO.under {p:aH} {M:Mu} {e H:aa} {nx:Nat} {v:AV} {δ:Delta} {cv:Value} {w w':World} (h:eO p M e nx v δ cv w w') (u:vn e H) (hl:∀ d,aK e d=aK H d) (hδ:∀ X,δ≠.heap X):eO p M H nx v δ cv w w':=by
 cases δ with
 | bE=>exact h
 | push B=>exact h
 | set d i x =>
   obtain ⟨ver',B'⟩:=x;obtain ⟨ver,B,b,o,t,b',o',t',hg,hB,hk,rest⟩:=h;exact ⟨ver,B,b,o,t,b',o',t',u.live hg hB,hB,by rw[← hl];exact hk,rest⟩
 | heap X=>exact absurd rfl (hδ X)

theorem Fm:∀ (l m:List (Nat×ao)),l.length=m.length→(∀ i,av l i=av m i)→l=m
 | [],[],_,_=>rfl
 | [],_::_,h,_=>by simp at h
 | _::_,[],h,_=>by simp at h
 | a::l,b::m,h,g=>by
   have h0:=g 0;simp only[av] at h0;rw[h0,Fm l m (by simpa using h) (fun i=>g (i+1))]
theorem sS:∀ (H K:aa),H.length=K.length→(∀ d i,az H d i=az K d i)→(∀ d,aq H d=aq K d)→(∀ d,aK H d=aK K d)→H=K
 | [],[],_,_,_,_=>rfl
 | [],_::_,h,_,_,_=>by simp at h
 | _::_,[],h,_,_,_=>by simp at h
 | l::r,m::s,h,g,n,k=>by
   have h0:l.bs=m.bs:=Fm _ _ (n 0) (fun i=>g 0 i);have h1:l.lock=m.lock:=k 0;have h2:=sS r s (by simpa using h) (fun d i=>g (d+1) i) (fun d=>n (d+1)) (fun d=>k (d+1));cases l;cases m;simp only at h0 h1;rw[h0,h1,h2]

def uW (bef:Nat) (recs:List Rec) (d i:Nat):Prop:=∃ r ∈ recs,r.writes=some (d,i)∧bef.testBit r.ix=false
theorem kx (bef:Nat):∀ (recs:List Rec) (H:aa) (d i:Nat),(¬ uW bef recs d i∧az (di H bef recs) d i=az H d i)∨(uW bef recs d i∧az (di H bef recs) d i=((az H d i).1,.dead))
 | [],H,d,i=>.inl ⟨(by rintro ⟨r,hr,_⟩;cases hr),rfl⟩
 | r :: l,H,d,i=>by
   simp only[di];have skip:(∀ x,r.writes=some x→bef.testBit r.ix=true)→(uW bef (r::l) d i↔uW bef l d i):=fun hx=>by
    constructor
    · rintro ⟨q,hq,h1,h2⟩;rcases List.mem_cons.1 hq with rfl | hq
      · rw[hx _ h1] at h2;cases h2
      · exact ⟨q,hq,h1,h2⟩
    · rintro ⟨q,hq,h1,h2⟩;exact ⟨q,List.mem_cons_of_mem _ hq,h1,h2⟩
   cases hw:r.writes with
   | none =>
     rw[skip (fun x hx=>by rw[hw] at hx;cases hx)];exact kx bef l H d i
   | some x =>
     obtain ⟨a,b⟩:=x;dsimp only;split
     · rename_i hb;rw[skip (fun _ _=>hb)];exact kx bef l H d i
     · rename_i hb;have hb:bef.testBit r.ix=false:=by simpa using hb
       have ih:=kx bef l (dN H a b) d i;rw[eQ] at ih;by_cases e:d=a∧i=b
       · rw[if_pos e] at ih;have e':=e;obtain ⟨rfl,rfl⟩:=e';refine .inr ⟨⟨r,by simp,hw,hb⟩,?_⟩;rcases ih with ⟨_,h⟩ | ⟨_,h⟩<;>exact h
       · rw [if_neg e] at ih;have:uW bef (r::l) d i↔uW bef l d i:=by
          constructor
          · rintro ⟨q,hq,h1,h2⟩;rcases List.mem_cons.1 hq with rfl | hq
            · rw[hw] at h1;simp only[nP] at h1;exact absurd ⟨h1.1.symm,h1.2.symm⟩ e
            · exact ⟨q,hq,h1,h2⟩
          · rintro ⟨q,hq,h1,h2⟩;exact ⟨q,List.mem_cons_of_mem _ hq,h1,h2⟩
         rw[this];exact ih
theorem lk (bef:Nat):∀ (recs:List Rec) (H:aa) (d:Nat),aK (di H bef recs) d=aK H d
 | [],_,_=>rfl
 | r :: l,H,d=>by
   simp only[di];split
   · split
     · exact lk bef l H d
     · rw[lk bef l,je]
   · exact lk bef l H d
theorem jd (bef:Nat):∀ (recs:List Rec) (H:aa) (d:Nat),aq (di H bef recs) d=aq H d
 | [],_,_=>rfl
 | r :: l,H,d=>by
   simp only[di];split
   · split
     · exact jd bef l H d
     · rw[jd bef l,cw]
   · exact jd bef l H d
theorem nR (bef d i:Nat):∀ (recs:List Rec),kE bef d i recs=true→∀ r ∈ recs,bef.testBit r.ix=true∨¬ jQ r.reads d i
 | [],_,r,hr=>by cases hr
 | q :: l,h,r,hr=>by
   simp only[kE,Bool.and_eq_true,Bool.or_eq_true] at h;rcases List.mem_cons.1 hr with rfl | hr
   · refine h.1.imp id fun h1=>?_;cases hq:r.reads with
     | none=>exact id
     | all=>rw[hq] at h1;simp at h1
     | blk e j =>
       rw[hq] at h1;simp only[Bool.not_eq_true',Bool.and_eq_false_iff] at h1;rintro ⟨rfl,rfl⟩;simp at h1
   · exact nR bef d i l h.2 r hr

theorem vw (acc:Array Nat) (i:Nat):∀ (l:List Edge) (s:Nat),(l.foldl (fun s e=>if Region.binds .any e then s ||| 2 ^ e.on ||| acc.getD e.on 0 else s) s).testBit i=true ↔
 s.testBit i=true∨∃ e ∈ l,Region.binds .any e=true∧(i=e.on∨(acc.getD e.on 0).testBit i=true)
 | [],s=>by simp
 | e :: l, s=>by
   rw[List.foldl_cons,vw acc i l];by_cases hb:Region.binds .any e=true
   · rw[if_pos hb];simp only[Nat.testBit_or,Bool.or_eq_true,Nat.testBit_two_pow,decide_eq_true_eq];constructor
     · rintro (((h | h) | h) | ⟨x,hx,h⟩)
       · exact .inl h
       · exact .inr ⟨e,by simp,hb,.inl h.symm⟩
       · exact .inr ⟨e,by simp,hb,.inr h⟩
       · exact .inr ⟨x,by simp[hx],h⟩
     · rintro (h | ⟨x,hx,h1,h2⟩)
       · exact .inl (.inl (.inl h))
       · rcases List.mem_cons.1 hx with rfl | hx
         · rcases h2 with h2 | h2
           · exact .inl (.inl (.inr h2.symm))
           · exact .inl (.inr h2)
         · exact .inr ⟨x,hx,h1,h2⟩
   · rw[if_neg hb];constructor
     · rintro (h | ⟨x,hx,h⟩)
       · exact .inl h
       · exact .inr ⟨x,by simp[hx],h⟩
     · rintro (h | ⟨x,hx,h1,h2⟩)
       · exact .inl h
       · rcases List.mem_cons.1 hx with rfl | hx
         · exact absurd h1 hb
         · exact .inr ⟨x,hx,h1,h2⟩

theorem qL:∀ (l:List Oper) (acc:Array Nat),∃ R:Array Nat,l.foldl (fun acc o=>acc.push (o.after.foldl (fun s e=>if Region.binds .any e then s ||| 2 ^ e.on ||| acc.getD e.on 0 else s) 0)) acc=R ∧
 R.size=acc.size+l.length∧(∀ j,j<acc.size→R.getD j 0=acc.getD j 0) ∧
 ∀ j o,l[j]?=some o→∀ i,(R.getD (acc.size+j) 0).testBit i=true↔∃ e ∈ o.after,Region.binds .any e=true∧(i=e.on∨(e.on<acc.size+j∧(R.getD e.on 0).testBit i=true))
 | [],acc=>⟨acc,rfl,by simp,fun _ _=>rfl,fun j o h=>by simp at h⟩
 | o :: l,acc=>by
   obtain ⟨R,h1,h2,h3,h4⟩:=qL l (acc.push (o.after.foldl (fun s e=>if Region.binds .any e then s ||| 2 ^ e.on ||| acc.getD e.on 0 else s) 0));have hlow:∀ j,j<acc.size→R.getD j 0=acc.getD j 0:=fun j hj=>by
    rw[h3 j (by simp;omega)];simp only[Array.getD_eq_getD_getElem?];rw[Array.getElem?_push_lt hj,Array.getElem?_eq_getElem hj]
   refine ⟨R,by rw[List.foldl_cons];exact h1,by rw[h2];simp;omega,hlow,fun j o' hj i=>?_⟩;cases j with
   | zero =>
     simp only[List.getElem?_cons_zero,Option.some.injEq] at hj;subst hj;rw[Nat.add_zero,h3 _ (by simp)];have:(acc.push (o.after.foldl (fun s e=>if Region.binds .any e then s ||| 2 ^ e.on ||| acc.getD e.on 0 else s) 0)).getD acc.size 0=o.after.foldl (fun s e=>if Region.binds .any e then s ||| 2 ^ e.on ||| acc.getD e.on 0 else s) 0:=by
      simp[Array.getD_eq_getD_getElem?]
     rw[this,← Array.foldl_toList,vw];simp only[Nat.zero_testBit,Bool.false_eq_true,false_or,Array.mem_toList_iff];constructor
     · rintro ⟨e,he,hb,h⟩;refine ⟨e,he,hb,h.imp id fun h=>?_⟩;have hlt:e.on<acc.size:=by
        refine Nat.lt_of_not_le fun hle=>?_;rw[Array.getD_eq_getD_getElem?,Array.getElem?_eq_none hle] at h;simp at h
       exact ⟨hlt,by rw[hlow _ hlt];exact h⟩
     · rintro ⟨e,he,hb,h⟩;refine ⟨e,he,hb,h.imp id fun h=>?_⟩;rw[← hlow _ h.1];exact h.2
   | succ j =>
     simp only[List.getElem?_cons_succ] at hj;have:=h4 j o' hj i;simp only[Array.size_push] at this;rw[show acc.size+(j+1)=acc.size+1+j by omega];exact this

theorem sn {ops:Array Oper} {j:Nat} {o:Oper} (ho:ops[j]?=some o) (i:Nat):((Region.before ops).getD j 0).testBit i=true ↔
 ∃ e ∈ o.after,Region.binds .any e=true∧(i=e.on∨(e.on<j∧((Region.before ops).getD e.on 0).testBit i=true)):=by
 obtain ⟨R,h1,h2,h3,h4⟩:=qL ops.toList #[]
 have hR:Region.before ops=R:=by rw[← h1];unfold Region.before;rw[← Array.foldl_toList]
 rw[hR]
 have:=h4 j o (by simpa using ho) i
 simpa using this

end Go.Eng
end
section
namespace Go.Eng

abbrev fL:Nat→Bool:=fun _=>true
def lg (nt:Nat) (ops:Array Oper) (T:Nat→uK) (dZ:aE) (S:Nat→Bool):Nat→aE
 | 0=>dZ
 | k+1=>if S k then iJ nt (lg nt ops T dZ S k) ((ops[k]?).bind (·.dst)) (T k).v else lg nt ops T dZ S k
def hS (T:Nat→uK) (H0:aa) (S:Nat→Bool):Nat→aa
 | 0=>H0
 | k+1=>if S k then rA (hS T H0 S k) (T k).wr else hS T H0 S k
def cM (ops:Array Oper) (k:Nat):Bool:=((ops[k]?).map jJ).getD false
def kQ (ops:Array Oper) (n0:Nat):Nat→Nat
 | 0=>n0
 | k+1=>if cM ops k then kQ ops n0 k+1 else kQ ops n0 k
def fa (T:Nat→uK):Nat→List Rec
 | 0=>[]
 | k+1=>⟨k,(T k).rd,(T k).wr.map fun x=>(x.1,x.2.1)⟩::fa T k
theorem pM (T:Nat→uK):∀ (k:Nat) (r:Rec),r ∈ fa T k↔∃ j,j<k∧r=⟨j,(T j).rd,(T j).wr.map fun x=>(x.1,x.2.1)⟩
 | 0,r=>by simp[fa]
 | k + 1,r=>by
   simp only[fa,List.mem_cons,pM T k r];constructor
   · rintro (rfl | ⟨j,hj,rfl⟩)
     · exact ⟨k,by omega,rfl⟩
     · exact ⟨j,by omega,rfl⟩
   · rintro ⟨j,hj,rfl⟩;by_cases e:j=k
     · subst e;exact .inl rfl
     · exact .inr ⟨j,by omega,rfl⟩

theorem m8 {nt:Nat} {ops:Array Oper} {T T':Nat→uK} {dZ:aE} {S S':Nat→Bool}:∀ (n:Nat),(∀ k,k<n→T k=T' k∧S k=S' k)→lg nt ops T dZ S n=lg nt ops T' dZ S' n
 | 0,_=>rfl
 | n+1,h=>by simp only[lg];rw[(h n wO).1,(h n wO).2,m8 n (fun k hk=>h k wO)]
theorem pt {T T':Nat→uK} {H0:aa} {S S':Nat→Bool}:∀ (n:Nat),(∀ k,k<n→T k=T' k∧S k=S' k)→hS T H0 S n=hS T' H0 S' n
 | 0,_=>rfl
 | n+1,h=>by simp only[hS];rw[(h n wO).1,(h n wO).2,pt n (fun k hk=>h k wO)]
theorem oI {T T':Nat→uK}:∀ (n:Nat),(∀ k,k<n→T k=T' k)→fa T n=fa T' n
 | 0,_=>rfl
 | n+1,h=>by simp only[fa];rw[h n wO,oI n (fun k hk=>h k wO)]

def Fact (P:Program) (nt:Nat) (call:aL) (ops:Array Oper) (befs:Array Nat) (dZ:aE) (H0:aa) (n0:Nat) (T:Nat→uK):Prop :=
 ∀ k o,ops[k]?=some o→gQ P call ops (befs.getD k 0) (lg nt ops T dZ fL k) (hS T H0 fL k) (kQ ops n0 k) (fa T k) o=some (T k)

theorem trace {P:Program} {nt:Nat} {call:aL} {ops:Array Oper} {befs:Array Nat} {dZ:aE} {H0:aa} {n0:Nat} {fr':aE} {H':aa}:∀ (l:List Oper) (j:Nat) (T:Nat→uK),ops.toList.drop j=l→j≤ops.size →
 gI P nt call ops befs j l (lg nt ops T dZ fL j) (hS T H0 fL j) (kQ ops n0 j) (fa T j)=some (fr',H') →
 ∃ T',(∀ k,k<j→T' k=T k)∧(∀ k o,j≤k→ops[k]?=some o→gQ P call ops (befs.getD k 0) (lg nt ops T' dZ fL k) (hS T' H0 fL k) (kQ ops n0 k) (fa T' k) o=some (T' k)) ∧
  lg nt ops T' dZ fL ops.size=fr'∧hS T' H0 fL ops.size=H'
 | [],j,T,hl,hj,h=>by
   have:ops.size≤j:=by simpa using hl
   obtain rfl:j=ops.size:=by omega
   simp only[gI,Option.some.injEq,Prod.mk.injEq] at h;exact ⟨T,fun _ _=>rfl,fun k o hk ho=>by have:=(Array.getElem?_eq_some_iff.1 ho).1;omega,h.1,h.2⟩
 | o :: l,j,T,hl,hj,h=>by
   have ho:ops[j]?=some o:=by
    have:(ops.toList.drop j)[0]?=some o:=by rw[hl];rfl
    simpa using this
   have hlt:j<ops.size:=(Array.getElem?_eq_some_iff.1 ho).1;simp only[gI] at h;cases he:gQ P call ops (befs.getD j 0) (lg nt ops T dZ fL j) (hS T H0 fL j) (kQ ops n0 j) (fa T j) o with
   | none=>rw[he] at h;simp at h
   | some e =>
     rw[he] at h;dsimp only at h;let T1:Nat→uK:=fun i=>if i=j then e else T i
     have e1:T1 j=e:=if_pos rfl;have eb:∀ k,k<j→T1 k=T k:=fun k hk=>if_neg wO;have f1:lg nt ops T1 dZ fL (j+1)=iJ nt (lg nt ops T dZ fL j) o.dst e.v:=by
      simp only[lg,ho,Option.bind_some,e1,if_true];rw[m8 j (fun k hk=>⟨eb k hk,rfl⟩)]
     have f2:hS T1 H0 fL (j+1)=rA (hS T H0 fL j) e.wr:=by
      simp only[hS,e1,if_true];rw[pt j (fun k hk=>⟨eb k hk,rfl⟩)]
     have f3:kQ ops n0 (j+1)=if jJ o then kQ ops n0 j+1 else kQ ops n0 j:=by
      simp only[kQ,cM,ho,Option.map_some,Option.getD_some]
     have f4:fa T1 (j+1)=⟨j,e.rd,e.wr.map fun x=>(x.1,x.2.1)⟩::fa T j:=by
      simp only[fa,e1];rw[oI j eb]
     rw[← f1,← f2,← f3,← f4] at h;obtain ⟨T',g1,g2,g3,g4⟩:=trace l (j+1) T1 (by rw[← List.tail_drop,hl];rfl) hlt h;have gj:∀ k,k<j→T' k=T k:=fun k hk=>(g1 k wO).trans (eb k hk);refine ⟨T',gj,fun k o' hk ho'=>?_,g3,g4⟩;by_cases hkj:k=j
     · subst hkj;rw[ho] at ho';obtain rfl:=Option.some.inj ho';rw[m8 k (fun i hi=>⟨gj i hi,rfl⟩),pt k (fun i hi=>⟨gj i hi,rfl⟩),oI k gj,he,g1 k wO,e1]
     · exact g2 k o' wO ho'

theorem Nc {P:Program} {nt:Nat} {call:aL} {ops:Array Oper} {befs:Array Nat} {dZ:aE} {H0:aa} {n0:Nat} {fr':aE} {H':aa} (h:gI P nt call ops befs 0 ops.toList dZ H0 n0 []=some (fr',H')) :
 ∃ T,Fact P nt call ops befs dZ H0 n0 T∧lg nt ops T dZ fL ops.size=fr'∧hS T H0 fL ops.size=H':=by
 obtain ⟨T,_,h2,h3,h4⟩:=trace ops.toList 0 (fun _=>⟨.undef,.none,none⟩) rfl (Nat.zero_le _) h
 exact ⟨T,fun k o ho=>h2 k o (Nat.zero_le _) ho,h3,h4⟩

theorem tG       (ops:Array Oper) (n0:Nat):∀ (m k:Nat),k≤m→kQ ops n0 k≤kQ ops n0 m
 | 0,k,h=>by     obtain rfl:k=0:=by omega
                 exact Nat.le_refl _
 | m + 1,k,h=>by
   by_cases e:k=m+1
   · subst e;exact Nat.le_refl _
   · have:=tG ops n0 m k wO;simp only[kQ];split<;>omega
theorem Bu {ops:Array Oper} {n0 k m:Nat} (h:k<m) (hp:cM ops k=true):kQ ops n0 k<kQ ops n0 m:=by
 have:=tG ops n0 m (k+1) h;simp only[kQ,hp,if_true] at this;omega
theorem Mv (ops:Array Oper) (n0 k:Nat):n0≤kQ ops n0 k:=tG ops n0 k 0 (Nat.zero_le _)
theorem C5 (ops:Array Oper) (n0:Nat):∀ (k:Nat),k≤ops.size→kQ ops n0 k+c6 (ops.toList.drop k)=n0+c6 ops.toList
 | 0,_=>rfl
 | k+1,h=>by
   have ih:=C5 ops n0 k wO;have hk:k<ops.size:=by omega
   have e:ops.toList.drop k=ops[k]::ops.toList.drop (k+1):=by rw[List.drop_eq_getElem_cons (by simpa using hk)];simp
   rw[e] at ih;simp only[c6] at ih;have e2:cM ops k=jJ ops[k]:=by simp[cM,Array.getElem?_eq_getElem hk]
   simp only[kQ,e2];split at ih<;>split<;>rename_i a b<;>first | (simp[a] at b;done) | omega
theorem C6 {ops:Array Oper} {n0 k:Nat} (hk:cM ops k=true):kQ ops n0 k<n0+c6 ops.toList:=by
 have hlt:k<ops.size:=by
  refine Nat.lt_of_not_le fun h=>?_;simp[cM,Array.getElem?_eq_none h] at hk
 have h1:=Bu (n0:=n0) (Nat.lt_succ_self k) hk;have h2:=C5 ops n0 (k+1) hlt;have h3:kQ ops n0 (k+1)≤n0+c6 ops.toList:=by omega
 exact Nat.lt_of_lt_of_le h1 h3

theorem vZ (H:aa) (x:Option (Nat×Nat×(Nat×ao))) (d:Nat):aq (rA H x) d=aq H d:=by
 cases x with
 | none=>rfl
 | some x=>exact cI _ _ _ _ _
theorem vY (H:aa) (x:Option (Nat×Nat×(Nat×ao))) (d:Nat):aK (rA H x) d=aK H d:=by
 cases x with
 | none=>rfl
 | some x=>exact fC _ _ _ _ _
theorem y8 (H:aa) (x:Option (Nat×Nat×(Nat×ao))):(rA H x).length=H.length:=by
 cases x with
 | none=>rfl
 | some x=>exact mA _ _ _ _
theorem gJ (T:Nat→uK) (H0:aa) (S:Nat→Bool) (d:Nat):∀ k,aq (hS T H0 S k) d=aq H0 d
 | 0=>rfl
 | k+1=>by
   simp only[hS];split
   · rw[vZ,gJ T H0 S d k]
   · exact gJ T H0 S d k
theorem jG (T:Nat→uK) (H0:aa) (S:Nat→Bool) (d:Nat):∀ k,aK (hS T H0 S k) d=aK H0 d
 | 0=>rfl
 | k+1=>by
   simp only[hS];split
   · rw[vY,jG T H0 S d k]
   · exact jG T H0 S d k
theorem qi (T:Nat→uK) (H0:aa) (S:Nat→Bool):∀ k,(hS T H0 S k).length=H0.length
 | 0=>rfl
 | k+1=>by
   simp only[hS];split
   · rw[y8,qi T H0 S k]
   · exact qi T H0 S k

def lS (T:Nat→uK) (k d i:Nat):Option (Nat×ao) :=
 match (T k).wr with
 | some (d',i',b)=>if d=d'∧i=i' then some b else none
 | none=>none
theorem kO {T:Nat→uK} {k d i:Nat} {b:Nat×ao}:lS T k d i=some b↔(T k).wr=some (d,i,b):=by
 unfold lS;cases h:(T k).wr with
 | none=>simp
 | some x =>
   obtain ⟨d',i',b'⟩:=x;simp only[nP];constructor
   · intro h1;split at h1
     · rename_i e;simp only[Option.some.injEq] at h1;exact ⟨e.1.symm,e.2.symm,h1⟩
     · cases h1
   · rintro ⟨rfl,rfl,rfl⟩;simp

end Go.Eng
end
