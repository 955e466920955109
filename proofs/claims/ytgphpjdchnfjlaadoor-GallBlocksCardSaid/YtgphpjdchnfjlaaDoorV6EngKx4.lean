/- The engine, part K: code. -/
import Derived.Test.YtgphpjdchnfjlaaDoorV6EngJ
import Derived.LoopNIn
import Derived.RangeFuncNested
set_option linter.unusedVariables false
set_option linter.unusedSimpArgs false
section
namespace Go.Eng

def Na:Ex→Exit
 | .normal=>.normal
 | .exit id=>.exit id
 | .goto l=>.goto l
 | .ret=>.ret

def Hl (n0:Nat) (p:aF) (M:Mu) (H:ab) (w:World) (nt:Nat) (fr':aA) (H':ab) (a':Act) (w':World):Prop :=
 ∃ p' M',cC p M H w p' M' H' w'∧bX p' M' nt fr' a'∧Marks n0 M' H' w' a'.defers

def uo (F:Fence) (ro:Option (Nat×Nat)) (M:Mu):Prop :=
 match ro with
 | none=>F.round=none
 | some (d,i)=>∃ l o t,F.round=some l∧M d i 0=some (l,o,t)
theorem uo.mono {F:Fence} {ro:Option (Nat×Nat)} {M N:Mu} (h:uo F ro M) (hM:Mu.le M N):uo F ro N:=by
 cases ro with
 | none=>exact h
 | some x =>
   obtain ⟨l,o,t,h1,h2⟩:=h;exact ⟨l,o,t,h1,hM _ _ _ _ h2⟩

def dQ (P:Program) (F:Fence) (ro:Option (Nat×Nat)) (nt:Nat) (c:Code) (fr:aA) (H:ab) (e:Ex) (fr':aA) (H':ab):Prop :=
 ∀ (n0:Nat) (p:aF) (M:Mu) (a:Act) (w:World) (Q:Exit→Act→World→Prop),bX p M nt fr a→bj p M H w→H≠[]→uo F ro M→Marks n0 M H w a.defers →
  (∀ a' w',Hl n0 p M H w nt fr' H' a' w'→Q (Na e) a' w')→c.wpIn F 0 P Q a w

structure iE (cx:Cx) (F:Fence):Prop where
 draw:∀ (id:Nat) (ops:Array Oper) (fr:aA) (H:ab) (fr':aA) (H':ab),fV ops (Region.before ops)=true→gr cx.P cx.nt cx.call ops (Region.before ops) 0 ops.toList fr (nH H (cY ops.toList)) (aZ H) []=some (fr',H') →
  dQ cx.P F cx.ro cx.nt (.region id ops true) fr H .normal fr' H'
 range:∀ (f:Operand) (params:Array Tmp) (assign body:Code) (fr:aA) (H:ab) (e:Ex) (fr':aA) (H':ab),exec cx (.rangeFunc f params assign body) fr H=some (e,fr',H') →
  dQ cx.P F cx.ro cx.nt (.rangeFunc f params assign body) fr H e fr' H'

theorem yq {P:Program} {F:Fence} {ro:Option (Nat×Nat)} {nt:Nat} {c:Code} {body:aA→ab→Option (Ex×aA×ab)} (hb:∀ fr H e fr' H',body fr H=some (e,fr',H')→dQ P F ro nt c fr H e fr' H')
 {n0:Nat} {p:aF} {M:Mu} {H:ab} {w:World} (hH:bj p M H w) (hne:H≠[]) (hR:uo F ro M) {Q:Exit→Act→World→Prop} {e:Ex} {fr':aA} {H':ab} (hQ:∀ a' w',Hl n0 p M H w nt fr' H' a' w'→Q (Na e) a' w') :
 ∀ (fu:Nat) (fr1:aA) (H1:ab),iter body (aZ H) fu fr1 H1=some (e,fr',H')→∀ (a1:Act) (w1:World),Hl n0 p M H w nt fr1 H1 a1 w1→Code.roundsIn F 0 P c Q fu a1 w1
 | 0,fr1,H1,h,a1,w1,_=>by simp[iter] at h
 | fu+1,fr1,H1,h,a1,w1,⟨p1,M1,hE,hF,hM⟩=>by
   rw[roundsIn_succ];simp only[iter] at h;cases hbd:body fr1 H1 with
   | none=>rw[hbd] at h;simp at h
   | some r =>
     obtain ⟨e2,fr2,H2⟩:=r;rw[hbd] at h;have hc:=hb _ _ _ _ _ hbd;refine hc n0 p1 M1 a1 w1 _ hF hE.rel (hE.ne hne) (hR.mono hE.mu) hM (fun a2 w2 ⟨p2,M2,hE2,hF2,hM2⟩=>?_);cases e2 with
     | normal =>
       simp only at h;obtain ⟨M3,hE3,hF3,hM3⟩:=Hd (hE.trans hE2) hF2 hM2 (fun d i v t hm=>(hH.dom d i v t hm).1);exact yq hb hH hne hR hQ fu _ _ h a2 w2 ⟨p2,M3,hE3,hF3,hM3⟩
     | _ =>
       simp only[nP] at h;obtain ⟨rfl,rfl,rfl⟩:=h;exact hQ a2 w2 ⟨p2,M2,hE.trans hE2,hF2,hM2⟩

theorem Hl.trans {n0:Nat} {p p':aF} {M M':Mu} {H H' H'':ab} {w w' w'':World} {nt:Nat} {fr'':aA} {a'':Act} (hE:cC p M H w p' M' H' w') (h:Hl n0 p' M' H' w' nt fr'' H'' a'' w''):Hl n0 p M H w nt fr'' H'' a'' w'' :=
 let ⟨p2,M2,h1,h2,h3⟩:=h
 ⟨p2,M2,hE.trans h1,h2,h3⟩

theorem BR {P:Program} {F:Fence} {n:Nat} {c:Code} {Q:Exit→Act→World→Prop} {a:Act} {w:World} (h:c.wpIn F n P (Exit.noGoto Q) a w):(Code.scope c).wpIn F n P Q a w:=by
 intro b k cs hro hb hr;have h0:(lone (b.atR a (.code (.scope c)::k)) cs w).fenced P F:=fenced_calm hb hr rfl;obtain ⟨e,a₁,w₁,hq,harr⟩:=h b (.inScope c::k) cs hro hb hr;have s0:step P (lone (b.atR a (.code (.scope c)::k)) cs w)=.next (lone (b.atR a (.code c::.inScope c::k)) cs w) :=
  step_lone_go (by simp[stepG,stepG.exec,Frame.atR])
 cases e with
 | normal =>
   exact ⟨.normal,a₁,w₁,hq,.head h0 s0 (StepsIn.trans harr (.one (fenced_calm hb hr rfl) (step_lone_go (by simp[stepG,stepG.exec,Frame.atR]))))⟩
 | exit id =>
   have hx:exitTo id (.inScope c::k)=exitTo id k:=by simp[exitTo]
   exact ⟨.exit id,a₁,w₁,hq,fun k' hk=>.head h0 s0 (harr.1 k' (by rw[hx];exact hk)),
    fun hr' hk=>let ⟨k₁,h1,h2⟩:=harr.2 hr' (by rw[hx];exact hk);⟨k₁,h1,.head h0 s0 h2⟩⟩
 | goto l=>exact hq.elim
 | ret=>exact ⟨_,a₁,w₁,hq,.of_steps (.one h0 s0) harr⟩
 | panic ch=>exact ⟨_,a₁,w₁,hq,.of_steps (.one h0 s0) harr⟩
 | outgrown=>exact ⟨_,a₁,w₁,hq,.of_steps (.one h0 s0) harr⟩

theorem cV {cx:Cx} {F:Fence} (hFW:dJ F) (hN:dG cx.P) (hC:b9 cx.P cx.call) (hX:iE cx F):∀ (c:Code) (fr:aA) (H:ab) (e:Ex) (fr':aA) (H':ab),exec cx c fr H=some (e,fr',H')→dQ cx.P F cx.ro cx.nt c fr H e fr' H'
 | .skip,fr,H,e,fr',H',h=>by
   simp only[exec,Option.some.injEq,Prod.mk.injEq] at h;obtain ⟨rfl,rfl,rfl⟩:=h;exact fun n0 p M a w Q hF hH hne hR hM hQ=>wpIn_skip (hQ a w ⟨p,M,cC.refl hH,hF,hM⟩)
 | .label l,fr,H,e,fr',H',h=>by
   simp only[exec,Option.some.injEq,Prod.mk.injEq] at h;obtain ⟨rfl,rfl,rfl⟩:=h;exact fun n0 p M a w Q hF hH hne hR hM hQ=>wpIn_label (hQ a w ⟨p,M,cC.refl hH,hF,hM⟩)
 | .exit id,fr,H,e,fr',H',h=>by
   simp only[exec,Option.some.injEq,Prod.mk.injEq] at h;obtain ⟨rfl,rfl,rfl⟩:=h;exact fun n0 p M a w Q hF hH hne hR hM hQ=>wpIn_exit (hQ a w ⟨p,M,cC.refl hH,hF,hM⟩)
 | .goto l,fr,H,e,fr',H',h=>by
   simp only[exec,Option.some.injEq,Prod.mk.injEq] at h;obtain ⟨rfl,rfl,rfl⟩:=h;exact fun n0 p M a w Q hF hH hne hR hM hQ=>wpIn_goto (hQ a w ⟨p,M,cC.refl hH,hF,hM⟩)
 | .ret,fr,H,e,fr',H',h=>by
   simp only[exec,Option.some.injEq,Prod.mk.injEq] at h;obtain ⟨rfl,rfl,rfl⟩:=h;exact fun n0 p M a w Q hF hH hne hR hM hQ=>wpIn_ret (hQ a w ⟨p,M,cC.refl hH,hF,hM⟩)
 | .refuse _,fr,H,e,fr',H',h=>by simp[exec] at h
 | .rangeFunc f ps assign body,fr,H,e,fr',H',h=>hX.range f ps assign body fr H e fr' H' h
 | .region id ops draw,fr,H,e,fr',H',h=>by
   simp only[exec] at h;split at h
   · rename_i fr1 H1 hr;simp only[nP] at h;obtain ⟨rfl,h⟩:=h;obtain rfl:fr'=(oW (cx.kt id) fr1 H1).1:=by rw[h]
     obtain rfl:H'=(oW (cx.kt id) fr1 H1).2:=by rw[h]
     cases draw with
     | true =>
       simp only[if_true] at hr;split at hr
       · rename_i hs;have hd:=hX.draw id ops fr H fr1 H1 hs hr;intro n0 p M a w Q hF hH hne hR hM hQ;refine hd n0 p M a w Q hF hH hne hR hM (fun a' w' ⟨p',M',k1,k2,k3⟩=>hQ a' w' ?_);obtain ⟨p2,q1,q2,q3⟩:=vt k1 (k2.kill _) k3;exact ⟨p2,M',q1,q2,q3⟩
       · simp at hr
     | false =>
       simp only[Bool.false_eq_true,if_false] at hr;intro n0 p M a w Q hF hH hne hR hM hQ;refine wpIn_region_list (gm hFW hN hC _ fr H fr1 H1 hr p M a w hF hH hne (fun a' w' ⟨p',M',k1,k2,k3⟩=>hQ a' w' ?_));obtain ⟨p2,q1,q2,q3⟩:=vt (n0:=n0) k1 (k2.kill _) (by rw[k3];exact hM.xB k1);exact ⟨p2,M',q1,q2,q3⟩
   · simp at h
 | .seq x y,fr,H,e,fr',H',h=>by
   simp only[exec] at h;intro n0 p M a w Q hF hH hne hR hM hQ;cases hx:exec cx x fr H with
   | none=>rw[hx] at h;simp at h
   | some r =>
     obtain ⟨e1,fr1,H1⟩:=r;rw[hx] at h;have ih:=cV hFW hN hC hX x fr H e1 fr1 H1 hx;refine wpIn_seq (ih n0 p M a w _ hF hH hne hR hM (fun a1 w1 hn=>?_));cases e1 with
     | normal =>
       simp only at h;obtain ⟨p1,M1,k1,k2,k3⟩:=hn;exact cV hFW hN hC hX y fr1 H1 e fr' H' h n0 p1 M1 a1 w1 Q k2 k1.rel (k1.ne hne) (hR.mono k1.mu) k3 (fun a2 w2 h2=>hQ a2 w2 (Hl.trans k1 h2))
     | _ =>
       simp only[nP] at h;obtain ⟨rfl,rfl,rfl⟩:=h;exact hQ a1 w1 hn
 | .cond c x y,fr,H,e,fr',H',h=>by
   simp only[exec] at h;intro n0 p M a w Q hF hH hne hR hM hQ;have hc:=hF.b5 c;split at h
   · rename_i hb;rw[hb] at hc;have he:a.eval c=.bool true:=by generalize a.eval c=z at hc;cases hc;rfl
     exact wpIn_cond_true he (cV hFW hN hC hX x fr H e fr' H' h n0 p M a w Q hF hH hne hR hM hQ)
   · rename_i hb;rw[hb] at hc;have he:a.eval c=.bool false:=by generalize a.eval c=z at hc;cases hc;rfl
     exact wpIn_cond_false he (cV hFW hN hC hX y fr H e fr' H' h n0 p M a w Q hF hH hne hR hM hQ)
   · simp at h
 | .block id b,fr,H,e,fr',H',h=>by
   simp only[exec] at h;intro n0 p M a w Q hF hH hne hR hM hQ;cases hx:exec cx b fr H with
   | none=>rw[hx] at h;simp at h
   | some r =>
     obtain ⟨e1,fr1,H1⟩:=r;rw[hx] at h;refine wpIn_block (cV hFW hN hC hX b fr H e1 fr1 H1 hx n0 p M a w _ hF hH hne hR hM (fun a1 w1 hn=>?_));cases e1 with
     | exit id' =>
       simp only at h;split at h
       · rename_i uE;simp only[nP] at h;obtain ⟨rfl,rfl,rfl⟩:=h;simp only[Na,Exit.inBlock];rw[if_pos (by simpa using uE)];exact hQ a1 w1 hn
       · rename_i uE;simp only[nP] at h;obtain ⟨rfl,rfl,rfl⟩:=h;simp only[Na,Exit.inBlock];rw[if_neg (by simpa using uE)];exact hQ a1 w1 hn
     | _ =>
       simp only[nP] at h;obtain ⟨rfl,rfl,rfl⟩:=h;exact hQ a1 w1 hn
 | .loop b,fr,H,e,fr',H',h=>by
   simp only[exec] at h;intro n0 p M a w Q hF hH hne hR hM hQ;exact wpIn_loop_rounds cx.fu (yq (fun fr H e fr' H' h=>cV hFW hN hC hX b fr H e fr' H' h) hH hne hR hQ cx.fu fr H h a w ⟨p,M,cC.refl hH,hF,hM⟩)
 | .scope b,fr,H,e,fr',H',h=>by
   simp only[exec] at h;intro n0 p M a w Q hF hH hne hR hM hQ;cases hx:exec cx b fr H with
   | none=>rw[hx] at h;simp at h
   | some r =>
     obtain ⟨e1,fr1,H1⟩:=r;rw[hx] at h;refine BR (cV hFW hN hC hX b fr H e1 fr1 H1 hx n0 p M a w _ hF hH hne hR hM (fun a1 w1 hn=>?_));cases e1 with
     | goto l=>simp at h
     | _ =>
       simp only[nP] at h;obtain ⟨rfl,rfl,rfl⟩:=h;exact hQ a1 w1 hn

end Go.Eng
end
section
namespace Go.Eng

def dj (M:Mu):Mu:=fun d i v=>match d with
 | 0=>none
 | d+1=>M d i v
theorem bj.down {p:aF} {M:Mu} {H:ab} {w:World} (h:bj p M H w):bj p (dj M) (⟨false,[]⟩::H) w where
 pers:=h.pers
 live:=fun d i v B hg hB=>by
  cases d with
  | zero=>simp[az,au] at hg;exact absurd hg.2.symm hB
  | succ d=>exact h.live d i v B hg hB
 apart:=fun d i v B d' i' v' B' b o t o' t' hg hB hg' hB' hm hm'=>by
  cases d with
  | zero=>simp[dj] at hm
  | succ d =>
    cases d' with
    | zero=>simp[dj] at hm'
    | succ d' =>
      have:=h.apart d i v B d' i' v' B' b o t o' t' hg hB hg' hB' hm hm';exact ⟨by omega,this.2⟩
 dom:=fun d i v t hm=>by
  cases d with
  | zero=>simp[dj] at hm
  | succ d=>exact h.dom d i v t hm

def Own (M1:Mu) (l:bJ) (b:Nat):Prop:=∃ i v r o t,au l.bs i=(v,.row r)∧M1 0 i v=some (b,o,t)
open Classical in
noncomputable def IW (p1:aF) (M1:Mu) (l:bJ) (w1:World) (b o:Nat):Option Value:=if Own M1 l b then w1.cell? ⟨b,o,none⟩ else p1 b o
theorem C9 {p1:aF} {M1:Mu} {l:bJ} {w1:World} (h:∀ b,Own M1 l b→∀ x,p1 b x=none) (b o:Nat) (v:Value) (hv:oS b o=some v):IW p1 M1 l w1 b o=some v:=by
 unfold IW;rw[if_neg]
 · exact p1.2 _ _ _ hv
 · intro ho;rw[p1.CT (h b ho o)] at hv;cases hv
open Classical in
noncomputable def tp (p1:aF) (M1:Mu) (l:bJ) (w1:World):aF:=if h:∀ b,Own M1 l b→∀ x,p1 b x=none then ⟨IW p1 M1 l w1,C9 h⟩ else p1
theorem GA {p1:aF} {M1:Mu} {l:bJ} {w1:World} (h:∀ b,Own M1 l b→∀ x,p1 b x=none):tp p1 M1 l w1=⟨IW p1 M1 l w1,C9 h⟩:=dif_pos h
open Classical in
theorem pe {p1:aF} {M1:Mu} {l:bJ} {H1:ab} {w1:World} (h:bj p1 M1 (l::H1) w1) (b o:Nat):tp p1 M1 l w1 b o=if Own M1 l b then w1.cell? ⟨b,o,none⟩ else p1 b o:=by
 have hh:∀ b,Own M1 l b→∀ x,p1 b x=none:=by
  rintro b ⟨i,v',r,o',t,hg,hm⟩ x;obtain ⟨b',o2,t2,k1,k2,k3⟩:=h.live 0 i v' (.row r) hg (by simp);rw[hm] at k1;simp only[nP] at k1;rw[k1.1];exact k3 x
 rw[GA hh];rfl
theorem w7 {p1:aF} {M1:Mu} {l:bJ} {H1:ab} {w1:World} (h:bj p1 M1 (l::H1) w1):aF.le p1 (tp p1 M1 l w1):=by
 intro b o v hv;rw[pe h,if_neg]
 · exact hv
 · rintro ⟨i,v',r,o',t,hg,hm⟩;obtain ⟨b',o2,t2,k1,k2,k3⟩:=h.live 0 i v' (.row r) hg (by simp);rw[hm] at k1;simp only[nP] at k1;rw[k1.1,k3] at hv;cases hv
theorem Gz {p1:aF} {M1:Mu} {l:bJ} {H1:ab} {w1:World} (hR:bj p1 M1 (l::H1) w1) {b o:Nat} (h:Own M1 l b):tp p1 M1 l w1 b o=w1.cell? ⟨b,o,none⟩:=by
 rw[pe hR,if_pos h]

theorem wu {p1:aF} {M1:Mu} {l:bJ} {H1:ab} {w1:World} (h:bj p1 M1 (l::H1) w1):∀ (n:Nat) (v:AV) (c:Value),al p1 M1 v c→al (tp p1 M1 l w1) (M1.up 1) (dE l.bs n v) c
 | 0,v,c,_=>.undef c
 | n + 1,v,  c,hv=>by
   have ih:=wu h n;have le:=w7 h;have cells:∀ (i v:Nat) (r:Row) (b o t:Nat),au l.bs i=(v,.row r)→M1 0 i v=some (b,o,t)→∃ vs:Nat→Value,(∀ j,j<r.len→tp p1 M1 l w1 b (o+j)=some (vs j))∧bg p1 M1 r vs:=by
    intro i v r b o t hg hm;obtain ⟨b',o2,t2,k1,k2,k3⟩:=h.live 0 i v (.row r) hg (by simp);rw[hm] at k1;simp only[nP] at k1;obtain ⟨rfl,rfl,rfl⟩:=k1;obtain ⟨vs,q1,q2⟩:=mh k2;exact ⟨vs,fun j hj=>by rw[Gz h ⟨i,v,r,o,t,hg,hm⟩];exact q2 j hj,q1⟩
   have rows:∀ (bs:List (Nat×an)) (g:List AV) (vs:Nat→Value),(∀ j,j<g.length→al p1 M1 (g.getD j .undef) (vs j))→∀ j,j<(g.map (dE l.bs n)).length→al (tp p1 M1 l w1) (M1.up 1) ((g.map (dE l.bs n)).getD j .undef) (vs j):=by
    intro _ g vs hg j hj;have hj':j<g.length:=by simpa using hj
    rw[bY _ _ _ hj'];exact ih _ _ (hg j hj')
   have mrows:∀ (g:List db) (vs:Nat→Value),(∀ j,j<ay g→al p1 M1 (getM g j) (vs j))→∀ j,j<ay (mapM' (dE l.bs n) g)→al (tp p1 M1 l w1) (M1.up 1) (getM (mapM' (dE l.bs n) g) j) (vs j):=by
    intro g vs hg j hj;rw[aU] at hj;exact l6 hj (hg j hj) (fun h=>ih _ _ h)
   have marrs:∀ (g:List db) (vs:Nat→Value),fI g=true→(∀ j,j<ay g→al p1 M1 (getM g j) (vs j))→∀ j,j<ay g→al (tp p1 M1 l w1) Mu.no (getM g j) (vs j):=by
    intro g vs ha hg j hj;obtain ⟨k,i,e⟩:=rW g ha j hj;have:=hg j hj;rw[e] at this ⊢;exact this.bp _ _
   cases hv with
   | undef c=>exact .undef c
   | bool b=>exact .bool b
   | int k n=>exact .int k n
   | str s=>exact .str s
   | nilp=>exact .nilp
   | nils=>exact .nils
   | nilm=>exact .nilm
   | nilf=>exact .nilf
   | ptr hm =>
     rename_i d i ver off b o t;cases d with
     | succ d=>exact .ptr (t:=t) (by simp only[Mu.up];exact hm)
     | zero =>
       simp only[dE];split
       · rename_i w r hg;split
         · rename_i hw;have hw:w=ver:=by simpa using hw
           subst hw;obtain ⟨vs,q1,q2⟩:=cells i w r b o t hg hm;cases r with
           | I k g=>exact .ptrT vs q1 (fun j hj=>(q2 j hj).2) (fun j hj=>(q2 j hj).1.bp _ _)
           | F f m=>exact .ptrT vs q1 (fun j hj=>(q2 j hj).2) (fun j hj=>(q2 j hj).1.mono le (Mu.le.refl _))
           | M g =>
             dsimp only;split
             · rename_i ha;exact .ptrT vs q1 (fun j hj=>(q2 j hj).2) (marrs g vs ha (fun j hj=>(q2 j hj).1))
             · refine .ptrT vs (fun j hj=>q1 j (by simpa[Row.len,aU] using hj)) (fun j hj=>(q2 j (by simpa[Row.len,aU] using hj)).2) (fun j hj=>?_);exact mrows g vs (fun j hj=>(q2 j hj).1) j hj
           | G g =>
             refine .ptrT vs (fun j hj=>q1 j (by simpa[Row.len] using hj)) (fun j hj=>(q2 j (by simpa[Row.len] using hj)).2) (fun j hj=>?_);exact rows l.bs g vs (fun j hj=>(q2 j hj).1) j hj
         · exact .undef _
       · exact .undef _
   | slc hm hl hc hn hx =>
     rename_i d i ver off sz len b o t x cc cap;cases d with
     | succ d=>exact .slc (by simp only[Mu.up];exact hm) hl hc hn hx
     | zero =>
       simp only[dE];split
       · rename_i w r hg;split
         · rename_i hw;obtain ⟨hw,hfit⟩:=hw;have hw:w=ver:=by simpa using hw
           subst hw;obtain ⟨vs,q1,q2⟩:=cells i w r b o t hg hm;have hs:=q2.sub off (len*sz) hfit;have hsl:=Row.dp r off (len*sz) hfit;have q1':∀ j,j<(r.sub off (len*sz)).len→tp p1 M1 l w1 b (o+off+j)=some (vs (off+j)):=by
            intro j hj;rw[hsl] at hj;rw[Nat.add_assoc];exact q1 _ wO
           have hfull:(cap == some len)=true→cc=len:=fun e=>hc len (by simpa using e);generalize r.sub off (len*sz)=rs at hs q1';cases rs with
           | I k g=>exact .slcT (fun j=>vs (off+j)) q1' (fun j hj=>(hs j hj).2) (fun j hj=>(hs j hj).1.bp _ _) hl hfull hx
           | F f m=>exact .slcT (fun j=>vs (off+j)) q1' (fun j hj=>(hs j hj).2) (fun j hj=>(hs j hj).1.mono le (Mu.le.refl _)) hl hfull hx
           | M g =>
             dsimp only;split
             · rename_i ha;exact .slcT (fun j=>vs (off+j)) q1' (fun j hj=>(hs j hj).2) (marrs g (fun j=>vs (off+j)) ha (fun j hj=>(hs j hj).1)) hl hfull hx
             · refine .slcT (fun j=>vs (off+j)) (fun j hj=>q1' j (by simpa[Row.len,aU] using hj)) (fun j hj=>(hs j (by simpa[Row.len,aU] using hj)).2) (fun j hj=>?_) hl hfull hx;exact mrows g (fun j=>vs (off+j)) (fun j hj=>(hs j hj).1) j hj
           | G g =>
             refine .slcT (fun j=>vs (off+j)) (fun j hj=>q1' j (by simpa[Row.len] using hj)) (fun j hj=>(hs j (by simpa[Row.len] using hj)).2) (fun j hj=>?_) hl hfull hx;exact rows l.bs g (fun j=>vs (off+j)) (fun j hj=>(hs j hj).1) j hj
         · exact .undef _
       · exact .undef _
   | ptrT vs h0 h1 hv =>
     rename_i s r off b o;cases s with
     | none=>exact .ptrT vs (fun j hj=>le _ _ _ (h0 j hj)) h1 (fun j hj=>(hv j hj).mono le (Mu.le.refl _))
     | some s =>
       cases s with
       | succ s=>exact .ptrT vs (fun j hj=>le _ _ _ (h0 j hj)) h1 (fun j hj=>(hv j hj).mono le (by rw[show pA M1 (some (s+1))=pA (M1.up 1) (some s) from (Mu.tW M1 1 s).symm];exact Mu.le.refl _))
       | zero =>
         cases r with
         | I k g=>exact .ptrT vs (fun j hj=>le _ _ _ (h0 j hj)) h1 (fun j hj=>(hv j hj).bp _ _)
         | F f m=>exact .ptrT vs (fun j hj=>le _ _ _ (h0 j hj)) h1 (fun j hj=>(hv j hj).mono le (Mu.le.refl _))
         | M g =>
           simp only[dE];split
           · rename_i ha;exact .ptrT vs (fun j hj=>le _ _ _ (h0 j hj)) h1 (marrs g vs ha (fun j hj=>hv j hj))
           · refine .ptrT vs (fun j hj=>le _ _ _ (h0 j (by simpa[Row.len,aU] using hj))) (fun j hj=>h1 j (by simpa[Row.len,aU] using hj)) (fun j hj=>?_);exact mrows g vs (fun j hj=>hv j hj) j hj
         | G g =>
           refine .ptrT vs (fun j hj=>le _ _ _ (h0 j (by simpa[Row.len] using hj))) (fun j hj=>h1 j (by simpa[Row.len] using hj)) (fun j hj=>?_);exact rows l.bs g vs (fun j hj=>hv j hj) j hj
   | slcT vs h0 h1 hv hl hf hx =>
     rename_i s r sz len b o x cc full;cases s with
     | none=>exact .slcT vs (fun j hj=>le _ _ _ (h0 j hj)) h1 (fun j hj=>(hv j hj).mono le (Mu.le.refl _)) hl hf hx
     | some s =>
       cases s with
       | succ s=>exact .slcT vs (fun j hj=>le _ _ _ (h0 j hj)) h1 (fun j hj=>(hv j hj).mono le (by rw[show pA M1 (some (s+1))=pA (M1.up 1) (some s) from (Mu.tW M1 1 s).symm];exact Mu.le.refl _)) hl hf hx
       | zero =>
         cases r with
         | I k g=>exact .slcT vs (fun j hj=>le _ _ _ (h0 j hj)) h1 (fun j hj=>(hv j hj).bp _ _) hl hf hx
         | F f m=>exact .slcT vs (fun j hj=>le _ _ _ (h0 j hj)) h1 (fun j hj=>(hv j hj).mono le (Mu.le.refl _)) hl hf hx
         | M g =>
           simp only[dE];split
           · rename_i ha;exact .slcT vs (fun j hj=>le _ _ _ (h0 j hj)) h1 (marrs g vs ha (fun j hj=>hv j hj)) hl hf hx
           · refine .slcT vs (fun j hj=>le _ _ _ (h0 j (by simpa[Row.len,aU] using hj))) (fun j hj=>h1 j (by simpa[Row.len,aU] using hj)) (fun j hj=>?_) hl hf hx;exact mrows g vs (fun j hj=>hv j hj) j hj
         | G g =>
           refine .slcT vs (fun j hj=>le _ _ _ (h0 j (by simpa[Row.len] using hj))) (fun j hj=>h1 j (by simpa[Row.len] using hj)) (fun j hj=>?_) hl hf hx;exact rows l.bs g vs (fun j hj=>hv j hj) j hj
   | slcN =>
     rename_i s r sz full;cases s with
     | none=>exact .slcN
     | some s =>
       cases s with
       | succ s=>exact .slcN
       | zero =>
         simp only[dE];cases r with
         | M g =>
           dsimp only;split<;>exact .slcN
         | _=>exact .slcN
   | map hm =>
     rename_i d i b o t;cases d with
     | succ d=>exact .map (by simp only[Mu.up];exact hm)
     | zero=>exact .undef _
   | yld hm =>
     rename_i d i b o t;cases d with
     | succ d=>exact .yld (by simp only[Mu.up];exact hm)
     | zero=>exact .undef _
   | fn ha hb va vb =>
     rename_i f a b ca cb;refine .fn (by simpa using ha) (by simpa using hb) (rows l.bs a (fun j=>ca.getD j Go.undef) va) (rows l.bs b (fun j=>cb.getD j Go.undef) vb)
   | agg hs h1 hv =>
     rename_i r cs;cases r with
     | I k g=>exact .agg hs h1 (fun j hj=>(hv j hj).bp _ _)
     | F f m=>exact .agg hs h1 (fun j hj=>(hv j hj).mono le (Mu.le.refl _))
     | M g =>
       refine .agg (by simpa[Row.len,aU] using hs) (fun j hj=>h1 j (by simpa[Row.len,aU] using hj)) (fun j hj=>?_);exact mrows g (fun j=>cs.getD j Go.undef) (fun j hj=>hv j hj) j hj
     | G g =>
       refine .agg (by simpa[Row.len] using hs) (fun j hj=>h1 j (by simpa[Row.len] using hj)) (fun j hj=>?_);exact rows l.bs g (fun j=>cs.getD j Go.undef) (fun j hj=>hv j hj) j hj
   | tup hs hv =>
     rename_i g cs;exact .tup (by simpa using hs) (rows l.bs g (fun j=>cs.getD j Go.undef) hv)

theorem cC.pop {p p1:aF} {M M1:Mu} {H H1:ab} {l:bJ} {w w1:World} (h:cC p (dj M) (⟨false,[]⟩::H) w p1 M1 (l::H1) w1):cC p M H w (tp p1 M1 l w1) (M1.up 1) H1 w1 where
 pst:=h.pst.trans (w7 h.rel)
 mu:=fun d i v t hm=>h.mu (d+1) i v t hm
 rel := by
  have le:=w7 h.rel;refine ⟨?_,?_,?_,?_⟩
  · intro b o v hp;rw[pe h.rel] at hp;split at hp
    · exact hp
    · exact h.rel.pers b o v hp
  · intro d i v B hg hB;obtain ⟨b,o,t,k1,k2,k3⟩:=h.rel.live (d+1) i v B hg hB;refine ⟨b,o,t,k1,?_,fun x=>?_⟩
    · rw[Mu.tW];exact k2.mono le (Mu.le.refl _) rfl
    · rw[pe h.rel,if_neg]
      · exact k3 x
      · rintro ⟨i',v',r,o',t',hg',hm'⟩;have:=h.rel.apart (d+1) i v B 0 i' v' (.row r) b o t o' t' hg hB hg' (by simp) k1 hm';omega
  · intro d i v B d' i' v' B' b o t o' t' hg hB hg' hB' hm hm';have:=h.rel.apart (d+1) i v B (d'+1) i' v' B' b o t o' t' hg hB hg' hB' hm hm';exact ⟨by omega,this.2⟩
  · intro d i v t hm;exact h.rel.dom (d+1) i v t hm
 stay:=h.stay.weaken (fun b _ hk d i v B hg hB hl o t hm=>by
  cases d with
  | zero=>simp[dj] at hm
  | succ d=>exact hk d i v B hg hB hl o t hm)
 bA:=fun b hb hk=>by
  have k0:Go.Eng.bA (dj M) (⟨false,[]⟩::H) b:=fun d i v B hg hB hl o t hm=>by
   cases d with
   | zero=>simp[dj] at hm
   | succ d=>exact hk d i v B hg hB hl o t hm
  have k1:=h.bA b hb k0;exact fun d i v B hg hB hl o t hm=>k1 (d+1) i v B hg hB hl o t hm
 fresh:=fun b o v hv=>by
  rw[pe h.rel] at hv;split at hv
  · rename_i ho;obtain ⟨i,v',r,o',t,hg,hm⟩:=ho;rcases h.own 0 i v' b o' t hm with h1 | ⟨d',i',v2,o2,t2,hd,h1⟩
    · exact .inr (.inl h1)
    · obtain rfl:d'=0:=by omega
      simp[dj] at h1
  · rcases h.fresh b o v hv with h1 | h1 | ⟨_,i,u,o',t',h1⟩
    · exact .inl h1
    · exact .inr (.inl h1)
    · simp[dj] at h1
 own:=fun d i v b o t hm=>by
  rcases h.own (d+1) i v b o t hm with h1 | ⟨d',i',v2,o2,t2,hd,h1⟩
  · exact .inl h1
  · cases d' with
    | zero=>simp[dj] at h1
    | succ d'=>exact .inr ⟨d',i',v2,o2,t2,by omega,h1⟩
 lock:=fun d=>h.lock (d+1)
 same:=fun d i _ hl=>h.same (d+1) i wO hl
 next:=fun d _ hl=>h.next (d+1) wO hl
 len:=by have:=h.len;simpa using this
 grow:=fun d=>h.grow (d+1)
 new:=fun d i v t hm=>h.new (d+1) i v t hm

end Go.Eng
end
section
namespace Go.Eng

theorem cC.mark {p p':aF} {M M':Mu} {H H':ab} {w w1:World} {r:Nat} {x y:Option (List Deferred)} (h:cC p M H w p' M' H' w1) (hr:w1.heap[r]?=some (.deferred x)) (hn:w.heap.size≤r):cC p M H w p' M' H' (w1.putObj r (.deferred y)):=by
 have hlt:r<w1.heap.size:=(Array.getElem?_eq_some_iff.1 hr).1;refine { h with rel:=⟨?_,?_,h.rel.apart,h.rel.dom⟩,stay:=⟨h.stay.os,h.stay.tape,h.stay.output,by rw[World.putObj_size];exact h.stay.size,fun b hb hk=>?_⟩ }
 · intro b o v hp;have:=h.rel.pers b o v hp;have hne:b≠r:=by
    rintro rfl;simp[World.cell?,hr] at this
   rw[← this];exact World.cell?_of_block (w:=w1) (World.putObj_heap_other hne)
 · intro d i v B hg hB;obtain ⟨b,o,t,k1,k2,k3⟩:=h.rel.live d i v B hg hB;refine ⟨b,o,t,k1,k2.mono (aF.le.refl _) (Mu.le.refl _) (World.putObj_heap_other ?_),k3⟩;rintro rfl;cases B with
   | dead=>exact hB rfl
   | row r=>obtain ⟨_,_,e,_⟩:=k2;rw[hr] at e;simp at e
   | map es=>obtain ⟨_,_,e,_⟩:=k2;rw[hr] at e;simp at e
   | fmap kq f g c=>obtain ⟨_,_,_,_,e,_⟩:=k2;rw[hr] at e;simp at e
   | loop l=>obtain ⟨_,e,_⟩:=k2;rw[hr] at e;simp at e
 · rw[World.putObj_heap_other wO];exact h.stay.block b hb hk

theorem kG {P:Program} {F:Fence} {n:Nat} {fn:Func} {tmps:Array Value} {R:Ending→World→Prop} {p p':aF} {M M':Mu} {H H':ab} {w:World} (hend:∀ w2,cC p M H w p' M' H' w2→LeavesIn F n P fn tmps R [] .returning w2) :
 ∀ (rs:List Nat) (w1:World),rs.Nodup→(∀ r ∈ rs,w1.heap[r]?=some (.deferred (some []))∧w.heap.size≤r)→cC p M H w p' M' H' w1 →
  LeavesInM F n P fn tmps R (rs.map (fun r=>{ target:=.collected r,args:=#[] })) .returning w1
 | [],w1,_,_,hE=>hend w1 hE
 | r::rs,w1,hnd,hrs,hE=>by
   obtain ⟨k1,k2⟩:=hrs r (by simp);refine ⟨by simp,.inl ⟨r,_,rfl,run_takeDeferred k1,?_⟩⟩;refine kG hend rs _ (List.nodup_cons.1 hnd).2 (fun x hx=>?_) (hE.mark k1 k2);have hne:x≠r:=fun e=>(List.nodup_cons.1 hnd).1 (e ▸ hx);rw[World.putObj_heap_other hne];exact hrs x (by simp[hx])

def zf (tmps:Array Value):ResultVar→Sem Value
 | .tmp t=>pure (tmps.getD t Go.undef)
 | .cell x t=>do loadVar t (← asAddr (tmps.getD x Go.undef))

theorem xc {P:Program} {p:aF} {M:Mu} {nt:Nat} {fr:aA} {a:Act} {H:ab} {w:World} (hF:bX p M nt fr a) (hH:bj p M H w):∀ (l:List ResultVar) (vs:List AV),hJ P fr H l=some vs →
 ∃ cs:List Value,(l.mapM (m:=Sem) (zf a.tmps)).run P w=.ok cs w∧cs.length=vs.length∧∀ j,j<vs.length→al p M (vs.getD j .undef) (cs.getD j Go.undef)
 | [],vs,h=>by
   simp only[hJ,Option.some.injEq] at h;subst h;exact ⟨[],by simp,rfl,fun j hj=>absurd hj (by simp)⟩
 | .tmp t::l,vs,h=>by
   simp only[hJ] at h;obtain ⟨us,hu,rfl⟩:=Option.map_eq_some_iff.1 h;obtain ⟨cs,k1,k2,k3⟩:=xc hF hH l us hu;refine ⟨a.tmps.getD t Go.undef::cs,?_,by simp[k2],fun j hj=>?_⟩
   · rw[List.mapM_cons];simp only[zf,Sem.run_bind,Sem.run_pure,Result.andThen,k1]
   · cases j with
     | zero=>simpa using hF.at_ t
     | succ j=>simpa using k3 j (by simpa using hj)
 | .cell x t::l,vs,h=>by
   simp only[hJ] at h;cases hl:oZ P H t (bM fr x) with
   | none=>rw[hl] at h;simp at h
   | some v =>
     rw[hl] at h;simp only at h;obtain ⟨us,hu,rfl⟩:=Option.map_eq_some_iff.1 h;obtain ⟨cs,k1,k2,k3⟩:=xc hF hH l us hu;have hx:=hF.at_ x;obtain ⟨c,c1,c2⟩:=yz hl hx hH;have hrun:(do loadVar t (← asAddr (a.tmps.getD x Go.undef)):Sem Value).run P w=.ok c w:=by
      unfold oZ at hl;obtain ⟨z,hz⟩:∃ z,z=a.tmps.getD x Go.undef:=⟨_,rfl⟩
      rw[← hz] at hx c1 ⊢;generalize bM fr x=y at hx hl;cases hx<;>try (simp at hl;done)
      all_goals
       simp only[Instr.loadAt,Instr.sureAddr,Sem.run_bind,Result.andThen,Sem.run_pure] at c1
       simp only[asAddr,Sem.run_bind,Result.andThen,Sem.run_pure]
       exact c1
     refine ⟨c::cs,?_,by simp[k2],fun j hj=>?_⟩
     · rw[List.mapM_cons];simp only[zf,Sem.run_bind,Result.andThen,Sem.run_pure] at hrun ⊢;rw[hrun];simp only[k1]
     · cases j with
       | zero=>simpa using c2
       | succ j=>simpa using k3 j (by simpa using hj)

theorem mf {P:Program} {p:aF} {M:Mu} {nt:Nat} {fr:aA} {a:Act} {H:ab} {w:World} (hF:bX p M nt fr a) (hH:bj p M H w) {fn:Func} {vs:List AV} (h:hJ P fr H fn.results.toList=some vs) :
 ∃ c,(results fn a.tmps).run P w=.ok c w∧al p M (one vs) c:=by
 obtain ⟨cs,k1,k2,k3⟩:=xc hF hH _ _ h
 have hm:(fn.results.mapM (m:=Sem) (zf a.tmps)).run P w=.ok cs.toArray w:=by
  rw[Array.mapM_eq_mapM_toList,map_eq_pure_bind,Sem.run_bind,k1];rfl
 refine ⟨if h:cs.toArray.size=1 then cs.toArray[0] else .tuple cs.toArray,?_,?_⟩
 · have e:results fn a.tmps=(do let vs ← fn.results.mapM (zf a.tmps);pure (if h:vs.size=1 then vs[0] else .tuple vs):Sem Value):=rfl
   rw[e,Sem.run_bind,hm]
   rfl
 · unfold one
   split
   · rename_i v
     obtain ⟨c,rfl⟩:∃ c,cs=[c]:=List.length_eq_one_iff.1 (by simpa using k2)
     simpa using k3 0 (by simp)
   · rename_i hne
     have h1:¬ cs.toArray.size=1:=by
      simp only[List.size_toArray];intro e;rw[k2] at e;obtain ⟨v,rfl⟩:=List.length_eq_one_iff.1 e;exact hne v rfl
     rw[dif_neg h1]
     exact .tup (by simp[k2]) (fun j hj=>by simpa using k3 j hj)

theorem rU:∀ (l:List AV) (k x:Nat),bM (fH k l) x=if k≤x∧x<k+l.length then nr 1 (l.getD (x-k) .undef) else .undef
 | [],k,x=>by simp[fH,bM];omega
 | v :: l,k,x=>by
   simp only[fH,bM,rU l (k+1) x];by_cases e:k=x
   · subst e;simp
   · rw[if_neg (by simpa using e)];by_cases e2:k+1≤x∧x<k+1+l.length
     · rw[if_pos e2,if_pos (by simp;omega)];obtain ⟨q,hq⟩:∃ q,x-k=q+1:=⟨x-k-1,by omega⟩
       rw[hq,List.getD_cons_succ];congr 2;omega
     · rw[if_neg e2,if_neg (by simp;omega)]

theorem rV {p:aF} {M:Mu} {args:List AV} {cargs:Array Value} (h:eH p M args cargs) {nt:Nat} (hle:args.length≤nt) :
 bX p (dj M) nt (fH 0 args) { tmps:=cargs++Array.replicate (nt-cargs.size) Go.undef,defers:=[] }:=by
 refine ⟨by simp[h.1];omega,fun x=>?_⟩
 rw[rU]
 split
 · rename_i e
   have hx:x<args.length:=by omega
   have:(cargs++Array.replicate (nt-cargs.size) Go.undef).getD x Go.undef=cargs.getD x Go.undef:=by
    simp only[Array.getD_eq_getD_getElem?];rw[Array.getElem?_append_left (by rw[h.1];exact hx)]
   rw[this]
   exact al.up (h.2 x hx)
 · exact .undef _

theorem so {P:Program} {f:FuncId} {fn:Func} {c:Code} (hf:P.funcs[f]?=some fn) (hb:fn.body=some c) {args:List AV} (hle:args.length≤fn.ntmps) {H:ab} {e:Ex} {fr:aA} {l:bJ} {H':ab} (he:e=.normal∨e=.ret) {vs:List AV} (hv:hJ P fr (l::H') fn.results.toList=some vs)
 (hC:dQ P Fence.wide none fn.ntmps c (fH 0 args) (⟨false,[]⟩::H) e fr (l::H')) {p:aF} {M:Mu} {w:World} {cargs:Array Value} (hH:bj p M H w) (hA:eH p M args cargs) :
 CallsIn Fence.wide 0 P f cargs w (eP p M H w (dE l.bs 5 (one vs)) H'):=by
 refine callsIn_of_wp_marks hf hb trivial (hC w.heap.size p (dj M) _ w _ (rV hA hle) hH.down (by simp) rfl (Marks.nil _ _ _) (fun a' w' ⟨p',M',k1,k2,k3⟩=>?_)) rfl
 have main:LeavesInM Fence.wide 0 P fn a'.tmps (eP p M H w (dE l.bs 5 (one vs)) H') a'.defers .returning w':=by
  obtain ⟨rs,h1,h2,_,h3⟩:=k3;rw[h1];refine kG (p:=p) (M:=dj M) (H:=⟨false,[]⟩::H) (w:=w) (p':=p') (M':=M') (H':=l::H') (fun w2 hE=>?_) rs w' h2 (fun r hr=>⟨(h3 r hr).1,(h3 r hr).2.2⟩) k1;obtain ⟨cv,r1,r2⟩:=mf k2 hE.rel hv;exact ⟨cv,r1,cv,rfl,⟨fun d i hl=>hE.same (d+1) i wO hl,fun d hl=>hE.next (d+1) wO hl⟩,_,_,hE.pop,wu hE.rel 5 _ _ r2⟩
 rcases he with rfl | rfl
 · exact main
 · exact main

end Go.Eng
end
section
namespace Go.Eng

theorem pY {p:aF} {M:Mu} {H:ab} {w:World} (h:bj p M H w) {r:Nat} {x:Option (List Deferred)} (hr:w.heap[r]?=some (.deferred x)):bA M H r:=by
 intro d i v B hg hB hl o t hm;obtain ⟨b,o',t',k1,k2,k3⟩:=h.live d i v B hg hB;rw[hm] at k1;simp only[nP] at k1;obtain ⟨rfl,rfl,rfl⟩:=k1;cases B with
 | dead=>exact hB rfl
 | row r=>obtain ⟨_,_,e,_⟩:=k2;rw[hr] at e;simp at e
 | map es=>obtain ⟨_,_,e,_⟩:=k2;rw[hr] at e;simp at e
 | fmap kq f g c=>obtain ⟨_,_,_,_,e,_⟩:=k2;rw[hr] at e;simp at e
 | loop l=>obtain ⟨_,e,_⟩:=k2;rw[hr] at e;simp at e

theorem cC.forget {p:aF} {M:Mu} {H:ab} {w:World} (h:bj p M H w) {i b o t v:Nat} {B:an} (hg:az H 0 i=(v,B)) (hB:B≠.dead) (hm:M 0 i v=some (b,o,t)) (hl:aL H 0=false) (x:Obj) :
 cC p M H w p M (ev H 0 i) (w.putObj b x):=by
 obtain ⟨b',o',t',k1,k2,k3⟩:=h.live 0 i v B hg hB
 rw[hm] at k1
 simp only[nP] at k1
 obtain ⟨rfl,rfl,rfl⟩:=k1
 have hk:=h.kill 0 i
 refine ⟨aF.le.refl _,Mu.le.refl _,⟨?_,?_,hk.apart,hk.dom⟩,⟨rfl,rfl,rfl,by rw[World.putObj_size];exact Nat.le_refl _,?_⟩,iF.kill _ _ _ _ _,fun b o v hv=>.inl hv,fun d i v b o t hm=>.inr ⟨d,i,v,o,t,Nat.le_refl _,hm⟩,fun d=>iL _ _ _ _,?_,fun d _ _=>cr _ _ _ _,jX _ _ _,fun d=>Nat.le_of_eq (cr _ _ _ _).symm,fun _ _ _ _ hm=>.inl hm⟩
 · intro b1 o1 v1 hp
   rw[← h.pers b1 o1 v1 hp]
   refine World.cell?_of_block (w:=w) (World.putObj_heap_other ?_)
   rintro rfl
   rw[k3] at hp;cases hp
 · intro d1 i1 v1 B1 hg1 hB1
   obtain ⟨b1,o1,t1,j1,j2,j3⟩:=hk.live d1 i1 v1 B1 hg1 hB1
   refine ⟨b1,o1,t1,j1,j2.mono (aF.le.refl _) (Mu.le.refl _) (World.putObj_heap_other ?_),j3⟩
   rintro rfl
   rw[eJ] at hg1
   split at hg1
   · simp only[Prod.mk.injEq] at hg1;exact hB1 hg1.2.symm
   · rename_i e
     exact e (h.apart d1 i1 v1 B1 0 i v B _ o1 t1 _ _ hg1 hB1 hg hB j1 hm)
 · intro b1 hb1 hk1
   refine World.putObj_heap_other ?_
   rintro rfl
   exact hk1 0 i v B hg hB hl _ _ hm
 · intro d1 i1 hd1 _
   rw[eJ,if_neg (fun e=>hd1 e.1)]

theorem cC.lay {p:aF} {M:Mu} {H:ab} {w:World} (h:bj p M H w) (x:Obj):cC p M H w p M H (w.alloc x) :=
 { cC.refl h with rel:=h.stay (fq w x),stay:=(fq w x).weaken (fun _ _ _=>trivial) }

theorem cC.record {p:aF} {M:Mu} {H:ab} {w:World} (h:bj p M H w) (hne:H≠[]) {nt:Nat} {fr:aA} {a:Act} (hF:bX p M nt fr a) (fn fn':FuncId) (ps:Array Tmp) (assign body:Code) (dd:Nat) :
 cC p M H w p (br M 0 (aZ H) 0 (w.heap.size,0,0)) (jm H (.loop { state:=.ready,pending:=none,fn:=fn,nt:=nt,fr:=fr,params:=ps.toList,assign:=assign,body:=body }))
  (w.alloc (.loop { state:=.ready,pending:=none,fn:=fn',tmps:=a.tmps,params:=ps,assign:=assign,body:=body,defers:=dd })):=by
 have hb:fB p M (.loop { state:=.ready,pending:=none,fn:=fn,nt:=nt,fr:=fr,params:=ps.toList,assign:=assign,body:=body }) w.heap.size 0 0
  (w.alloc (.loop { state:=.ready,pending:=none,fn:=fn',tmps:=a.tmps,params:=ps,assign:=assign,body:=body,defers:=dd })) :=
  ⟨_,World.alloc_heap_new _ _,rfl,rfl,rfl,rfl,rfl,⟨hF.size,hF.at_⟩⟩
 have hs:=fq w (.loop { state:=.ready,pending:=none,fn:=fn',tmps:=a.tmps,params:=ps,assign:=assign,body:=body,defers:=dd })
 obtain ⟨h1,h2⟩:=h.push (by simp) hb hs (by simp)
 refine ⟨aF.le.refl _,h1,h2,hs.weaken (fun _ _ _=>trivial),iF.push h hne,fun b o v hv=>.inl hv,?_,fun d=>nG H hne _ d,?_,?_,vq H hne _,fun d=>?_,fun d i v u hm=>?_⟩
 · intro d i v b o t' hm
   simp only[br] at hm
   split at hm
   · simp only[nP] at hm
     exact .inl wO
   · exact .inr ⟨_,_,_,_,_,Nat.le_refl _,hm⟩
 · intro d i hd0 _
   rw[iA,if_neg (fun e=>hd0 e.1)]
 · intro d hd0 _
   rw[fP,if_neg hd0]
 · rw[fP]
   by_cases e:d=0
   · subst e;rw[bm];simp
   · rw[if_neg e];exact Nat.le_refl _
 · simp only[br] at hm
   split at hm
   · rename_i e;obtain ⟨rfl,rfl,rfl⟩:=e
     exact .inr (.inl (by rw[bm];exact Nat.le_refl _))
   · exact .inl hm

theorem DT {cx:Cx} {F:Fence} {fr:aA} {H:ab} {n0:Nat} {p:aF} {M:Mu} {a:Act} {w:World} (hF:bX p M cx.nt fr a) (hH:bj p M H w) (hne:H≠[]) (hR:uo F cx.ro M) (hM:Marks n0 M H w a.defers) (hhere:cx.here H=true)
 (ps:Array Tmp) (assign body:Code) (fn:FuncId):∃ l mark w1,(Instr.enterLoop fn a.tmps ps assign body F.round).run cx.P w=.ok (l,mark) w1 ∧
   ∃ M1,cC p M H w p M1 (iX fr H cx ps assign body) w1∧M1 0 (aZ H) 0=some (l,0,0)∧Marks n0 M1 (iX fr H cx ps assign body) w1 (mark++a.defers):=by
 unfold uo at hR
 cases hro:cx.ro with
 | none =>
   rw[hro] at hR
   have hR:F.round=none:=hR
   rw[hR]
   have e1:=cC.lay hH (.deferred (some []))
   have e2:=cC.record e1.rel hne (hF.mono (aF.le.refl _) (Mu.le.refl _)) cx.fn fn ps assign body w.heap.size
   have e3:=e1.trans e2
   rw[World.size_alloc] at e3
   refine ⟨_,_,_,run_enterLoop_outer fn a.tmps ps assign body,_,e3,by simp[br],?_⟩
   obtain ⟨rs,h1,h2,h0,h3⟩:=(hM.xB e3)
   have hlt:∀ r ∈ rs,r<w.heap.size:=by
    obtain ⟨rs',g1,g2,g0,g3⟩:=hM;intro r hr;have:rs=rs':=by
     have:=h1.symm.trans g1;have inj:∀ (l m:List Nat),l.map (fun r=>({ target:=.collected r,args:=#[] }:Deferred))=m.map (fun r=>{ target:=.collected r,args:=#[] })→l=m:=by
      intro l;induction l with
      | nil=>intro m h;cases m with
        | nil=>rfl
        | cons _ _=>simp at h
      | cons x l ih=>intro m h;cases m with
        | nil=>simp at h
        | cons y m=>simp at h;rw[h.1,ih m (by simpa using h.2)]
     exact inj _ _ this
    subst this;exact (Array.getElem?_eq_some_iff.1 (g3 r hr).1).1
   have hnew:((w.alloc (.deferred (some []))).alloc (.loop { state:=.ready,pending:=none,fn:=fn,tmps:=a.tmps,params:=ps,assign:=assign,body:=body,defers:=w.heap.size })).heap[w.heap.size]?=some (.deferred (some [])):=by
    rw[Go.RowKit.Below.heap_alloc _ _ _ (by simp)];exact World.alloc_heap_new _ _
   refine ⟨w.heap.size::rs,by simp[h1],List.nodup_cons.2 ⟨fun hm=>Nat.lt_irrefl _ (hlt _ hm),h2⟩,h0,fun r hr=>?_⟩
   rcases List.mem_cons.1 hr with rfl | hr
   · exact ⟨hnew,pY e3.rel hnew,hM.choose_spec.2.2.1⟩
   · exact h3 r hr
 | some x =>
   obtain ⟨d,i⟩:=x
   rw[hro] at hR
   obtain ⟨l0,o,t,hR,hm⟩:=hR
   rw[hR]
   have:∃ r0,w.heap[l0]?=some (.loop r0):=by
    unfold Cx.here at hhere;rw[hro] at hhere;simp only at hhere;split at hhere
    · rename_i lp hg;obtain ⟨b,o',t',k1,k2,_⟩:=hH.live d i 0 _ hg (by simp);rw[hm] at k1;simp only[nP] at k1;obtain ⟨rfl,rfl,rfl⟩:=k1;obtain ⟨r0,e,_⟩:=k2;exact ⟨r0,e⟩
    · simp at hhere
   obtain ⟨r0,hr0⟩:=this
   have e2:=cC.record hH hne hF cx.fn fn ps assign body r0.defers
   refine ⟨_,_,_,run_enterLoop_inner hr0 fn a.tmps ps assign body,_,e2,by simp[br],?_⟩
   exact hM.xB e2

theorem Eo {cx:Cx} {F:Fence} (hFW:dJ F) (hN:dG cx.P) (hC:b9 cx.P cx.call) (f:Operand) (ps:Array Tmp) (assign body:Code) (fr:aA) (H:ab) (e:Ex) (fr':aA) (H':ab) (h:exec cx (.rangeFunc f ps assign body) fr H=some (e,fr',H')) :
 dQ cx.P F cx.ro cx.nt (.rangeFunc f ps assign body) fr H e fr' H':=by
 intro n0 p M a w Q hF hH hne hR hM hQ
 simp only[exec] at h
 have hf:=hF.b5 f
 cases hfv:b5 fr f<;>rw[hfv] at h hf<;>try (simp at h;done)
 rename_i g x y
 cases g<;>try (simp at h;done)
 rename_i g
 simp only at h
 split at h
 · simp at h
 · rename_i hcond
   have hcond:cx.here H=true∧aL H 0=false:=by simpa using hcond
   obtain ⟨hhere,hlock⟩:=hcond
   cases hcall:cx.call (.fn g) (x++(.yld 0 (aZ H)::y)) (iX fr H cx ps assign body) with
   | none=>rw[hcall] at h;simp at h
   | some r =>
     obtain ⟨v,H1⟩:=r
     rw[hcall] at h
     simp only at h
     split at h
     · rename_i lp hg
       split at h
       · simp at h
       · rename_i hbusy
         cases hend:xR lp.pending with
         | none=>rw[hend] at h;simp at h
         | some e' =>
           rw[hend] at h
           simp only[nP] at h
           obtain ⟨rfl,rfl,rfl⟩:=h
           refine wpIn_rangeFunc (fun fn _=>?_)
           obtain ⟨l,mark,w1,hent,M1,hE1,hm1,hM1⟩:=DT hF hH hne hR hM hhere ps assign body fn
           obtain ⟨cf,hcf⟩:∃ cf,cf=a.eval f:=⟨_,rfl⟩
           rw[← hcf] at hf
           cases hf
           rename_i ca cb hx vx hy vy
           have hcr:eH p M1 (x++(.yld 0 (aZ H)::y)) (ca++(#[.func (.yield l) #[] #[]]++cb)):=by
            refine eH.app ⟨hx,fun j hj=>(vx j hj).mono (aF.le.refl _) hE1.mu⟩ ?_;exact eH.app (l:=[.yld 0 (aZ H)]) (cs:=#[.func (.yield l) #[] #[]]) ⟨rfl,fun j hj=>by
             obtain rfl:j=0:=by simpa using hj
             exact .yld hm1⟩ ⟨hy,fun j hj=>(vy j hj).mono (aF.le.refl _) hE1.mu⟩
           obtain ⟨⟨gfn,hgfn,hgb⟩,hcalls⟩:=hC (.fn g) _ _ v H1 hcall (hE1.ne hne) p M1 w1 _ hE1.rel hcr
           have hname:=hN g gfn hgfn hgb
           refine ⟨l,mark,w1,{ target:=.fn (.func g) cb,args:=ca++#[.func (.yield l) #[] #[]] },w1,g,_,w1,hent,?_,fun f' _=>hFW.fn f',?_,fun hd=>by rw[hFW.depth] at hd;simp at hd,(hFW.calls hcalls).mono ?_⟩
           · have ha:((#[Operand.const (.func (.yield l) #[] #[])]:Array Operand).map a.eval)=#[.func (.yield l) #[] #[]]:=by simp[Act.eval]
             simp only[rangeCall,resolve,ha,← hcf,Deferred.ofValue,Sem.run_pure]
           · simp only[invoke,callFunc,Sem.run_bind,run_program,Result.andThen,hgfn,hname,hgb,Bool.false_eq_true,if_false,Sem.run_pure,Array.append_assoc]
           · rintro en w3 ⟨cv,rfl,_,p2,M2,hE2,hv2⟩
             have hm2:=hE2.mu _ _ _ _ hm1
             obtain ⟨b',o',t',k1,k2,_⟩:=hE2.rel.live 0 (aZ H) 0 _ hg (by simp)
             rw[hm2] at k1
             simp only[nP] at k1
             obtain ⟨rfl,rfl,rfl⟩:=k1
             obtain ⟨r,q1,q2,q3,_⟩:=k2
             have hl1:aL H1 0=false:=by rw[hE2.lock,hE1.lock];exact hlock
             have hE3:=cC.forget hE2.rel hg (by simp) hm2 hl1 (.loop { r with state:=.exhausted })
             refine ⟨r.pending,_,run_endLoop q1 (by rw[q2];intro e0;rw[e0] at hbusy;simp at hbusy),?_⟩
             have hnow:Hl n0 p M H w cx.nt fr (ev H1 0 (aZ H)) { a with defers:=mark++a.defers } (w3.putObj l (.loop { r with state:=.exhausted })) :=
              ⟨p2,M2,hE1.trans (hE2.trans hE3),⟨hF.size,fun z=>(hF.at_ z).mono (hE1.pst.trans hE2.pst) (hE1.mu.trans hE2.mu)⟩,(hM1.xB hE2).xB hE3⟩
             generalize w3.putObj l (.loop { r with state:=.exhausted })=w4 at hnow ⊢
             have hq:=hQ _ _ hnow
             rw[q3]
             cases hpd:lp.pending with
             | none =>
               rw[hpd] at hend
               simp only[xR,Option.some.injEq] at hend
               subst hend
               exact hq
             | some c =>
               rw[hpd] at hend
               cases c<;>simp only[xR,Option.some.injEq,reduceCtorEq] at hend
               · subst hend;exact wpIn_exit hq
               · subst hend;exact wpIn_goto hq
               · subst hend;exact wpIn_ret hq
     · simp at h

end Go.Eng
end
