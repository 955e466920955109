/- The engine, part G: a slice that moves down with its block; one operation. -/
import Derived.Test.YtgphpjdchnfjlaaDoorV2EngF
set_option linter.unusedVariables false
set_option linter.unusedSimpArgs false
section
namespace Go.Eng
variable {nx:Nat}

theorem lO:∀ (H:aa) (d:Nat) (b:aq) (d' i':Nat),aw (bu H d b) d' i'=if d'=d∧i'=ao H d∧d<H.length then (0,b) else aw H d' i'
 | [],d,b,d',i'=>by simp[bu]
 | l::r,0,b,0,i'=>by simp[bu,aw,ao,mb]
 | l::r,0,b,d'+1,i'=>by simp[bu,aw]
 | l::r,d+1,b,0,i'=>by simp[bu,aw]
 | l::r,d+1,b,d'+1,i'=>by simp[bu,aw,ao,lO r d b d' i']
theorem fU:∀ (H:aa) (d:Nat) (b:aq) (d':Nat),ao (bu H d b) d'=if d'=d∧d<H.length then ao H d+1 else ao H d'
 | [],d,b,d'=>by simp[bu]
 | l::r,0,b,0=>by simp[bu,ao]
 | l::r,0,b,d'+1=>by simp[bu,ao]
 | l::r,d+1,b,0=>by simp[bu,ao]
 | l::r,d+1,b,d'+1=>by simp[bu,ao,fU r d b d']
theorem iD:∀ (H:aa) (d:Nat) (b:aq) (d':Nat),aE (bu H d b) d'=aE H d'
 | [],d,b,d'=>rfl
 | l::r,0,b,0=>rfl
 | l::r,0,b,d'+1=>rfl
 | l::r,d+1,b,0=>rfl
 | l::r,d+1,b,d'+1=>iD r d b d'
theorem qF:∀ (l:List (Nat×aq)) (i:Nat) (x y:Nat×aq),i<l.length→bC (l++[y]) i x=bC l i x++[y]
 | [],i,x,y,h=>by simp at h
 | b::l,0,x,y,h=>rfl
 | b::l,i+1,x,y,h=>by simp[bC,qF l i x y (by simpa using h)]
theorem qn:∀ (H:aa) (d i:Nat) (x:Nat×aq) (b:aq),i<ao H d→bu (dM H d i x) d b=dM (bu H d b) d i x
 | [],d,i,x,b,h=>by simp[ao] at h
 | l::r,0,i,x,b,h=>by simp[dM,bu,qF _ _ _ _ (show i<l.bs.length from h)]
 | l::r,d+1,i,x,b,h=>by simp[dM,bu,qn r d i x b h]
theorem ql:∀ (H:aa) (d:Nat),0<ao H d→d<H.length
 | [],d,h=>by simp[ao] at h
 | l::r,0,h=>by simp
 | l::r,d+1,h=>by have:=ql r d h;simp;omega
theorem bT (H:aa) (d i d':Nat):ao (dQ H d i) d'=ao H d':=b9 _ _ _ _ _
theorem iU (H:aa) (d i d':Nat):aE (dQ H d i) d'=aE H d':=fv _ _ _ _ _
theorem j5 (H:aa) (d i:Nat):(dQ H d i).length=H.length:=lR _ _ _ _
theorem qm:∀ (H:aa) (d:Nat) (b:aq),(bu H d b).length=H.length
 | [],_,_=>rfl
 | l::r,0,_=>rfl
 | l::r,d+1,b=>by simp[bu,qm r d b]

theorem a7.move {p:aD} {M:Mu} {H:aa} {w:World} (h:a7 p M H w) {j ver d b o t:Nat} {q:Row} (hq:cK H 0 j ver=some q) (hm:M 0 j ver=some (b,o,t)) (hl:aE H 0=false) (hld:aE H d=false) (hd:d<H.length) (hd0:d≠0) :
 cg p M H w p (bm M d (ao H d) 0 (b,o,t)) (bu (dQ H 0 j) d (.row (jn d q))) w:=by
 have hg:=dw hq
 obtain ⟨b',o',t',k1,k2,k3⟩:=h.live _ _ _ _ hg (by simp)
 rw[hm] at k1
 simp only[nP] at k1
 obtain ⟨rfl,rfl,rfl⟩:=k1
 have hle:Mu.le M (bm M d (ao H d) 0 (b,o,t)):=j9 fun u hu=>by
  have:=(h.dom _ _ _ _ hu).1
  omega
 have hk:=h.kill 0 j
 have hB:fA p ((bm M d (ao H d) 0 (b,o,t)).up d) (.row (jn d q)) b o t w:=by
  obtain ⟨c,e,e1,e2,e3,e4⟩:=k2
  refine ⟨c,e,e1,e2,by rw[eY];exact e3,?_⟩
  have e5:aX p M q (fun j=>c.getD (o+j) Go.undef):=e4
  have e6:=e5.jn (k:=d)
  exact fun x hx=>⟨(e6 x hx).1.mono (aD.le.refl _) ((hle.up d).jm _),(e6 x hx).2⟩
 have get:∀ d1 i1,aw (bu (dQ H 0 j) d (.row (jn d q))) d1 i1=if d1=d∧i1=ao H d then (0,.row (jn d q)) else if d1=0∧i1=j then ((aw H 0 j).1,.dead) else aw H d1 i1:=by
  intro d1 i1
  rw[lO,bT,j5,eC]
  by_cases e:d1=d∧i1=ao H d
  · rw[if_pos ⟨e.1,e.2,hd⟩,if_pos e]
  · rw[if_neg (fun x=>e ⟨x.1,x.2.1⟩),if_neg e]
 -- no other block leads to b
 have other:∀ d1 i1 v1 B1 o1 t1,aw H d1 i1=(v1,B1)→B1≠.dead→M d1 i1 v1=some (b,o1,t1)→d1=0∧i1=j:=by
  intro d1 i1 v1 B1 o1 t1 g1 n1 m1
  have:=h.apart d1 i1 v1 B1 0 j ver (.row q) b o1 t1 o t g1 n1 hg (by simp) m1 hm
  exact this
 refine ⟨aD.le.refl _,hle,⟨h.pers,?_,?_,?_⟩,db.refl _ _,?_,fun b o v hv=>.inl hv,?_,fun d'=>by rw[iD,iU],?_,?_,by rw[qm,j5],fun d1=>?_,fun d1 i1 v1 u hu=>?_⟩
 · intro d1 i1 v1 B1 g1 n1
   rw[get] at g1
   split at g1
   · rename_i e
     obtain ⟨rfl,rfl⟩:=e
     simp only[Prod.mk.injEq] at g1
     obtain ⟨rfl,rfl⟩:=g1
     exact ⟨b,o,t,by simp[bm],hB,k3⟩
   · split at g1
     · simp only[Prod.mk.injEq] at g1;exact absurd g1.2.symm n1
     · obtain ⟨b1,o1,t1,j1,j2,j3⟩:=h.live _ _ _ _ g1 n1
       exact ⟨b1,o1,t1,hle _ _ _ _ j1,j2.mono (aD.le.refl _) (hle.up _) rfl,j3⟩
 · intro d1 i1 v1 B1 d2 i2 v2 B2 bb o1 t1 o2 t2 g1 n1 g2 n2 m1 m2
   rw[get] at g1 g2
   simp only[bm] at m1 m2
   split at g1
   · rename_i e1
     obtain ⟨rfl,rfl⟩:=e1
     simp only[Prod.mk.injEq] at g1
     obtain ⟨rfl,rfl⟩:=g1
     simp at m1
     split at g2
     · rename_i e2;exact ⟨e2.1.symm,e2.2.symm⟩
     · rename_i e2
       rw[if_neg (fun x=>e2 ⟨x.1,x.2.1⟩)] at m2
       split at g2
       · simp only[Prod.mk.injEq] at g2;exact absurd g2.2.symm n2
       · rename_i e3
         exact absurd (other d2 i2 v2 B2 o2 t2 g2 n2 (by rw[m2,m1.1])) e3
   · rename_i e1
     rw[if_neg (fun x=>e1 ⟨x.1,x.2.1⟩)] at m1
     split at g1
     · simp only[Prod.mk.injEq] at g1;exact absurd g1.2.symm n1
     · rename_i e3
       split at g2
       · rename_i e2
         obtain ⟨rfl,rfl⟩:=e2
         simp only[Prod.mk.injEq] at g2
         obtain ⟨rfl,rfl⟩:=g2
         simp at m2
         exact absurd (other d1 i1 v1 B1 o1 t1 g1 n1 (by rw[m1,m2.1])) e3
       · rename_i e2
         rw[if_neg (fun x=>e2 ⟨x.1,x.2.1⟩)] at m2
         split at g2
         · simp only[Prod.mk.injEq] at g2;exact absurd g2.2.symm n2
         · exact h.apart d1 i1 v1 B1 d2 i2 v2 B2 bb o1 t1 o2 t2 g1 n1 g2 n2 m1 m2
 · intro d1 i1 v1 u hu
   simp only[bm] at hu
   rw[fU,bT,bT,j5,get]
   split at hu
   · rename_i e
     obtain ⟨rfl,rfl,rfl⟩:=e
     rw[if_pos ⟨rfl,hd⟩,if_pos ⟨rfl,rfl⟩]
     exact ⟨by omega,fun _=>Nat.le_refl _⟩
   · have:=h.dom d1 i1 v1 u hu
     refine ⟨by split;· rename_i e;rw[e.1] at this;omega
                · exact this.1,?_⟩
     split
     · rename_i e
       obtain ⟨rfl,rfl⟩:=e
       omega
     · split
       · rename_i e
         obtain ⟨rfl,rfl⟩:=e
         exact fun hne=>absurd rfl hne
       · exact this.2
 · intro x hx hkx d1 i1 v1 B1 g1 n1 l1 o1 t1 m1
   rw[iD,iU] at l1
   rw[get] at g1
   simp only[bm] at m1
   split at g1
   · rename_i e
     obtain ⟨rfl,rfl⟩:=e
     simp only[Prod.mk.injEq] at g1
     obtain ⟨rfl,rfl⟩:=g1
     simp at m1
     exact hkx 0 j ver (.row q) hg (by simp) hl o t (by rw[hm,m1.1])
   · rename_i e
     rw[if_neg (fun y=>e ⟨y.1,y.2.1⟩)] at m1
     split at g1
     · simp only[Prod.mk.injEq] at g1;exact absurd g1.2.symm n1
     · exact hkx d1 i1 v1 B1 g1 n1 l1 o1 t1 m1
 · intro d1 i1 v1 b1 o1 t1 m1
   simp only[bm] at m1
   split at m1
   · simp only[nP] at m1
     exact .inr ⟨0,_,_,_,_,Nat.zero_le _,by rw[← m1.1];exact hm⟩
   · exact .inr ⟨_,_,_,_,_,Nat.le_refl _,m1⟩
 · intro d1 i1 hd1 hl1
   rw[get,if_neg (by rintro ⟨rfl,_⟩;rw[hld] at hl1;simp at hl1),if_neg (fun e=>hd1 e.1)]
 · intro d1 hd1 hl1
   rw[fU,bT,bT,if_neg]
   rintro ⟨rfl,_⟩;rw[hld] at hl1;simp at hl1
 · rw[fU,bT,bT]
   split
   · rename_i e;rw[e.1];omega
   · exact Nat.le_refl _
 · simp only[bm] at hu
   split at hu
   · rename_i e;obtain ⟨rfl,rfl,rfl⟩:=e
     exact .inr (.inl (Nat.le_refl _))
   · exact .inl hu

theorem AT         {P : Program} {p:aD} {M:Mu} {H:aa} {t:TypeId} {a x:AV} {ca cx:Value} {δ:Delta} {w:World} (h:gd P H t a x=some δ)
 (ha:ai p M a ca) (hx:ai p M x cx) (hH:a7 p M H w) :
 ∃ w',(Instr.storeAt t ca cx).run P w=.ok () w'∧eA p M H nx (.tup []) δ Go.undef w w':=by
 by_cases hδ:∃ H',δ=.heap H'
 · obtain ⟨H', rfl⟩ := hδ
   unfold gd at h
   cases ha<;>try (simp at h;done)
   rename_i d i ver off b o tt hm
   simp only at h
   split at h
   · simp at h
   · rename_i hl
     have hl:aE H d=false:=by simpa using hl
     cases hr:cK H d i ver with
     | none=>rw[hr] at h;simp at h
     | some r =>
       cases hs:bn P t with
       | none=>rw[hr,hs] at h;simp at h
       | some n =>
         cases hq:x.row with
         | none=>rw[hr,hs,hq] at h;simp at h
         | some q =>
           rw[hr,hs,hq] at h
           simp only at h
           split at h
           · rename_i hfit
             split at h
             · rename_i d' j ver' o' sz len cap _
               split at h
               · simp at h
               · rename_i hl0
                 have hl0:aE H 0=false:=by simpa using hl0
                 cases hq0:cK H 0 j ver' with
                 | none=>rw[hq0] at h;simp at h
                 | some q0 =>
                   rw[hq0] at h
                   simp only[Option.some.injEq,Delta.heap.injEq] at h
                   cases hx with
                   | slc hmu hlc hc hnn hxx =>
                     rename_i bq oq tq xq cc
                     have hi:i<ao H (d'+1):=kK (by rw[dw hr];simp)
                     have hlen:=ql H (d'+1) (by omega)
                     have mv:=hH.move hq0 hmu hl0 hl hlen (by omega)
                     have m1:=mv.mu
                     have m2:=mv.rel
                     have hgr:cK (bu (dQ H 0 j) (d'+1) (.row (jn (d'+1) q0))) (d'+1) i ver=some r:=by
                      unfold cK
                      rw[lO,bT,if_neg (by omega),eC,if_neg (by omega),dw hr]
                      simp
                     have hqn:q.len=1:=by simp[AV.row] at hq;subst hq;rfl
                     have hv:ai p ((bm M (d'+1) (ao H (d'+1)) 0 (bq,oq,tq)).up (d'+1)) (.slc 0 (ao H (d'+1)) 0 o' sz len cap) (.slice (some ⟨bq,xq,none⟩) len cc) :=
                      .slc (by simp[Mu.up,bm]) hlc hc hnn hxx
                     obtain ⟨w',s1,s2⟩:=yG m2 (off:=off) (q:=.G [.slc 0 (ao H (d'+1)) 0 o' sz len cap]) (cs:=#[.slice (some ⟨bq,xq,none⟩) len cc]) hgr (by rw[iD,iU];exact hl) (m1 _ _ _ _ hm)
                      (fun y hy=>by
                        obtain rfl:y=0:=by simpa[Row.len] using hy
                        exact ⟨hv,rfl⟩) rfl (by show off+1≤r.len;omega) P (.tup []) Go.undef (.tup rfl (fun j hj=>absurd hj (by simp)))
                     refine ⟨w',?_,?_⟩
                     · simp only[Instr.storeAt,Instr.sureAddr,Sem.run_bind,Result.andThen,Sem.run_pure,storeVar,aF hs]
                       rw[if_neg (by simp[Value.cells];omega)]
                       simpa[Sem.run_bind,Result.andThen,Value.cells] using s1
                     · obtain ⟨p',M',n1,n2⟩:=qX (by intro e;rw[e] at hgr;simp[cK,aw] at hgr) m2 s2
                       refine ⟨p',M',?_,n2⟩
                       rw[← h,qn _ _ _ _ _ (by rw[bT];exact hi)]
                       exact mv.trans n1
             · simp at h
           · simp at h
 · exact DH h (fun H' e=>hδ ⟨H',e⟩) ha hx hH

end Go.Eng
end
section
namespace Go.Eng
variable {nx:Nat}

def ey (p:aD) (M:Mu) (l:List AV) (cs:Array Value):Prop:=cs.size=l.length∧∀ j,j<l.length→ai p M (l.getD j .undef) (cs.getD j Go.undef)
theorem me {p:aD} {M:Mu} {nt:Nat} {fr:az} {a:Act} (hF:bP p M nt fr a) (xs:Array Operand):ey p M (jL fr xs.toList) (xs.map a.eval):=by
 have key:∀ l:List Operand,(jL fr l).length=l.length∧∀ j,j<l.length→ai p M ((jL fr l).getD j .undef) ((l.map a.eval).getD j Go.undef):=by
  intro l
  induction l with
  | nil=>exact ⟨rfl,fun j hj=>absurd hj (by simp)⟩
  | cons x l ih =>
    refine ⟨by simp[jL,ih.1],fun j hj=>?_⟩
    cases j with
    | zero=>simpa[jL] using hF.bG x
    | succ j=>simpa[jL] using ih.2 j (by simpa using hj)
 obtain ⟨k1,k2⟩:=key xs.toList
 refine ⟨by simp[k1],fun j hj=>?_⟩
 have:=k2 j (by rw[k1] at hj;exact hj)
 simpa using this
theorem ey.app {p:aD} {M:Mu} {l m:List AV} {cs ds:Array Value} (h:ey p M l cs) (k:ey p M m ds):ey p M (l++m) (cs++ds):=by
 refine ⟨by simp[h.1,k.1],fun j hj=>?_⟩
 by_cases e:j<l.length
 · have e1:(l++m).getD j .undef=l.getD j .undef:=by simp[List.getElem?_append_left e]
   have e2:(cs++ds).getD j Go.undef=cs.getD j Go.undef:=by
    simp only[Array.getD_eq_getD_getElem?];rw[Array.getElem?_append_left (by rw[h.1];exact e)]
   rw[e1,e2];exact h.2 j e
 · have e1:(l++m).getD j .undef=m.getD (j-l.length) .undef:=by simp[List.getElem?_append_right (Nat.le_of_not_lt e)]
   have e2:(cs++ds).getD j Go.undef=ds.getD (j-l.length) Go.undef:=by
    simp only[Array.getD_eq_getD_getElem?];rw[Array.getElem?_append_right (by rw[h.1];omega),h.1]
   rw[e1,e2];exact k.2 _ (by simp at hj;omega)

theorem xT {p:aD} {M:Mu} {H:aa} {v:AV} {cv:Value} (w:World) (h:ai p M v cv):eA p M H nx v .bk cv w w:=⟨h,db.refl _ _⟩

def dL (P:Program) (p:aD) (M:Mu) (H:aa) (nx:Nat) (a:Act) (o:Oper) (v:AV) (δ:Delta) (w:World):Prop :=
 ∃ cv w',((execOp a.eval o).run P w=.ok (.value cv) w'∨((execOp a.eval o).run P w=.ok .skip w'∧cv=Go.undef))∧eA p M H nx v δ cv w w'

theorem dL.val {P:Program} {p:aD} {M:Mu} {H:aa} {a:Act} {o:Oper} {v:AV} {δ:Delta} {w:World} {s:Sem Value} (he:execOp a.eval o=(do pure (.value (← s)):Sem Next))
 (h:∃ cv w',s.run P w=.ok cv w'∧eA p M H nx v δ cv w w'):dL P p M H nx a o v δ w:=by
 obtain ⟨cv,w',h1,h2⟩:=h
 exact ⟨cv,w',.inl (by rw[he];simp[Sem.run_bind,h1,Result.andThen]),h2⟩
theorem dL.same {P:Program} {p:aD} {M:Mu} {H:aa} {a:Act} {o:Oper} {v:AV} {w:World} {s:Sem Value} (he:execOp a.eval o=(do pure (.value (← s)):Sem Next))
 (h:∃ cv,s.run P w=.ok cv w∧ai p M v cv):dL P p M H nx a o v .bk w:=by
 obtain ⟨cv,h1,h2⟩:=h
 exact dL.val he ⟨cv,w,h1,xT w h2⟩
theorem dL.unit {P:Program} {p:aD} {M:Mu} {H:aa} {a:Act} {o:Oper} {v:AV} {δ:Delta} {w:World} {s:Sem Unit} (he:execOp a.eval o=(do s;pure .skip:Sem Next))
 (h:∃ w',s.run P w=.ok () w'∧eA p M H nx v δ Go.undef w w'):dL P p M H nx a o v δ w:=by
 obtain ⟨w',h1,h2⟩:=h
 exact ⟨Go.undef,w',.inr ⟨by rw[he];simp[Sem.run_bind,h1,Result.andThen],rfl⟩,h2⟩

theorem gJ {o:Option AV} {v:AV} {δ:Delta} (h:kp o=some (v,δ)):o=some v∧δ=.bk:=by
 unfold kp at h
 cases o with
 | none=>simp at h
 | some x=>simp at h;exact ⟨by rw[h.1],h.2.symm⟩

theorem gG {xs:Array Operand} {x y:Operand} {r:List Operand} (h:xs.toList=x::y::r) (ρ:Operand→Value):(xs.map ρ)[0]?=some (ρ x)∧(xs.map ρ)[1]?=some (ρ y):=by
 have e:xs=(x::y::r).toArray:=by rw[← h]
 subst e;simp
theorem nY {xs:Array Operand} {x:Operand} {r:List Operand} (h:xs.toList=x::r) (ρ:Operand→Value):(xs.map ρ)[0]?=some (ρ x):=by
 have e:xs=(x::r).toArray:=by rw[← h]
 subst e;simp
theorem CE {xs:Array TypeId} {x y:TypeId} {r:List TypeId} (h:xs.toList=x::y::r):xs[0]?=some x∧xs[1]?=some y:=by
 have e:xs=(x::y::r).toArray:=by rw[← h]
 subst e;simp
theorem o9 {xs:Array TypeId} {x:TypeId} {r:List TypeId} (h:xs.toList=x::r):xs[0]?=some x:=by
 have e:xs=(x::r).toArray:=by rw[← h]
 subst e;simp

theorem sI {P:Program} (mx:Bool) {p:aD} {M:Mu} {l:List AV} {cs:Array Value} {v:AV} (h:nE mx l=some v) (hc:ey p M l cs) (ts:Array TypeId) (ty:TypeId) (w:World) :
 ∃ c,((if mx then Builtin.max_ else Builtin.min_) ts ty cs).run P w=.ok c w∧ai p M v c:=by
 cases l with
 | nil=>simp[nE] at h
 | cons x l =>
   cases x<;>try (simp[nE] at h;done)
   rename_i k n
   obtain ⟨hs,hv⟩:=hc
   obtain ⟨c0,cs',rfl⟩:∃ c0 cs',cs=(c0::cs').toArray:=by
    cases hcs:cs.toList with
    | nil => have:cs.size=0:=by rw[← Array.length_toList,hcs];rfl
             rw[this] at hs;simp at hs
    | cons c0 cs'=>exact ⟨c0,cs',by rw[← hcs]⟩
   have h0:=hv 0 (by simp)
   simp at h0
   have h0:=h0.ofInt
   subst h0
   obtain ⟨c,k1,k2⟩:=l9 (P:=P) mx w l cs' k n v h (by simpa using hs) (fun j hj=>by have:=hv (j+1) (by simpa using hj);simpa using this)
   refine ⟨c,?_,k2⟩
   cases mx
   · simp[Builtin.min_] at k1 ⊢
     exact k1
   · simp[Builtin.max_] at k1 ⊢
     exact k1

theorem r5 {P:Program} {call:aB} {p:aD} {M:Mu} {nt:Nat} {fr:az} {a:Act} {H:aa} {o:Oper} {v:AV} {δ:Delta} {w:World} (h:evalOp P call fr H nx o=some (v,δ)) (hnc:∀ c f,o.op=.call c→c.callee≠.value f)
 (hF:bP p M nt fr a) (hH:a7 p M H w):dL P p M H nx a o v δ w:=by
 unfold evalOp at h
 cases ho:o.op<;>rw[ho] at h<;>simp only[reduceCtorEq] at h
 case move x =>
  simp only[nP] at h
  obtain ⟨rfl,rfl⟩:=h
  exact ⟨_,w,.inl (by simp[execOp,ho]),xT w (hF.bG x)⟩
 case assign x =>
  simp only[nP] at h
  obtain ⟨rfl,rfl⟩:=h
  exact ⟨_,w,.inl (by simp[execOp,ho]),xT w (hF.bG x)⟩
 case pick c x y =>
  have hc:=hF.bG c
  cases hb:bG fr c<;>rw[hb] at h hc<;>simp only[reduceCtorEq] at h
  rename_i b
  simp only[nP] at h
  obtain ⟨rfl,rfl⟩:=h
  have he:a.eval c=.bool b:=by generalize a.eval c=z at hc;cases hc;rfl
  refine ⟨if b then a.eval x else a.eval y,w,.inl ?_,xT w ?_⟩
  · simp[execOp,ho,he,asBool,Sem.run_bind,Result.andThen]
  · cases b
    · exact hF.bG y
    · exact hF.bG x
 case alloc t =>
  obtain ⟨r,hr,he⟩:=Option.map_eq_some_iff.1 h
  simp only[Prod.mk.injEq] at he
  obtain ⟨rfl,rfl⟩:=he
  exact dL.val (by simp only[execOp,ho]) (CM call (t:=t) hr w)
 case box t x =>
  obtain ⟨r,hr,he⟩:=Option.map_eq_some_iff.1 h
  simp only[Prod.mk.injEq] at he
  obtain ⟨rfl,rfl⟩:=he
  exact dL.val (by simp only[execOp,ho]) (GH call (t:=t) (hF.bG x) hr w)
 case build t parts =>
  obtain ⟨hk,rfl⟩:=gJ h
  exact dL.same (by simp only[execOp,ho]) (CN hF parts hk w)
 case buildSlice t len parts=>exact dL.val (by simp only[execOp,ho]) (rO hF parts h w)
 case load t x =>
  obtain ⟨hk,rfl⟩:=gJ h
  exact dL.same (by simp only[execOp,ho]) (xZ hk (hF.bG x) hH)
 case store t x y =>
  obtain ⟨r,hr,he⟩:=Option.map_eq_some_iff.1 h
  simp only[Prod.mk.injEq] at he
  obtain ⟨rfl,rfl⟩:=he
  exact dL.unit (by simp only[execOp,ho]) (AT hr (hF.bG x) (hF.bG y) hH)
 case nilCheck x =>
  have hx:=hF.bG x
  cases hb:bG fr x<;>rw[hb] at h hx<;>simp only[reduceCtorEq,Option.some.injEq,Prod.mk.injEq] at h
  all_goals
   obtain ⟨rfl,rfl⟩:=h
   refine ⟨a.eval x,w,.inl ?_,xT w hx⟩
   obtain ⟨c,hce⟩:∃ c,c=a.eval x:=⟨_,rfl⟩
   simp only[execOp,ho]
   rw[← hce] at hx ⊢
   cases hx<;>simp
 case binOp op t x y _ =>
  obtain ⟨hk,rfl⟩:=gJ h
  exact dL.same (by simp only[execOp,ho]) (D3 hk (hF.bG x) (hF.bG y) x y w)
 case unOp op t x =>
  obtain ⟨hk,rfl⟩:=gJ h
  exact dL.same (by simp only[execOp,ho]) (Il hk (hF.bG x) w)
 case convert s t x =>
  split at h
  · rename_i d k k' n hs hd hx
    simp only[nP] at h
    obtain ⟨rfl,rfl⟩:=h
    have:=hF.bG x
    rw[hx] at this
    have:=this.ofInt
    refine dL.same (s:=convert s t (a.eval x)) (by simp only[execOp,ho]) ⟨.int k (k.wrap n),?_,.int _ _⟩
    simp[convert,Sem.run_bind,run_underlying hs,run_underlying hd,Result.andThen,this,Conv.intToInt]
  · simp at h
 case makeFunc f x y =>
  cases f<;>simp only[reduceCtorEq] at h
  rename_i g
  simp only[nP] at h
  obtain ⟨rfl,rfl⟩:=h
  have h1:=me hF x
  have h2:=me hF y
  exact dL.same (s:=Instr.makeFunc (Fn.func g) (x.map a.eval) (y.map a.eval)) (by simp only[execOp,ho]) ⟨_,rfl,.fn h1.1 h2.1 h1.2 h2.2⟩
 case makeMap t r =>
  cases r<;>simp only[reduceCtorEq] at h
  simp only[nP] at h
  obtain ⟨rfl,rfl⟩:=h
  exact dL.val (by simp only[execOp,ho,Option.map_none]) (x5 t w Dg)
 case makeSlice t l c=>exact dL.val (by simp only[execOp,ho]) (uj h (hF.bG l) (hF.bG c) w)
 case slice t x lo hi mx =>
  obtain ⟨hk,rfl⟩:=gJ h
  have ho':∀ z:Option Operand,tP p M (z.map (bG fr)) (z.map a.eval):=by
   intro z;cases z with
   | none=>trivial
   | some z=>exact hF.bG z
  exact dL.same (by simp only[execOp,ho]) (DB hk (hF.bG x) (ho' lo) (ho' hi) (ho' mx) w)
 case fieldAddr t x f =>
  obtain ⟨hk,rfl⟩:=gJ h
  exact dL.same (by simp only[execOp,ho]) (ua hk (hF.bG x) w)
 case field t x f =>
  obtain ⟨hk,rfl⟩:=gJ h
  exact dL.same (by simp only[execOp,ho]) (CY hk (hF.bG x) w)
 case indexAddr t x i =>
  have hi:=hF.bG i
  cases hb:bG fr i<;>rw[hb] at h hi<;>simp only[reduceCtorEq] at h
  obtain ⟨hk,rfl⟩:=gJ h
  refine dL.same (s:=Instr.indexAt t (a.eval x) (a.eval i)) (by simp only[execOp,ho]) ?_
  rw[hi.ofInt]
  exact uf hk (hF.bG x) w
 case index t x i =>
  have hi:=hF.bG i
  cases hb:bG fr i<;>rw[hb] at h hi<;>simp only[reduceCtorEq] at h
  obtain ⟨hk,rfl⟩:=gJ h
  refine dL.same (s:=Instr.index t (a.eval x) (a.eval i)) (by simp only[execOp,ho]) ?_
  rw[hi.ofInt]
  exact Db hk (hF.bG x) w
 case lookup t m k ok =>
  obtain ⟨hk,rfl⟩:=gJ h
  exact dL.same (by simp only[execOp,ho]) (Au hk (hF.bG m) (hF.bG k) hH)
 case mapUpdate t m k x =>
  obtain ⟨r,hr,he⟩:=Option.map_eq_some_iff.1 h
  simp only[Prod.mk.injEq] at he
  obtain ⟨rfl,rfl⟩:=he
  exact dL.unit (by simp only[execOp,ho]) (tA hr (hF.bG m) (hF.bG k) (hF.bG x) hH (fun N=>.tup rfl (fun j hj=>absurd hj (by simp))))
 case insert t m k x =>
  obtain ⟨r,hr,he⟩:=Option.map_eq_some_iff.1 h
  simp only[Prod.mk.injEq] at he
  obtain ⟨rfl,rfl⟩:=he
  exact dL.unit (by simp only[execOp,ho]) (tA hr (hF.bG m) (hF.bG k) (hF.bG x) hH (fun N=>.tup rfl (fun j hj=>absurd hj (by simp))))
 case extract t ix =>
  have ht:=hF.bG t
  cases hb:bG fr t<;>rw[hb] at h ht<;>simp only[reduceCtorEq] at h
  rename_i l
  split at h
  · rename_i u hu
    simp only[nP] at h
    obtain ⟨rfl,rfl⟩:=h
    obtain ⟨c,hce⟩:∃ c,c=a.eval t:=⟨_,rfl⟩
    rw[← hce] at ht
    cases ht
    rename_i cs hs hv
    obtain ⟨hi,hu⟩:=List.getElem?_eq_some_iff.1 hu
    have:=hv ix hi
    refine dL.same (s:=Instr.extract (a.eval t) ix) (by simp only[execOp,ho]) ⟨cs.getD ix Go.undef,?_,by simpa[hi,hu] using this⟩
    rw[← hce]
    have hi':=hi
    rw[← hs] at hi'
    simp[Instr.extract,hi']
  · simp at h
 case call c =>
  unfold ft at h
  have hres:∀ b,c.callee=.builtin b→∃ cst,execOp a.eval o=(builtin b c.argTypes o.type cst (c.args.map a.eval)):=by
   intro b hb
   refine ⟨c.args.map (fun | .const _=>true | _=>false),?_⟩
   simp only[execOp,ho,resolve,hb,invoke,pure_bind]
   rfl
  cases hcal:c.callee with
  | value f=>exact absurd hcal (hnc c f ho)
  | invoke r n=>rw[hcal] at h;simp at h
  | builtin b =>
    rw[hcal] at h
    obtain ⟨cst,hre⟩:=hres b hcal
    cases b<;>simp only[reduceCtorEq] at h
    case len =>
     split at h
     · rename_i x r t r' hx ht
       obtain ⟨n,hn,he⟩:=Option.map_eq_some_iff.1 h
       simp only[Prod.mk.injEq] at he
       obtain ⟨rfl,rfl⟩:=he
       exact dL.same hre ⟨_,He hn (hF.bG x) hH _ (o9 ht) _ _ (nY hx _),.int _ _⟩
     · simp at h
    case cap =>
     split at h
     · rename_i x r t r' hx ht
       obtain ⟨n,hn,he⟩:=Option.map_eq_some_iff.1 h
       simp only[Prod.mk.injEq] at he
       obtain ⟨rfl,rfl⟩:=he
       exact dL.same hre ⟨_,GJ hn (hF.bG x) (o9 ht) (nY hx _) _,.int _ _⟩
     · simp at h
    case append =>
     split at h
     · rename_i s x r t u r' hx ht
       exact dL.val hre (zO h (hF.bG s) (hF.bG x) hH (CE ht).1 (CE ht).2 (gG hx _).1 (gG hx _).2 _)
     · simp at h
    case copy =>
     split at h
     · rename_i s x r t r' hx ht
       exact dL.val hre (El h (hF.bG s) (hF.bG x) hH (o9 ht) (gG hx _).1 (gG hx _).2 _)
     · simp at h
    case clear =>
     split at h
     · rename_i s r t r' hx ht
       exact dL.val hre (CR h (hF.bG s) hH (o9 ht) (nY hx _) _)
     · simp at h
    case delete =>
     split at h
     · rename_i m k r t r' hx ht
       exact dL.val hre (z6 h (hF.bG m) (hF.bG k) hH (o9 ht) (gG hx _).1 (gG hx _).2 _)
     · simp at h
    case min =>
     obtain ⟨u,hu,he⟩:=Option.map_eq_some_iff.1 h
     simp only[Prod.mk.injEq] at he
     obtain ⟨rfl,rfl⟩:=he
     exact dL.same hre (sI false hu (me hF c.args) c.argTypes o.type w)
    case max =>
     obtain ⟨u,hu,he⟩:=Option.map_eq_some_iff.1 h
     simp only[Prod.mk.injEq] at he
     obtain ⟨rfl,rfl⟩:=he
     exact dL.same hre (sI true hu (me hF c.args) c.argTypes o.type w)

end Go.Eng
end
section
namespace Go.Eng

structure dv (F:Fence):Prop where
 fn:∀ f,F.fn f
 depth:F.depth=none
 fenced:∀ P:Program,Machine.fenced P F=Machine.fenced P Fence.wide
theorem dv.wide:dv Fence.wide:=⟨fun _=>trivial,rfl,fun _=>rfl⟩
theorem dv.inRound (l:Nat):dv (Fence.wide.inRound l):=⟨fun _=>trivial,rfl,fun _=>rfl⟩
theorem dv.calls {F:Fence} (h:dv F) {m n:Nat} {P:Program} {f:FuncId} {args:Array Value} {w:World} {R:Ending→World→Prop} (k:CallsIn Fence.wide m P f args w R):CallsIn F n P f args w R :=
 ⟨h.fn f,fun cs _=>by rw[h.fenced];exact k.2 cs (room_wide _)⟩
theorem dv.rounds {F:Fence} (h:dv F) {m n:Nat} {P:Program} {l:Nat} {f:FuncId} {tmps:Array Value} {x y:Code} {w:World} {R:Ending→World→Prop} (k:RoundIn Fence.wide m P l f tmps x y w R):RoundIn F n P l f tmps x y w R :=
 ⟨h.fn f,fun c cs _=>by rw[h.fenced];exact k.2 c cs (room_wide _)⟩

structure Still (H H':aa):Prop where
 same:∀ d i,aE H d=true→aw H' d i=aw H d i
 next:∀ d,aE H d=true→ao H' d=ao H d
theorem Still.refl (H:aa):Still H H:=⟨fun _ _ _=>rfl,fun _ _=>rfl⟩
def fG (p:aD) (M:Mu) (H:aa) (w:World) (v:AV) (H':aa) (e:Ending) (w':World):Prop :=
 ∃ cv,e=.returned cv∧Still H H'∧∃ p' M',cg p M H w p' M' H' w'∧ai p' M' v cv

def dp (P:Program):Prop:=∀ (f:FuncId) (fn:Func),P.funcs[f]?=some fn→fn.body.isNone=false→(fn.name == "runtime.NumGoroutine")=false

def bN (P:Program) (call:aB):Prop:=∀ (tgt:NW) (args:List AV) (H:aa) (v:AV) (H':aa),call tgt args H=some (v,H')→H≠[] →
 ∀ (p:aD) (M:Mu) (w:World) (cargs:Array Value),a7 p M H w→ey p M args cargs →
  match tgt with
  | .fn f=>(∃ fn,P.funcs[f]?=some fn∧fn.body.isNone=false)∧CallsIn Fence.wide 0 P f cargs w (fG p M H w v H')
  | .round d i=>∀ b o t,M d i 0=some (b,o,t)→∃ f tmps assign body,(Instr.yield b cargs).run P w=.ok (.round b f tmps assign body) w∧RoundIn Fence.wide 0 P b f tmps assign body w (fG p M H w v H')
  | .mode=>True

theorem jS {F:Fence} (h:dv F) (P:Program) (o:Oper) (w:World) (a:Act):∀ f,o.about P w a.eval=some f→F.fn f:=fun f _=>h.fn f

theorem oA {P:Program} {call:aB} {fr:az} {H:aa} {nx:Nat} {o:Oper} {x:AV×Delta} (h:evalOp P call fr H nx o=some x):∀ c,o.op≠.defer c:=by
 intro c e
 unfold evalOp at h
 rw[e] at h
 simp at h

theorem Fy {P:Program} {F:Fence} (hFW:dv F) (hN:dp P) {call:aB} (hC:bN P call) {p:aD} {M:Mu} {nt:Nat} {fr:az} {a:Act} {H:aa} {o:Oper} {v:AV} {δ:Delta} {w:World} {nx:Nat} (h:evalOp P call fr H nx o=some (v,δ))
 (hF:bP p M nt fr a) (hH:a7 p M H w) (hne:H≠[]) {n:Nat} {next:Act→World→Prop} {Q:Exit→Act→World→Prop} (hnext:∀ cv w',((eE o=true∧Still H (δ.on H)∧∃ p' M',cg p M H w p' M' (δ.on H) w'∧ai p' M' v cv)∨(eE o=false∧eA p M H nx v δ cv w w'))→next (a.put o.dst cv) w'):o.wpIn F n P a w next Q:=by
 refine ⟨jS hFW P o w a,?_⟩
 rw[Oper.semAt_eq _ _ _ (oA h)]
 by_cases hc:∃ c f,o.op=.call c∧c.callee=.value f
 · obtain ⟨c,f,ho,hcal⟩:=hc
   have hcv:eE o=true:=by unfold eE;rw[ho];simp only[hcal]
   unfold evalOp at h
   rw[ho] at h
   simp only at h
   unfold ft at h
   rw[hcal] at h
   simp only at h
   have hf:=hF.bG f
   have hargs:=me hF c.args
   cases hfv:bG fr f<;>rw[hfv] at h hf<;>try (simp at h;done)
   case fn g x y =>
    cases g<;>try (simp at h;done)
    rename_i g
    obtain ⟨⟨v',H'⟩,hcall,he⟩:=Option.map_eq_some_iff.1 h
    simp only[Prod.mk.injEq] at he
    obtain ⟨rfl,rfl⟩:=he
    obtain ⟨cf,hcf⟩:∃ cf,cf=a.eval f:=⟨_,rfl⟩
    rw[← hcf] at hf
    cases hf
    rename_i cx cy hx vx hy vy
    have hcr:ey p M (x++(jL fr c.args.toList++y)) (cx++(c.args.map a.eval++cy)):=ey.app ⟨hx,vx⟩ (hargs.app ⟨hy,vy⟩)
    obtain ⟨⟨fn,hfn,hbody⟩,hcalls⟩:=hC (.fn g) _ H v' H' hcall hne p M w _ hH hcr
    have hexec:(execOp a.eval o).run P w=.ok (.enter g (cx++(c.args.map a.eval++cy))) w:=by
     have hname:=hN g fn hfn hbody
     simp only[execOp,ho,resolve,hcal,← hcf,Deferred.ofValue,pure_bind,invoke,callFunc,Sem.run_bind,run_program,Result.andThen,hfn,hname,hbody,Bool.false_eq_true,if_false,Sem.run_pure,Array.append_assoc]
    rw[hexec,Oper.uponIn_enter]
    refine ⟨fun hd=>by rw[hFW.depth] at hd;simp at hd,(hFW.calls hcalls).mono ?_⟩
    rintro e w' ⟨cv,rfl,hp⟩
    exact hnext cv w' (.inl ⟨hcv,hp⟩)
   case yld d i =>
    obtain ⟨⟨v',H'⟩,hcall,he⟩:=Option.map_eq_some_iff.1 h
    simp only[Prod.mk.injEq] at he
    obtain ⟨rfl,rfl⟩:=he
    obtain ⟨cf,hcf⟩:∃ cf,cf=a.eval f:=⟨_,rfl⟩
    rw[← hcf] at hf
    cases hf
    rename_i b o' t hm
    obtain ⟨f',tmps,assign,body,hy,hround⟩:=hC (.round d i) _ H v' H' hcall hne p M w _ hH hargs b o' t hm
    have hexec:(execOp a.eval o).run P w=.ok (.round b f' tmps assign body) w:=by
     simp only[execOp,ho,resolve,hcal,← hcf,Deferred.ofValue,pure_bind,invoke,Array.empty_append]
     exact hy
    rw[hexec,Oper.uponIn_round]
    refine ⟨fun hd=>by rw[hFW.depth] at hd;simp at hd,(hFW.rounds hround).mono ?_⟩
    rintro e w' ⟨cv,rfl,hp⟩
    exact hnext cv w' (.inl ⟨hcv,hp⟩)
 · obtain ⟨cv,w',hrun,hd⟩:=r5 h (fun c f h1 h2=>hc ⟨c,f,h1,h2⟩) hF hH
   have hcv:eE o=false:=by
    unfold eE
    cases ho:o.op<;>try rfl
    rename_i c
    dsimp only
    cases hcal:c.callee<;>try rfl
    rename_i f
    exact absurd ⟨c,f,ho,hcal⟩ hc
   have:=hnext cv w' (.inr ⟨hcv,hd⟩)
   rcases hrun with hrun | ⟨hrun,rfl⟩
   · rw[hrun];exact this
   · rw[hrun];exact this

theorem Hx {P:Program} {F:Fence} (hFW:dv F) {call:aB} {p:aD} {M:Mu} {nt:Nat} {fr:az} {a:Act} {H:aa} {o:Oper} {v:AV} {δ:Delta} {w:World} {nx:Nat} (h:evalOp P call fr H nx o=some (v,δ)) (hcv:eE o=false)
 (hF:bP p M nt fr a) (hH:a7 p M H w) {n:Nat} {next:Act→World→Prop} {Q:Exit→Act→World→Prop} (hnext:∀ cv w',eA p M H nx v δ cv w w'→next (a.put o.dst cv) w'):o.wpIn F n P a w next Q:=by
 refine ⟨jS hFW P o w a,?_⟩
 rw[Oper.semAt_eq _ _ _ (oA h)]
 obtain ⟨cv,w',hrun,hd⟩:=r5 h (fun c f h1 h2=>by unfold eE at hcv;rw[h1] at hcv;simp only[h2] at hcv;cases hcv) hF hH
 have:=hnext cv w' hd
 rcases hrun with hrun | ⟨hrun,rfl⟩
 · rw[hrun];exact this
 · rw[hrun];exact this

theorem Cc {P:Program} {F:Fence} (hFW:dv F) (hN:dp P) {call:aB} (hC:bN P call) {p:aD} {M:Mu} {nt:Nat} {fr:az} {a:Act} {H:aa} {o:Oper} {v:AV} {δ:Delta} {w:World} (h:evalOp P call fr H (aN H) o=some (v,δ))
 (hF:bP p M nt fr a) (hH:a7 p M H w) (hne:H≠[]) {n:Nat} {next:Act→World→Prop} {Q:Exit→Act→World→Prop} (hnext:∀ cv w',(∃ p' M',cg p M H w p' M' (δ.on H) w'∧ai p' M' v cv)→next (a.put o.dst cv) w'):o.wpIn F n P a w next Q :=
 Fy hFW hN hC h hF hH hne fun cv w' hx=>by
  rcases hx with ⟨_,_,hx⟩ | ⟨_,hx⟩
  · exact hnext cv w' hx
  · exact hnext cv w' (qX hne hH hx)

theorem tD {p:aD} {M:Mu} {nt:Nat} {fr:az} {a:Act} (hF:bP p M nt fr a) (ops:Array Oper) (o:Oper):(gZ ops fr o=.run→Region.wanted o (yielded ops a.tmps)=true)∧(gZ ops fr o=.skip→Region.wanted o (yielded ops a.tmps)=false):=by
 unfold gZ Region.wanted
 cases hg:o.guard with
 | none=>simp
 | some jw =>
   obtain ⟨j,want⟩:=jw
   simp only
   cases hd:(ops[j]?).bind (·.dst) with
   | none=>simp
   | some d =>
     simp only
     have hv:=hF.at_ d
     have hy:yielded ops a.tmps j=match a.tmps[d]? with | some (.bool b)=>some b | _=>none:=by
      unfold yielded;rw[hd];rfl
     cases hfv:bB fr d<;>rw[hfv] at hv<;>simp only[reduceCtorEq,false_implies,and_true,true_and,implies_true]
     case bool b =>
      have he:a.tmps.getD d Go.undef=.bool b:=by generalize a.tmps.getD d Go.undef=z at hv;cases hv;rfl
      have he2:a.tmps[d]?=some (.bool b):=by
       rw[Array.getD_eq_getD_getElem?] at he
       cases h:a.tmps[d]? with
       | none=>rw[h] at he;simp[Go.undef] at he
       | some z=>rw[h] at he;simp at he;rw[he]
      rw[hy,he2]
      by_cases e:b=want<;>simp[e]
     case tup l =>
      obtain ⟨cs,he⟩:∃ cs,a.tmps.getD d Go.undef=.tuple cs:=by generalize a.tmps.getD d Go.undef=z at hv;cases hv;exact ⟨_,rfl⟩
      have:yielded ops a.tmps j=none:=by
       rw[hy]
       rw[Array.getD_eq_getD_getElem?] at he
       cases h:a.tmps[d]? with
       | none=>rfl
       | some z=>rw[h] at he;simp at he;rw[he]
      rw[this]
      simp

theorem put_defers (a:Act) (dst:Option Tmp) (v:Value):(a.put dst v).defers=a.defers:=by cases dst<;>rfl
theorem p9 {p:aD} {M:Mu}:ai p M (.tup []) Go.undef:=.tup rfl (fun j hj=>absurd hj (by simp))

theorem cg.ne {p p':aD} {M M':Mu} {H H':aa} {w w':World} (h:cg p M H w p' M' H' w') (hne:H≠[]):H'≠[]:=by
 intro e
 have:=h.len
 rw[e] at this
 exact hne (List.length_eq_zero_iff.1 this.symm)

def At (p:aD) (M:Mu) (H:aa) (w:World) (nt:Nat) (ds:List Deferred) (fr':az) (H':aa) (a':Act) (w':World):Prop :=
 ∃ p' M',cg p M H w p' M' H' w'∧bP p' M' nt fr' a'∧a'.defers=ds

theorem gE {P:Program} {F:Fence} (hFW:dv F) (hN:dp P) {call:aB} (hC:bN P call) {nt:Nat} {ops:Array Oper} {n:Nat} {Q:Exit→Act→World→Prop}:∀ (l:List Oper) (fr:az) (H:aa) (fr':az) (H':aa),
 ew P nt call ops l fr H=some (fr',H')→∀ (p:aD) (M:Mu) (a:Act) (w:World),bP p M nt fr a→a7 p M H w→H≠[] →
 (∀ a' w',At p M H w nt a.defers fr' H' a' w'→Q .normal a' w')→wpListIn F n P ops Q l a w
 | [],fr,H,fr',H',h,p,M,a,w,hF,hH,hne,hQ=>by
   simp only[ew,Option.some.injEq,Prod.mk.injEq] at h
   obtain ⟨rfl,rfl⟩:=h
   exact hQ a w ⟨p,M,cg.refl hH,hF,rfl⟩
 | o :: l,fr,H,fr',H',h,p,M,a,w,hF,hH,hne,hQ=>by
   simp only[ew] at h
   have hw:=tD hF ops o
   unfold wpListIn
   cases hwv:gZ ops fr o with
   | lost=>rw[hwv] at h;simp at h
   | skip =>
     rw[hwv] at h
     simp only at h
     rw[if_neg (by rw[hw.2 hwv];simp)]
     exact ⟨jS hFW P o w a,gE hFW hN hC l _ H fr' H' h p M _ w (hF.put o.dst p9) hH hne (fun a' w' ha=>hQ a' w' (by rw[put_defers] at ha;exact ha))⟩
   | run =>
     rw[hwv] at h
     simp only at h
     rw[if_pos (hw.1 hwv)]
     cases he:evalOp P call fr H (aN H) o with
     | none=>rw[he] at h;simp at h
     | some vd =>
       obtain ⟨v,δ⟩:=vd
       rw[he] at h
       simp only at h
       refine Cc hFW hN hC he hF hH hne (fun cv w' ⟨p',M',hE,hv⟩=>?_)
       refine gE hFW hN hC l _ _ fr' H' h p' M' _ w' ((hF.mono hE.pst hE.mu).put o.dst hv) hE.rel (hE.ne hne) (fun a' w'' ⟨p'',M'',hE',hF',hd⟩=>?_)
       exact hQ a' w'' ⟨p'',M'',hE.trans hE',hF',by rw[put_defers] at hd;exact hd⟩

end Go.Eng
end
