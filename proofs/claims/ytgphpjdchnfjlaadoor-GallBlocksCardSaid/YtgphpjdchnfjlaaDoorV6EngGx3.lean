/- The engine, part G: a slice that moves down with its block; one operation. -/
import Derived.Test.YtgphpjdchnfjlaaDoorV6EngF
set_option linter.unusedVariables false
set_option linter.unusedSimpArgs false
section
namespace Go.Eng
variable {nx:Nat}

theorem lP:∀ (H:ab) (d:Nat) (b:an) (d' i':Nat),az (bz H d b) d' i'=if d'=d∧i'=ao H d∧d<H.length then (0,b) else az H d' i'
 | [],d,b,d',i'=>by simp[bz]
 | l::r,0,b,0,i'=>by simp[bz,az,ao,l9]
 | l::r,0,b,d'+1,i'=>by simp[bz,az]
 | l::r,d+1,b,0,i'=>by simp[bz,az]
 | l::r,d+1,b,d'+1,i'=>by simp[bz,az,ao,lP r d b d' i']
theorem fQ:∀ (H:ab) (d:Nat) (b:an) (d':Nat),ao (bz H d b) d'=if d'=d∧d<H.length then ao H d+1 else ao H d'
 | [],d,b,d'=>by simp[bz]
 | l::r,0,b,0=>by simp[bz,ao]
 | l::r,0,b,d'+1=>by simp[bz,ao]
 | l::r,d+1,b,0=>by simp[bz,ao]
 | l::r,d+1,b,d'+1=>by simp[bz,ao,fQ r d b d']
theorem im:∀ (H:ab) (d:Nat) (b:an) (d':Nat),aL (bz H d b) d'=aL H d'
 | [],d,b,d'=>rfl
 | l::r,0,b,0=>rfl
 | l::r,0,b,d'+1=>rfl
 | l::r,d+1,b,0=>rfl
 | l::r,d+1,b,d'+1=>im r d b d'
theorem qP:∀ (l:List (Nat×an)) (i:Nat) (x y:Nat×an),i<l.length→bQ (l++[y]) i x=bQ l i x++[y]
 | [],i,x,y,h=>by simp at h
 | b::l,0,x,y,h=>rfl
 | b::l,i+1,x,y,h=>by simp[bQ,qP l i x y (by simpa using h)]
theorem qA:∀ (H:ab) (d i:Nat) (x:Nat×an) (b:an),i<ao H d→bz (eh H d i x) d b=eh (bz H d b) d i x
 | [],d,i,x,b,h=>by simp[ao] at h
 | l::r,0,i,x,b,h=>by simp[eh,bz,qP _ _ _ _ (show i<l.bs.length from h)]
 | l::r,d+1,i,x,b,h=>by simp[eh,bz,qA r d i x b h]
theorem qy:∀ (H:ab) (d:Nat),0<ao H d→d<H.length
 | [],d,h=>by simp[ao] at h
 | l::r,0,h=>by simp
 | l::r,d+1,h=>by have:=qy r d h;simp;omega
theorem cr (H:ab) (d i d':Nat):ao (ev H d i) d'=ao H d':=cH _ _ _ _ _
theorem iL (H:ab) (d i d':Nat):aL (ev H d i) d'=aL H d':=fw _ _ _ _ _
theorem jX (H:ab) (d i:Nat):(ev H d i).length=H.length:=lR _ _ _ _
theorem qz:∀ (H:ab) (d:Nat) (b:an),(bz H d b).length=H.length
 | [],_,_=>rfl
 | l::r,0,_=>rfl
 | l::r,d+1,b=>by simp[bz,qz r d b]

theorem bj.move {p:aF} {M:Mu} {H:ab} {w:World} (h:bj p M H w) {j ver d b o t:Nat} {q:Row} (hq:dg H 0 j ver=some q) (hm:M 0 j ver=some (b,o,t)) (hl:aL H 0=false) (hld:aL H d=false) (hd:d<H.length) (hd0:d≠0) :
 cC p M H w p (br M d (ao H d) 0 (b,o,t)) (bz (ev H 0 j) d (.row (jd d q))) w:=by
 have hg:=dL hq
 obtain ⟨b',o',t',k1,k2,k3⟩:=h.live _ _ _ _ hg (by simp)
 rw[hm] at k1
 simp only[nP] at k1
 obtain ⟨rfl,rfl,rfl⟩:=k1
 have hle:Mu.le M (br M d (ao H d) 0 (b,o,t)):=j6 fun u hu=>by
  have:=(h.dom _ _ _ _ hu).1;omega
 have hk:=h.kill 0 j
 have hB:fB p ((br M d (ao H d) 0 (b,o,t)).up d) (.row (jd d q)) b o t w:=by
  obtain ⟨c,e,e1,e2,e3,e4⟩:=k2;refine ⟨c,e,e1,e2,by rw[fe];exact e3,?_⟩;have e5:bg p M q (fun j=>c.getD (o+j) Go.undef):=e4;have e6:=e5.jd (k:=d);exact fun x hx=>⟨(e6 x hx).1.mono (aF.le.refl _) ((hle.up d).jc _),(e6 x hx).2⟩
 have get:∀ d1 i1,az (bz (ev H 0 j) d (.row (jd d q))) d1 i1=if d1=d∧i1=ao H d then (0,.row (jd d q)) else if d1=0∧i1=j then ((az H 0 j).1,.dead) else az H d1 i1:=by
  intro d1 i1;rw[lP,cr,jX,eJ];by_cases e:d1=d∧i1=ao H d
  · rw[if_pos ⟨e.1,e.2,hd⟩,if_pos e]
  · rw[if_neg (fun x=>e ⟨x.1,x.2.1⟩),if_neg e]
 have other:∀ d1 i1 v1 B1 o1 t1,az H d1 i1=(v1,B1)→B1≠.dead→M d1 i1 v1=some (b,o1,t1)→d1=0∧i1=j:=by
  intro d1 i1 v1 B1 o1 t1 g1 n1 m1;have:=h.apart d1 i1 v1 B1 0 j ver (.row q) b o1 t1 o t g1 n1 hg (by simp) m1 hm;exact this
 refine ⟨aF.le.refl _,hle,⟨h.pers,?_,?_,?_⟩,dx.refl _ _,?_,fun b o v hv=>.inl hv,?_,fun d'=>by rw[im,iL],?_,?_,by rw[qz,jX],fun d1=>?_,fun d1 i1 v1 u hu=>?_⟩
 · intro d1 i1 v1 B1 g1 n1
   rw[get] at g1
   split at g1
   · rename_i e
     obtain ⟨rfl,rfl⟩:=e
     simp only[Prod.mk.injEq] at g1
     obtain ⟨rfl,rfl⟩:=g1
     exact ⟨b,o,t,by simp[br],hB,k3⟩
   · split at g1
     · simp only[Prod.mk.injEq] at g1;exact absurd g1.2.symm n1
     · obtain ⟨b1,o1,t1,j1,j2,j3⟩:=h.live _ _ _ _ g1 n1
       exact ⟨b1,o1,t1,hle _ _ _ _ j1,j2.mono (aF.le.refl _) (hle.up _) rfl,j3⟩
 · intro d1 i1 v1 B1 d2 i2 v2 B2 bb o1 t1 o2 t2 g1 n1 g2 n2 m1 m2
   rw[get] at g1 g2
   simp only[br] at m1 m2
   split at g1
   · rename_i e1
     obtain ⟨rfl,rfl⟩:=e1
     simp only[Prod.mk.injEq] at g1
     obtain ⟨rfl,rfl⟩:=g1
     simp at m1
     split at g2
     · rename_i e2;exact ⟨e2.1.symm,e2.2.symm⟩
     · rename_i e2
       rw[if_neg (fun x=>e2 ⟨x.1,x.2.1⟩)] at m2
       split at g2
       · simp only[Prod.mk.injEq] at g2;exact absurd g2.2.symm n2
       · rename_i e3
         exact absurd (other d2 i2 v2 B2 o2 t2 g2 n2 (by rw[m2,m1.1])) e3
   · rename_i e1
     rw[if_neg (fun x=>e1 ⟨x.1,x.2.1⟩)] at m1
     split at g1
     · simp only[Prod.mk.injEq] at g1;exact absurd g1.2.symm n1
     · rename_i e3
       split at g2
       · rename_i e2
         obtain ⟨rfl,rfl⟩:=e2
         simp only[Prod.mk.injEq] at g2
         obtain ⟨rfl,rfl⟩:=g2
         simp at m2
         exact absurd (other d1 i1 v1 B1 o1 t1 g1 n1 (by rw[m1,m2.1])) e3
       · rename_i e2
         rw[if_neg (fun x=>e2 ⟨x.1,x.2.1⟩)] at m2
         split at g2
         · simp only[Prod.mk.injEq] at g2;exact absurd g2.2.symm n2
         · exact h.apart d1 i1 v1 B1 d2 i2 v2 B2 bb o1 t1 o2 t2 g1 n1 g2 n2 m1 m2
 · intro d1 i1 v1 u hu
   simp only[br] at hu
   rw[fQ,cr,cr,jX,get]
   split at hu
   · rename_i e
     obtain ⟨rfl,rfl,rfl⟩:=e
     rw[if_pos ⟨rfl,hd⟩,if_pos ⟨rfl,rfl⟩]
     exact ⟨by omega,fun _=>Nat.le_refl _⟩
   · have:=h.dom d1 i1 v1 u hu
     refine ⟨by split;· rename_i e;rw[e.1] at this;omega
                · exact this.1,?_⟩
     split
     · rename_i e
       obtain ⟨rfl,rfl⟩:=e
       omega
     · split
       · rename_i e
         obtain ⟨rfl,rfl⟩:=e
         exact fun hne=>absurd rfl hne
       · exact this.2
 · intro x hx hkx d1 i1 v1 B1 g1 n1 l1 o1 t1 m1
   rw[im,iL] at l1
   rw[get] at g1
   simp only[br] at m1
   split at g1
   · rename_i e
     obtain ⟨rfl,rfl⟩:=e
     simp only[Prod.mk.injEq] at g1
     obtain ⟨rfl,rfl⟩:=g1
     simp at m1
     exact hkx 0 j ver (.row q) hg (by simp) hl o t (by rw[hm,m1.1])
   · rename_i e
     rw[if_neg (fun y=>e ⟨y.1,y.2.1⟩)] at m1
     split at g1
     · simp only[Prod.mk.injEq] at g1;exact absurd g1.2.symm n1
     · exact hkx d1 i1 v1 B1 g1 n1 l1 o1 t1 m1
 · intro d1 i1 v1 b1 o1 t1 m1
   simp only[br] at m1
   split at m1
   · simp only[nP] at m1
     exact .inr ⟨0,_,_,_,_,Nat.zero_le _,by rw[← m1.1];exact hm⟩
   · exact .inr ⟨_,_,_,_,_,Nat.le_refl _,m1⟩
 · intro d1 i1 hd1 hl1
   rw[get,if_neg (by rintro ⟨rfl,_⟩;rw[hld] at hl1;simp at hl1),if_neg (fun e=>hd1 e.1)]
 · intro d1 hd1 hl1
   rw[fQ,cr,cr,if_neg]
   rintro ⟨rfl,_⟩;rw[hld] at hl1;simp at hl1
 · rw[fQ,cr,cr]
   split
   · rename_i e;rw[e.1];omega
   · exact Nat.le_refl _
 · simp only[br] at hu
   split at hu
   · rename_i e;obtain ⟨rfl,rfl,rfl⟩:=e
     exact .inr (.inl (Nat.le_refl _))
   · exact .inl hu

theorem BI         {P : Program} {p:aF} {M:Mu} {H:ab} {t:TypeId} {a x:AV} {ca cx:Value} {δ:Delta} {w:World} (h:gp P H t a x=some δ)
 (ha:al p M a ca) (hx:al p M x cx) (hH:bj p M H w) :
 ∃ w',(Instr.storeAt t ca cx).run P w=.ok () w'∧eI p M H nx (.tup []) δ Go.undef w w':=by
 by_cases hδ:∃ H',δ=.heap H'
 · obtain ⟨H', rfl⟩ := hδ
   unfold gp at h
   cases ha<;>try (simp at h;done)
   rename_i d i ver off b o tt hm
   simp only at h
   split at h
   · simp at h
   · rename_i hl
     have hl:aL H d=false:=by simpa using hl
     cases hr:dg H d i ver with
     | none=>rw[hr] at h;simp at h
     | some r =>
       cases hs:bE P t with
       | none=>rw[hr,hs] at h;simp at h
       | some n =>
         cases hq:x.row with
         | none=>rw[hr,hs,hq] at h;simp at h
         | some q =>
           rw[hr,hs,hq] at h
           simp only at h
           split at h
           · rename_i hfit
             split at h
             · rename_i d' j ver' o' sz len cap _
               split at h
               · simp at h
               · rename_i hl0
                 have hl0:aL H 0=false:=by simpa using hl0
                 cases hq0:dg H 0 j ver' with
                 | none=>rw[hq0] at h;simp at h
                 | some q0 =>
                   rw[hq0] at h
                   simp only[Option.some.injEq,Delta.heap.injEq] at h
                   cases hx with
                   | slc hmu hlc hc hnn hxx =>
                     rename_i bq oq tq xq cc
                     have hi:i<ao H (d'+1):=kC (by rw[dL hr];simp)
                     have hlen:=qy H (d'+1) wO
                     have mv:=hH.move hq0 hmu hl0 hl hlen wO
                     have m1:=mv.mu
                     have m2:=mv.rel
                     have hgr:dg (bz (ev H 0 j) (d'+1) (.row (jd (d'+1) q0))) (d'+1) i ver=some r:=by
                      unfold dg;rw[lP,cr,if_neg wO,eJ,if_neg wO,dL hr];simp
                     have hqn:q.len=1:=by simp[AV.row] at hq;subst hq;rfl
                     have hv:al p ((br M (d'+1) (ao H (d'+1)) 0 (bq,oq,tq)).up (d'+1)) (.slc 0 (ao H (d'+1)) 0 o' sz len cap) (.slice (some ⟨bq,xq,none⟩) len cc) :=
                      .slc (by simp[Mu.up,br]) hlc hc hnn hxx
                     obtain ⟨w',s1,s2⟩:=zn m2 (off:=off) (q:=.G [.slc 0 (ao H (d'+1)) 0 o' sz len cap]) (cs:=#[.slice (some ⟨bq,xq,none⟩) len cc]) hgr (by rw[im,iL];exact hl) (m1 _ _ _ _ hm)
                      (fun y hy=>by
                        obtain rfl:y=0:=by simpa[Row.len] using hy
                        exact ⟨hv,rfl⟩) rfl (by show off+1≤r.len;omega) P (.tup []) Go.undef (.tup rfl (fun j hj=>absurd hj (by simp)))
                     refine ⟨w',?_,?_⟩
                     · simp only[Instr.storeAt,Instr.sureAddr,Sem.run_bind,Result.andThen,Sem.run_pure,storeVar,aN hs]
                       rw[if_neg (by simp[Value.cells];omega)]
                       simpa[Sem.run_bind,Result.andThen,Value.cells] using s1
                     · obtain ⟨p',M',n1,n2⟩:=rj (by intro e;rw[e] at hgr;simp[dg,az] at hgr) m2 s2
                       refine ⟨p',M',?_,n2⟩
                       rw[← h,qA _ _ _ _ _ (by rw[cr];exact hi)]
                       exact mv.trans n1
             · simp at h
           · simp at h
 · exact EF h (fun H' e=>hδ ⟨H',e⟩) ha hx hH

end Go.Eng
end
section
namespace Go.Eng
variable {nx:Nat}

def eH (p:aF) (M:Mu) (l:List AV) (cs:Array Value):Prop:=cs.size=l.length∧∀ j,j<l.length→al p M (l.getD j .undef) (cs.getD j Go.undef)
theorem mb {p:aF} {M:Mu} {nt:Nat} {fr:aA} {a:Act} (hF:bX p M nt fr a) (xs:Array Operand):eH p M (kN fr xs.toList) (xs.map a.eval):=by
 have key:∀ l:List Operand,(kN fr l).length=l.length∧∀ j,j<l.length→al p M ((kN fr l).getD j .undef) ((l.map a.eval).getD j Go.undef):=by
  intro l;induction l with
  | nil=>exact ⟨rfl,fun j hj=>absurd hj (by simp)⟩
  | cons x l ih =>
    refine ⟨by simp[kN,ih.1],fun j hj=>?_⟩;cases j with
    | zero=>simpa[kN] using hF.b5 x
    | succ j=>simpa[kN] using ih.2 j (by simpa using hj)
 obtain ⟨k1,k2⟩:=key xs.toList;refine ⟨by simp[k1],fun j hj=>?_⟩;have:=k2 j (by rw[k1] at hj;exact hj);simpa using this
theorem eH.app {p:aF} {M:Mu} {l m:List AV} {cs ds:Array Value} (h:eH p M l cs) (k:eH p M m ds):eH p M (l++m) (cs++ds):=by
 refine ⟨by simp[h.1,k.1],fun j hj=>?_⟩;by_cases e:j<l.length
 · have e1:(l++m).getD j .undef=l.getD j .undef:=by simp[List.getElem?_append_left e]
   have e2:(cs++ds).getD j Go.undef=cs.getD j Go.undef:=by
    simp only[Array.getD_eq_getD_getElem?];rw[Array.getElem?_append_left (by rw[h.1];exact e)]
   rw[e1,e2];exact h.2 j e
 · have e1:(l++m).getD j .undef=m.getD (j-l.length) .undef:=by simp[List.getElem?_append_right (Nat.le_of_not_lt e)]
   have e2:(cs++ds).getD j Go.undef=ds.getD (j-l.length) Go.undef:=by
    simp only[Array.getD_eq_getD_getElem?];rw[Array.getElem?_append_right (by rw[h.1];omega),h.1]
   rw[e1,e2];exact k.2 _ (by simp at hj;omega)

theorem yt {p:aF} {M:Mu} {H:ab} {v:AV} {cv:Value} (w:World) (h:al p M v cv):eI p M H nx v .bA cv w w:=⟨h,dx.refl _ _⟩

def ef (P:Program) (p:aF) (M:Mu) (H:ab) (nx:Nat) (a:Act) (o:Oper) (v:AV) (δ:Delta) (w:World):Prop :=
 ∃ cv w',((execOp a.eval o).run P w=.ok (.value cv) w'∨((execOp a.eval o).run P w=.ok .skip w'∧cv=Go.undef))∧eI p M H nx v δ cv w w'

theorem ef.val {P:Program} {p:aF} {M:Mu} {H:ab} {a:Act} {o:Oper} {v:AV} {δ:Delta} {w:World} {s:Sem Value} (he:execOp a.eval o=(do pure (.value (← s)):Sem Next))
 (h:∃ cv w',s.run P w=.ok cv w'∧eI p M H nx v δ cv w w'):ef P p M H nx a o v δ w:=by
 obtain ⟨cv,w',h1,h2⟩:=h
 exact ⟨cv,w',.inl (by rw[he];simp[Sem.run_bind,h1,Result.andThen]),h2⟩
theorem ef.same {P:Program} {p:aF} {M:Mu} {H:ab} {a:Act} {o:Oper} {v:AV} {w:World} {s:Sem Value} (he:execOp a.eval o=(do pure (.value (← s)):Sem Next))
 (h:∃ cv,s.run P w=.ok cv w∧al p M v cv):ef P p M H nx a o v .bA w:=by
 obtain ⟨cv,h1,h2⟩:=h
 exact ef.val he ⟨cv,w,h1,yt w h2⟩
theorem ef.unit {P:Program} {p:aF} {M:Mu} {H:ab} {a:Act} {o:Oper} {v:AV} {δ:Delta} {w:World} {s:Sem Unit} (he:execOp a.eval o=(do s;pure .skip:Sem Next))
 (h:∃ w',s.run P w=.ok () w'∧eI p M H nx v δ Go.undef w w'):ef P p M H nx a o v δ w:=by
 obtain ⟨w',h1,h2⟩:=h
 exact ⟨Go.undef,w',.inr ⟨by rw[he];simp[Sem.run_bind,h1,Result.andThen],rfl⟩,h2⟩

theorem gv {o:Option AV} {v:AV} {δ:Delta} (h:kp o=some (v,δ)):o=some v∧δ=.bA:=by
 unfold kp at h;cases o with
 | none=>simp at h
 | some x=>simp at h;exact ⟨by rw[h.1],h.2.symm⟩

theorem gq {xs:Array Operand} {x y:Operand} {r:List Operand} (h:xs.toList=x::y::r) (ρ:Operand→Value):(xs.map ρ)[0]?=some (ρ x)∧(xs.map ρ)[1]?=some (ρ y):=by
 have e:xs=(x::y::r).toArray:=by rw[← h]
 subst e;simp
theorem oj {xs:Array Operand} {x:Operand} {r:List Operand} (h:xs.toList=x::r) (ρ:Operand→Value):(xs.map ρ)[0]?=some (ρ x):=by
 have e:xs=(x::r).toArray:=by rw[← h]
 subst e;simp
theorem Dz {xs:Array TypeId} {x y:TypeId} {r:List TypeId} (h:xs.toList=x::y::r):xs[0]?=some x∧xs[1]?=some y:=by
 have e:xs=(x::y::r).toArray:=by rw[← h]
 subst e;simp
theorem pt {xs:Array TypeId} {x:TypeId} {r:List TypeId} (h:xs.toList=x::r):xs[0]?=some x:=by
 have e:xs=(x::r).toArray:=by rw[← h]
 subst e;simp

theorem sY {P:Program} (mx:Bool) {p:aF} {M:Mu} {l:List AV} {cs:Array Value} {v:AV} (h:nS mx l=some v) (hc:eH p M l cs) (ts:Array TypeId) (ty:TypeId) (w:World) :
 ∃ c,((if mx then Builtin.max_ else Builtin.min_) ts ty cs).run P w=.ok c w∧al p M v c:=by
 cases l with
 | nil=>simp[nS] at h
 | cons x l =>
   cases x<;>try (simp[nS] at h;done)
   rename_i k n
   obtain ⟨hs,hv⟩:=hc
   obtain ⟨c0,cs',rfl⟩:∃ c0 cs',cs=(c0::cs').toArray:=by
    cases hcs:cs.toList with
    | nil => have:cs.size=0:=by rw[← Array.length_toList,hcs];rfl
             rw[this] at hs;simp at hs
    | cons c0 cs'=>exact ⟨c0,cs',by rw[← hcs]⟩
   have h0:=hv 0 (by simp)
   simp at h0
   have h0:=h0.ofInt
   subst h0
   obtain ⟨c,k1,k2⟩:=l7 (P:=P) mx w l cs' k n v h (by simpa using hs) (fun j hj=>by have:=hv (j+1) (by simpa using hj);simpa using this)
   refine ⟨c,?_,k2⟩
   cases mx
   · simp[Builtin.min_] at k1 ⊢
     exact k1
   · simp[Builtin.max_] at k1 ⊢
     exact k1

theorem sf {P:Program} {call:aK} {p:aF} {M:Mu} {nt:Nat} {fr:aA} {a:Act} {H:ab} {o:Oper} {v:AV} {δ:Delta} {w:World} (h:evalOp P call fr H nx o=some (v,δ)) (hnc:∀ c f,o.op=.call c→c.callee≠.value f)
 (hF:bX p M nt fr a) (hH:bj p M H w):ef P p M H nx a o v δ w:=by
 unfold evalOp at h
 cases ho:o.op<;>rw[ho] at h<;>simp only[reduceCtorEq] at h
 case move x =>
  simp only[nP] at h
  obtain ⟨rfl,rfl⟩:=h
  exact ⟨_,w,.inl (by simp[execOp,ho]),yt w (hF.b5 x)⟩
 case assign x =>
  simp only[nP] at h
  obtain ⟨rfl,rfl⟩:=h
  exact ⟨_,w,.inl (by simp[execOp,ho]),yt w (hF.b5 x)⟩
 case pick c x y =>
  have hc:=hF.b5 c
  cases hb:b5 fr c<;>rw[hb] at h hc<;>simp only[reduceCtorEq] at h
  rename_i b
  simp only[nP] at h
  obtain ⟨rfl,rfl⟩:=h
  have he:a.eval c=.bool b:=by generalize a.eval c=z at hc;cases hc;rfl
  refine ⟨if b then a.eval x else a.eval y,w,.inl ?_,yt w ?_⟩
  · simp[execOp,ho,he,asBool,Sem.run_bind,Result.andThen]
  · cases b
    · exact hF.b5 y
    · exact hF.b5 x
 case alloc t =>
  obtain ⟨r,hr,he⟩:=Option.map_eq_some_iff.1 h
  simp only[Prod.mk.injEq] at he
  obtain ⟨rfl,rfl⟩:=he
  exact ef.val (by simp only[execOp,ho]) (DH call (t:=t) hr w)
 case box t x =>
  obtain ⟨r,hr,he⟩:=Option.map_eq_some_iff.1 h
  simp only[Prod.mk.injEq] at he
  obtain ⟨rfl,rfl⟩:=he
  exact ef.val (by simp only[execOp,ho]) (HM call (t:=t) (hF.b5 x) hr w)
 case build t parts =>
  obtain ⟨hk,rfl⟩:=gv h
  exact ef.same (by simp only[execOp,ho]) (DK hF parts hk w)
 case buildSlice t len parts=>exact ef.val (by simp only[execOp,ho]) (r4 hF parts h w)
 case load t x =>
  obtain ⟨hk,rfl⟩:=gv h
  exact ef.same (by simp only[execOp,ho]) (yz hk (hF.b5 x) hH)
 case store t x y =>
  obtain ⟨r,hr,he⟩:=Option.map_eq_some_iff.1 h
  simp only[Prod.mk.injEq] at he
  obtain ⟨rfl,rfl⟩:=he
  exact ef.unit (by simp only[execOp,ho]) (BI hr (hF.b5 x) (hF.b5 y) hH)
 case nilCheck x =>
  have hx:=hF.b5 x
  cases hb:b5 fr x<;>rw[hb] at h hx<;>simp only[reduceCtorEq,Option.some.injEq,Prod.mk.injEq] at h
  all_goals
   obtain ⟨rfl,rfl⟩:=h
   refine ⟨a.eval x,w,.inl ?_,yt w hx⟩
   obtain ⟨c,hce⟩:∃ c,c=a.eval x:=⟨_,rfl⟩
   simp only[execOp,ho]
   rw[← hce] at hx ⊢
   cases hx<;>simp
 case binOp op t x y _ =>
  obtain ⟨hk,rfl⟩:=gv h
  exact ef.same (by simp only[execOp,ho]) (Fc hk (hF.b5 x) (hF.b5 y) x y w)
 case unOp op t x =>
  obtain ⟨hk,rfl⟩:=gv h
  exact ef.same (by simp only[execOp,ho]) (Jr hk (hF.b5 x) w)
 case convert s t x =>
  split at h
  · rename_i d k k' n hs hd hx
    simp only[nP] at h
    obtain ⟨rfl,rfl⟩:=h
    have:=hF.b5 x
    rw[hx] at this
    have:=this.ofInt
    refine ef.same (s:=convert s t (a.eval x)) (by simp only[execOp,ho]) ⟨.int k (k.wrap n),?_,.int _ _⟩
    simp[convert,Sem.run_bind,run_underlying hs,run_underlying hd,Result.andThen,this,Conv.intToInt]
  · simp at h
 case makeFunc f x y =>
  cases f<;>simp only[reduceCtorEq] at h
  rename_i g
  simp only[nP] at h
  obtain ⟨rfl,rfl⟩:=h
  have h1:=mb hF x
  have h2:=mb hF y
  exact ef.same (s:=Instr.makeFunc (Fn.func g) (x.map a.eval) (y.map a.eval)) (by simp only[execOp,ho]) ⟨_,rfl,.fn h1.1 h2.1 h1.2 h2.2⟩
 case makeMap t r =>
  cases r<;>simp only[reduceCtorEq] at h
  simp only[nP] at h
  obtain ⟨rfl,rfl⟩:=h
  exact ef.val (by simp only[execOp,ho,Option.map_none]) (yD t w Ed)
 case makeSlice t l c=>exact ef.val (by simp only[execOp,ho]) (uL h (hF.b5 l) (hF.b5 c) w)
 case slice t x lo hi mx =>
  obtain ⟨hk,rfl⟩:=gv h
  have ho':∀ z:Option Operand,um p M (z.map (b5 fr)) (z.map a.eval):=by
   intro z;cases z with
   | none=>trivial
   | some z=>exact hF.b5 z
  exact ef.same (by simp only[execOp,ho]) (Ey hk (hF.b5 x) (ho' lo) (ho' hi) (ho' mx) w)
 case fieldAddr t x f =>
  obtain ⟨hk,rfl⟩:=gv h
  exact ef.same (by simp only[execOp,ho]) (ux hk (hF.b5 x) w)
 case field t x f =>
  obtain ⟨hk,rfl⟩:=gv h
  exact ef.same (by simp only[execOp,ho]) (DU hk (hF.b5 x) w)
 case indexAddr t x i =>
  have hi:=hF.b5 i
  cases hb:b5 fr i<;>rw[hb] at h hi<;>simp only[reduceCtorEq] at h
  obtain ⟨hk,rfl⟩:=gv h
  refine ef.same (s:=Instr.indexAt t (a.eval x) (a.eval i)) (by simp only[execOp,ho]) ?_
  rw[hi.ofInt]
  exact uG hk (hF.b5 x) w
 case index t x i =>
  have hi:=hF.b5 i
  cases hb:b5 fr i<;>rw[hb] at h hi<;>simp only[reduceCtorEq] at h
  obtain ⟨hk,rfl⟩:=gv h
  refine ef.same (s:=Instr.index t (a.eval x) (a.eval i)) (by simp only[execOp,ho]) ?_
  rw[hi.ofInt]
  exact D7 hk (hF.b5 x) w
 case lookup t m k ok =>
  obtain ⟨hk,rfl⟩:=gv h
  exact ef.same (by simp only[execOp,ho]) (Bi hk (hF.b5 m) (hF.b5 k) hH)
 case mapUpdate t m k x =>
  obtain ⟨r,hr,he⟩:=Option.map_eq_some_iff.1 h
  simp only[Prod.mk.injEq] at he
  obtain ⟨rfl,rfl⟩:=he
  exact ef.unit (by simp only[execOp,ho]) (tY hr (hF.b5 m) (hF.b5 k) (hF.b5 x) hH (fun N=>.tup rfl (fun j hj=>absurd hj (by simp))))
 case insert t m k x =>
  obtain ⟨r,hr,he⟩:=Option.map_eq_some_iff.1 h
  simp only[Prod.mk.injEq] at he
  obtain ⟨rfl,rfl⟩:=he
  exact ef.unit (by simp only[execOp,ho]) (tY hr (hF.b5 m) (hF.b5 k) (hF.b5 x) hH (fun N=>.tup rfl (fun j hj=>absurd hj (by simp))))
 case extract t ix =>
  have ht:=hF.b5 t
  cases hb:b5 fr t<;>rw[hb] at h ht<;>simp only[reduceCtorEq] at h
  rename_i l
  split at h
  · rename_i u hu
    simp only[nP] at h
    obtain ⟨rfl,rfl⟩:=h
    obtain ⟨c,hce⟩:∃ c,c=a.eval t:=⟨_,rfl⟩
    rw[← hce] at ht
    cases ht
    rename_i cs hs hv
    obtain ⟨hi,hu⟩:=List.getElem?_eq_some_iff.1 hu
    have:=hv ix hi
    refine ef.same (s:=Instr.extract (a.eval t) ix) (by simp only[execOp,ho]) ⟨cs.getD ix Go.undef,?_,by simpa[hi,hu] using this⟩
    rw[← hce]
    have hi':=hi
    rw[← hs] at hi'
    simp[Instr.extract,hi']
  · simp at h
 case call c =>
  unfold gF at h
  have hres:∀ b,c.callee=.builtin b→∃ cst,execOp a.eval o=(builtin b c.argTypes o.type cst (c.args.map a.eval)):=by
   intro b hb;refine ⟨c.args.map (fun | .const _=>true | _=>false),?_⟩;simp only[execOp,ho,resolve,hb,invoke,pure_bind];rfl
  cases hcal:c.callee with
  | value f=>exact absurd hcal (hnc c f ho)
  | invoke r n=>rw[hcal] at h;simp at h
  | builtin b =>
    rw[hcal] at h
    obtain ⟨cst,hre⟩:=hres b hcal
    cases b<;>simp only[reduceCtorEq] at h
    case len =>
     split at h
     · rename_i x r t r' hx ht
       obtain ⟨n,hn,he⟩:=Option.map_eq_some_iff.1 h
       simp only[Prod.mk.injEq] at he
       obtain ⟨rfl,rfl⟩:=he
       exact ef.same hre ⟨_,It hn (hF.b5 x) hH _ (pt ht) _ _ (oj hx _),.int _ _⟩
     · simp at h
    case cap =>
     split at h
     · rename_i x r t r' hx ht
       obtain ⟨n,hn,he⟩:=Option.map_eq_some_iff.1 h
       simp only[Prod.mk.injEq] at he
       obtain ⟨rfl,rfl⟩:=he
       exact ef.same hre ⟨_,HP hn (hF.b5 x) (pt ht) (oj hx _) _,.int _ _⟩
     · simp at h
    case append =>
     split at h
     · rename_i s x r t u r' hx ht
       exact ef.val hre (AG h (hF.b5 s) (hF.b5 x) hH (Dz ht).1 (Dz ht).2 (gq hx _).1 (gq hx _).2 _)
     · simp at h
    case copy =>
     split at h
     · rename_i s x r t r' hx ht
       exact ef.val hre (Fy h (hF.b5 s) (hF.b5 x) hH (pt ht) (gq hx _).1 (gq hx _).2 _)
     · simp at h
    case clear =>
     split at h
     · rename_i s r t r' hx ht
       exact ef.val hre (DP h (hF.b5 s) hH (pt ht) (oj hx _) _)
     · simp at h
    case delete =>
     split at h
     · rename_i m k r t r' hx ht
       exact ef.val hre (AQ h (hF.b5 m) (hF.b5 k) hH (pt ht) (gq hx _).1 (gq hx _).2 _)
     · simp at h
    case min =>
     obtain ⟨u,hu,he⟩:=Option.map_eq_some_iff.1 h
     simp only[Prod.mk.injEq] at he
     obtain ⟨rfl,rfl⟩:=he
     exact ef.same hre (sY false hu (mb hF c.args) c.argTypes o.type w)
    case max =>
     obtain ⟨u,hu,he⟩:=Option.map_eq_some_iff.1 h
     simp only[Prod.mk.injEq] at he
     obtain ⟨rfl,rfl⟩:=he
     exact ef.same hre (sY true hu (mb hF c.args) c.argTypes o.type w)

end Go.Eng
end
section
namespace Go.Eng

structure dJ (F:Fence):Prop where
 fn:∀ f,F.fn f
 depth:F.depth=none
 fenced:∀ P:Program,Machine.fenced P F=Machine.fenced P Fence.wide
theorem dJ.wide:dJ Fence.wide:=⟨fun _=>trivial,rfl,fun _=>rfl⟩
theorem dJ.inRound (l:Nat):dJ (Fence.wide.inRound l):=⟨fun _=>trivial,rfl,fun _=>rfl⟩
theorem dJ.calls {F:Fence} (h:dJ F) {m n:Nat} {P:Program} {f:FuncId} {args:Array Value} {w:World} {R:Ending→World→Prop} (k:CallsIn Fence.wide m P f args w R):CallsIn F n P f args w R :=
 ⟨h.fn f,fun cs _=>by rw[h.fenced];exact k.2 cs (room_wide _)⟩
theorem dJ.rounds {F:Fence} (h:dJ F) {m n:Nat} {P:Program} {l:Nat} {f:FuncId} {tmps:Array Value} {x y:Code} {w:World} {R:Ending→World→Prop} (k:RoundIn Fence.wide m P l f tmps x y w R):RoundIn F n P l f tmps x y w R :=
 ⟨h.fn f,fun c cs _=>by rw[h.fenced];exact k.2 c cs (room_wide _)⟩

structure Still (H H':ab):Prop where
 same:∀ d i,aL H d=true→az H' d i=az H d i
 next:∀ d,aL H d=true→ao H' d=ao H d
theorem Still.refl (H:ab):Still H H:=⟨fun _ _ _=>rfl,fun _ _=>rfl⟩
def eP (p:aF) (M:Mu) (H:ab) (w:World) (v:AV) (H':ab) (e:Ending) (w':World):Prop :=
 ∃ cv,e=.returned cv∧Still H H'∧∃ p' M',cC p M H w p' M' H' w'∧al p' M' v cv

def dG (P:Program):Prop:=∀ (f:FuncId) (fn:Func),P.funcs[f]?=some fn→fn.body.isNone=false→(fn.name == "runtime.NumGoroutine")=false

def b9 (P:Program) (call:aK):Prop:=∀ (tgt:PN) (args:List AV) (H:ab) (v:AV) (H':ab),call tgt args H=some (v,H')→H≠[] →
 ∀ (p:aF) (M:Mu) (w:World) (cargs:Array Value),bj p M H w→eH p M args cargs →
  match tgt with
  | .fn f=>(∃ fn,P.funcs[f]?=some fn∧fn.body.isNone=false)∧CallsIn Fence.wide 0 P f cargs w (eP p M H w v H')
  | .round d i=>∀ b o t,M d i 0=some (b,o,t)→∃ f tmps assign body,(Instr.yield b cargs).run P w=.ok (.round b f tmps assign body) w∧RoundIn Fence.wide 0 P b f tmps assign body w (eP p M H w v H')
  | .mode=>True

theorem jO {F:Fence} (h:dJ F) (P:Program) (o:Oper) (w:World) (a:Act):∀ f,o.about P w a.eval=some f→F.fn f:=fun f _=>h.fn f

theorem oL {P:Program} {call:aK} {fr:aA} {H:ab} {nx:Nat} {o:Oper} {x:AV×Delta} (h:evalOp P call fr H nx o=some x):∀ c,o.op≠.defer c:=by
 intro c e;unfold evalOp at h;rw[e] at h;simp at h

theorem Gu {P:Program} {F:Fence} (hFW:dJ F) (hN:dG P) {call:aK} (hC:b9 P call) {p:aF} {M:Mu} {nt:Nat} {fr:aA} {a:Act} {H:ab} {o:Oper} {v:AV} {δ:Delta} {w:World} {nx:Nat} (h:evalOp P call fr H nx o=some (v,δ))
 (hF:bX p M nt fr a) (hH:bj p M H w) (hne:H≠[]) {n:Nat} {next:Act→World→Prop} {Q:Exit→Act→World→Prop} (hnext:∀ cv w',((fg o=true∧Still H (δ.on H)∧∃ p' M',cC p M H w p' M' (δ.on H) w'∧al p' M' v cv)∨(fg o=false∧eI p M H nx v δ cv w w'))→next (a.put o.dst cv) w'):o.wpIn F n P a w next Q:=by
 refine ⟨jO hFW P o w a,?_⟩
 rw[Oper.semAt_eq _ _ _ (oL h)]
 by_cases hc:∃ c f,o.op=.call c∧c.callee=.value f
 · obtain ⟨c,f,ho,hcal⟩:=hc
   have hcv:fg o=true:=by unfold fg;rw[ho];simp only[hcal]
   unfold evalOp at h
   rw[ho] at h
   simp only at h
   unfold gF at h
   rw[hcal] at h
   simp only at h
   have hf:=hF.b5 f
   have hargs:=mb hF c.args
   cases hfv:b5 fr f<;>rw[hfv] at h hf<;>try (simp at h;done)
   case fn g x y =>
    cases g<;>try (simp at h;done)
    rename_i g
    obtain ⟨⟨v',H'⟩,hcall,he⟩:=Option.map_eq_some_iff.1 h
    simp only[Prod.mk.injEq] at he
    obtain ⟨rfl,rfl⟩:=he
    obtain ⟨cf,hcf⟩:∃ cf,cf=a.eval f:=⟨_,rfl⟩
    rw[← hcf] at hf
    cases hf
    rename_i cx cy hx vx hy vy
    have hcr:eH p M (x++(kN fr c.args.toList++y)) (cx++(c.args.map a.eval++cy)):=eH.app ⟨hx,vx⟩ (hargs.app ⟨hy,vy⟩)
    obtain ⟨⟨fn,hfn,hbody⟩,hcalls⟩:=hC (.fn g) _ H v' H' hcall hne p M w _ hH hcr
    have hexec:(execOp a.eval o).run P w=.ok (.enter g (cx++(c.args.map a.eval++cy))) w:=by
     have hname:=hN g fn hfn hbody;simp only[execOp,ho,resolve,hcal,← hcf,Deferred.ofValue,pure_bind,invoke,callFunc,Sem.run_bind,run_program,Result.andThen,hfn,hname,hbody,Bool.false_eq_true,if_false,Sem.run_pure,Array.append_assoc]
    rw[hexec,Oper.uponIn_enter]
    refine ⟨fun hd=>by rw[hFW.depth] at hd;simp at hd,(hFW.calls hcalls).mono ?_⟩
    rintro e w' ⟨cv,rfl,hp⟩
    exact hnext cv w' (.inl ⟨hcv,hp⟩)
   case yld d i =>
    obtain ⟨⟨v',H'⟩,hcall,he⟩:=Option.map_eq_some_iff.1 h
    simp only[Prod.mk.injEq] at he
    obtain ⟨rfl,rfl⟩:=he
    obtain ⟨cf,hcf⟩:∃ cf,cf=a.eval f:=⟨_,rfl⟩
    rw[← hcf] at hf
    cases hf
    rename_i b o' t hm
    obtain ⟨f',tmps,assign,body,hy,hround⟩:=hC (.round d i) _ H v' H' hcall hne p M w _ hH hargs b o' t hm
    have hexec:(execOp a.eval o).run P w=.ok (.round b f' tmps assign body) w:=by
     simp only[execOp,ho,resolve,hcal,← hcf,Deferred.ofValue,pure_bind,invoke,Array.empty_append];exact hy
    rw[hexec,Oper.uponIn_round]
    refine ⟨fun hd=>by rw[hFW.depth] at hd;simp at hd,(hFW.rounds hround).mono ?_⟩
    rintro e w' ⟨cv,rfl,hp⟩
    exact hnext cv w' (.inl ⟨hcv,hp⟩)
 · obtain ⟨cv,w',hrun,hd⟩:=sf h (fun c f h1 h2=>hc ⟨c,f,h1,h2⟩) hF hH
   have hcv:fg o=false:=by
    unfold fg;cases ho:o.op<;>try rfl
    rename_i c;dsimp only;cases hcal:c.callee<;>try rfl
    rename_i f;exact absurd ⟨c,f,ho,hcal⟩ hc
   have:=hnext cv w' (.inr ⟨hcv,hd⟩)
   rcases hrun with hrun | ⟨hrun,rfl⟩
   · rw[hrun];exact this
   · rw[hrun];exact this

theorem IT {P:Program} {F:Fence} (hFW:dJ F) {call:aK} {p:aF} {M:Mu} {nt:Nat} {fr:aA} {a:Act} {H:ab} {o:Oper} {v:AV} {δ:Delta} {w:World} {nx:Nat} (h:evalOp P call fr H nx o=some (v,δ)) (hcv:fg o=false)
 (hF:bX p M nt fr a) (hH:bj p M H w) {n:Nat} {next:Act→World→Prop} {Q:Exit→Act→World→Prop} (hnext:∀ cv w',eI p M H nx v δ cv w w'→next (a.put o.dst cv) w'):o.wpIn F n P a w next Q:=by
 refine ⟨jO hFW P o w a,?_⟩
 rw[Oper.semAt_eq _ _ _ (oL h)]
 obtain ⟨cv,w',hrun,hd⟩:=sf h (fun c f h1 h2=>by unfold fg at hcv;rw[h1] at hcv;simp only[h2] at hcv;cases hcv) hF hH
 have:=hnext cv w' hd
 rcases hrun with hrun | ⟨hrun,rfl⟩
 · rw[hrun];exact this
 · rw[hrun];exact this

theorem CZ {P:Program} {F:Fence} (hFW:dJ F) (hN:dG P) {call:aK} (hC:b9 P call) {p:aF} {M:Mu} {nt:Nat} {fr:aA} {a:Act} {H:ab} {o:Oper} {v:AV} {δ:Delta} {w:World} (h:evalOp P call fr H (aZ H) o=some (v,δ))
 (hF:bX p M nt fr a) (hH:bj p M H w) (hne:H≠[]) {n:Nat} {next:Act→World→Prop} {Q:Exit→Act→World→Prop} (hnext:∀ cv w',(∃ p' M',cC p M H w p' M' (δ.on H) w'∧al p' M' v cv)→next (a.put o.dst cv) w'):o.wpIn F n P a w next Q :=
 Gu hFW hN hC h hF hH hne fun cv w' hx=>by
  rcases hx with ⟨_,_,hx⟩ | ⟨_,hx⟩
  · exact hnext cv w' hx
  · exact hnext cv w' (rj hne hH hx)

theorem ua {p:aF} {M:Mu} {nt:Nat} {fr:aA} {a:Act} (hF:bX p M nt fr a) (ops:Array Oper) (o:Oper):(lk ops fr o=.run→Region.wanted o (yielded ops a.tmps)=true)∧(lk ops fr o=.skip→Region.wanted o (yielded ops a.tmps)=false):=by
 unfold lk Region.wanted;cases hg:o.guard with
 | none=>simp
 | some jw =>
   obtain ⟨j,want⟩:=jw;simp only;cases hd:(ops[j]?).bind (·.dst) with
   | none=>simp
   | some d =>
     simp only;have hv:=hF.at_ d;have hy:yielded ops a.tmps j=match a.tmps[d]? with | some (.bool b)=>some b | _=>none:=by
      unfold yielded;rw[hd];rfl
     cases hfv:bM fr d<;>rw[hfv] at hv<;>simp only[reduceCtorEq,false_implies,and_true,true_and,implies_true];case bool b =>
      have he:a.tmps.getD d Go.undef=.bool b:=by generalize a.tmps.getD d Go.undef=z at hv;cases hv;rfl
      have he2:a.tmps[d]?=some (.bool b):=by
       rw[Array.getD_eq_getD_getElem?] at he;cases h:a.tmps[d]? with
       | none=>rw[h] at he;simp[Go.undef] at he
       | some z=>rw[h] at he;simp at he;rw[he]
      rw[hy,he2]
      by_cases e:b=want<;>simp[e]
     case tup l =>
      obtain ⟨cs,he⟩:∃ cs,a.tmps.getD d Go.undef=.tuple cs:=by generalize a.tmps.getD d Go.undef=z at hv;cases hv;exact ⟨_,rfl⟩
      have:yielded ops a.tmps j=none:=by
       rw[hy];rw[Array.getD_eq_getD_getElem?] at he;cases h:a.tmps[d]? with
       | none=>rfl
       | some z=>rw[h] at he;simp at he;rw[he]
      rw[this]
      simp

theorem put_defers (a:Act) (dst:Option Tmp) (v:Value):(a.put dst v).defers=a.defers:=by cases dst<;>rfl
theorem ql {p:aF} {M:Mu}:al p M (.tup []) Go.undef:=.tup rfl (fun j hj=>absurd hj (by simp))

theorem cC.ne {p p':aF} {M M':Mu} {H H':ab} {w w':World} (h:cC p M H w p' M' H' w') (hne:H≠[]):H'≠[]:=by
 intro e;have:=h.len;rw[e] at this;exact hne (List.length_eq_zero_iff.1 this.symm)

def At (p:aF) (M:Mu) (H:ab) (w:World) (nt:Nat) (ds:List Deferred) (fr':aA) (H':ab) (a':Act) (w':World):Prop :=
 ∃ p' M',cC p M H w p' M' H' w'∧bX p' M' nt fr' a'∧a'.defers=ds

theorem gm {P:Program} {F:Fence} (hFW:dJ F) (hN:dG P) {call:aK} (hC:b9 P call) {nt:Nat} {ops:Array Oper} {n:Nat} {Q:Exit→Act→World→Prop}:∀ (l:List Oper) (fr:aA) (H:ab) (fr':aA) (H':ab),
 eV P nt call ops l fr H=some (fr',H')→∀ (p:aF) (M:Mu) (a:Act) (w:World),bX p M nt fr a→bj p M H w→H≠[] →
 (∀ a' w',At p M H w nt a.defers fr' H' a' w'→Q .normal a' w')→wpListIn F n P ops Q l a w
 | [],fr,H,fr',H',h,p,M,a,w,hF,hH,hne,hQ=>by
   simp only[eV,Option.some.injEq,Prod.mk.injEq] at h;obtain ⟨rfl,rfl⟩:=h;exact hQ a w ⟨p,M,cC.refl hH,hF,rfl⟩
 | o :: l,fr,H,fr',H',h,p,M,a,w,hF,hH,hne,hQ=>by
   simp only[eV] at h;have hw:=ua hF ops o;unfold wpListIn;cases hwv:lk ops fr o with
   | lost=>rw[hwv] at h;simp at h
   | skip =>
     rw[hwv] at h;simp only at h;rw[if_neg (by rw[hw.2 hwv];simp)];exact ⟨jO hFW P o w a,gm hFW hN hC l _ H fr' H' h p M _ w (hF.put o.dst ql) hH hne (fun a' w' ha=>hQ a' w' (by rw[put_defers] at ha;exact ha))⟩
   | run =>
     rw[hwv] at h;simp only at h;rw[if_pos (hw.1 hwv)];cases he:evalOp P call fr H (aZ H) o with
     | none=>rw[he] at h;simp at h
     | some vd =>
       obtain ⟨v,δ⟩:=vd;rw[he] at h;simp only at h;refine CZ hFW hN hC he hF hH hne (fun cv w' ⟨p',M',hE,hv⟩=>?_);refine gm hFW hN hC l _ _ fr' H' h p' M' _ w' ((hF.mono hE.pst hE.mu).put o.dst hv) hE.rel (hE.ne hne) (fun a' w'' ⟨p'',M'',hE',hF',hd⟩=>?_);exact hQ a' w'' ⟨p'',M'',hE.trans hE',hF',by rw[put_defers] at hd;exact hd⟩

end Go.Eng
end
