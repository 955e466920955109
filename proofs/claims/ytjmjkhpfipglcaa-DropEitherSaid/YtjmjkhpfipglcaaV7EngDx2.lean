/- The engine, part D: append, copy, clear. -/
import Derived.Test.YtjmjkhpfipglcaaV7EngC
import Derived.ChangeKeysEq
import Derived.Laws.StructEq
section
namespace Go.Eng
variable {nx:Nat}
set_option linter.unusedVariables false
set_option linter.unusedSimpArgs false

theorem Be {P:Program} {p:aX} {M:Mu} {H:ae} {w:World} (hH:bM p M H w) {d i v off sz m b o t x cc:Nat} {r:Row} (hr:eJ H d i v=some r) (hm:M d i v=some (b,o,t))
 (hx:cc=0∨x=o+off) (hmc:m≤cc) (hfit:off+m*sz≤r.len) :
 ∃ cs,(Builtin.firstCells sz m (.slice (some ⟨b,x,none⟩) m cc)).run P w=.ok cs w∧cs.size=m*sz∧bh p (M.up d) (r.sub off (m*sz)) (fun j=>cs.getD j Go.undef):=by
 obtain ⟨c,e,k1,k2,k3,k4⟩:=mc hH hr hm
 have hsub:=k4.sub off (m*sz) hfit
 have hsl:=Row.dM r off (m*sz) hfit
 by_cases hz:m=0
 · subst hz
   simp only[Nat.zero_mul] at hsl ⊢
   exact ⟨#[],by simp[Builtin.firstCells,loadCells,loadCellsFrom],rfl,fun j hj=>absurd hj (by rw[hsl];omega)⟩
 · have hxx:x=o+off:=hx.resolve_left (by omega)
   subst hxx
   have hl:=run_loadCells (P:=P) w ⟨b,o+off,none⟩ (m*sz) (fun j=>c.getD (o+(off+j)) Go.undef) (fun j hj=>by
    rw[eg]
    simp only[World.cell?,k1]
    have:o+(off+j)<c.size:=by omega
    rw[Nat.add_assoc]
    simp[this])
   refine ⟨_,by simp only[Builtin.firstCells];exact hl,by simp,hsub.congr (fun j hj=>?_)⟩
   rw[hsl] at hj
   simp[hj]

theorem ja (z:Array Value) (n:Nat):(Builtin.zeroCells z n).size=n*z.size:=by simp[Builtin.zeroCells]

theorem run_append_grow {P:Program} {w:World} {ts:Array TypeId} {t u e e' ty:TypeId} {inf:TypeInfo} {base:Option Addr} {m cc n:Nat} {cx:Value} {cs:Array Value} (hts0:ts[0]?=some t) (hts1:ts[1]?=some u)
 (ht:P.underlying t=some (.slice e)) (hu:P.underlying u=some (.slice e')) (hi:P.info? e=some inf) {zv:AV} (hz:dr P e=some zv) {z:Row} (hzr:zv.row=some z) (hzl:z.len=inf.size)
 (hcs0:cs[0]?=some (.slice base m cc)) (hcs1:cs[1]?=some cx) (hn:(Builtin.lenOf cx).run P w=.ok n w) (hgrow:cc<m+n) (hroom:(m+n)*inf.bytes≤room) (hroom2:m+n≤room)
 {old new:Array Value} (hold:(Builtin.firstCells inf.size m (.slice base m cc)).run P w.drew=.ok old w.drew) (hnew:(Builtin.firstCells inf.size n cx).run P w.drew=.ok new w.drew)
 (hos:old.size=m*inf.size) (hns:new.size=n*inf.size) :
 ∃ newCap rest,m+n≤newCap∧(old++new++rest).size=newCap*inf.size ∧
  (Builtin.append_ ts ty cs).run P w=.ok (.slice (some ⟨w.heap.size,0,none⟩) (m+n) newCap) (w.drew.alloc (.cells (old++new++rest) e)):=by
 obtain ⟨c0,hc0,hr0⟩:=dT hz
 have hv:=AV.js (p:=fun _ _=>none) (M:=Mu.no) (hc0 ▸ dV _ _ c0) hzr
 have hsz:bR P e=some inf.size:=by simp[bR,hi]
 have room46:room=70368744177664:=rfl
 have hfitb:Builtin.nextslicecap (m+n) cc*inf.bytes≤281474976710656:=growslice_fits hgrow (by omega)
 obtain ⟨newCap,hnc⟩:∃ q,q=(Question.appendCap (m+n) cc e).cut (w.tape w.drawn (Question.appendCap (m+n) cc e)):=⟨_,rfl⟩
 have hcap:m+n≤newCap:=by rw[hnc];simp[Question.cut]
 refine ⟨newCap,Builtin.zeroCells c0.cells (newCap-(m+n)),hcap,?_,?_⟩
 · simp only[Array.size_append,ja,hos,hns,hv.1,hzl]
   rw[← Nat.add_mul,← Nat.add_mul];congr 1;omega
 · have e1:¬ (m+n≤cc):=by omega
   have e2:¬ (((m+n:Nat):Int) > IntKind.i64.max∧(false=true∨inf.bytes=0)):=by
    have:IntKind.i64.max=9223372036854775807:=rfl
    rw[this];omega
   have e3:¬ (Builtin.nextslicecap (m+n) cc*inf.bytes > 2 ^ 48):=by
    have:(2:Nat) ^ 48=281474976710656:=by decide
    omega
   have hask:∀ k w',(askRoom k).run P w'=.ok () w':=by
    intro k w';unfold askRoom;split<;>rfl
   unfold Builtin.append_
   simp only[hts0,hts1,hcs0,hcs1,Sem.run_bind,run_underlying ht,run_underlying hu,Result.andThen,aS hsz,Sem.run_pure,hn,e1,if_false,typeInfo,run_program,hi,
    Bool.not_false,Bool.false_eq_true,if_true,false_or]
   rw[if_neg (by
    have:IntKind.i64.max=9223372036854775807:=rfl
    rw[this];intro h;omega)]
   simp only[Sem.run_bind,run_program,Result.andThen,hi,Sem.run_pure]
   rw[if_neg e3]
   simp only[Sem.run_bind,run_choose_drew,Question.forced,Bool.false_eq_true,if_false,Result.andThen,hask,hold,hnew,hr0,Sem.run_pure,← hnc,newRow,run_newObj_alloc]
   simp[hi,hold,hnew]

theorem fT (P:Program) (a:Option Addr) (n cc:Nat) (w:World):(Builtin.lenOf (.slice a n cc)).run P w=.ok n w:=rfl

theorem bM.Hj {p:aX} {M:Mu} {H:ae} {w w':World} (h:bM p M H w) (e:w'.heap=w.heap):bM p M H w' where
 pers:=fun b o v hp=>by rw[← h.pers b o v hp];simp only[World.cell?,e]
 live:=fun d i v B hg hB=>by
  obtain ⟨b,o,t,h1,h2,h3⟩:=h.live d i v B hg hB
  exact ⟨b,o,t,h1,h2.mono (aX.le.refl _) (Mu.le.refl _) (by rw[e]),h3⟩
 apart:=h.apart
 dom:=h.dom

theorem x5         {P : Program} {sy : Bool} {H:ae} {t u:TypeId} {s x v:AV} {δ:Delta} (h:nB P sy H nx t u s x=some (v,δ)) {p:aX} {M:Mu} {c cx:Value} (hs:ar p M s c) (hx:ar p M x cx) {w:World} (hH:bM p M H w)
 {ts:Array TypeId} {cs:Array Value} (hts0:ts[0]?=some t) (hts1:ts[1]?=some u) (hcs0:cs[0]?=some c) (hcs1:cs[1]?=some cx) (ty:TypeId) :
 ∃ cv w',(Builtin.append_ ts ty cs).run P w=.ok cv w'∧fk p M H nx v δ cv w w':=by
 unfold nB at h
 cases ht:P.underlying t with
 | none=>rw[ht] at h;simp at h
 | some dt =>
   cases hu:P.underlying u with
   | none=>rw[ht,hu] at h;cases dt<;>simp at h
   | some du =>
     rw[ht,hu] at h
     cases dt<;>try (simp at h;done)
     rename_i e
     cases du<;>try (simp at h;done)
     rename_i e'
     simp only at h
     cases hi:P.info? e with
     | none=>rw[hi] at h;simp at h
     | some inf =>
       cases hm:mX s with
       | none=>rw[hi,hm] at h;simp at h
       | some m =>
         cases hn:mX x with
         | none=>rw[hi,hm,hn] at h;simp at h
         | some n =>
           rw[hi,hm,hn] at h
           simp only at h
           obtain ⟨a0,c0,rfl⟩:=om hm hs
           obtain ⟨ax,ccx,rfl⟩:=om hn hx
           have hsz:bR P e=some inf.size:=by simp[bR,hi]
           have hmc:m≤c0:=by cases hs<;>simp[mX] at hm<;>omega
           split at h
           · -- nothing is appended
             rename_i hn0
             subst hn0
             have hres:v=s∧δ=.bO:=by
              revert h
              cases s<;>simp<;>(intro h1 h2;exact ⟨h1.symm,h2.symm⟩)
             obtain ⟨rfl,rfl⟩:=hres
             refine ⟨_,w,?_,hs,dU.refl _ _⟩
             have hfc:(Builtin.firstCells inf.size 0 (.slice ax 0 ccx)).run P w=.ok #[] w:=by
              cases ax<;>simp[Builtin.firstCells,loadCells,loadCellsFrom]
             unfold Builtin.append_
             simp only[hts0,hts1,hcs0,hcs1,Sem.run_bind,run_underlying ht,run_underlying hu,Result.andThen,aS hsz,Sem.run_pure,fT,Nat.add_zero,hmc,if_true,Bool.not_false,hfc,Bool.false_eq_true,if_false]
             cases a0<;>simp[storeCells]
           · rename_i hn0
             split at h
             · rename_i hb
               obtain ⟨hb1,hb2,hb3,hb4⟩:=hb
               obtain ⟨z,hz1,hzl⟩:=Option.map_eq_some_iff.1 hb4
               cases hz0:dr P e with
               | none=>rw[hz0] at hz1;simp at hz1
               | some zv =>
                 rw[hz0] at hz1
                 simp only[Option.bind_some] at hz1
                 have hHd:bM p M H w.drew:=hH.Hj rfl
                 cases hnew:eM H inf.size n x with
                 | none=>rw[hnew] at h;simp at h
                 | some new =>
                   rw[hnew] at h
                   simp only at h
                   obtain ⟨ncs,n1,n2,n3,n4⟩:=gz (P:=P) hnew hx hHd
                   have stayd:dU (fun _=>True) w w.drew:=⟨rfl,rfl,rfl,Nat.le_refl _,fun _ _ _=>rfl⟩
                   -- a new row on the running activation's own level
                   have fresh:∀ (q:Row) (ocs:Array Value),(Builtin.firstCells inf.size m (.slice a0 m c0)).run P w.drew=.ok ocs w.drew→ocs.size=m*inf.size→q.len=(m+n)*inf.size →
                    (∀ ds:Nat→Value,(∀ j,j<(m+n)*inf.size→ds j=if j<ocs.size then ocs.getD j Go.undef else ncs.getD (j-ocs.size) Go.undef)→bh p M q ds)→c0<m+n →
                    ∃ cv w',(Builtin.append_ ts ty cs).run P w=.ok cv w'∧fk p M H nx (.slc 0 nx 0 0 inf.size (m+n) none) (.push (.row (rn sy q))) cv w w':=by
                    intro q ocs o1 o2 o3 o4 hg
                    obtain ⟨newCap,rest,r1,r2,r3⟩:=run_append_grow (ty:=ty) hts0 hts1 ht hu hi hz0 hz1 hzl hcs0 hcs1 (fT P ax n ccx w) hg hb1 hb2 o1 n1 o2 (by rw[n2,n3])
                    refine ⟨_,_,r3,sb (w0:=w.drew) (cs:=ocs++ncs++rest) ?_ ?_ r1 (fun q hq=>by simp at hq) (fun _=>by rw[r2]) stayd rfl⟩
                    · refine Cc sy (o4 _ (fun j hj=>?_))
                      have hadd:(m+n)*inf.size=m*inf.size+n*inf.size:=Nat.add_mul _ _ _
                      by_cases e1:j<ocs.size
                      · rw[if_pos e1]
                        simp only[Array.getD_eq_getD_getElem?]
                        rw[Array.append_assoc,Array.getElem?_append_left e1]
                      · rw[if_neg e1]
                        simp only[Array.getD_eq_getD_getElem?]
                        rw[Array.append_assoc,Array.getElem?_append_right (by omega),Array.getElem?_append_left (by omega)]
                    · rw[Cb,o3,r2]
                      exact Nat.mul_le_mul_right _ r1
                   have hadd:(m+n)*inf.size=m*inf.size+n*inf.size:=Nat.add_mul _ _ _
                   have joined:∀ (old:Row) (ocs:Array Value),ocs.size=m*inf.size→old.len=m*inf.size→bh p M old (fun j=>ocs.getD j Go.undef) →
                    ∀ ds:Nat→Value,(∀ j,j<(m+n)*inf.size→ds j=if j<ocs.size then ocs.getD j Go.undef else ncs.getD (j-ocs.size) Go.undef)→bh p M (old.app new) ds:=by
                    intro old ocs o1 o2 o3 ds hds
                    refine (o3.app n4).congr (fun j hj=>?_)
                    rw[Row.jd] at hj
                    rw[hds j (by omega),o1,o2]
                   cases hs with
                   | nils =>
                     have h:=Prod.mk.inj (Option.some.inj h)
                     obtain ⟨rfl,rfl⟩:=h
                     have:=fresh new #[] (by simp[Builtin.firstCells]) (by simp) (by rw[n3];simp) (fun ds hds=>n4.congr (fun j hj=>by have:=hds j (by omega);simpa using this)) (by omega)
                     simpa using this
                   | slcT vs h0 h1 hv hl hf hxx =>
                     rename_i s' r sz' b' o' x' full
                     cases full with
                     | false=>simp at h
                     | true =>
                       simp only at h
                       cases hold:eM H inf.size m (.slcT s' r sz' m true) with
                       | none=>rw[hold] at h;simp at h
                       | some old =>
                         rw[hold] at h
                         simp only[nP] at h
                         obtain ⟨rfl,rfl⟩:=h
                         obtain ⟨ocs,o1,o2,o3,o4⟩:=gz (P:=P) hold (ar.slcT vs h0 h1 hv hl hf hxx) hHd
                         have hcc:=hf rfl
                         exact fresh _ ocs o1 (by rw[o2,o3]) (by rw[Row.jd,o3,n3,hadd]) (joined old ocs (by rw[o2,o3]) o3 o4) (by omega)
                   | slcN =>
                     rename_i s' r sz' full
                     cases full with
                     | false=>simp at h
                     | true =>
                       simp only at h
                       cases hold:eM H inf.size 0 (.slcT s' r sz' 0 true) with
                       | none=>rw[hold] at h;simp at h
                       | some old =>
                         rw[hold] at h
                         simp only[nP] at h
                         obtain ⟨rfl,rfl⟩:=h
                         obtain ⟨ocs,o1,o2,o3,o4⟩:=gz (P:=P) hold (ar.slcN (p:=p) (M:=M)) hHd
                         have:=fresh _ ocs o1 (by rw[o2,o3]) (by rw[Row.jd,o3,n3,hadd]) (joined old ocs (by rw[o2,o3]) o3 o4) (by omega)
                         simpa using this
                   | slc hmu hl hc hnn hxx =>
                     rename_i d i v' off sz' b o tt x' cap
                     cases cap with
                     | some cp =>
                       simp only at h
                       have hcp:=hc cp rfl
                       split at h
                       · rename_i hlt
                         cases hold:eM H inf.size m (.slc d i v' off sz' m (some cp)) with
                         | none=>rw[hold] at h;simp at h
                         | some old =>
                           rw[hold] at h
                           simp only[nP] at h
                           obtain ⟨rfl,rfl⟩:=h
                           obtain ⟨ocs,o1,o2,o3,o4⟩:=gz (P:=P) hold (ar.slc hmu hl hc hnn hxx) hHd
                           exact fresh _ ocs o1 (by rw[o2,o3]) (by rw[Row.jd,o3,n3,hadd]) (joined old ocs (by rw[o2,o3]) o3 o4) (by omega)
                       · rename_i hnlt
                         split at h
                         · simp at h
                         · rename_i hlk
                           cases hr:eJ H d i v' with
                           | none=>rw[hr] at h;simp at h
                           | some r =>
                             rw[hr] at h
                             simp only at h
                             split at h
                             · rename_i hfit
                               obtain ⟨rfl,hfit⟩:=hfit
                               simp only[nP] at h
                               obtain ⟨rfl,rfl⟩:=h
                               have hxe:x'=o+off:=hxx.resolve_left (by omega)
                               subst hxe
                               obtain ⟨ncs',p1,p2,p3,p4⟩:=gz (P:=P) hnew hx hH
                               have hlen:(mz d new).len=n*inf.size:=by rw[fB,p3]
                               obtain ⟨w',q1,q2⟩:=xx hH (off:=off+m*inf.size) hr (by simpa using hlk) hmu (p4.mz (k:=d)) (by rw[fB];exact p2) (by rw[hlen];omega) P
                                (.slc d i v' off inf.size (m+n) (some cp)) (.slice (some ⟨b,o+off,none⟩) (m+n) c0) (.slc hmu (by omega) hc (fun e=>by simp at e) (.inr rfl))
                               refine ⟨_,w',?_,q2⟩
                               have hle:m+n≤c0:=by omega
                               unfold Builtin.append_
                               simp only[hts0,hts1,hcs0,hcs1,Sem.run_bind,run_underlying ht,run_underlying hu,Result.andThen,aS hsz,Sem.run_pure,fT,hle,if_true,Bool.not_false,p1,Bool.false_eq_true,if_false,eg]
                               rw[← Nat.add_assoc] at q1
                               rw[q1]
                             · simp at h
                     | none =>
                       simp only at h
                       split at h
                       · simp at h
                       · rename_i hlk
                         cases hr:eJ H d i v' with
                         | none=>rw[hr] at h;simp at h
                         | some r =>
                           rw[hr] at h
                           simp only at h
                           split at h
                           · rename_i hfit
                             obtain ⟨rfl,hfit⟩:=hfit
                             simp only[nP] at h
                             obtain ⟨rfl,rfl⟩:=h
                             obtain ⟨c,ee,k1,k2,k3,k4⟩:=mc hH hr hmu
                             have htt:=hnn rfl
                             have hsl:=Row.dM r off (m*inf.size) (by omega)
                             by_cases hle:m+n≤c0
                             · -- there is room behind it
                               have hxe:x'=o+off:=hxx.resolve_left (by omega)
                               subst hxe
                               obtain ⟨ncs',p1,p2,p3,p4⟩:=gz (P:=P) hnew hx hH
                               have h1:∀ v ∈ ncs'.toList,v.oneCell'=true:=by
                                intro y hy
                                obtain ⟨j,hj,rfl⟩:=List.getElem_of_mem hy
                                simp at hj
                                have:=(p4 j (by omega)).2
                                simpa[hj] using this
                               have hmul:(m+n)*inf.size≤c0*inf.size:=Nat.mul_le_mul_right _ hle
                               have hst:=run_storeCells_at (P:=P) b (o+off+m*inf.size) ee ncs'.toList 0 c w k1 (by simp;omega) h1
                               obtain ⟨cells,hcells⟩:∃ cells:Array Value,cells=(c.toList.take (o+off+m*inf.size+0)++ncs'.toList++c.toList.drop (o+off+m*inf.size+0+ncs'.toList.length)).toArray:=⟨_,rfl⟩
                               rw[← hcells] at hst
                               refine ⟨.slice (some ⟨b,o+off,none⟩) (m+n) c0,w.setRow b cells,?_,v',.row r,b,o,tt,b,o+off,tt,fS hr,by simp,by simpa using hlk,hmu,by simp,?_,p9 _ _ _,.inl rfl,
                                .slc (b:=b) (o:=o+off) (t:=tt) (by simp[bL]) hle (fun _ e=>by cases e) (fun _=>by omega) (.inr rfl),.inr (Nat.lt_succ_self _)⟩
                               · unfold Builtin.append_
                                 simp only[hts0,hts1,hcs0,hcs1,Sem.run_bind,run_underlying ht,run_underlying hu,Result.andThen,aS hsz,Sem.run_pure,fT,hle,if_true,Bool.not_false,p1,Bool.false_eq_true,if_false,eg]
                                 rw[hst]
                               · refine ⟨cells,ee,setRow_heap w b c _ ee _ k1,?_,?_,?_⟩
                                 · rw[hcells];simp;omega
                                 · rw[Row.jd,hsl,fB,p3];omega
                                 · have hap:=(k4.sub off (m*inf.size) (by omega)).app (p4.mz (k:=d))
                                   refine hap.congr (fun j hj=>?_)
                                   rw[Row.jd,hsl,fB,p3] at hj
                                   rw[hsl,hcells]
                                   have hlen:(c.toList.take (o+off+m*inf.size)).length=o+off+m*inf.size:=by simp;omega
                                   by_cases e1:j<m*inf.size
                                   · rw[if_pos e1]
                                     simp only[Nat.add_zero,Array.getD_eq_getD_getElem?,List.getElem?_toArray]
                                     rw[List.append_assoc,List.getElem?_append_left (by omega),List.getElem?_take_of_lt (by omega)]
                                     simp[Nat.add_assoc]
                                   · rw[if_neg e1]
                                     simp only[Nat.add_zero,Array.getD_eq_getD_getElem?,List.getElem?_toArray]
                                     rw[List.append_assoc,List.getElem?_append_right (by omega),List.getElem?_append_left (by simp;omega)]
                                     have:o+off+j-(List.take (o+off+m*inf.size) c.toList).length=j-m*inf.size:=by omega
                                     rw[this]
                                     simp
                             · -- it moves
                               obtain ⟨ocs,o1,o2,o3⟩:=Be (P:=P) (m:=m) (sz:=inf.size) hHd hr hmu hxx hmc (by omega)
                               obtain ⟨newCap,rest,r1,r2,r3⟩:=run_append_grow (ty:=ty) hts0 hts1 ht hu hi hz0 hz1 hzl hcs0 hcs1 (fT P ax n ccx w) (Nat.lt_of_not_le hle) hb1 hb2 o1 n1 o2 (by rw[n2,n3])
                               have hal:dU (fun _=>True) w (w.drew.alloc (.cells (ocs++ncs++rest) e)) :=
                                ⟨rfl,rfl,rfl,by simp,fun b hb _=>Go.RowKit.Below.heap_alloc w.drew _ b hb⟩
                               refine ⟨_,_,r3,v',.row r,b,o,tt,w.heap.size,0,(ocs++ncs++rest).size,fS hr,by simp,by simpa using hlk,hmu,by simp,?_,hal.weaken (fun _ _ _=>trivial),.inr (Nat.le_refl _),
                                .slc (b:=w.heap.size) (o:=0) (t:=(ocs++ncs++rest).size) (by simp[bL]) r1 (fun _ e=>by cases e) (fun _=>by rw[r2];omega) (.inr rfl),.inr (Nat.lt_succ_self _)⟩
                               have hbr:gb p (M.up d) (.row ((r.sub off (m*inf.size)).app (mz d new))) w.drew.heap.size 0 (ocs++ncs++rest).size (w.drew.alloc (.cells (ocs++ncs++rest) e)):=by
                                refine mO ?_ ?_
                                · refine (o3.app (n4.mz (k:=d))).congr (fun j hj=>?_)
                                  rw[Row.jd,hsl,fB,n3] at hj
                                  rw[hsl]
                                  by_cases e1:j<m*inf.size
                                  · rw[if_pos e1]
                                    simp only[Array.getD_eq_getD_getElem?]
                                    rw[Array.append_assoc,Array.getElem?_append_left (by omega)]
                                  · rw[if_neg e1]
                                    simp only[Array.getD_eq_getD_getElem?]
                                    rw[Array.append_assoc,Array.getElem?_append_right (by omega),Array.getElem?_append_left (by omega),o2]
                                · rw[Row.jd,hsl,fB,n3,r2,← Nat.add_mul]
                                  exact Nat.mul_le_mul_right _ r1
                               exact hbr
                           · simp at h
                   | _=>simp at h
             · simp at h

theorem BY       {P:Program} {H:ae} {t:TypeId} {s x v:AV} {δ:Delta} (h:copyV P H t s x=some (v,δ)) {p:aX} {M:Mu} {c cx:Value} (hs:ar p M s c) (hx:ar p M x cx) {w:World} (hH:bM p M H w)
 {ts:Array TypeId} {cs:Array Value} (hts0:ts[0]?=some t) (hcs0:cs[0]?=some c) (hcs1:cs[1]?=some cx) (ty:TypeId) :
 ∃ cv w',(Builtin.copy_ ts ty cs).run P w=.ok cv w'∧fk p M H nx v δ cv w w':=by
 unfold copyV at h
 cases ht:P.underlying t with
 | none=>rw[ht] at h;simp at h
 | some dt =>
   rw[ht] at h
   cases dt<;>try (simp at h;done)
   rename_i e
   simp only at h
   cases hz:bR P e with
   | none=>rw[hz] at h;simp at h
   | some z =>
     cases hm:mX s with
     | none=>rw[hz,hm] at h;simp at h
     | some m =>
       cases hn:mX x with
       | none=>rw[hz,hm,hn] at h;simp at h
       | some n =>
         rw[hz,hm,hn] at h
         simp only at h
         obtain ⟨a0,c0,rfl⟩:=om hm hs
         obtain ⟨ax,ccx,rfl⟩:=om hn hx
         cases hnew:eM H z (min n m) x with
         | none=>rw[hnew] at h;simp at h
         | some new =>
           rw[hnew] at h
           simp only at h
           obtain ⟨ncs,n1,n2,n3,n4⟩:=gz (P:=P) hnew hx hH
           have hnm:Nat.min n m=min n m:=rfl
           have hfin:∀ w',(match a0 with | some a=>storeCells a ncs.toList | none=>pure ():Sem Unit).run P w=.ok () w'→(Builtin.copy_ ts ty cs).run P w=.ok (.int .i64 (min n m:Nat)) w':=by
            intro w' hw'
            unfold Builtin.copy_
            simp only[hts0,hcs0,hcs1,Sem.run_bind,run_underlying ht,Result.andThen,aS hz,Sem.run_pure,fT,hnm,n1,goInt]
            cases a0 with
            | none=>simp only[Sem.run_pure,Result.ok.injEq,true_and] at hw' ⊢;subst hw';simp
            | some a=>simp only at hw' ⊢;simp only[Sem.run_bind,hw',Result.andThen,Sem.run_pure]
           cases hs with
           | nils =>
             simp only[nP] at h
             obtain ⟨rfl,rfl⟩:=h
             exact ⟨_,w,hfin w rfl,.int _ _,dU.refl _ _⟩
           | slc hmu hl hc hnn hxx =>
             rename_i d i v' off sz b o tt x' cap
             simp only at h
             split at h
             · simp at h
             · rename_i hlk
               cases hr:eJ H d i v' with
               | none=>rw[hr] at h;simp at h
               | some r =>
                 rw[hr] at h
                 simp only at h
                 split at h
                 · rename_i hfit
                   obtain ⟨rfl,hfit⟩:=hfit
                   simp only[nP] at h
                   obtain ⟨rfl,rfl⟩:=h
                   obtain ⟨w',q1,q2⟩:=ue hH (off:=off) hr (by simpa using hlk) hmu (n4.mz (k:=d)) (by rw[fB];exact n2) (by rw[fB,n3];exact hfit) P (.int .i64 (min n m:Nat)) (.int .i64 (min n m:Nat)) (.int _ _)
                   by_cases h0:c0=0
                   · -- nothing to copy into
                     subst h0
                     have hm0:m=0:=by omega
                     subst hm0
                     have hn0:ncs=#[]:=by apply Array.eq_empty_of_size_eq_zero;rw[n2,n3];simp
                     subst hn0
                     simp only[storeCells,Sem.run_pure,Result.ok.injEq,true_and] at q1
                     subst q1
                     exact ⟨_,w,hfin w (by simp[storeCells]),by simpa using q2⟩
                   · have hxe:x'=o+off:=hxx.resolve_left h0
                     subst hxe
                     exact ⟨_,w',hfin w' (by simpa using q1),by simpa using q2⟩
                 · simp at h
           | _=>simp at h

theorem AJ        {P:Program} {H:ae} {t:TypeId} {s v:AV} {δ:Delta} (h:qU P H t s=some (v,δ)) {p:aX} {M:Mu} {c:Value} (hs:ar p M s c) {w:World} (hH:bM p M H w)
 {ts:Array TypeId} {cs:Array Value} (hts0:ts[0]?=some t) (hcs0:cs[0]?=some c) (ty:TypeId) :
 ∃ cv w',(Builtin.clear_ ts ty cs).run P w=.ok cv w'∧fk p M H nx v δ cv w w':=by
 unfold qU at h
 cases ht:P.underlying t with
 | none=>rw[ht] at h;simp at h
 | some dt =>
   rw[ht] at h
   cases dt<;>try (simp at h;done)
   rename_i e
   have hnil:∀ {M':Mu},ar p M' (.tup []) (.tuple #[]):=.tup rfl (fun j hj=>absurd hj (by simp))
   cases hs with
   | nils =>
     simp only[nP] at h
     obtain ⟨rfl,rfl⟩:=h
     exact ⟨_,w,by unfold Builtin.clear_;simp[hts0,hcs0,Sem.run_bind,run_underlying ht,Result.andThen],hnil,dU.refl _ _⟩
   | slc hmu hl hc hnn hxx =>
     rename_i d i v' off sz len b o tt x' cc cap
     simp only at h
     split at h
     · simp at h
     · rename_i hlk
       cases hz1:(dr P e).bind AV.row with
       | none=>rw[hz1] at h;simp at h
       | some z =>
         cases hr:eJ H d i v' with
         | none=>rw[hz1,hr] at h;simp at h
         | some r =>
           rw[hz1,hr] at h
           simp only at h
           split at h
           · rename_i hb
             obtain ⟨hb1,hb2,hb3⟩:=hb
             simp only[nP] at h
             obtain ⟨rfl,rfl⟩:=h
             by_cases h0:len=0
             · subst h0
               rw[if_pos rfl]
               exact ⟨_,w,by unfold Builtin.clear_;simp[hts0,hcs0,Sem.run_bind,run_underlying ht,Result.andThen],hnil,dU.refl _ _⟩
             · rw [if_neg h0]
               have hxe:x'=o+off:=hxx.resolve_left (by omega)
               subst hxe
               cases hz0:dr P e with
               | none=>rw[hz0] at hz1;simp at hz1
               | some zv =>
                 rw[hz0] at hz1
                 simp only[Option.bind_some] at hz1
                 obtain ⟨cz,hcz,hrz⟩:=dT hz0
                 have hv:=AV.js (p:=p) (M:=M.up d) (hcz ▸ dV p (M.up d) cz) hz1
                 have hz0':=sI (wE r) hv.1 hv.2 len
                 generalize hzz:(if wE r=true then dL z len else ef z len)=zz at hz0'
                 have hz':=hz0'
                 have hzs:(Builtin.zeroCells cz.cells len).size=zz.len:=by rw[ja,hv.1,hz'.1]
                 have hzr:bh p (M.up d) zz (fun j=>(Builtin.zeroCells cz.cells len).getD j Go.undef):=by
                  refine hz'.2 _ (by rw[ja,hv.1]) (fun j hj=>?_)
                  unfold Builtin.zeroCells
                  rw[hv.1]
                  rw[← hv.1,run_range_map cz.cells _ j (by rw[hv.1];exact hj),oY]
                  exact Nat.mod_lt _ (by rw[hv.1];exact Nat.pos_of_ne_zero (fun e=>by rw[e] at hj;simp at hj))
                 have hrow:(if wE r=true then Eng.jD r off (dL z len) else r.cR off (ef z len).toList)=(if wE r=true then Eng.jD r off zz else r.cR off zz.toList):=by
                  rw[← hzz]
                  cases wE r<;>rfl
                 obtain ⟨w',q1,q2⟩:=po (nx:=nx) hH (off:=off) hr (by simpa using hlk) hmu hzr hzs (by rw[hz'.1,hb1];exact hb3) P (.tup []) (.tuple #[]) hnil (if wE r=true then Eng.jD r off zz else r.cR off zz.toList) (fun vs h=>by
                  cases wE r with
                  | true=>exact h.jD hzr off (by rw[hz'.1,hb1];exact hb3)
                  | false =>
                    refine ⟨Row.iY _ _ _,?_⟩
                    have:=bh.cR zz.toList off (fun j=>(Builtin.zeroCells cz.cells len).getD j Go.undef) h (fun i hi=>hzr.list i hi)
                    rw[Row.bC] at this
                    exact this)
                 rw[← hrow] at q2
                 refine ⟨_,w',?_,q2⟩
                 unfold Builtin.clear_
                 obtain ⟨len',rfl⟩:∃ q,len=q+1:=⟨len-1,by omega⟩
                 simp[hts0,hcs0,Sem.run_bind,run_underlying ht,Result.andThen,hrz,q1]
           · simp at h
   | _=>simp at h

end Go.Eng
end
section
namespace Go.Eng
variable {nx:Nat}
set_option linter.unusedVariables false
set_option linter.unusedSimpArgs false

theorem fU:∀ (a b:List Int),fo a b=decide (a=b)
 | [],[]=>rfl
 | [],_::_=>rfl
 | _::_,[]=>rfl
 | x::a,y::b=>by
   simp only[fo,fU a b]
   by_cases e1:x=y<;>by_cases e2:a=b<;>simp[e1,e2]

def vt (P:Program) (t:TypeId) (k:IntKind) (l:List Int):Value:=if fv P t=some true then .agg (l.map (.int k)).toArray else .int k (l.getD 0 0)

theorem ko {P:Program} {n:Nat} {t:TypeId} {s:Nat} (h:cE P n t=some s):bR P t=some s∧∃ g,fv P t=some g∧(g=false→s=1):=by
 cases n with
 | zero=>simp[cE] at h
 | succ n =>
   simp only[cE] at h
   cases hu:P.underlying t with
   | none=>rw[hu] at h;simp at h
   | some d =>
     rw[hu] at h
     cases d<;>try (simp at h;done)
     case int k =>
      simp only at h
      split at h
      · rename_i hs
        simp only[Option.some.injEq] at h
        subst h
        exact ⟨hs,false,by simp[fv,hu],fun _=>rfl⟩
      · simp at h
     case array len e =>
      simp only at h
      cases hf:cE P n e with
      | none=>rw[hf] at h;simp at h
      | some q =>
        rw[hf] at h
        simp only at h
        split at h
        · rename_i hs
          simp only[Option.some.injEq] at h
          subst h
          exact ⟨hs,true,by simp[fv,hu],fun e=>by simp at e⟩
        · simp at h
     case struct fs =>
      simp only at h
      split at h
      · simp at h
      · cases hf:gf P (cE P n) 0 fs.toList with
        | none=>rw[hf] at h;simp at h
        | some q =>
          rw[hf] at h
          simp only at h
          split at h
          · rename_i hs
            simp only[Option.some.injEq] at h
            subst h
            exact ⟨hs,true,by simp[fv,hu],fun e=>by simp at e⟩
          · simp at h

theorem iH {P:Program} {n:Nat} {e:TypeId} {s off:Nat} {k:IntKind} {xs:List Int} (h:cE P n e=some s) (hl:off+s≤xs.length) (w:World) :
 (part e (xs.map (Value.int k)).toArray off).run P w=.ok (vt P e k ((xs.drop off).take s)) w:=by
 obtain ⟨hs,g,hg,h1⟩:=ko h
 unfold part vt
 cases g with
 | true =>
   simp only[Sem.run_bind,fg hg,Result.andThen,if_true,aS hs,Sem.run_pure,hg]
   congr 2
   apply Array.ext'
   simp[List.map_take,List.map_drop]
 | false =>
   have:=h1 rfl
   subst this
   have hlt:off<xs.length:=by omega
   simp[Sem.run_bind,fg hg,Result.andThen,hg,hlt,List.getElem?_eq_getElem hlt]

theorem km (xs:List Int) (off s:Nat):xs.drop off=(xs.drop off).take s++xs.drop (off+s):=by
 rw[← List.drop_drop,List.take_append_drop]

theorem mA {P:Program} {n d:Nat} {k:IntKind} (ih:∀ (t:TypeId) (s:Nat),cE P n t=some s→∀ (xs ys:List Int),xs.length=s→ys.length=s→∀ w,(Op.equalIn d t (vt P t k xs) (vt P t k ys)).run P w=.ok (fo xs ys) w) :
 ∀ (fs:List Field) (off total:Nat) (xs ys:List Int),gf P (cE P n) off fs=some total→xs.length=total→ys.length=total→off≤total ∧
  ∀ w,(Op.eqFields d (xs.map (Value.int k)).toArray (ys.map (Value.int k)).toArray fs).run P w=.ok (decide (xs.drop off=ys.drop off)) w
 | [],off,total,xs,ys,h,hx,hy=>by
   simp only[gf,Option.some.injEq] at h
   subst h
   refine ⟨Nat.le_refl _,fun w=>?_⟩
   simp only[Op.eqFields,Sem.run_pure]
   rw[List.drop_eq_nil_of_le (by omega),List.drop_eq_nil_of_le (by omega)]
   simp
 | f :: fs,off,total,xs,ys,h,hx,hy=>by
   simp only[gf] at h
   split at h
   · rename_i hf
     simp only[Bool.and_eq_true,bne_iff_ne,ne_eq,Nat.beq_eq] at hf
     obtain ⟨hne,hoff⟩:=hf
     cases hs:cE P n f.type with
     | none=>rw[hs] at h;simp at h
     | some s =>
       rw[hs] at h
       simp only at h
       obtain ⟨hle,hrun⟩:=mA ih fs (off+s) total xs ys h hx hy
       refine ⟨by omega,fun w=>?_⟩
       have hlx:((xs.drop off).take s).length=s:=by simp;omega
       have hly:((ys.drop off).take s).length=s:=by simp;omega
       simp only[Op.eqFields,hne,ne_eq,not_false_eq_true,if_true,Sem.run_bind,hoff,iH hs (show off+s≤xs.length by omega),iH hs (show off+s≤ys.length by omega),Result.andThen,
        ih f.type s hs _ _ hlx hly,fU]
       by_cases e:(xs.drop off).take s=(ys.drop off).take s
       · simp only[e,decide_true,Bool.not_true,Bool.false_eq_true,if_false,hrun]
         congr 2
         rw[km xs off s,km ys off s,e]
         simp
       · simp only[e,decide_false,Bool.not_false,if_true,Sem.run_pure]
         congr 1
         symm
         rw[decide_eq_false_iff_not]
         intro e2
         exact e (by rw[e2])
   · simp at h

theorem nI {P:Program} {n d:Nat} {k:IntKind} {e:TypeId} {s:Nat} (hs:cE P n e=some s) (ih:∀ (t:TypeId) (s:Nat),cE P n t=some s→∀ (xs ys:List Int),xs.length=s→ys.length=s→∀ w,(Op.equalIn d t (vt P t k xs) (vt P t k ys)).run P w=.ok (fo xs ys) w) :
 ∀ (m i:Nat) (xs ys:List Int),xs.length=(i+m)*s→ys.length=(i+m)*s →
  ∀ w,(Op.eqItems d e s (xs.map (Value.int k)).toArray (ys.map (Value.int k)).toArray (List.range' i m)).run P w=.ok (decide (xs.drop (i*s)=ys.drop (i*s))) w
 | 0,i,xs,ys,hx,hy,w=>by
   simp only[List.range'_zero,Op.eqItems,Sem.run_pure]
   rw[List.drop_eq_nil_of_le (by simp at hx;omega),List.drop_eq_nil_of_le (by simp at hy;omega)]
   simp
 | m + 1,i,xs,ys,hx,hy,w=>by
   have hrun:=nI hs ih m (i+1) xs ys (by rw[hx];congr 1;omega) (by rw[hy];congr 1;omega)
   have hmul:(i+(m+1))*s=i*s+s+m*s:=by rw[Nat.add_mul,Nat.add_mul];omega
   have hlx:((xs.drop (i*s)).take s).length=s:=by simp;omega
   have hly:((ys.drop (i*s)).take s).length=s:=by simp;omega
   simp only[List.range'_succ,Op.eqItems,Sem.run_bind,iH hs (show i*s+s≤xs.length by omega),iH hs (show i*s+s≤ys.length by omega),Result.andThen,ih e s hs _ _ hlx hly,fU]
   have hi:(i+1)*s=i*s+s:=by rw[Nat.add_mul];omega
   rw[hi] at hrun
   by_cases e1:(xs.drop (i*s)).take s=(ys.drop (i*s)).take s
   · simp only[e1,decide_true,Bool.not_true,Bool.false_eq_true,if_false,hrun]
     congr 2
     rw[km xs (i*s) s,km ys (i*s) s,e1]
     simp
   · simp only[e1,decide_false,Bool.not_false,if_true,Sem.run_pure]
     congr 1
     symm
     rw[decide_eq_false_iff_not]
     intro e2
     exact e1 (by rw[e2])

theorem qo {P:Program} {k:IntKind}:∀ (n:Nat) (t:TypeId) (s:Nat),cE P n t=some s→∀ d,n≤d→∀ (xs ys:List Int),xs.length=s→ys.length=s→∀ w,
 (Op.equalIn d t (vt P t k xs) (vt P t k ys)).run P w=.ok (fo xs ys) w
 | 0,t,s,h=>by simp[cE] at h
 | n + 1, t,s,h=>by
   intro d hd xs ys hx hy w
   obtain ⟨d,rfl⟩:∃ q,d=q+1:=⟨d-1,by omega⟩
   have hsz:=ko h
   have ih:=fun t s h=>qo (P:=P) (k:=k) n t s h d (by omega)
   simp only[cE] at h
   cases hu:P.underlying t with
   | none=>rw[hu] at h;simp at h
   | some dd =>
     rw[hu] at h
     cases dd<;>try (simp at h;done)
     case int k' =>
      have hag:fv P t=some false:=by simp[fv,hu]
      simp only at h
      split at h
      · simp only[Option.some.injEq] at h
        subst h
        simp only[vt,hag,Option.some.injEq,Bool.false_eq_true,if_false]
        rw[run_equalIn_int w d t k k' _ _ hu]
        obtain ⟨x,rfl⟩:∃ x,xs=[x]:=List.length_eq_one_iff.1 hx
        obtain ⟨y,rfl⟩:∃ y,ys=[y]:=List.length_eq_one_iff.1 hy
        simp[fo]
      · simp at h
     case array len e =>
      have hag:fv P t=some true:=by simp[fv,hu]
      simp only at h
      cases hf:cE P n e with
      | none=>rw[hf] at h;simp at h
      | some q =>
        rw[hf] at h
        simp only at h
        split at h
        · simp only[Option.some.injEq] at h
          subst h
          simp only[vt,hag,if_true]
          have hse:=(ko hf).1
          cases hi:P.info? e with
          | none=>simp[bR,hi] at hse
          | some inf =>
            have hq:inf.size=q:=by simpa[bR,hi] using hse
            rw[run_equalIn_array w d _ _ hu hi]
            have hce:P.cellsOf e=q:=by simp[Program.cellsOf,hi,hq]
            rw[hce,List.range_eq_range',nI hf ih len 0 xs ys (by simpa using hx) (by simpa using hy) w,fU]
            simp
        · simp at h
     case struct fs =>
      have hag:fv P t=some true:=by simp[fv,hu]
      simp only at h
      split at h
      · simp at h
      · rename_i hst
        cases hf:gf P (cE P n) 0 fs.toList with
        | none=>rw[hf] at h;simp at h
        | some q =>
          rw[hf] at h
          simp only at h
          split at h
          · simp only[Option.some.injEq] at h
            subst h
            simp only[vt,hag,if_true]
            have hfo:P.fieldsOf t=fs:=by simp[Program.fieldsOf,hu]
            rw[run_equalIn_struct w d t _ _ (by rw[hfo];exact hu) (by simpa using hst),hfo,(mA ih fs.toList 0 _ xs ys hf hx hy).2 w,fU]
            simp
          · simp at h

theorem wk {P:Program} {n d:Nat} (ih:∀ (t:TypeId) (s:Nat),cE P n t=some s→P.eqGuardType d t=false):∀ (fs:List Field) (off total:Nat),gf P (cE P n) off fs=some total→fs.any (fun f=>f.name != "_" && P.eqGuardType d f.type)=false
 | [],_,_,_=>rfl
 | f :: fs,off,total,h=>by
   simp only[gf] at h
   split at h
   · cases hs:cE P n f.type with
     | none=>rw[hs] at h;simp at h
     | some s =>
       rw[hs] at h
       simp only at h
       rw[List.any_cons,wk ih fs _ _ h,ih _ _ hs]
       simp
   · simp at h
theorem mU {P:Program}:∀ (n:Nat) (t:TypeId) (s:Nat),cE P n t=some s→∀ d,n≤d→P.eqGuardType d t=false
 | 0,t,s,h=>by simp[cE] at h
 | n + 1, t,s,h=>by
   intro d hd
   obtain ⟨d,rfl⟩:∃ q,d=q+1:=⟨d-1,by omega⟩
   have ih:=fun t s h=>mU (P:=P) n t s h d (by omega)
   simp only[cE] at h
   cases hu:P.underlying t with
   | none=>rw[hu] at h;simp at h
   | some dd =>
     rw[hu] at h
     unfold Program.eqGuardType
     rw[hu]
     cases dd<;>try (simp at h;done)
     case int=>rfl
     case array len e =>
      simp only at h ⊢
      cases hf:cE P n e with
      | none=>rw[hf] at h;simp at h
      | some q=>exact ih e q hf
     case struct fs =>
      simp only at h ⊢
      split at h
      · simp at h
      · cases hf:gf P (cE P n) 0 fs.toList with
        | none=>rw[hf] at h;simp at h
        | some q =>
          have:=wk ih fs.toList 0 q hf
          simpa using this

theorem jJ {p:aX} {M:Mu} {k:IntKind} {l:List Int} {c:Value} (h:ar p M (.agg (.I k l)) c):c=.agg (l.map (Value.int k)).toArray:=by
 cases h with
 | agg hs h1 hv =>
   rename_i cs
   congr 1
   apply Array.ext
   · simp[hs,Row.len]
   · intro i h1 h2
     have hi:i<l.length:=by simpa using h2
     have:=(hv i (by simpa[Row.len] using hi)).ofInt
     simp[hi] at this ⊢
     simpa[h1] using this

theorem vK (z z':Nat→Int):∀ n,allEq z z' n=((List.range n).map z == (List.range n).map z')
 | 0=>rfl
 | n + 1=>by
   rw[allEq,vK z z' n,List.range_succ,List.map_append,List.map_append]
   rw[Bool.eq_iff_iff]
   simp only[Bool.and_eq_true,beq_iff_eq,List.map_cons,List.map_nil]
   constructor
   · rintro ⟨h1,h2⟩;rw[h1,h2]
   · intro h
     have hl:((List.range n).map z).length=((List.range n).map z').length:=by simp
     obtain ⟨h1,h2⟩:=List.append_inj h hl
     exact ⟨h1,by simpa using h2⟩
theorem yV {p:aX} {M:Mu} {r:Row} {k:IntKind} {z:Nat→Int} {c:Value} (hi:r.ints=some (k,z)) (h:ar p M (.agg r) c):ar p M (.agg (.I k ((List.range r.len).map z))) c:=by
 cases h with
 | agg hs h1 hv =>
   refine .agg (by simpa[Row.len] using hs) (fun j hj=>h1 j (by simpa[Row.len] using hj)) (fun j hj=>?_)
   have hj':j<r.len:=by simpa[Row.len] using hj
   have:=hv j hj'
   rw[Row.o8 hi j hj'] at this
   have e:Row.get (.I k ((List.range r.len).map z)) j=.int k (z j):=by simp[Row.get,hj']
   rw[e]
   exact this.bZ _ _
theorem zn {P:Program} {t:TypeId} {x y:AV} {r:Bool} (h:xT P t x y=some r) {p:aX} {M:Mu} {cx cy:Value} (hx:ar p M x cx) (hy:ar p M y cy) (op:BinOp) (ox oy:Operand) (w:World) :
 (Op.equal t cx cy).run P w=.ok r w∧(eqGuard op t ox oy cx cy).run P w=.ok () w:=by
 have noguard:∀ a b,(∀ u v,¬ (a=Value.agg u∧b=Value.agg v))→¬ (a=.nilIface∧b=.nilIface)→(eqGuard op t ox oy a b).run P w=.ok () w:=by
  intro a b h1 h2
  cases a<;>cases b<;>first | exact (h1 _ _ ⟨rfl,rfl⟩).elim | exact (h2 ⟨rfl,rfl⟩).elim | (cases op<;>rfl)
 have heq:∀ a b,Op.equal t a b=Op.equalIn (9999+1) t a b:=fun _ _=>rfl
 have rows:∀ a b:Row,IA P t a b=some r→ar p M (.agg a) cx→ar p M (.agg b) cy→(Op.equal t cx cy).run P w=.ok r w∧(eqGuard op t ox oy cx cy).run P w=.ok () w:=by
  intro a b h hx hy
  unfold IA at h
  split at h
  · rename_i k z k' z' ha hb
    split at h
    · rename_i hc
      obtain ⟨rfl,hf,hag,hlen⟩:=hc
      simp only[Option.some.injEq] at h
      subst h
      have e1:=jJ (yV ha hx)
      have e2:=jJ (yV hb hy)
      subst e1;subst e2
      have:=qo (P:=P) (k:=k) 20 t a.len hf 10000 (by omega) ((List.range a.len).map z) ((List.range b.len).map z') (by simp) (by simp[hlen]) w
      simp only[vt,hag,if_true] at this
      rw[fU] at this
      rw[vK,show ((List.range a.len).map z == (List.range a.len).map z')=decide ((List.range a.len).map z=(List.range a.len).map z') from by rw[Bool.eq_iff_iff];simp]
      refine ⟨by rw[heq];rw[← hlen] at this ⊢;exact this,?_⟩
      have hg:=mU 20 t _ hf P.depth (by unfold Program.depth Made.depth;omega)
      cases op<;>first | rfl | simp[eqGuard,Sem.run_bind,Result.andThen,hg]
    · simp at h
  · simp at h
 unfold xT at h
 split at h
 · -- bools
   cases hx;cases hy
   split at h
   · rename_i hu
     simp only[Option.some.injEq] at h
     subst h
     exact ⟨run_equalIn_bool w 9999 t _ _ hu,noguard _ _ (by simp) (by simp)⟩
   · simp at h
 case h_12 =>
  rename_i k a k' b
  split at h
  · rename_i hc
    obtain ⟨rfl,hf,hag,hlen⟩:=hc
    simp only[Option.some.injEq] at h
    subst h
    have e1:=jJ hx
    have e2:=jJ hy
    subst e1;subst e2
    have:=qo (P:=P) (k:=k) 20 t a.length hf 10000 (by omega) a b rfl hlen.symm w
    simp only[vt,hag,if_true] at this
    refine ⟨this,?_⟩
    have hg:=mU 20 t _ hf P.depth (by unfold Program.depth Made.depth;omega)
    cases op<;>first | rfl | simp[eqGuard,Sem.run_bind,Result.andThen,hg]
  · simp at h
 case h_13=>exact rows _ _ h hx hy
 case h_14=>exact rows _ _ h hx hy
 case h_15=>simp at h
 case h_3 =>
  split at h
  · rename_i hu
    dsimp only at h
    split at h
    · simp only[Option.some.injEq] at h
      subst h
      cases hx<;>cases hy<;>first | omega | exact ⟨by rw[heq,Op.equalIn];simp[Sem.run_bind,run_underlying hu,Result.andThen],noguard _ _ (by simp) (by simp)⟩
    · simp at h
  · simp at h
 case h_5 =>
  split at h
  · rename_i hu
    dsimp only at h
    split at h
    · simp only[Option.some.injEq] at h
      subst h
      cases hx<;>cases hy<;>first | omega | exact ⟨by rw[heq,Op.equalIn];simp[Sem.run_bind,run_underlying hu,Result.andThen],noguard _ _ (by simp) (by simp)⟩
    · simp at h
  · simp at h
 all_goals
  split at h
  · rename_i hu
    simp only[Option.some.injEq] at h
    subst h
    cases hx<;>cases hy<;>exact ⟨by rw[heq,Op.equalIn];simp[Sem.run_bind,run_underlying hu,Result.andThen],noguard _ _ (by simp) (by simp)⟩
  · simp at h

theorem BP {P:Program} {op:BinOp} {t:TypeId} {x y v:AV} (h:jM P op t x y=some v) {p:aX} {M:Mu} {cx cy:Value} (hx:ar p M x cx) (hy:ar p M y cy) (ox oy:Operand) (w:World) :
 ∃ c,(do eqGuard op t ox oy cx cy;binOp op t cx cy:Sem Value).run P w=.ok c w∧ar p M v c:=by
 unfold jM at h
 split at h
 · cases hx;cases hy
   split at h
   · simp at h
   · rename_i hb
     simp only[Option.some.injEq] at h
     subst h
     exact ⟨_,by simp[eqGuard_at_int,binOp,Op.shift,hb],.int _ _⟩
 · cases hx;cases hy
   split at h
   · simp at h
   · rename_i hb
     simp only[Option.some.injEq] at h
     subst h
     exact ⟨_,by simp[eqGuard_at_int,binOp,Op.shift,hb],.int _ _⟩
 · rename_i h1 h2
   cases hx;cases hy
   split at h
   · rename_i k a k' b hk
     subst hk
     obtain ⟨c,k1,k2⟩:=yn (P:=P) h (fun e=>h1 e) (fun e=>h2 e) p M t w
     exact ⟨c,by simp[eqGuard_at_int,k1],k2⟩
   · simp at h
 · obtain ⟨r,hr,rfl⟩:=Option.map_eq_some_iff.1 h
   obtain ⟨e1,e2⟩:=zn hr hx hy .eql ox oy w
   refine ⟨.bool r,?_,.bool _⟩
   simp only[Sem.run_bind,e2,Result.andThen]
   rename_i h3 _
   cases hx<;>cases hy<;>simp[binOp,Sem.run_bind,e1,Result.andThen]<;>simp[xT] at hr
 · obtain ⟨r,hr,rfl⟩:=Option.map_eq_some_iff.1 h
   obtain ⟨e1,e2⟩:=zn hr hx hy .neq ox oy w
   refine ⟨.bool (!r),?_,.bool _⟩
   simp only[Sem.run_bind,e2,Result.andThen]
   cases hx<;>cases hy<;>simp[binOp,Sem.run_bind,e1,Result.andThen]<;>simp[xT] at hr
 · simp at h

end Go.Eng
end
