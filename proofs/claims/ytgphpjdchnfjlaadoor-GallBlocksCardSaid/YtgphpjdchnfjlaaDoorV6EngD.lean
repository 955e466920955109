/- The engine, part D: append, copy, clear. -/
import Derived.Test.YtgphpjdchnfjlaaDoorV6EngC
set_option linter.unusedVariables false
set_option linter.unusedSimpArgs false
namespace Go.Eng
variable {nx:Nat}

theorem Ek {P:Program} {p:aF} {M:Mu} {H:ab} {w:World} (hH:bj p M H w) {d i v off sz m b o t x cc:Nat} {r:Row} (hr:dg H d i v=some r) (hm:M d i v=some (b,o,t))
 (hx:cc=0∨x=o+off) (hmc:m≤cc) (hfit:off+m*sz≤r.len) :
 ∃ cs,(Builtin.firstCells sz m (.slice (some ⟨b,x,none⟩) m cc)).run P w=.ok cs w∧cs.size=m*sz∧bg p (M.up d) (r.sub off (m*sz)) (fun j=>cs.getD j Go.undef):=by
 obtain ⟨c,e,k1,k2,k3,k4⟩:=mS hH hr hm
 have hsub:=k4.sub off (m*sz) hfit
 have hsl:=Row.dp r off (m*sz) hfit
 by_cases hz:m=0
 · subst hz
   simp only[Nat.zero_mul] at hsl ⊢
   exact ⟨#[],by simp[Builtin.firstCells,loadCells,loadCellsFrom],rfl,fun j hj=>absurd hj (by rw[hsl];omega)⟩
 · have hxx:x=o+off:=hx.resolve_left wO
   subst hxx
   have hl:=run_loadCells (P:=P) w ⟨b,o+off,none⟩ (m*sz) (fun j=>c.getD (o+(off+j)) Go.undef) (fun j hj=>by
    rw[dU];simp only[World.cell?,k1];have:o+(off+j)<c.size:=by omega
    rw[Nat.add_assoc];simp[this])
   refine ⟨_,by simp only[Builtin.firstCells];exact hl,by simp,hsub.congr (fun j hj=>?_)⟩
   rw[hsl] at hj
   simp[hj]

theorem fX (z:Array Value) (n:Nat):(Builtin.zeroCells z n).size=n*z.size:=by simp[Builtin.zeroCells]

theorem HP {P:Program} {t:TypeId} {x:AV} {n:Int} (h:Lm P t x=some n) {p:aF} {M:Mu} {c:Value} (hx:al p M x c) {w:World} {ts:Array TypeId} {cs:Array Value} (hts:ts[0]?=some t) (hcs:cs[0]?=some c) (ty:TypeId) :
 (Builtin.cap_ ts ty cs).run P w=.ok (.int .i64 n) w:=by
 unfold Lm at h
 cases ht:P.underlying t with
 | none=>rw[ht] at h;simp at h
 | some dt =>
   rw[ht] at h
   cases dt<;>try (simp at h;done)
   cases hx<;>try (simp at h;done)
   · simp only[Option.some.injEq] at h
     subst h
     unfold Builtin.cap_
     simp[hts,hcs,Sem.run_bind,run_underlying ht,Result.andThen,goInt]
   · rename_i cap _ hc _ _ _
     cases cap with
     | none=>simp at h
     | some cp =>
       simp only[Option.some.injEq] at h
       subst h
       have:=hc cp rfl
       subst this
       unfold Builtin.cap_
       simp[hts,hcs,Sem.run_bind,run_underlying ht,Result.andThen,goInt]
theorem run_append_grow {P:Program} {w:World} {ts:Array TypeId} {t u e e' ty:TypeId} {inf:TypeInfo} {base:Option Addr} {m cc n:Nat} {cx:Value} {cs:Array Value} (hts0:ts[0]?=some t) (hts1:ts[1]?=some u)
 (ht:P.underlying t=some (.slice e)) (hu:P.underlying u=some (.slice e')) (hi:P.info? e=some inf) {zv:AV} (hz:cX P e=some zv) {z:Row} (hzr:zv.row=some z) (hzl:z.len=inf.size)
 (hcs0:cs[0]?=some (.slice base m cc)) (hcs1:cs[1]?=some cx) (hn:(Builtin.lenOf cx).run P w=.ok n w) (hgrow:cc<m+n) (hroom:(m+n)*inf.bytes≤room) (hroom2:m+n≤room)
 {old new:Array Value} (hold:(Builtin.firstCells inf.size m (.slice base m cc)).run P w.drew=.ok old w.drew) (hnew:(Builtin.firstCells inf.size n cx).run P w.drew=.ok new w.drew)
 (hos:old.size=m*inf.size) (hns:new.size=n*inf.size) :
 ∃ newCap rest,m+n≤newCap∧(old++new++rest).size=newCap*inf.size ∧
  (Builtin.append_ ts ty cs).run P w=.ok (.slice (some ⟨w.heap.size,0,none⟩) (m+n) newCap) (w.drew.alloc (.cells (old++new++rest) e)):=by
 obtain ⟨c0,hc0,hr0⟩:=dB hz
 have hv:=AV.iv (p:=aF.z) (M:=Mu.no) (hc0 ▸ dD _ _ c0) hzr
 have hsz:bE P e=some inf.size:=by simp[bE,hi]
 have room46:room=70368744177664:=rfl
 have hfitb:Builtin.nextslicecap (m+n) cc*inf.bytes≤281474976710656:=growslice_fits hgrow wO
 obtain ⟨newCap,hnc⟩:∃ q,q=(Question.appendCap (m+n) cc e).cut (w.tape w.drawn (Question.appendCap (m+n) cc e)):=⟨_,rfl⟩
 have hcap:m+n≤newCap:=by rw[hnc];simp[Question.cut]
 refine ⟨newCap,Builtin.zeroCells c0.cells (newCap-(m+n)),hcap,?_,?_⟩
 · simp only[Array.size_append,fX,hos,hns,hv.1,hzl]
   rw[← Nat.add_mul,← Nat.add_mul];congr 1;omega
 · have e1:¬ (m+n≤cc):=by omega
   have e2:¬ (((m+n:Nat):Int) > IntKind.i64.max∧(false=true∨inf.bytes=0)):=by
    have:IntKind.i64.max=9223372036854775807:=rfl;rw[this];omega
   have e3:¬ (Builtin.nextslicecap (m+n) cc*inf.bytes > 2 ^ 48):=by
    have:(2:Nat) ^ 48=281474976710656:=by decide
    omega
   have hask:∀ k w',(askRoom k).run P w'=.ok () w':=by
    intro k w';unfold askRoom;split<;>rfl
   unfold Builtin.append_
   simp only[hts0,hts1,hcs0,hcs1,Sem.run_bind,run_underlying ht,run_underlying hu,Result.andThen,aN hsz,Sem.run_pure,hn,e1,if_false,typeInfo,run_program,hi,
    Bool.not_false,Bool.false_eq_true,if_true,false_or]
   rw[if_neg (by
    have:IntKind.i64.max=9223372036854775807:=rfl;rw[this];intro h;omega)]
   simp only[Sem.run_bind,run_program,Result.andThen,hi,Sem.run_pure]
   rw[if_neg e3]
   simp only[Sem.run_bind,run_choose_drew,Question.forced,Bool.false_eq_true,if_false,Result.andThen,hask,hold,hnew,hr0,Sem.run_pure,← hnc,newRow,run_newObj_alloc]
   simp[hi,hold,hnew]

theorem fx (P:Program) (a:Option Addr) (n cc:Nat) (w:World):(Builtin.lenOf (.slice a n cc)).run P w=.ok n w:=rfl

theorem bj.LK {p:aF} {M:Mu} {H:ab} {w w':World} (h:bj p M H w) (e:w'.heap=w.heap):bj p M H w' where
 pers:=fun b o v hp=>by rw[← h.pers b o v hp];simp only[World.cell?,e]
 live:=fun d i v B hg hB=>by
  obtain ⟨b,o,t,h1,h2,h3⟩:=h.live d i v B hg hB;exact ⟨b,o,t,h1,h2.mono (aF.le.refl _) (Mu.le.refl _) (by rw[e]),h3⟩
 apart:=h.apart
 dom:=h.dom

theorem qh {P:Program} {w:World} {ts:Array TypeId} {t u e ty:TypeId} {kk kq:IntKind} {inf:TypeInfo} {k:Nat} {cs:Array Value} (hts0:ts[0]?=some t) (hts1:ts[1]?=some u)
 (ht:P.underlying t=some (.slice e)) (hu:P.underlying u=some (.int kk)) (hi:P.info? e=some inf) {zv:AV} (hz:cX P e=some zv) {z:Row} (hzr:zv.row=some z) (hzl:z.len=inf.size)
 (hcs0:cs[0]?=some (.slice none 0 0)) (hcs1:cs[1]?=some (.int kq (k:Int))) (hk:0<k) (hs:0<inf.size) (hroom:k*inf.bytes≤room) (hroom2:k≤room) :
 ∃ newCap cells,k≤newCap∧cells.size=newCap*inf.size ∧
  (Builtin.append_ ts ty cs).run P w=.ok (.slice (some ⟨w.heap.size,0,none⟩) k newCap) (w.drew.alloc (.cells cells e)):=by
 obtain ⟨c0,hc0,hr0⟩:=dB hz
 have hv:=AV.iv (p:=aF.z) (M:=Mu.no) (hc0 ▸ dD _ _ c0) hzr
 have hsz:bE P e=some inf.size:=by simp[bE,hi]
 have room46:room=70368744177664:=rfl
 have hfitb:Builtin.nextslicecap (0+k) 0*inf.bytes≤281474976710656:=growslice_fits wO (by simp only[Nat.zero_add];omega)
 rw[Nat.zero_add] at hfitb
 obtain ⟨newCap,hnc⟩:∃ q,q=(Question.appendCap k 0 e).cut (w.tape w.drawn (Question.appendCap k 0 e)):=⟨_,rfl⟩
 have hcap:k≤newCap:=by rw[hnc];simp[Question.cut]
 have h2:IntKind.i64.wrap (k:Int)=k:=by rw[IntKind.wrap_i64];omega
 refine ⟨newCap,#[]++Builtin.zeroCells c0.cells k++Builtin.zeroCells c0.cells (newCap-k),hcap,?_,?_⟩
 · simp only[Array.size_append,fX,hv.1,hzl]
   simp only[List.size_toArray,List.length_nil,Nat.zero_add]
   rw[← Nat.add_mul];congr 1;omega
 · have e1:¬ (k≤0):=by omega
   have e3:¬ (Builtin.nextslicecap k 0*inf.bytes > 2 ^ 48):=by
    have:(2:Nat) ^ 48=281474976710656:=by decide
    omega
   have e4:¬ ((k:Int)*(inf.bytes:Int) > 2 ^ 48):=by
    have:(2:Int) ^ 48=281474976710656:=by decide
    rw[this,← Int.natCast_mul];omega
   have e5:¬ (k*inf.size=0):=Nat.mul_ne_zero wO wO
   have e6:¬ ((k:Int) > IntKind.i64.max):=by
    have:IntKind.i64.max=9223372036854775807:=rfl;rw[this];omega
   have e7:¬ ((k:Int)<0):=by omega
   have hask:∀ k w',(askRoom k).run P w'=.ok () w':=by
    intro k w';unfold askRoom;split<;>rfl
   have hfc:(Builtin.firstCells inf.size 0 (.slice none 0 0)).run P w.drew=.ok #[] w.drew:=rfl
   unfold Builtin.append_
   simp only[hts0,hts1,hcs0,hcs1,Sem.run_bind,run_underlying ht,run_underlying hu,Result.andThen,aN hsz,Sem.run_pure,asInt,asIntOf,h2,e7,if_false,typeInfo,run_program,hi,e4,if_true,Int.toNat_natCast,Nat.zero_add,e1,e6,false_and,e3,Bool.not_true,Bool.false_eq_true,e5]
   simp only[Sem.run_bind,run_program,Result.andThen,hi,Sem.run_pure,run_choose_drew,Question.forced,Bool.false_eq_true,if_false,hask,hfc,hr0,← hnc,newRow,run_newObj_alloc]
   simp[hi,hfc]
theorem EV {P:Program} {sy:Bool} {H:ab} {t u e:TypeId} {kk:IntKind} {s x v:AV} {δ:Delta} (h:ES P sy nx e s x=some (v,δ)) (ht:P.underlying t=some (.slice e)) (hu:P.underlying u=some (.int kk)) {p:aF} {M:Mu} {c cx:Value} (hs:al p M s c) (hx:al p M x cx) {w:World} (hH:bj p M H w)
 {ts:Array TypeId} {cs:Array Value} (hts0:ts[0]?=some t) (hts1:ts[1]?=some u) (hcs0:cs[0]?=some c) (hcs1:cs[1]?=some cx) (ty:TypeId) :
 ∃ cv w',(Builtin.append_ ts ty cs).run P w=.ok cv w'∧eI p M H nx v δ cv w w':=by
 unfold ES at h
 split at h
 case h_2=>cases h
 rename_i inf k' k hi
 split at h
 case isFalse=>cases h
 rename_i hc
 obtain ⟨h0,h1,h2,h3,h4⟩:=hc
 cases hs
 have hxk:=hx.ofInt
 subst hxk
 obtain ⟨n,rfl⟩:∃ n:Nat,k=n:=⟨k.toNat,by omega⟩
 rw[Int.toNat_natCast] at h1 h2
 obtain ⟨z,hz1,hzl⟩:=Option.map_eq_some_iff.1 h4
 cases hz0:cX P e with
 | none=>rw[hz0] at hz1;simp at hz1
 | some zv =>
   rw[hz0] at hz1
   simp only[Option.bind_some] at hz1
   have hsz:bE P e=some inf.size:=by simp[bE,hi]
   split at h
   · rename_i hn0
     have hn0:n=0:=by omega
     subst hn0
     simp only[nP] at h
     obtain ⟨rfl,rfl⟩:=h
     refine ⟨_,w,?_,.nils,dx.refl _ _⟩
     have hw0:IntKind.i64.wrap 0=0:=rfl
     unfold Builtin.append_
     simp[hts0,hts1,hcs0,hcs1,Sem.run_bind,run_underlying ht,run_underlying hu,Result.andThen,aN hsz,Sem.run_pure,asInt,asIntOf,hw0,typeInfo,run_program,hi]
   · rename_i hn0
     simp only[nP] at h
     obtain ⟨rfl,rfl⟩:=h
     rw[Int.toNat_natCast]
     obtain ⟨newCap,cells,r1,r2,r3⟩:=qh (w:=w) (ty:=ty) hts0 hts1 ht hu hi hz0 hz1 hzl hcs0 hcs1 wO h3 h2 h1
     have stayd:dx (fun _=>True) w w.drew:=⟨rfl,rfl,rfl,Nat.le_refl _,fun _ _ _=>rfl⟩
     refine ⟨_,_,r3,pf (w0:=w.drew) (cs:=cells) ?_ ?_ r1 (fun q hq=>by simp at hq) (fun _=>by rw[r2]) stayd rfl⟩
     · exact x4 sy (fun j hj=>absurd hj (by simp[Row.len]))
     · rw[xZ];exact Nat.zero_le _
theorem AG         {P : Program} {sy : Bool} {H:ab} {t u:TypeId} {s x v:AV} {δ:Delta} (h:oB P sy H nx t u s x=some (v,δ)) {p:aF} {M:Mu} {c cx:Value} (hs:al p M s c) (hx:al p M x cx) {w:World} (hH:bj p M H w)
 {ts:Array TypeId} {cs:Array Value} (hts0:ts[0]?=some t) (hts1:ts[1]?=some u) (hcs0:cs[0]?=some c) (hcs1:cs[1]?=some cx) (ty:TypeId) :
 ∃ cv w',(Builtin.append_ ts ty cs).run P w=.ok cv w'∧eI p M H nx v δ cv w w':=by
 unfold oB at h
 cases ht:P.underlying t with
 | none=>rw[ht] at h;simp at h
 | some dt =>
   cases hu:P.underlying u with
   | none=>rw[ht,hu] at h;cases dt<;>simp at h
   | some du =>
     rw[ht,hu] at h
     cases dt<;>try (simp at h;done)
     rename_i e
     cases du<;>try (simp at h;done)
     case int kk=>exact EV h ht hu hs hx hH hts0 hts1 hcs0 hcs1 ty
     rename_i e'
     simp only at h
     cases hi:P.info? e with
     | none=>rw[hi] at h;simp at h
     | some inf =>
       cases hm:nL s with
       | none=>rw[hi,hm] at h;simp at h
       | some m =>
         cases hn:nL x with
         | none=>rw[hi,hm,hn] at h;simp at h
         | some n =>
           rw[hi,hm,hn] at h
           simp only at h
           obtain ⟨a0,c0,rfl⟩:=oY hm hs
           obtain ⟨ax,ccx,rfl⟩:=oY hn hx
           have hsz:bE P e=some inf.size:=by simp[bE,hi]
           have hmc:m≤c0:=by cases hs<;>simp[nL] at hm<;>omega
           split at h
           ·
             rename_i hn0
             subst hn0
             have hres:v=s∧δ=.bA:=by
              revert h;cases s<;>simp<;>(intro h1 h2;exact ⟨h1.symm,h2.symm⟩)
             obtain ⟨rfl,rfl⟩:=hres
             refine ⟨_,w,?_,hs,dx.refl _ _⟩
             have hfc:(Builtin.firstCells inf.size 0 (.slice ax 0 ccx)).run P w=.ok #[] w:=by
              cases ax<;>simp[Builtin.firstCells,loadCells,loadCellsFrom]
             unfold Builtin.append_
             simp only[hts0,hts1,hcs0,hcs1,Sem.run_bind,run_underlying ht,run_underlying hu,Result.andThen,aN hsz,Sem.run_pure,fx,Nat.add_zero,hmc,if_true,Bool.not_false,hfc,Bool.false_eq_true,if_false]
             cases a0<;>simp[storeCells]
           · rename_i hn0
             split at h
             · rename_i hb
               obtain ⟨hb1,hb2,hb3,hb4⟩:=hb
               obtain ⟨z,hz1,hzl⟩:=Option.map_eq_some_iff.1 hb4
               cases hz0:cX P e with
               | none=>rw[hz0] at hz1;simp at hz1
               | some zv =>
                 rw[hz0] at hz1
                 simp only[Option.bind_some] at hz1
                 have hHd:bj p M H w.drew:=hH.LK rfl
                 cases hnew:eD H inf.size n x with
                 | none=>rw[hnew] at h;simp at h
                 | some new =>
                   rw[hnew] at h
                   simp only at h
                   obtain ⟨ncs,n1,n2,n3,n4⟩:=gd (P:=P) hnew hx hHd
                   have stayd:dx (fun _=>True) w w.drew:=⟨rfl,rfl,rfl,Nat.le_refl _,fun _ _ _=>rfl⟩
                   have fresh:∀ (q:Row) (ocs:Array Value),(Builtin.firstCells inf.size m (.slice a0 m c0)).run P w.drew=.ok ocs w.drew→ocs.size=m*inf.size→q.len=(m+n)*inf.size →
                    (∀ ds:Nat→Value,(∀ j,j<(m+n)*inf.size→ds j=if j<ocs.size then ocs.getD j Go.undef else ncs.getD (j-ocs.size) Go.undef)→bg p M q ds)→c0<m+n →
                    ∃ cv w',(Builtin.append_ ts ty cs).run P w=.ok cv w'∧eI p M H nx (.slc 0 nx 0 0 inf.size (m+n) none) (.push (.row (qV sy q))) cv w w':=by
                    intro q ocs o1 o2 o3 o4 hg
                    obtain ⟨newCap,rest,r1,r2,r3⟩:=run_append_grow (ty:=ty) hts0 hts1 ht hu hi hz0 hz1 hzl hcs0 hcs1 (fx P ax n ccx w) hg hb1 hb2 o1 n1 o2 (by rw[n2,n3])
                    refine ⟨_,_,r3,pf (w0:=w.drew) (cs:=ocs++ncs++rest) ?_ ?_ r1 (fun q hq=>by simp at hq) (fun _=>by rw[r2]) stayd rfl⟩
                    · refine x4 sy (o4 _ (fun j hj=>?_))
                      have hadd:(m+n)*inf.size=m*inf.size+n*inf.size:=Nat.add_mul _ _ _
                      by_cases e1:j<ocs.size
                      · rw[if_pos e1]
                        simp only[Array.getD_eq_getD_getElem?]
                        rw[Array.append_assoc,Array.getElem?_append_left e1]
                      · rw[if_neg e1]
                        simp only[Array.getD_eq_getD_getElem?]
                        rw[Array.append_assoc,Array.getElem?_append_right wO,Array.getElem?_append_left wO]
                    · rw[xZ,o3,r2]
                      exact Nat.mul_le_mul_right _ r1
                   have hadd:(m+n)*inf.size=m*inf.size+n*inf.size:=Nat.add_mul _ _ _
                   have joined:∀ (old:Row) (ocs:Array Value),ocs.size=m*inf.size→old.len=m*inf.size→bg p M old (fun j=>ocs.getD j Go.undef) →
                    ∀ ds:Nat→Value,(∀ j,j<(m+n)*inf.size→ds j=if j<ocs.size then ocs.getD j Go.undef else ncs.getD (j-ocs.size) Go.undef)→bg p M (old.app new) ds:=by
                    intro old ocs o1 o2 o3 ds hds
                    refine (o3.app n4).congr (fun j hj=>?_)
                    rw[Row.ji] at hj
                    rw[hds j wO,o1,o2]
                   cases hs with
                   | nils =>
                     have h:=Prod.mk.inj (Option.some.inj h)
                     obtain ⟨rfl,rfl⟩:=h
                     have:=fresh new #[] (by simp[Builtin.firstCells]) (by simp) (by rw[n3];simp) (fun ds hds=>n4.congr (fun j hj=>by have:=hds j wO;simpa using this)) wO
                     simpa using this
                   | slcT vs h0 h1 hv hl hf hxx =>
                     rename_i s' r sz' b' o' x' full
                     cases full with
                     | false=>simp at h
                     | true =>
                       simp only at h
                       cases hold:eD H inf.size m (.slcT s' r sz' m true) with
                       | none=>rw[hold] at h;simp at h
                       | some old =>
                         rw[hold] at h
                         simp only[nP] at h
                         obtain ⟨rfl,rfl⟩:=h
                         obtain ⟨ocs,o1,o2,o3,o4⟩:=gd (P:=P) hold (al.slcT vs h0 h1 hv hl hf hxx) hHd
                         have hcc:=hf rfl
                         exact fresh _ ocs o1 (by rw[o2,o3]) (by rw[Row.ji,o3,n3,hadd]) (joined old ocs (by rw[o2,o3]) o3 o4) wO
                   | slcN =>
                     rename_i s' r sz' full
                     cases full with
                     | false=>simp at h
                     | true =>
                       simp only at h
                       cases hold:eD H inf.size 0 (.slcT s' r sz' 0 true) with
                       | none=>rw[hold] at h;simp at h
                       | some old =>
                         rw[hold] at h
                         simp only[nP] at h
                         obtain ⟨rfl,rfl⟩:=h
                         obtain ⟨ocs,o1,o2,o3,o4⟩:=gd (P:=P) hold (al.slcN (p:=p) (M:=M)) hHd
                         have:=fresh _ ocs o1 (by rw[o2,o3]) (by rw[Row.ji,o3,n3,hadd]) (joined old ocs (by rw[o2,o3]) o3 o4) wO
                         simpa using this
                   | slc hmu hl hc hnn hxx =>
                     rename_i d i v' off sz' b o tt x' cap
                     cases cap with
                     | some cp =>
                       simp only at h
                       have hcp:=hc cp rfl
                       split at h
                       · rename_i hlt
                         cases hold:eD H inf.size m (.slc d i v' off sz' m (some cp)) with
                         | none=>rw[hold] at h;simp at h
                         | some old =>
                           rw[hold] at h
                           simp only[nP] at h
                           obtain ⟨rfl,rfl⟩:=h
                           obtain ⟨ocs,o1,o2,o3,o4⟩:=gd (P:=P) hold (al.slc hmu hl hc hnn hxx) hHd
                           exact fresh _ ocs o1 (by rw[o2,o3]) (by rw[Row.ji,o3,n3,hadd]) (joined old ocs (by rw[o2,o3]) o3 o4) wO
                       · rename_i hnlt
                         split at h
                         · simp at h
                         · rename_i hlk
                           cases hr:dg H d i v' with
                           | none=>rw[hr] at h;simp at h
                           | some r =>
                             rw[hr] at h
                             simp only at h
                             split at h
                             · rename_i hfit
                               obtain ⟨rfl,hfit⟩:=hfit
                               simp only[nP] at h
                               obtain ⟨rfl,rfl⟩:=h
                               have hxe:x'=o+off:=hxx.resolve_left wO
                               subst hxe
                               obtain ⟨ncs',p1,p2,p3,p4⟩:=gd (P:=P) hnew hx hH
                               have hlen:(jd d new).len=n*inf.size:=by rw[fe,p3]
                               obtain ⟨w',q1,q2⟩:=zn hH (off:=off+m*inf.size) hr (by simpa using hlk) hmu (p4.jd (k:=d)) (by rw[fe];exact p2) (by rw[hlen];omega) P
                                (.slc d i v' off inf.size (m+n) (some cp)) (.slice (some ⟨b,o+off,none⟩) (m+n) c0) (.slc hmu wO hc (fun e=>by simp at e) (.inr rfl))
                               refine ⟨_,w',?_,q2⟩
                               have hle:m+n≤c0:=by omega
                               unfold Builtin.append_
                               simp only[hts0,hts1,hcs0,hcs1,Sem.run_bind,run_underlying ht,run_underlying hu,Result.andThen,aN hsz,Sem.run_pure,fx,hle,if_true,Bool.not_false,p1,Bool.false_eq_true,if_false,dU]
                               rw[← Nat.add_assoc] at q1
                               rw[q1]
                             · simp at h
                     | none =>
                       simp only at h
                       split at h
                       · simp at h
                       · rename_i hlk
                         cases hr:dg H d i v' with
                         | none=>rw[hr] at h;simp at h
                         | some r =>
                           rw[hr] at h
                           simp only at h
                           split at h
                           · rename_i hfit
                             obtain ⟨rfl,hfit⟩:=hfit
                             simp only[nP] at h
                             obtain ⟨rfl,rfl⟩:=h
                             obtain ⟨c,ee,k1,k2,k3,k4⟩:=mS hH hr hmu
                             have htt:=hnn rfl
                             have hsl:=Row.dp r off (m*inf.size) wO
                             by_cases hle:m+n≤c0
                             ·
                               have hxe:x'=o+off:=hxx.resolve_left wO
                               subst hxe
                               obtain ⟨ncs',p1,p2,p3,p4⟩:=gd (P:=P) hnew hx hH
                               have h1:∀ v ∈ ncs'.toList,v.oneCell'=true:=by
                                intro y hy;obtain ⟨j,hj,rfl⟩:=List.getElem_of_mem hy;simp at hj;have:=(p4 j wO).2;simpa[hj] using this
                               have hmul:(m+n)*inf.size≤c0*inf.size:=Nat.mul_le_mul_right _ hle
                               have hst:=run_storeCells_at (P:=P) b (o+off+m*inf.size) ee ncs'.toList 0 c w k1 (by simp;omega) h1
                               obtain ⟨cells,hcells⟩:∃ cells:Array Value,cells=(c.toList.take (o+off+m*inf.size+0)++ncs'.toList++c.toList.drop (o+off+m*inf.size+0+ncs'.toList.length)).toArray:=⟨_,rfl⟩
                               rw[← hcells] at hst
                               refine ⟨.slice (some ⟨b,o+off,none⟩) (m+n) c0,w.setRow b cells,?_,v',.row r,b,o,tt,b,o+off,tt,dL hr,by simp,by simpa using hlk,hmu,by simp,?_,qR _ _ _,.inl rfl,
                                .slc (b:=b) (o:=o+off) (t:=tt) (by simp[br]) hle (fun _ e=>by cases e) (fun _=>by omega) (.inr rfl),.inr (Nat.lt_succ_self _)⟩
                               · unfold Builtin.append_
                                 simp only[hts0,hts1,hcs0,hcs1,Sem.run_bind,run_underlying ht,run_underlying hu,Result.andThen,aN hsz,Sem.run_pure,fx,hle,if_true,Bool.not_false,p1,Bool.false_eq_true,if_false,dU]
                                 rw[hst]
                               · refine ⟨cells,ee,setRow_heap w b c _ ee _ k1,?_,?_,?_⟩
                                 · rw[hcells];simp;omega
                                 · rw[Row.ji,hsl,fe,p3];omega
                                 · have hap:=(k4.sub off (m*inf.size) wO).app (p4.jd (k:=d))
                                   refine hap.congr (fun j hj=>?_)
                                   rw[Row.ji,hsl,fe,p3] at hj
                                   rw[hsl,hcells]
                                   have hlen:(c.toList.take (o+off+m*inf.size)).length=o+off+m*inf.size:=by simp;omega
                                   by_cases e1:j<m*inf.size
                                   · rw[if_pos e1]
                                     simp only[Nat.add_zero,Array.getD_eq_getD_getElem?,List.getElem?_toArray]
                                     rw[List.append_assoc,List.getElem?_append_left wO,List.getElem?_take_of_lt wO]
                                     simp[Nat.add_assoc]
                                   · rw[if_neg e1]
                                     simp only[Nat.add_zero,Array.getD_eq_getD_getElem?,List.getElem?_toArray]
                                     rw[List.append_assoc,List.getElem?_append_right wO,List.getElem?_append_left (by simp;omega)]
                                     have:o+off+j-(List.take (o+off+m*inf.size) c.toList).length=j-m*inf.size:=by omega
                                     rw[this]
                                     simp
                             ·
                               obtain ⟨ocs,o1,o2,o3⟩:=Ek (P:=P) (m:=m) (sz:=inf.size) hHd hr hmu hxx hmc wO
                               obtain ⟨newCap,rest,r1,r2,r3⟩:=run_append_grow (ty:=ty) hts0 hts1 ht hu hi hz0 hz1 hzl hcs0 hcs1 (fx P ax n ccx w) (Nat.lt_of_not_le hle) hb1 hb2 o1 n1 o2 (by rw[n2,n3])
                               have hal:dx (fun _=>True) w (w.drew.alloc (.cells (ocs++ncs++rest) e)) :=
                                ⟨rfl,rfl,rfl,by simp,fun b hb _=>Go.RowKit.Below.heap_alloc w.drew _ b hb⟩
                               refine ⟨_,_,r3,v',.row r,b,o,tt,w.heap.size,0,(ocs++ncs++rest).size,dL hr,by simp,by simpa using hlk,hmu,by simp,?_,hal.weaken (fun _ _ _=>trivial),.inr (Nat.le_refl _),
                                .slc (b:=w.heap.size) (o:=0) (t:=(ocs++ncs++rest).size) (by simp[br]) r1 (fun _ e=>by cases e) (fun _=>by rw[r2];omega) (.inr rfl),.inr (Nat.lt_succ_self _)⟩
                               have hbr:fB p (M.up d) (.row ((r.sub off (m*inf.size)).app (jd d new))) w.drew.heap.size 0 (ocs++ncs++rest).size (w.drew.alloc (.cells (ocs++ncs++rest) e)):=by
                                refine nz ?_ ?_
                                · refine (o3.app (n4.jd (k:=d))).congr (fun j hj=>?_);rw[Row.ji,hsl,fe,n3] at hj;rw[hsl];by_cases e1:j<m*inf.size
                                  · rw[if_pos e1];simp only[Array.getD_eq_getD_getElem?];rw[Array.append_assoc,Array.getElem?_append_left wO]
                                  · rw[if_neg e1];simp only[Array.getD_eq_getD_getElem?];rw[Array.append_assoc,Array.getElem?_append_right wO,Array.getElem?_append_left wO,o2]
                                · rw[Row.ji,hsl,fe,n3,r2,← Nat.add_mul];exact Nat.mul_le_mul_right _ r1
                               exact hbr
                           · simp at h
                   | _=>simp at h
             · simp at h

theorem Fy       {P:Program} {H:ab} {t:TypeId} {s x v:AV} {δ:Delta} (h:copyV P H t s x=some (v,δ)) {p:aF} {M:Mu} {c cx:Value} (hs:al p M s c) (hx:al p M x cx) {w:World} (hH:bj p M H w)
 {ts:Array TypeId} {cs:Array Value} (hts0:ts[0]?=some t) (hcs0:cs[0]?=some c) (hcs1:cs[1]?=some cx) (ty:TypeId) :
 ∃ cv w',(Builtin.copy_ ts ty cs).run P w=.ok cv w'∧eI p M H nx v δ cv w w':=by
 unfold copyV at h
 cases ht:P.underlying t with
 | none=>rw[ht] at h;simp at h
 | some dt =>
   rw[ht] at h
   cases dt<;>try (simp at h;done)
   rename_i e
   simp only at h
   cases hz:bE P e with
   | none=>rw[hz] at h;simp at h
   | some z =>
     cases hm:nL s with
     | none=>rw[hz,hm] at h;simp at h
     | some m =>
       cases hn:nL x with
       | none=>rw[hz,hm,hn] at h;simp at h
       | some n =>
         rw[hz,hm,hn] at h
         simp only at h
         obtain ⟨a0,c0,rfl⟩:=oY hm hs
         obtain ⟨ax,ccx,rfl⟩:=oY hn hx
         cases hnew:eD H z (min n m) x with
         | none=>rw[hnew] at h;simp at h
         | some new =>
           rw[hnew] at h
           simp only at h
           obtain ⟨ncs,n1,n2,n3,n4⟩:=gd (P:=P) hnew hx hH
           have hnm:Nat.min n m=min n m:=rfl
           have hfin:∀ w',(match a0 with | some a=>storeCells a ncs.toList | none=>pure ():Sem Unit).run P w=.ok () w'→(Builtin.copy_ ts ty cs).run P w=.ok (.int .i64 (min n m:Nat)) w':=by
            intro w' hw';unfold Builtin.copy_;simp only[hts0,hcs0,hcs1,Sem.run_bind,run_underlying ht,Result.andThen,aN hz,Sem.run_pure,fx,hnm,n1,goInt];cases a0 with
            | none=>simp only[Sem.run_pure,Result.ok.injEq,true_and] at hw' ⊢;subst hw';simp
            | some a=>simp only at hw' ⊢;simp only[Sem.run_bind,hw',Result.andThen,Sem.run_pure]
           cases hs with
           | nils =>
             simp only[nP] at h
             obtain ⟨rfl,rfl⟩:=h
             exact ⟨_,w,hfin w rfl,.int _ _,dx.refl _ _⟩
           | slc hmu hl hc hnn hxx =>
             rename_i d i v' off sz b o tt x' cap
             simp only at h
             split at h
             · simp at h
             · rename_i hlk
               cases hr:dg H d i v' with
               | none=>rw[hr] at h;simp at h
               | some r =>
                 rw[hr] at h
                 simp only at h
                 split at h
                 · rename_i hfit
                   obtain ⟨rfl,hfit⟩:=hfit
                   simp only[nP] at h
                   obtain ⟨rfl,rfl⟩:=h
                   obtain ⟨w',q1,q2⟩:=vR hH (off:=off) hr (by simpa using hlk) hmu (n4.jd (k:=d)) (by rw[fe];exact n2) (by rw[fe,n3];exact hfit) P (.int .i64 (min n m:Nat)) (.int .i64 (min n m:Nat)) (.int _ _)
                   by_cases h0:c0=0
                   ·
                     subst h0
                     have hm0:m=0:=by omega
                     subst hm0
                     have hn0:ncs=#[]:=by apply Array.eq_empty_of_size_eq_zero;rw[n2,n3];simp
                     subst hn0
                     simp only[storeCells,Sem.run_pure,Result.ok.injEq,true_and] at q1
                     subst q1
                     exact ⟨_,w,hfin w (by simp[storeCells]),by simpa using q2⟩
                   · have hxe:x'=o+off:=hxx.resolve_left h0
                     subst hxe
                     exact ⟨_,w',hfin w' (by simpa using q1),by simpa using q2⟩
                 · simp at h
           | _=>simp at h

theorem DP        {P:Program} {H:ab} {t:TypeId} {s v:AV} {δ:Delta} (h:r9 P H t s=some (v,δ)) {p:aF} {M:Mu} {c:Value} (hs:al p M s c) {w:World} (hH:bj p M H w)
 {ts:Array TypeId} {cs:Array Value} (hts0:ts[0]?=some t) (hcs0:cs[0]?=some c) (ty:TypeId) :
 ∃ cv w',(Builtin.clear_ ts ty cs).run P w=.ok cv w'∧eI p M H nx v δ cv w w':=by
 unfold r9 at h
 cases ht:P.underlying t with
 | none=>rw[ht] at h;simp at h
 | some dt =>
   rw[ht] at h
   cases dt<;>try (simp at h;done)
   rename_i e
   have hnil:∀ {M':Mu},al p M' (.tup []) (.tuple #[]):=.tup rfl (fun j hj=>absurd hj (by simp))
   cases hs with
   | nils =>
     simp only[nP] at h
     obtain ⟨rfl,rfl⟩:=h
     exact ⟨_,w,by unfold Builtin.clear_;simp[hts0,hcs0,Sem.run_bind,run_underlying ht,Result.andThen],hnil,dx.refl _ _⟩
   | slc hmu hl hc hnn hxx =>
     rename_i d i v' off sz len b o tt x' cc cap
     simp only at h
     split at h
     · simp at h
     · rename_i hlk
       cases hz1:(cX P e).bind AV.row with
       | none=>rw[hz1] at h;simp at h
       | some z =>
         cases hr:dg H d i v' with
         | none=>rw[hz1,hr] at h;simp at h
         | some r =>
           rw[hz1,hr] at h
           simp only at h
           split at h
           · rename_i hb
             obtain ⟨hb1,hb2,hb3⟩:=hb
             simp only[nP] at h
             obtain ⟨rfl,rfl⟩:=h
             by_cases h0:len=0
             · subst h0
               rw[if_pos rfl]
               exact ⟨_,w,by unfold Builtin.clear_;simp[hts0,hcs0,Sem.run_bind,run_underlying ht,Result.andThen],hnil,dx.refl _ _⟩
             · rw [if_neg h0]
               have hxe:x'=o+off:=hxx.resolve_left wO
               subst hxe
               cases hz0:cX P e with
               | none=>rw[hz0] at hz1;simp at hz1
               | some zv =>
                 rw[hz0] at hz1
                 simp only[Option.bind_some] at hz1
                 obtain ⟨cz,hcz,hrz⟩:=dB hz0
                 have hv:=AV.iv (p:=p) (M:=M.up d) (hcz ▸ dD p (M.up d) cz) hz1
                 have hz0':=ue (yo r) hv.1 hv.2 len
                 generalize hzz:(if yo r=true then dM z len else dT z len)=zz at hz0'
                 have hz':=hz0'
                 have hzs:(Builtin.zeroCells cz.cells len).size=zz.len:=by rw[fX,hv.1,hz'.1]
                 have hzr:bg p (M.up d) zz (fun j=>(Builtin.zeroCells cz.cells len).getD j Go.undef):=by
                  refine hz'.2 _ (by rw[fX,hv.1]) (fun j hj=>?_);unfold Builtin.zeroCells;rw[hv.1];rw[← hv.1,run_range_map cz.cells _ j (by rw[hv.1];exact hj),pN];exact Nat.mod_lt _ (by rw[hv.1];exact Nat.pos_of_ne_zero (fun e=>by rw[e] at hj;simp at hj))
                 have hrow:(if yo r=true then Eng.jH r off (dM z len) else r.cN off (dT z len).toList)=(if yo r=true then Eng.jH r off zz else r.cN off zz.toList):=by
                  rw[← hzz];cases yo r<;>rfl
                 obtain ⟨w',q1,q2⟩:=qi (nx:=nx) hH (off:=off) hr (by simpa using hlk) hmu hzr hzs (by rw[hz'.1,hb1];exact hb3) P (.tup []) (.tuple #[]) hnil (if yo r=true then Eng.jH r off zz else r.cN off zz.toList) (fun vs h=>by
                  cases yo r with
                  | true=>exact h.jH hzr off (by rw[hz'.1,hb1];exact hb3)
                  | false =>
                    refine ⟨Row.iZ _ _ _,?_⟩;have:=bg.cN zz.toList off (fun j=>(Builtin.zeroCells cz.cells len).getD j Go.undef) h (fun i hi=>hzr.list i hi);rw[Row.bo] at this;exact this)
                 rw[← hrow] at q2
                 refine ⟨_,w',?_,q2⟩
                 unfold Builtin.clear_
                 obtain ⟨len',rfl⟩:∃ q,len=q+1:=⟨len-1,by omega⟩
                 simp[hts0,hcs0,Sem.run_bind,run_underlying ht,Result.andThen,hrz,q1]
           · simp at h
   | _=>simp at h

end Go.Eng
