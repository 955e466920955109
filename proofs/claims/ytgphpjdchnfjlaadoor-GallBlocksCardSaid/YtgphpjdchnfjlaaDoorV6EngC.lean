/- The engine, part C: operations. -/
import Derived.Test.YtgphpjdchnfjlaaDoorV6EngB
set_option linter.unusedVariables false
set_option linter.unusedSimpArgs false
namespace Go.Eng
variable {nx:Nat}

theorem eN {P:Program} {t:TypeId} {b:Bool} (h:eX P t=some b) (w:World):(isAgg t).run P w=.ok b w:=by
 unfold eX at h;cases hu:P.underlying t with
 | none=>rw[hu] at h;simp at h
 | some d =>
   rw[hu] at h;unfold isAgg;simp only[Sem.run_bind,run_underlying hu,Result.andThen];cases d<;>simp at h<;>subst h<;>rfl
theorem aN {P:Program} {t:TypeId} {n:Nat} (h:bE P t=some n) (w:World):(sizeOf t).run P w=.ok n w:=by
 unfold bE at h;cases hi:P.info? t with
 | none=>rw[hi] at h;simp at h
 | some i =>
   rw[hi] at h;simp at h;unfold sizeOf typeInfo;simp[Sem.run_bind,hi,Result.andThen,h]
theorem dB {P:Program} {t:TypeId} {z:AV} (h:cX P t=some z):∃ c,ko c=z∧∀ w,(zeroValue t).run P w=.ok c w:=by
 unfold cX at h;cases hi:P.info? t with
 | none=>rw[hi] at h;simp at h
 | some i =>
   rw[hi] at h;cases hz:i.zero with
   | none=>simp[hz] at h
   | some c =>
     simp[hz] at h;refine ⟨c,h,fun w=>?_⟩;unfold zeroValue typeInfo;simp[Sem.run_bind,hi,Result.andThen,hz]

theorem dU (b o n:Nat):(⟨b,o,none⟩:Addr).add n=⟨b,o+n,none⟩:=by
 unfold Addr.add;split<;>simp_all

def KY (w:World) (b o n:Nat) (vs:Nat→Value):Prop:=∀ j,j<n→w.cell? ⟨b,o+j,none⟩=some (vs j)

theorem zd {P:Program} {p:aF} {M:Mu} {t:TypeId} {r:Row} {off b o:Nat} {vs:Nat→Value} {v:AV} {w:World} (h:jv P t r off=some v) (hr:bg p M r vs) (hl:KY w b o r.len vs) :
 ∃ c,(loadVar t ⟨b,o+off,none⟩).run P w=.ok c w∧al p M v c:=by
 unfold jv at h
 cases ha:eX P t with
 | none=>rw[ha] at h;simp at h
 | some g =>
   rw[ha] at h
   cases g with
   | false =>
     simp only at h
     split at h
     · rename_i hlt
       simp only[Option.some.injEq] at h
       subst h
       refine ⟨vs off,?_,hr.get off hlt⟩
       unfold loadVar
       simp[Sem.run_bind,eN ha,Result.andThen,run_load,hl off hlt]
     · simp at h
   | true =>
     cases hs:bE P t with
     | none=>rw[hs] at h;simp at h
     | some n =>
       rw[hs] at h
       simp only at h
       split at h
       · rename_i hlt
         simp only[Option.some.injEq] at h
         subst h
         refine ⟨.agg ((List.range n).map fun j=>vs (off+j)).toArray,?_,?_⟩
         · unfold loadVar
           simp only[Sem.run_bind,eN ha,Result.andThen,if_true,aN hs]
           rw[run_loadCells w _ n (fun j=>vs (off+j)) (fun j hj=>by rw[dU,Nat.add_assoc];exact hl _ wO)]
           simp
         · have hc:=hr.cut off n hlt
           have hget:∀ j,j<n→(((List.range n).map fun j=>vs (off+j)).toArray).getD j Go.undef=vs (off+j):=by
            intro j hj;simp[hj]
           refine .agg (by rw[Row.ku _ _ _ hlt];simp) (fun j hj=>?_) (fun j hj=>?_)
           · have hj':=hj;rw[Row.ku _ _ _ hlt] at hj';rw[hget j hj'];exact (hc j hj).2
           · have hj':=hj;rw[Row.ku _ _ _ hlt] at hj';rw[hget j hj'];exact (hc j hj).1
       · simp at h

theorem dL {H:ab} {d i v:Nat} {r:Row} (h:dg H d i v=some r):az H d i=(v,.row r):=by
 unfold dg at h;split at h
 · rename_i ver r' e;split at h
   · rename_i hv;simp only[Option.some.injEq] at h;subst h;have:ver=v:=by simpa using hv
     rw[← this];exact e
   · simp at h
 · simp at h

theorem mh {p:aF} {M:Mu} {r:Row} {b o t:Nat} {w:World} (h:fB p M (.row r) b o t w):∃ vs,bg p M r vs∧KY w b o r.len vs:=by
 obtain ⟨c,e,h1,h2,h3,h4⟩:=h;refine ⟨_,h4,fun j hj=>?_⟩;simp only[World.cell?,h1];have:o+j<c.size:=by omega
 simp[this]

theorem yz {P:Program} {p:aF} {M:Mu} {H:ab} {t:TypeId} {a v:AV} {ca:Value} {w:World} (h:oZ P H t a=some v) (ha:al p M a ca) (hH:bj p M H w) :
 ∃ c,(Instr.loadAt t ca).run P w=.ok c w∧al p M v c:=by
 unfold oZ at h
 cases ha with
 | ptr hm =>
   rename_i d i ver off b o tt
   simp only at h
   cases hr:dg H d i ver with
   | none=>rw[hr] at h;simp at h
   | some r =>
     rw[hr] at h
     simp only[Option.map_eq_some_iff] at h
     obtain ⟨u,hu,rfl⟩:=h
     obtain ⟨b',o',t',hm',hB,_⟩:=hH.live d i ver _ (dL hr) (by simp)
     rw[hm] at hm'
     simp only[nP] at hm'
     obtain ⟨rfl,rfl,rfl⟩:=hm'
     obtain ⟨vs,h1,h2⟩:=mh hB
     obtain ⟨c,hc,hv⟩:=zd (w:=w) hu h1 h2
     exact ⟨c,by simp[Instr.loadAt,Instr.sureAddr,Sem.run_bind,Result.andThen,hc],hv.up⟩
 | ptrT vs h0 h1 hv =>
   rename_i s r off b o
   simp only[Option.map_eq_some_iff] at h
   obtain ⟨u,hu,rfl⟩:=h
   obtain ⟨c,hc,hv'⟩:=zd (w:=w) (p:=p) (M:=pA M s) hu (fun j hj=>⟨hv j hj,h1 j hj⟩) (fun j hj=>hH.pers _ _ _ (h0 j hj))
   refine ⟨c,by simp[Instr.loadAt,Instr.sureAddr,Sem.run_bind,Result.andThen,hc],?_⟩
   cases s with
   | none=>exact hv'.mono (aF.le.refl _) (Mu.le.no _)
   | some k=>exact hv'.up
 | _=>simp at h

theorem fq (w:World) (x:Obj):dx (fun _=>True) w (w.alloc x) :=
 ⟨rfl,rfl,rfl,by simp,fun b hb _=>Go.RowKit.Below.heap_alloc w x b hb⟩
theorem nz {p:aF} {M:Mu} {r:Row} {cs:Array Value} {ty:TypeId} {w:World} (h:bg p M r (fun j=>cs.getD j Go.undef)) (hs:r.len≤cs.size) :
 fB p M (.row r) w.heap.size 0 cs.size (w.alloc (.cells cs ty)) :=
 ⟨cs,ty,World.alloc_heap_new _ _,rfl,by omega,h.congr (fun j _=>by rw[Nat.zero_add])⟩
theorem yW {p:aF} {M:Mu} {H:ab} {r:Row} {cs:Array Value} {ty:TypeId} {w:World} (h:bg p M r (fun j=>cs.getD j Go.undef)) (hs:r.len≤cs.size) :
 eI p M H nx (.ptr 0 nx 0 0) (.push (.row r)) (.pointer (some ⟨w.heap.size,0,none⟩)) w (w.alloc (.cells cs ty)) :=
 ⟨cs.size,by simp,.ptr (b:=w.heap.size) (o:=0) (t:=cs.size) (by simp[br]),nz h hs,fq _ _⟩

theorem tF (P:Program) (t:TypeId) (v:Value) (w:World):(newVar t v).run P w=.ok ⟨w.heap.size,0,none⟩ (w.alloc (.cells v.cells t)):=by
 simp[newVar,newRow,Sem.run_bind,Result.andThen,run_newObj_alloc]

theorem tJ (r:Row):(ke r).len=r.len:=by
 cases r with
 | I k l=>simp only[ke];split<;>simp[Row.len,ay,aP]
 | G l=>simp only[ke];split<;>simp[Row.len,(iY _ l).1]
 | _=>rfl
theorem tK {p:aF} {M:Mu} {r:Row} {vs:Nat→Value} (h:bg p M r vs):bg p M (ke r) vs:=by
 cases r with
 | I k l =>
   simp only[ke,Hk];split
   · intro j hj;have hj:j<l.length:=by simpa[Row.len,ay,aP] using hj
     have:=h j hj;simp only[Row.get,getM,jc,if_pos hj] at this ⊢;exact this
   · exact h
 | G l =>
   simp only[ke];split
   · exact h
   · intro j hj;have hj:j<l.length:=by simpa[Row.len,(iY _ l).1] using hj
     have:=h j hj;simp only[Row.get,jc] at this ⊢;rw[(iY _ l).2 j hj];exact this
 | _=>exact h
theorem GS {p:aF} {M:Mu} {r:Row} {vs:Nat→Value} (b:Bool) (h:bg p M r vs):bg p M (if b then ke r else r) vs∧(if b then ke r else r).len=r.len:=by
 cases b with
 | true=>exact ⟨tK h,tJ r⟩
 | false=>exact ⟨h,rfl⟩
theorem xZ (sy:Bool) (r:Row):(qV sy r).len=r.len:=by
 unfold qV;split
 · split<;>simp[Row.len,ay,aP]
 · split<;>rfl
 · rfl
theorem sK {v:AV} (h:qF v=true):gN v=true:=by
 unfold qF at h;split at h
 · rfl
 · rfl
 · cases h
theorem x4 {p:aF} {M:Mu} {r:Row} {vs:Nat→Value} (sy:Bool) (h:bg p M r vs):bg p M (qV sy r) vs:=by
 unfold qV;split
 · rename_i k l;split
   · intro j hj;have hj:j<l.length:=by simpa[Row.len,ay,aP] using hj
     have:=h j hj;simp only[Row.get,getM,jc,if_pos hj] at this ⊢;exact this
   · exact h
 · rename_i v;split
   · rename_i hc;rw[Bool.and_eq_true] at hc;intro j hj;have hj:j<1:=hj;obtain rfl:j=0:=by omega
     have:=h 0 (by simp[Row.len]);exact ⟨j7 (mR (sK hc.2) this.1),this.2⟩
   · exact h
 · exact h
theorem pr {p:aF} {M:Mu} {r:Row} {vs:Nat→Value} (call:aK) (h:bg p M r vs):bg p M (nf call (ke r) r) vs∧(nf call (ke r) r).len=r.len:=by
 unfold nf;split
 · exact ⟨tK h,tJ r⟩
 · exact ⟨h,rfl⟩

theorem DH {P:Program} (call:aK) {p:aF} {M:Mu} {H:ab} {t:TypeId} {r:Row} (h:(cX P t).bind AV.row=some r) (w:World) :
 ∃ cv w',(Instr.alloc t true (.tuple #[])).run P w=.ok cv w'∧eI p M H nx (.ptr 0 nx 0 0) (.push (.row (nf call (ke r) r))) cv w w':=by
 cases hz:cX P t with
 | none=>rw[hz] at h;simp at h
 | some z =>
   rw[hz] at h
   simp only[Option.bind_some] at h
   obtain ⟨c,hc,hr⟩:=dB hz
   have hv:=AV.iv (p:=p) (M:=M) (hc ▸ dD p M c) h
   refine ⟨_,_,?_,yW (ty:=t) (pr call hv.2).1 (by rw[(pr call hv.2).2,hv.1];exact Nat.le_refl _)⟩
   simp[Instr.alloc,Sem.run_bind,hr,Result.andThen,tF]
theorem HM {P:Program} (call:aK) {p:aF} {M:Mu} {H:ab} {t:TypeId} {x:AV} {c:Value} {r:Row} (h:al p M x c) (hr:x.row=some r) (w:World) :
 ∃ cv w',(Instr.box t c).run P w=.ok cv w'∧eI p M H nx (.ptr 0 nx 0 0) (.push (.row (nf call (ke r) r))) cv w w':=by
 have hv:=AV.iv h hr
 refine ⟨_,_,?_,yW (ty:=t) (pr call hv.2).1 (by rw[(pr call hv.2).2,hv.1];exact Nat.le_refl _)⟩
 simp[Instr.box,Sem.run_bind,Result.andThen,tF]

theorem qu:∀ (l:List (Value×Nat)) (k:Nat) (off:Nat) (cs:Array Value),(∀ j,(l.map (·.2))[j]?=if j<l.length then some (k+j) else none) →
 (l.foldl (fun cs (c,j)=>cs.setIfInBounds (off+j) c) cs).size=cs.size ∧
 ∀ i,i<cs.size→(l.foldl (fun cs (c,j)=>cs.setIfInBounds (off+j) c) cs).getD i Go.undef=if off+k≤i∧i<off+k+l.length then (l.map (·.1)).getD (i-(off+k)) Go.undef else cs.getD i Go.undef
 | [],k,off,cs,_=>⟨rfl,fun i _=>by simp;intro _ _;omega⟩
 | (c, j)::l,k,off,cs,h=>by
   have h0:=h 0;simp at h0;subst h0;have ih:=qu l (j+1) off (cs.setIfInBounds (off+j) c) (fun i=>by
    have:=h (i+1);simp only[List.map_cons,List.getElem?_cons_succ,List.length_cons] at this;rw[this];by_cases e:i<l.length
    · rw[if_pos wO,if_pos e];congr 1;omega
    · rw[if_neg wO,if_neg e])
   refine ⟨by simpa using ih.1,fun i hi=>?_⟩;have:=ih.2 i (by simpa using hi);simp only[List.foldl_cons];rw[this];by_cases e:i=off+j
   · subst e;rw[if_neg wO,if_pos (by simp)];have hi':off+j<cs.size:=hi;simp[hi']
   · by_cases e2:off+(j+1)≤i∧i<off+(j+1)+l.length
     · rw[if_pos e2,if_pos (by simp;omega)];obtain ⟨q,hq⟩:∃ q,i-(off+j)=q+1:=⟨i-(off+j)-1,by omega⟩
       rw[hq];simp only[List.map_cons,List.getD_cons_succ];congr 1;omega
     · rw[if_neg e2,if_neg (by simp;omega)];simp[Array.getElem?_setIfInBounds_ne (Ne.symm e)]

theorem By (v:Value) (off:Nat) (cs:Array Value):(v.cells.zipIdx.foldl (fun cs (c,j)=>cs.setIfInBounds (off+j) c) cs).size=cs.size ∧
 ∀ i,i<cs.size→(v.cells.zipIdx.foldl (fun cs (c,j)=>cs.setIfInBounds (off+j) c) cs).getD i Go.undef=if off≤i∧i<off+v.cells.size then v.cells.getD (i-off) Go.undef else cs.getD i Go.undef:=by
 have h:=qu v.cells.zipIdx.toList 0 off cs (fun j=>by
  simp[Array.toList_zipIdx];by_cases e:j<v.cells.size
  · simp[e]
  · simp[e])
 have e:(v.cells.zipIdx.foldl (fun cs (c,j)=>cs.setIfInBounds (off+j) c) cs)=(v.cells.zipIdx.toList.foldl (fun cs (c,j)=>cs.setIfInBounds (off+j) c) cs):=by
  rw[← Array.foldl_toList]
 rw[e]
 refine ⟨h.1,fun i hi=>?_⟩
 rw[h.2 i hi]
 simp[Array.toList_zipIdx]

theorem oN {p:aF} {M:Mu} {place place':Nat→Option (Nat×Nat)}:∀ (parts:List (Nat×AV)) (cparts:List (Nat×Value)) (r r':Row) (cells:Array Value),
 sk place r parts=some r'→(∀ i x,place i=some x→place' i=some x)→bg p M r (fun j=>cells.getD j Go.undef)→cells.size=r.len →
 cparts.length=parts.length→(∀ j,j<parts.length→(cparts.getD j (0,Go.undef)).1=(parts.getD j (0,.undef)).1∧al p M (parts.getD j (0,.undef)).2 (cparts.getD j (0,Go.undef)).2) →
 ∃ cells',Instr.fill place' cells cparts=some cells'∧cells'.size=r'.len∧bg p M r' (fun j=>cells'.getD j Go.undef)
 | [],cparts,r,r',cells,h,_,hr,hs,hl,_=>by
   simp only[sk,Option.some.injEq] at h;subst h;have:cparts=[]:=List.length_eq_zero_iff.1 (by simpa using hl);subst this;exact ⟨cells,rfl,hs,hr⟩
 | (i, v) :: parts,cparts,r,r',cells,h,hp,hr,hs,hl,hv=>by
   cases cparts with
   | nil=>simp at hl
   | cons x cparts =>
     obtain ⟨ci,cv⟩:=x;have h0:=hv 0 (by simp);simp only[List.getD_cons_zero] at h0;obtain ⟨rfl,h0⟩:=h0;simp only[sk] at h;cases hpl:place ci with
     | none=>rw[hpl] at h;simp at h
     | some os =>
       obtain ⟨off,size⟩:=os;rw[hpl] at h;simp only at h;cases hrow:v.row with
       | none=>rw[hrow] at h;simp at h
       | some q =>
         rw[hrow] at h;simp only at h;split at h
         · rename_i hq;have hvr:=AV.iv h0 hrow;have hps:=By cv off cells;have hrel:bg p M (r.cN off q.toList) (fun j=>(cv.cells.zipIdx.foldl (fun cs (c,j)=>cs.setIfInBounds (off+j) c) cells).getD j Go.undef):=by
            refine (bg.cN q.toList off (fun j=>cv.cells.getD j Go.undef) hr (fun i hi=>hvr.2.list i hi)).congr (fun j hj=>?_);rw[Row.iZ,← hs] at hj;rw[hps.2 j hj,Row.bo,hvr.1]
           obtain ⟨cells',k1,k2,k3⟩:=oN parts cparts _ r' _ h hp hrel (by rw[hps.1,Row.iZ,hs]) (by simpa using hl) (fun j hj=>by
            have:=hv (j+1) (by simpa using hj);simpa using this)
           refine ⟨cells',?_,k2,k3⟩;simp only[Instr.fill,hp _ _ hpl];rw[if_neg]
           · exact k1
           · rw[hvr.1,hq.1,hs];simp;have:=hq.2;rw[hq.1] at this;omega
         · simp at h

theorem nm (P:Program):∀ (fs:List Field) (w:World) (ns:List (Nat×Nat)),kP P fs=some ns →
 (fs.mapM (m:=Sem) (fun f=>do pure (f.offset,← sizeOf f.type))).run P w=.ok ns w
 | [],w,ns,h=>by simp[kP] at h;subst h;simp
 | f :: fs,w,ns,h=>by
   simp only[kP] at h;cases hn:bE P f.type with
   | none=>rw[hn] at h;simp at h
   | some n =>
     cases hl:kP P fs with
     | none=>rw[hn,hl] at h;simp at h
     | some l =>
       rw[hn,hl] at h;simp only[Option.some.injEq] at h;subst h;have ih:=nm P fs w l hl;rw[List.mapM_cons];simp only[Sem.run_bind,aN hn,Result.andThen,Sem.run_pure];rw[ih]

theorem tj {p:aF} {M:Mu} {nt:Nat} {fr:aA} {a:Act} (h:bX p M nt fr a):∀ (l:List (Nat×Operand)),(dS fr l).length=l.length ∧
 ∀ j,j<l.length→((l.map fun x=>(x.1,a.eval x.2)).getD j (0,Go.undef)).1=((dS fr l).getD j (0,.undef)).1∧al p M ((dS fr l).getD j (0,.undef)).2 ((l.map fun x=>(x.1,a.eval x.2)).getD j (0,Go.undef)).2
 | []=>⟨rfl,fun j hj=>absurd hj (by simp)⟩
 | (i,x)::l=>by
   have ih:=tj h l;refine ⟨by simp[dS,ih.1],fun j hj=>?_⟩;cases j with
   | zero=>exact ⟨by simp[dS],by simpa[dS] using h.b5 x⟩
   | succ j=>simpa[dS] using ih.2 j (by simpa using hj)

theorem DK {P:Program} {sy:Bool} {p:aF} {M:Mu} {nt:Nat} {fr:aA} {a:Act} {t:TypeId} {v:AV} (hF:bX p M nt fr a) (parts:Array (Nat×Operand)) (h:wa P sy t (dS fr parts.toList)=some v) (w:World) :
 ∃ c,(Instr.build t (parts.map fun (i,x)=>(i,a.eval x))).run P w=.ok c w∧al p M v c:=by
 unfold wa at h
 cases hz:cX P t with
 | none=>rw[hz] at h;simp at h
 | some z =>
   rw[hz] at h
   obtain ⟨c0,hc0,hr0⟩:=dB hz
   have hv0:=hc0 ▸ dD p M c0
   cases z
   case agg z =>
    cases hv0
    case agg cs hs h1 hvz =>
     have hrz:bg p M z (fun j=>cs.getD j Go.undef):=fun j hj=>⟨hvz j hj,h1 j hj⟩
     obtain ⟨hrz,hzl⟩:=GS sy hrz
     have hs:=hs.trans hzl.symm
     have hop:=tj hF parts.toList
     have hcp:(parts.map fun (i,x)=>(i,a.eval x)).toList=parts.toList.map fun x=>(x.1,a.eval x.2):=by simp
     cases hu:P.underlying t with
     | none=>rw[hu] at h;simp at h
     | some d =>
       rw[hu] at h
       cases d
       case struct fs =>
        simp only at h
        cases hpl:kP P fs.toList with
        | none=>rw[hpl] at h;simp at h
        | some l =>
          rw[hpl] at h
          obtain ⟨r',hf,rfl⟩:=Option.map_eq_some_iff.1 h
          obtain ⟨cells',k1,k2,k3⟩:=oN (place':=fun i=>(l.toArray)[i]?) (dS fr parts.toList) (parts.toList.map fun x=>(x.1,a.eval x.2)) _ r' cs hf (fun i x hx=>by simpa using hx) hrz hs
           (by simp[hop.1]) (fun j hj=>hop.2 j (by rw[hop.1] at hj;exact hj))
          refine ⟨.agg cells',?_,.agg k2 (fun j hj=>(k3 j hj).2) (fun j hj=>(k3 j hj).1)⟩
          simp only[Instr.build,Sem.run_bind,hr0,Result.andThen,run_underlying hu,Value.cells,hcp,Array.mapM_eq_mapM_toList,Sem.run_map,nm P fs.toList w l hpl]
          rw[k1]
          simp
       case array n e =>
        simp only at h
        cases hsz:bE P e with
        | none=>rw[hsz] at h;simp at h
        | some n =>
          rw[hsz] at h
          obtain ⟨r',hf,rfl⟩:=Option.map_eq_some_iff.1 h
          obtain ⟨cells',k1,k2,k3⟩:=oN (place':=fun i=>some (i*n,n)) (dS fr parts.toList) (parts.toList.map fun x=>(x.1,a.eval x.2)) _ r' cs hf (fun i x hx=>hx) hrz hs
           (by simp[hop.1]) (fun j hj=>hop.2 j (by rw[hop.1] at hj;exact hj))
          refine ⟨.agg cells',?_,.agg k2 (fun j hj=>(k3 j hj).2) (fun j hj=>(k3 j hj).1)⟩
          simp only[Instr.build,Sem.run_bind,hr0,Result.andThen,run_underlying hu,Value.cells,hcp,aN hsz]
          rw[k1]
          simp
       all_goals simp at h
   all_goals (revert h;cases P.underlying t<;>simp)

theorem qR (w:World) (g:Nat) (cs:Array Value):dx (fun x=>x≠g) w (w.setRow g cs):=by
 refine ⟨rfl,rfl,rfl,by simp[World.setRow],fun b hb hk=>?_⟩;simp only[World.setRow,Array.getElem?_modify];rw[if_neg (Ne.symm hk)]

theorem tu:∀ (l:List db) (o n:Nat) (q l':List db),yX l o n q=some l'→ay q=n→ay l'=ay l∧∀ i,i<ay l→getM l' i=if o≤i∧i<o+n then getM q (i-o) else getM l i
 | [],_,_,_,_,h,_=>by simp[yX] at h
 | .one _::_,0,_,_,_,h,_=>by simp[yX] at h
 | .one v::r,o+1,n,q,l',h,hq=>by
   simp only[yX,Option.map_eq_some_iff] at h;obtain ⟨l1,h1,rfl⟩:=h;have ih:=tu r o n q l1 h1 hq;refine ⟨by simp[ay,aP,ih.1],fun i hi=>?_⟩;cases i with
   | zero=>simp[getM]
   | succ i =>
     simp only[getM];rw[ih.2 i (by simp[ay,aP] at hi;omega)];by_cases e:o≤i∧i<o+n
     · rw[if_pos e,if_pos wO];congr 1;omega
     · rw[if_neg e,if_neg wO]
 | .arr k z m :: r,o,n,q,l',h,hq=>by
   simp only[yX] at h;split at h
   · rename_i hc;rw[Bool.and_eq_true] at hc;have e1:o=0:=by simpa using hc.1
     have e2:m=n:=by simpa using hc.2
     subst e1;subst e2;simp only[Option.some.injEq] at h;subst h;have app : ∀ (a b:List db),ay (a++b)=ay a+ay b∧∀ i,getM (a++b) i=if i<ay a then getM a i else getM b (i-ay a):=by
      intro a b;induction a with
      | nil=>simp[ay]
      | cons x a ih =>
        refine ⟨by simp[ay,ih.1];omega,fun i=>?_⟩;cases x with
        | one v =>
          cases i with
          | zero=>simp[getM,ay,aP]
          | succ i =>
            have hl:ay (db.one v::a)=1+ay a:=rfl;by_cases e:i<ay a
            · rw[if_pos (show i+1<ay (db.one v::a) by omega)];show getM (a++b) i=getM a i;rw[ih.2 i,if_pos e]
            · rw[if_neg (show ¬ i+1<ay (db.one v::a) by omega)];show getM (a++b) i=_;rw[ih.2 i,if_neg e];congr 1;omega
        | arr k z n =>
          have hl:ay (db.arr k z n::a)=n+ay a:=rfl;by_cases e0:i<n
          · rw[if_pos (show i<ay (db.arr k z n::a) by omega)];show (if i<n then _ else _)=(if i<n then _ else _);rw[if_pos e0,if_pos e0]
          · by_cases e:i-n<ay a
            · rw[if_pos (show i<ay (db.arr k z n::a) by omega)];show (if i<n then _ else getM (a++b) (i-n))=(if i<n then _ else getM a (i-n));rw[if_neg e0,if_neg e0,ih.2,if_pos e]
            · rw[if_neg (show ¬ i<ay (db.arr k z n::a) by omega)];show (if i<n then _ else getM (a++b) (i-n))=_;rw[if_neg e0,ih.2,if_neg e];congr 1;omega
     refine ⟨by rw[(app q r).1,hq];simp[ay,aP],fun i hi=>?_⟩;rw[(app q r).2,hq];simp only[getM,Nat.zero_le,true_and,Nat.zero_add,Nat.sub_zero];by_cases e:i<m
     · rw[if_pos e,if_pos e]
     · rw[if_neg e,if_neg e,if_neg e]
   · split at h
     · rename_i hm;have hm:m≤o:=by simpa using hm
       simp only[Option.map_eq_some_iff] at h;obtain ⟨l1,h1,rfl⟩:=h;have ih:=tu r (o-m) n q l1 h1 hq;refine ⟨by simp[ay,aP,ih.1],fun i hi=>?_⟩;simp only[getM];by_cases e0:i<m
       · rw[if_pos e0,if_pos e0,if_neg wO]
       · rw[if_neg e0,if_neg e0,ih.2 (i-m) (by simp[ay,aP] at hi;omega)];by_cases e:o≤i∧i<o+n
         · rw[if_pos e,if_pos wO];congr 1;omega
         · rw[if_neg e,if_neg wO]
     · simp at h

theorem bg.jH {p:aF} {M:Mu} {r q:Row} {vs cs:Nat→Value} (h:bg p M r vs) (hq:bg p M q cs) (off:Nat) (hfit:off+q.len≤r.len) :
 (jH r off q).len=r.len∧bg p M (jH r off q) (fun i=>if off≤i∧i<off+q.len then cs (i-off) else vs i):=by
 have base:(r.cN off q.toList).len=r.len∧bg p M (r.cN off q.toList) (fun i=>if off≤i∧i<off+q.len then cs (i-off) else vs i):=by
  refine ⟨Row.iZ _ _ _,?_⟩;have:=bg.cN q.toList off cs h (fun i hi=>hq.list i hi);rw[Row.bo] at this;exact this
 have hG:∀ l,r=.M l→(w8 l off q).len=r.len∧bg p M (w8 l off q) (fun i=>if off≤i∧i<off+q.len then cs (i-off) else vs i):=by
  rintro l rfl;unfold w8;split
  · split
    · rename_i qs hqs;have hsr:ke q=.M qs:=by
       unfold J5 at hqs;split at hqs
       · rename_i l' e;rw[e];simpa using hqs
       · simp at hqs
      have hr2:=tK hq;have hl2:=tJ q;rw[hsr] at hr2 hl2;have hl2:ay qs=q.len:=hl2;split
      · rename_i hc;rw[Bool.and_eq_true] at hc;have e1:off=0:=by simpa using hc.1
        have e2:ay l=q.len:=by simpa using hc.2
        subst e1;refine ⟨by show ay qs=ay l;omega,fun i hi=>?_⟩;have hi:i<ay qs:=hi;have:=hr2 i hi;simp only[Nat.zero_le,true_and,Nat.zero_add,Nat.sub_zero];rw[if_pos wO];exact this
      · split
        · rename_i l' hp;have hp:=tu _ _ _ _ _ hp hl2;refine ⟨hp.1,fun i hi=>?_⟩;have hi:i<ay l:=by have:i<ay l':=hi;omega
          simp only[Row.get,jc];rw[hp.2 i hi];by_cases e:off≤i∧i<off+q.len
          · rw[if_pos e,if_pos e];exact hr2 (i-off) (by show i-off<ay qs;omega)
          · rw[if_neg e,if_neg e];exact h i hi
        · exact base
    · exact base
  · exact base
 cases r with
 | M l =>
   simp only[Eng.jH]
   split
   · rename_i k z m
     split
     · rename_i k' z' n
       split
       · rename_i hk
         subst hk
         have hfit:off+n≤m:=by simpa[Row.len,ay,aP] using hfit
         refine ⟨rfl,fun i hi=>?_⟩
         have hi:i<m:=by simpa[Row.len,ay,aP] using hi
         have hln:(Row.M [db.arr k' z' n]).len=n:=by simp[Row.len,ay,aP]
         simp only[Row.get,getM,jc,if_pos hi,xO]
         rw[hln]
         by_cases e:off≤i∧i<off+n
         · rw[if_pos e,if_pos e]
           have hj:i-off<n:=by omega
           have:=hq (i-off) (by rw[hln];exact hj)
           simp only[Row.get,getM,jc,if_pos hj] at this
           exact this
         · rw[if_neg e,if_neg e]
           have:=h i (by simpa[Row.len,ay,aP] using hi)
           simp only[Row.get,getM,jc,if_pos hi] at this
           exact this
       · exact hG _ rfl
     · exact hG _ rfl
   · exact hG _ rfl
 | I k l=>exact base
 | G l=>exact base
 | F f n=>exact base

theorem xl {p:aF} {M:Mu} {r q:Row} {b o t off:Nat} {c cs:Array Value} {e:TypeId} {w:World} (hb:w.heap[b]?=some (.cells c e (0,0))) (hs:c.size=t) (hl:o+r.len≤t)
 (hr:bg p M r (fun j=>c.getD (o+j) Go.undef)) (hq:bg p M q (fun j=>cs.getD j Go.undef)) (hcs:cs.size=q.len) (hfit:off+q.len≤r.len) (P:Program) :
 ∃ w',(storeCells ⟨b,o+off,none⟩ cs.toList 0).run P w=.ok () w'∧(∀ r',r'.len=r.len→bg p M r' (fun i=>if off≤i∧i<off+q.len then cs.getD (i-off) Go.undef else c.getD (o+i) Go.undef)→fB p M (.row r') b o t w')∧dx (fun x=>x≠b) w w':=by
 have h1:∀ v ∈ cs.toList,v.oneCell'=true:=by
  intro v hv;obtain ⟨j,hj,rfl⟩:=List.getElem_of_mem hv;simp at hj;have:=(hq j wO).2;simpa[hj] using this
 have hst:=run_storeCells_at (P:=P) b (o+off) e cs.toList 0 c w hb (by simp;omega) h1
 refine ⟨_,hst,fun r' hl' hr'=>?_,qR _ _ _⟩
 refine ⟨_,e,setRow_heap w b c _ e _ hb,?_,by rw[hl'];exact hl,?_⟩
 · simp;omega
 · refine hr'.congr (fun j hj=>?_)
   rw[hl'] at hj
   have hlen:(c.toList.take (o+off)).length=o+off:=by simp;omega
   by_cases e1:off≤j∧j<off+q.len
   · rw[if_pos e1]
     have hj2:j-off<cs.size:=by omega
     simp only[Nat.add_zero]
     have:o+j=(c.toList.take (o+off)).length+(j-off):=by omega
     simp only[Array.getD_eq_getD_getElem?,List.getElem?_toArray]
     rw[this,List.append_assoc,List.getElem?_append_right wO]
     simp only[Nat.add_sub_cancel_left]
     rw[List.getElem?_append_left (by simpa using hj2)]
     simp
   · rw[if_neg e1]
     simp only[Nat.add_zero,Array.getD_eq_getD_getElem?,List.getElem?_toArray]
     by_cases e2:j<off
     · rw[List.append_assoc,List.getElem?_append_left wO,List.getElem?_take_of_lt wO]
       simp
     · rw[List.append_assoc,List.getElem?_append_right wO,List.getElem?_append_right (by simp;omega)]
       rw[List.getElem?_drop]
       have:o+off+cs.toList.length+(o+j-(List.take (o+off) c.toList).length-cs.toList.length)=o+j:=by simp;omega
       rw[this]
       simp

theorem mS {p:aF} {M:Mu} {H:ab} {w:World} (hH:bj p M H w) {d i v:Nat} {r:Row} (h:dg H d i v=some r) {b o t:Nat} (hm:M d i v=some (b,o,t)) :
 ∃ c e,w.heap[b]?=some (.cells c e (0,0))∧c.size=t∧o+r.len≤t∧bg p (M.up d) r (fun j=>c.getD (o+j) Go.undef):=by
 obtain ⟨b',o',t',hm',hB,_⟩:=hH.live d i v _ (dL h) (by simp)
 rw[hm] at hm'
 simp only[nP] at hm'
 obtain ⟨rfl,rfl,rfl⟩:=hm'
 exact hB

theorem qi {p:aF} {M:Mu} {H:ab} {w:World} (hH:bj p M H w) {d i v:Nat} {r q:Row} {off b o t:Nat} {cs:Array Value} (hr:dg H d i v=some r) (hl:aL H d=false)
 (hm:M d i v=some (b,o,t)) (hq:bg p (M.up d) q (fun j=>cs.getD j Go.undef)) (hcs:cs.size=q.len) (hfit:off+q.len≤r.len) (P:Program) (x:AV) (cx:Value) (hx:al p M x cx)
 (r':Row) (hr':∀ vs,bg p (M.up d) r vs→r'.len=r.len∧bg p (M.up d) r' (fun i=>if off≤i∧i<off+q.len then cs.getD (i-off) Go.undef else vs i)) :
 ∃ w',(storeCells ⟨b,o+off,none⟩ cs.toList 0).run P w=.ok () w'∧eI p M H nx x (.set d i (v,.row r')) cx w w':=by
 obtain ⟨c,e,k1,k2,k3,k4⟩:=mS hH hr hm
 obtain ⟨w',h1,h2,h3⟩:=xl k1 k2 k3 k4 hq hcs hfit P
 have h4:=hr' _ k4
 refine ⟨w',h1,v,.row r,b,o,t,b,o,t,dL hr,by simp,hl,hm,by simp,h2 r' h4.1 h4.2,h3,.inl rfl,?_,.inl ⟨rfl,rfl,rfl,rfl⟩⟩
 exact hx.mono (aF.le.refl _) (j6 fun u hu=>by rw[hm] at hu;exact (Option.some.inj hu).symm)
theorem zn {p:aF} {M:Mu} {H:ab} {w:World} (hH:bj p M H w) {d i v:Nat} {r q:Row} {off b o t:Nat} {cs:Array Value} (hr:dg H d i v=some r) (hl:aL H d=false)
 (hm:M d i v=some (b,o,t)) (hq:bg p (M.up d) q (fun j=>cs.getD j Go.undef)) (hcs:cs.size=q.len) (hfit:off+q.len≤r.len) (P:Program) (x:AV) (cx:Value) (hx:al p M x cx) :
 ∃ w',(storeCells ⟨b,o+off,none⟩ cs.toList 0).run P w=.ok () w'∧eI p M H nx x (.set d i (v,.row (r.cN off q.toList))) cx w w' :=
 qi hH hr hl hm hq hcs hfit P x cx hx _ (fun vs h=>⟨Row.iZ _ _ _,by
  have:=bg.cN q.toList off (fun j=>cs.getD j Go.undef) h (fun i hi=>hq.list i hi);rw[Row.bo] at this;exact this⟩)
theorem vR {p:aF} {M:Mu} {H:ab} {w:World} (hH:bj p M H w) {d i v:Nat} {r q:Row} {off b o t:Nat} {cs:Array Value} (hr:dg H d i v=some r) (hl:aL H d=false)
 (hm:M d i v=some (b,o,t)) (hq:bg p (M.up d) q (fun j=>cs.getD j Go.undef)) (hcs:cs.size=q.len) (hfit:off+q.len≤r.len) (P:Program) (x:AV) (cx:Value) (hx:al p M x cx) :
 ∃ w',(storeCells ⟨b,o+off,none⟩ cs.toList 0).run P w=.ok () w'∧eI p M H nx x (.set d i (v,.row (jH r off q))) cx w w' :=
 qi hH hr hl hm hq hcs hfit P x cx hx _ (fun vs h=>h.jH hq off hfit)

theorem EF        {P:Program} {p:aF} {M:Mu} {H:ab} {t:TypeId} {a x:AV} {ca cx:Value} {δ:Delta} {w:World} (h:gp P H t a x=some δ) (hδ:∀ H',δ≠.heap H')
 (ha:al p M a ca) (hx:al p M x cx) (hH:bj p M H w) :
 ∃ w',(Instr.storeAt t ca cx).run P w=.ok () w'∧eI p M H nx (.tup []) δ Go.undef w w':=by
 unfold gp at h
 cases ha with
 | ptr hm =>
   rename_i d i ver off b o tt
   simp only at h
   split at h
   · simp at h
   · rename_i hl
     have hl:aL H d=false:=by simpa using hl
     cases hr:dg H d i ver with
     | none=>rw[hr] at h;simp at h
     | some r =>
       cases hs:bE P t with
       | none=>rw[hr,hs] at h;simp at h
       | some n =>
         cases hq:x.row with
         | none=>rw[hr,hs,hq] at h;simp at h
         | some q =>
           rw[hr,hs,hq] at h
           simp only at h
           split at h
           · rename_i hfit
             have hset:δ=.set d i (ver,.row (jH r off (jd d q))):=by
              revert h;split
              · split
                · intro h;simp at h
                · split
                  · intro h;simp only[Option.some.injEq] at h;exact absurd h.symm (hδ _)
                  · intro h;simp at h
              · intro h;simp only[Option.some.injEq] at h;exact h.symm
             subst hset
             have hv:=AV.iv hx hq
             have hd:=hv.2.jd (k:=d)
             have hlen:(jd d q).len=q.len:=by cases d<;>cases q<;>simp[jd,we,Row.len,aU]
             obtain ⟨w',h1,h2⟩:=vR hH (off:=off) hr hl hm hd (by rw[hlen];exact hv.1) (by rw[hlen];omega) P (.tup []) Go.undef (.tup rfl (fun j hj=>absurd hj (by simp)))
             refine ⟨w',?_,h2⟩
             simp only[Instr.storeAt,Instr.sureAddr,Sem.run_bind,Result.andThen,Sem.run_pure,storeVar,aN hs]
             rw[if_neg (by rw[hv.1];exact fun e=>e hfit.1)]
             simpa[Sem.run_bind,Result.andThen] using h1
           · simp at h
 | _=>simp at h

theorem Bf {P:Program} {op:BinOp} {k:IntKind} {x y:Int} {v:AV} (h:gU op k x y=some v) (hs:op≠.shl) (hs':op≠.shr) (p:aF) (M:Mu) (t:TypeId) (w:World) :
 ∃ c,(binOp op t (.int k x) (.int k y)).run P w=.ok c w∧al p M v c:=by
 cases op<;>simp only[gU,Option.some.injEq,reduceCtorEq] at h
 case quo =>
  split at h
  · simp at h
  · rename_i hy
    simp only[Option.some.injEq] at h
    subst h
    exact ⟨_,by simp[binOp,Op.intDiv,hy],.int _ _⟩
 case rem =>
  split at h
  · simp at h
  · rename_i hy
    simp only[Option.some.injEq] at h
    subst h
    exact ⟨_,by simp[binOp,Op.intDiv,hy],.int _ _⟩
 all_goals
  subst h
  refine ⟨_,by simp only[binOp,ne_eq,not_true_eq_false,if_false];rfl,?_⟩
  first
   | exact .int _ _
   | exact .bool _

theorem Jr {P:Program} {op:UnOp} {x v:AV} {c:Value} (h:PX op x=some v) {p:aF} {M:Mu} (hx:al p M x c) (w:World) :
 ∃ cv,(Op.unary op c).run P w=.ok cv w∧al p M v cv:=by
 unfold PX at h
 split at h
 · simp only[Option.some.injEq] at h;subst h
   cases hx
   exact ⟨_,by simp[Op.unary],.bool _⟩
 · simp only[Option.some.injEq] at h;subst h
   cases hx
   exact ⟨_,by simp[Op.unary,Op.intArith],.int _ _⟩
 · simp at h

theorem rQ {p:aF} {M:Mu} {a v:AV} {c:Value} {n:Nat} (h:lz a n=some v) (ha:al p M a c):∃ b o,c=.pointer (some ⟨b,o,none⟩)∧al p M v (.pointer (some ⟨b,o+n,none⟩)):=by
 unfold lz at h;split at h
 · simp only[Option.some.injEq] at h;subst h;cases ha with
   | ptr hm=>exact ⟨_,_,rfl,by rw[Nat.add_assoc];exact .ptr hm⟩
 · simp only[Option.some.injEq] at h;subst h;cases ha with
   | ptrT vs h0 h1 hv=>exact ⟨_,_,rfl,by rw[Nat.add_assoc];exact .ptrT vs h0 h1 hv⟩
 · simp at h
theorem ux {P:Program} {t:TypeId} {a v:AV} {c:Value} {f:Nat} (h:iG P t a f=some v) {p:aF} {M:Mu} (ha:al p M a c) (w:World) :
 ∃ cv,(Instr.fieldAt t c f).run P w=.ok cv w∧al p M v cv:=by
 unfold iG at h
 cases hu:P.underlying t with
 | none=>rw[hu] at h;simp at h
 | some d =>
   rw[hu] at h
   cases d<;>try (simp at h;done)
   rename_i fs
   simp only at h
   cases hf:fs[f]? with
   | none=>rw[hf] at h;simp at h
   | some g =>
     rw[hf] at h
     simp only at h
     cases hs:bE P g.type with
     | none=>rw[hs] at h;simp at h
     | some n =>
       rw[hs] at h
       cases n with
       | zero=>simp at h
       | succ n =>
         obtain ⟨b,o,rfl,hv⟩:=rQ h ha
         refine ⟨_,?_,hv⟩
         simp[Instr.fieldAt,Sem.run_bind,run_underlying hu,Result.andThen,hf,Instr.sureAddr,fieldPlace,aN hs,dU]
theorem uG {P:Program} {t:TypeId} {x v:AV} {c:Value} {i:Int} {k:IntKind} (h:iQ P t x i=some v) {p:aF} {M:Mu} (hx:al p M x c) (w:World) :
 ∃ cv,(Instr.indexAt t c (.int k i)).run P w=.ok cv w∧al p M v cv:=by
 unfold iQ at h
 cases hu:P.underlying t with
 | none=>rw[hu] at h;simp at h
 | some d =>
   rw[hu] at h
   cases d
   case array n e =>
    simp only at h
    cases hs:bE P e with
    | none=>rw[hs] at h;simp at h
    | some z =>
      rw[hs] at h
      simp only at h
      split at h
      · rename_i hi
        obtain ⟨b,o,rfl,hv⟩:=rQ h hx
        refine ⟨_,?_,hv⟩
        simp[Instr.indexAt,Sem.run_bind,run_underlying hu,Result.andThen,Instr.sureAddr,aN hs,dU,asIntOf,hi]
      · simp at h
   case slice e =>
    cases hx with
    | slc hm hl hc hn hx =>
      rename_i d j ver off sz len b o tt x cc cap
      simp only at h
      split at h
      · rename_i hi
        obtain ⟨hi1,hi2,hs⟩:=hi
        simp only[Option.some.injEq] at h
        subst h
        have hcc:cc≠0:=by omega
        have hxx:x=o+off:=hx.resolve_left hcc
        subst hxx
        refine ⟨.pointer (some ⟨b,o+(off+i.toNat*sz),none⟩),?_,.ptr hm⟩
        have hb:((0:Int)≤i∧i<(len:Int)):=⟨hi1,hi2⟩
        simp[Instr.indexAt,Sem.run_bind,run_underlying hu,Result.andThen,aN hs,dU,asIntOf,hb,Nat.add_assoc]
      · simp at h
    | slcT vs h0 h1 hv hl hf hx =>
      rename_i s r sz len b o x cc full
      simp only at h
      split at h
      · rename_i hi
        obtain ⟨hi1,hi2,hs⟩:=hi
        simp only[Option.some.injEq] at h
        subst h
        have hcc:cc≠0:=by omega
        have hxx:x=o:=hx.resolve_left hcc
        subst hxx
        refine ⟨.pointer (some ⟨b,x+i.toNat*sz,none⟩),?_,.ptrT vs h0 h1 hv⟩
        have hb:((0:Int)≤i∧i<(len:Int)):=⟨hi1,hi2⟩
        simp[Instr.indexAt,Sem.run_bind,run_underlying hu,Result.andThen,aN hs,dU,asIntOf,hb]
      · simp at h
    | slcN =>
      simp only at h
      split at h
      · rename_i hi;omega
      · simp at h
    | _=>simp at h
   all_goals simp at h

theorem yU {P:Program} {p:aF} {M:Mu} {t:TypeId} {r:Row} {off:Nat} {cs:Array Value} {v:AV} (h:jv P t r off=some v) (hs:cs.size=r.len) (hr:bg p M r (fun j=>cs.getD j Go.undef)) (w:World) :
 ∃ c,(part t cs off).run P w=.ok c w∧al p M v c:=by
 unfold jv at h
 cases ha:eX P t with
 | none=>rw[ha] at h;simp at h
 | some g =>
   rw[ha] at h
   cases g with
   | false =>
     simp only at h
     split at h
     · rename_i hlt
       simp only[Option.some.injEq] at h
       subst h
       refine ⟨cs.getD off Go.undef,?_,hr.get off hlt⟩
       unfold part
       have:off<cs.size:=by omega
       simp[Sem.run_bind,eN ha,Result.andThen,this]
     · simp at h
   | true =>
     cases hz:bE P t with
     | none=>rw[hz] at h;simp at h
     | some n =>
       rw[hz] at h
       simp only at h
       split at h
       · rename_i hlt
         simp only[Option.some.injEq] at h
         subst h
         refine ⟨.agg (cs.extract off (off+n)),?_,?_⟩
         · unfold part
           simp[Sem.run_bind,eN ha,Result.andThen,aN hz]
         · have hc:=hr.cut off n hlt
           have hget:∀ j,j<n→(cs.extract off (off+n)).getD j Go.undef=cs.getD (off+j) Go.undef:=by
            intro j hj;have h1:off+j<cs.size:=by omega
            have h2:j<min (off+n) cs.size-off:=by omega
            simp[Array.getElem?_extract,h2,h1]
           refine .agg (by rw[Row.ku _ _ _ hlt];simp;omega) (fun j hj=>?_) (fun j hj=>?_)
           · have hj':=hj;rw[Row.ku _ _ _ hlt] at hj';rw[hget j hj'];exact (hc j hj).2
           · have hj':=hj;rw[Row.ku _ _ _ hlt] at hj';rw[hget j hj'];exact (hc j hj).1
       · simp at h
theorem DU {P:Program} {t:TypeId} {x v:AV} {c:Value} {f:Nat} (h:wj P t x f=some v) {p:aF} {M:Mu} (hx:al p M x c) (w:World) :
 ∃ cv,(Instr.field t c f).run P w=.ok cv w∧al p M v cv:=by
 unfold wj at h
 cases hu:P.underlying t with
 | none=>rw[hu] at h;simp at h
 | some d =>
   rw[hu] at h
   cases d<;>try (simp at h;done)
   rename_i fs
   cases hx<;>try (simp at h;done)
   rename_i r cs hs h1 hv
   simp only at h
   cases hf:fs[f]? with
   | none=>rw[hf] at h;simp at h
   | some g =>
     rw[hf] at h
     obtain ⟨cv,k1,k2⟩:=yU (w:=w) h hs (fun j hj=>⟨hv j hj,h1 j hj⟩)
     exact ⟨cv,by simp[Instr.field,Sem.run_bind,run_underlying hu,Result.andThen,hf,asAgg,k1],k2⟩
theorem D7 {P:Program} {t:TypeId} {x v:AV} {c:Value} {i:Int} {k:IntKind} (h:pV P t x i=some v) {p:aF} {M:Mu} (hx:al p M x c) (w:World) :
 ∃ cv,(Instr.index t c (.int k i)).run P w=.ok cv w∧al p M v cv:=by
 unfold pV at h
 cases hu:P.underlying t with
 | none=>rw[hu] at h;simp at h
 | some d =>
   rw[hu] at h
   cases d<;>try (simp at h;done)
   case array n e =>
    cases hx<;>try (simp at h;done)
    rename_i r cs hs h1 hv
    simp only at h
    cases hz:bE P e with
    | none=>rw[hz] at h;simp at h
    | some z =>
      rw[hz] at h
      simp only at h
      split at h
      · rename_i hi
        obtain ⟨cv,k1,k2⟩:=yU (w:=w) h hs (fun j hj=>⟨hv j hj,h1 j hj⟩)
        exact ⟨cv,by simp[Instr.index,Sem.run_bind,run_underlying hu,Result.andThen,asIntOf,hi,aN hz,k1],k2⟩
      · simp at h
   case string =>
    cases hx<;>try (simp at h;done)
    rename_i s
    simp only at h
    split at h
    · rename_i hi
      cases hb:s[i.toNat]? with
      | none=>rw[hb] at h;simp at h
      | some y =>
        rw[hb] at h
        simp only[Option.some.injEq] at h
        subst h
        exact ⟨_,by simp[Instr.index,Sem.run_bind,run_underlying hu,Result.andThen,asIntOf,hi,hb],.int _ _⟩
    · simp at h

theorem kj {P:Program} {a:AV} {dflt top r:Nat} (h:bound (some a) dflt top=some r) {p:aF} {M:Mu} {c:Value} (ha:al p M a c) (w:World) :
 r≤top∧∀ y code,top≤y→(Instr.sliceBound c y code).run P w=.ok r w:=by
 cases ha<;>try (simp[bound] at h;done)
 rename_i k i
 simp only[bound] at h
 split at h
 · rename_i hi
   simp only[Option.some.injEq] at h
   subst h
   refine ⟨by omega,fun y code hy=>?_⟩
   have:0≤i∧i≤(y:Int):=⟨hi.1,by omega⟩
   simp[Instr.sliceBound,Sem.run_bind,Result.andThen,asIntOf,this]
 · simp at h
def um (p:aF) (M:Mu):Option AV→Option Value→Prop
 | none,none=>True
 | some a,some c=>al p M a c
 | _,_=>False
theorem rZ {P:Program} {lo hi mx:Option AV} {clo chi cmx:Option Value} {p:aF} {M:Mu} (h1:um p M lo clo) (h2:um p M hi chi) (h3:um p M mx cmx) {len cc l h m:Nat} (JP:Bool) (hl:len≤cc)
 (hm:match mx with | none=>m=cc | some a=>bound (some a) 0 len=some m∧hi.isSome=true)
 (hh:bound hi len (match mx with | none=>len | some _=>m)=some h) (hlo:bound lo 0 h=some l) (w:World) :
 (Instr.sliceBounds JP len cc clo chi cmx).run P w=.ok (l,h,m) w∧l≤h∧h≤len∧h≤m∧m≤cc:=by
 have low:∀ code,(match clo with | some v=>Instr.sliceBound v h code | none=>pure 0:Sem Nat).run P w=.ok l w∧l≤h:=by
  intro code;cases lo with
  | none =>
    cases clo with
    | none=>simp only[bound,Option.some.injEq] at hlo;subst hlo;exact ⟨rfl,Nat.zero_le _⟩
    | some _=>exact h1.elim
  | some a =>
    cases clo with
    | none=>exact h1.elim
    | some c=>have:=kj (P:=P) hlo h1 w;exact ⟨this.2 h code (Nat.le_refl _),this.1⟩
 cases mx with
 | none =>
   cases cmx with
   | some _=>exact h3.elim
   | none =>
     simp only at hm hh
     subst hm
     cases hi with
     | none =>
       cases chi with
       | some _=>exact h2.elim
       | none =>
         simp only[bound,Option.some.injEq] at hh
         subst hh
         refine ⟨?_,(low .sliceB).2,Nat.le_refl _,hl,Nat.le_refl _⟩
         simp only[Instr.sliceBounds,Sem.run_bind,Sem.run_pure,Result.andThen]
         have:=(low .sliceB).1
         cases clo<;>simp_all
     | some a =>
       cases chi with
       | none=>exact h2.elim
       | some c =>
         have hb:=kj (P:=P) hh h2 w
         refine ⟨?_,(low .sliceB).2,hb.1,Nat.le_trans hb.1 hl,Nat.le_refl _⟩
         simp only[Instr.sliceBounds,Sem.run_bind,Sem.run_pure,Result.andThen,hb.2 _ _ hl]
         have:=(low .sliceB).1
         cases clo<;>simp_all
 | some am =>
   cases cmx with
   | none=>exact h3.elim
   | some cm =>
     simp only at hm hh
     obtain ⟨hm,hhi⟩:=hm
     have hbm:=kj (P:=P) hm h3 w
     cases hi with
     | none=>simp at hhi
     | some a =>
       cases chi with
       | none=>exact h2.elim
       | some c =>
         have hb:=kj (P:=P) hh h2 w
         refine ⟨?_,(low .slice3C).2,Nat.le_trans hb.1 hbm.1,hb.1,Nat.le_trans hbm.1 hl⟩
         simp only[Instr.sliceBounds,Sem.run_bind,Sem.run_pure,Result.andThen,hbm.2 _ _ hl,hb.2 _ _ (Nat.le_refl _)]
         have:=(low .slice3C).1
         cases clo<;>simp_all

theorem Di {p:aF} {M:Mu} {d i v off sz b o t x cc l h m:Nat} {cap':Option Nat} (hm:M d i v=some (b,o,t)) (hx:cc=0∨x=o+off) (h1:l≤h) (h2:h≤m) (h3:m≤cc)
 (hc:∀ c,cap'=some c→m-l=c) (hn:cap'=none→o+off+m*sz=t) :
 al p M (.slc d i v (off+l*sz) sz (h-l) cap') (.slice (if m=l then some ⟨b,x,none⟩ else some ⟨b,x+l*sz,none⟩) (h-l) (m-l)):=by
 have key:∀ y,(m-l=0∨y=o+(off+l*sz))→al p M (.slc d i v (off+l*sz) sz (h-l) cap') (.slice (some ⟨b,y,none⟩) (h-l) (m-l)):=by
  intro y hy;refine .slc hm wO hc (fun e=>?_) hy;have:=hn e;have e2:m*sz=(m-l)*sz+l*sz:=by rw[← Nat.add_mul];congr 1;omega
  omega
 split
 · exact key x (.inl wO)
 · exact key _ (.inr (by have:cc≠0:=by omega
                         have:=hx.resolve_left this;omega))
theorem G0 {p:aF} {M:Mu} {s:Option Nat} {r:Row} {sz b o x cc l h m:Nat} {full:Bool} (vs:Nat→Value) (hp:∀ j,j<r.len→p b (o+j)=some (vs j)) (h1':∀ j,j<r.len→(vs j).oneCell'=true)
 (hv:∀ j,j<r.len→al p (jc (pA M s) r) (r.get j) (vs j)) (hx:cc=0∨x=o) (h1:l≤h) (h2:h≤m) (h3:m≤cc) (hf:full=true→m-l=h-l) (hfit:l*sz+(h-l)*sz≤r.len) :
 al p M (.slcT s (r.sub (l*sz) ((h-l)*sz)) sz (h-l) full) (.slice (if m=l then some ⟨b,x,none⟩ else some ⟨b,x+l*sz,none⟩) (h-l) (m-l)):=by
 have hr:bg p (pA M s) r vs:=fun j hj=>⟨hv j hj,h1' j hj⟩
 have hsub:=hr.sub (l*sz) ((h-l)*sz) hfit
 have hsl:=Row.dp r (l*sz) ((h-l)*sz) hfit
 have key:∀ y,(m-l=0∨y=o+l*sz)→al p M (.slcT s (r.sub (l*sz) ((h-l)*sz)) sz (h-l) full) (.slice (some ⟨b,y,none⟩) (h-l) (m-l)):=by
  intro y hy;refine .slcT (fun j=>vs (l*sz+j)) (fun j hj=>?_) (fun j hj=>(hsub j hj).2) (fun j hj=>(hsub j hj).1) wO hf hy;rw[Nat.add_assoc];exact hp _ wO
 split
 · exact key x (.inl wO)
 · exact key _ (.inr (by have:cc≠0:=by omega
                         have:=hx.resolve_left this;omega))

theorem gE {P:Program} {lo hi mx:Option AV} {clo chi cmx:Option Value} {p:aF} {M:Mu} (h1:um p M lo clo) (h2:um p M hi chi) (h3:um p M mx cmx) {len cc l h:Nat} {mm:Option Nat} (JP:Bool) (hl:len≤cc)
 (hb:ep lo hi mx len=some (l,h,mm)) (w:World) :
 ∃ m,(Instr.sliceBounds JP len cc clo chi cmx).run P w=.ok (l,h,m) w∧l≤h∧h≤len∧h≤m∧m≤cc∧(mm=none→m=cc)∧∀ q,mm=some q→m=q:=by
 unfold ep at hb
 cases mx with
 | none =>
   simp only at hb
   cases hh:bound hi len len with
   | none=>rw[hh] at hb;simp at hb
   | some h' =>
     rw[hh] at hb
     simp only at hb
     cases hlo:bound lo 0 h' with
     | none=>rw[hlo] at hb;simp at hb
     | some l' =>
       rw[hlo] at hb
       simp only[nP] at hb
       obtain ⟨rfl,rfl,rfl⟩:=hb
       have:=rZ (P:=P) h1 h2 h3 (m:=cc) JP hl rfl hh hlo w
       exact ⟨cc,this.1,this.2.1,this.2.2.1,this.2.2.2.1,this.2.2.2.2,fun _=>rfl,fun q e=>by cases e⟩
 | some a =>
   simp only at hb
   cases hm:bound (some a) 0 len with
   | none=>rw[hm] at hb;simp at hb
   | some m =>
     rw[hm] at hb
     simp only at hb
     split at hb
     · rename_i hi'
       cases hh:bound hi len m with
       | none=>rw[hh] at hb;simp at hb
       | some h' =>
         rw[hh] at hb
         simp only at hb
         cases hlo:bound lo 0 h' with
         | none=>rw[hlo] at hb;simp at hb
         | some l' =>
           rw[hlo] at hb
           simp only[nP] at hb
           obtain ⟨rfl,rfl,rfl⟩:=hb
           have:=rZ (P:=P) h1 h2 h3 (m:=m) JP hl ⟨hm,hi'⟩ hh hlo w
           exact ⟨m,this.1,this.2.1,this.2.2.1,this.2.2.2.1,this.2.2.2.2,(by simp),(by simp)⟩
     · simp at hb

theorem Ey {P:Program} {t:TypeId} {x v:AV} {c:Value} {lo hi mx:Option AV} {clo chi cmx:Option Value} (h:qk P t x lo hi mx=some v) {p:aF} {M:Mu} (hx:al p M x c)
 (h1:um p M lo clo) (h2:um p M hi chi) (h3:um p M mx cmx) (w:World) :
 ∃ cv,(Instr.sliceAt t c clo chi cmx).run P w=.ok cv w∧al p M v cv:=by
 unfold qk at h
 cases hu:P.underlying t with
 | none=>rw[hu] at h;simp at h
 | some d =>
   rw[hu] at h
   cases d<;>try (simp at h;done)
   case slice e =>
    cases hx with
    | slc hm hl hc hn hx =>
      rename_i d j v' off sz len b o tt x cc cap
      simp only at h
      cases hb:ep lo hi mx len with
      | none=>rw[hb] at h;simp at h
      | some q =>
        obtain ⟨l,h',mm⟩:=q
        rw[hb] at h
        simp only at h
        split at h
        · rename_i hs
          simp only[Option.some.injEq] at h
          subst h
          obtain ⟨m,k1,k2,k3,k4,k5,k6,k7⟩:=gE (P:=P) h1 h2 h3 true hl hb w
          refine ⟨_,?_,Di (m:=m) hm hx k2 k4 k5 (fun q hq=>?_) (fun e=>?_)⟩
          · simp only[Instr.sliceAt,Sem.run_bind,run_underlying hu,Result.andThen,Instr.slice,k1,aN hs,Sem.run_pure]
            by_cases e:m=l<;>simp[e,dU]
          · cases mm with
            | none =>
              simp only[Option.map_eq_some_iff] at hq
              obtain ⟨q',hq',rfl⟩:=hq
              rw[k6 rfl,hc q' hq']
            | some q'=>simp only[Option.some.injEq] at hq;rw[k7 q' rfl];exact hq
          · cases mm with
            | none=>rw[k6 rfl];simp only[Option.map_eq_none_iff] at e;exact hn e
            | some q'=>simp at e
        · simp at h
    | slcT vs h0 h1' hv hl hf hx =>
      rename_i s r sz len b o x cc full
      simp only at h
      cases hb:ep lo hi mx len with
      | none=>rw[hb] at h;simp at h
      | some q =>
        obtain ⟨l,h',mm⟩:=q
        rw[hb] at h
        simp only at h
        split at h
        · rename_i hs
          obtain ⟨hs,hfit⟩:=hs
          simp only[Option.some.injEq] at h
          subst h
          obtain ⟨m,k1,k2,k3,k4,k5,k6,k7⟩:=gE (P:=P) h1 h2 h3 true hl hb w
          refine ⟨_,?_,G0 (m:=m) vs h0 h1' hv hx k2 k4 k5 (fun e=>?_) hfit⟩
          · simp only[Instr.sliceAt,Sem.run_bind,run_underlying hu,Result.andThen,Instr.slice,k1,aN hs,Sem.run_pure]
            by_cases e:m=l<;>simp[e,dU]
          · cases mm with
            | none =>
              simp only[Bool.and_eq_true] at e
              have e1:=hf e.1
              have e2:h'=len:=by simpa using e.2
              rw[k6 rfl];omega
            | some q' =>
              simp only at e
              have e2:h'=q':=by simpa using e
              rw[k7 q' rfl];omega
        · simp at h
    | nils =>
      simp only at h
      cases hb:ep lo hi mx 0 with
      | none=>rw[hb] at h;simp at h
      | some q =>
        obtain ⟨l,h',mm⟩:=q
        cases hs:bE P e with
        | none=>rw[hb,hs] at h;simp at h
        | some n =>
          rw[hb,hs] at h
          simp only[Option.some.injEq] at h
          subst h
          obtain ⟨m,k1,k2,k3,k4,k5,k6,k7⟩:=gE (P:=P) h1 h2 h3 true (Nat.le_refl 0) hb w
          have e1:l=0:=by omega
          have e2:h'=0:=by omega
          have e3:m=0:=by omega
          subst e1 e2 e3
          refine ⟨.slice none 0 0,?_,.nils⟩
          simp only[Instr.sliceAt,Sem.run_bind,run_underlying hu,Result.andThen,Instr.slice,k1,aN hs,Sem.run_pure]
          simp
    | slcN =>
      rename_i a0 s0 r0 sz0 full0
      simp only at h
      cases hb:ep lo hi mx 0 with
      | none=>rw[hb] at h;simp at h
      | some q =>
        obtain ⟨l,h',mm⟩:=q
        rw[hb] at h
        simp only at h
        split at h
        · rename_i hc
          simp only[Option.some.injEq] at h
          obtain ⟨m,k1,k2,k3,k4,k5,k6,k7⟩:=gE (P:=P) h1 h2 h3 true (Nat.le_refl 0) hb w
          have e1:l=0:=by omega
          have e2:h'=0:=by omega
          have e3:m=0:=by omega
          subst h
          subst e1 e2 e3
          refine ⟨.slice a0 0 0,?_,.slcN⟩
          simp only[Instr.sliceAt,Sem.run_bind,run_underlying hu,Result.andThen,Instr.slice,k1,aN hc.1,Sem.run_pure]
          cases a0 with
          | none=>simp
          | some a0=>simp[Addr.add]
        · simp at h
    | _=>simp at h
   case array n e =>
    cases hx with
    | ptr hm =>
      rename_i d j v' off b o tt
      simp only at h
      cases hb:ep lo hi mx n with
      | none=>rw[hb] at h;simp at h
      | some q =>
        obtain ⟨l,h',mm⟩:=q
        rw[hb] at h
        simp only at h
        cases hs:bE P e with
        | none=>rw[hs] at h;simp at h
        | some sz =>
          rw[hs] at h
          simp only[Option.some.injEq] at h
          subst h
          obtain ⟨m,k1,k2,k3,k4,k5,k6,k7⟩:=gE (P:=P) h1 h2 h3 false (Nat.le_refl n) hb w
          refine ⟨_,?_,Di (m:=m) (cc:=n) (x:=o+off) hm (.inr rfl) k2 k4 k5 (fun q hq=>?_) (fun e=>?_)⟩
          · simp only[Instr.sliceAt,Sem.run_bind,run_underlying hu,Result.andThen,Instr.sureAddr,k1,aN hs,Sem.run_pure]
            by_cases e:m=l<;>simp[e,dU]
          · cases mm with
            | none=>simp only[Option.some.injEq] at hq;rw[k6 rfl];exact hq
            | some q'=>simp only[Option.some.injEq] at hq;rw[k7 q' rfl];exact hq
          · cases mm<;>simp at e
    | _=>simp at h

theorem pw (k:Nat) (r:Row):(BO k r).len=r.len:=by cases k<;>cases r<;>simp[BO,BP,Row.len,aU]
theorem fe (k:Nat) (r:Row):(jd k r).len=r.len:=by cases k<;>cases r<;>simp[jd,we,Row.len,aU]
theorem It {P:Program} {H:ab} {t:TypeId} {x:AV} {n:Int} {c:Value} (h:uI P H t x=some n) {p:aF} {M:Mu} (hx:al p M x c) {w:World} (hH:bj p M H w) (ts:Array TypeId) (hts:ts[0]?=some t) (ty:TypeId) (cs:Array Value) (hcs:cs[0]?=some c) :
 (Builtin.len_ ts ty cs).run P w=.ok (.int .i64 n) w:=by
 unfold uI at h
 cases hu:P.underlying t with
 | none=>rw[hu] at h;simp at h
 | some d =>
   rw[hu] at h
   unfold Builtin.len_
   simp only[hts,hcs]
   cases d<;>try (simp at h;done)
   case array m e =>
    simp only[Option.some.injEq] at h
    subst h
    simp[Sem.run_bind,run_underlying hu,Result.andThen,goInt]
   case slice e =>
    cases hx<;>simp at h<;>subst h<;>simp[Sem.run_bind,run_underlying hu,Result.andThen,goInt]
   case map k e =>
    cases hx<;>try (simp at h;done)
    case nilm =>
     simp at h;subst h
     simp[Sem.run_bind,run_underlying hu,Result.andThen,goInt]
    case map d i b o t' hm =>
     simp only at h
     split at h
     · rename_i es hg
       simp only[Option.some.injEq] at h
       subst h
       obtain ⟨b',o',t'',hm',hB,_⟩:=hH.live d i 0 _ hg (by simp)
       rw[hm] at hm'
       simp only[nP] at hm'
       obtain ⟨rfl,rfl,rfl⟩:=hm'
       obtain ⟨ces,clock,k1,k2,k3⟩:=hB
       simp[Sem.run_bind,run_underlying hu,Result.andThen,goInt,getObj,Sem.run,k1,k2]
     · rename_i f g c hg
       simp only[Option.some.injEq] at h
       subst h
       obtain ⟨b',o',t'',hm',hB,_⟩:=hH.live d i 0 _ hg (by simp)
       rw[hm] at hm'
       simp only[nP] at hm'
       obtain ⟨rfl,rfl,rfl⟩:=hm'
       obtain ⟨es,hE,ces,clock,k1,k2,k3⟩:=hB
       simp[Sem.run_bind,run_underlying hu,Result.andThen,goInt,getObj,Sem.run,k1,k2,hE.len]
     · simp at h

theorem oY {x:AV} {n:Nat} (h:nL x=some n) {p:aF} {M:Mu} {c:Value} (hx:al p M x c):∃ a cc,c=.slice a n cc:=by
 cases hx<;>simp[nL] at h<;>subst h<;>exact ⟨_,_,rfl⟩

theorem gd {P:Program} {H:ab} {sz n:Nat} {x:AV} {q:Row} (h:eD H sz n x=some q) {p:aF} {M:Mu} {c:Value} (hx:al p M x c) {w:World} (hH:bj p M H w) :
 ∃ cs,(Builtin.firstCells sz n c).run P w=.ok cs w∧cs.size=q.len∧q.len=n*sz∧bg p M q (fun j=>cs.getD j Go.undef):=by
 have mk:∀ (b o:Nat) (r:Row) (vs:Nat→Value),KY w b o r.len vs→bg p M r vs→r.len=n*sz →
  ∃ cs,(loadCells ⟨b,o,none⟩ (n*sz)).run P w=.ok cs w∧cs.size=r.len∧bg p M r (fun j=>cs.getD j Go.undef):=by
  intro b o r vs hl hr hn
  refine ⟨_,run_loadCells w _ (n*sz) vs (fun j hj=>by rw[dU];exact hl j wO),by simp[hn],hr.congr (fun j hj=>?_)⟩
  have:j<n*sz:=by omega
  simp[this]
 unfold eD at h
 cases hx with
 | nils =>
   simp only at h
   split at h
   · rename_i hn
     simp only[Option.some.injEq] at h
     subst h;subst hn
     exact ⟨#[],by simp[Builtin.firstCells],rfl,by simp[Row.len],fun j hj=>absurd hj (by simp[Row.len])⟩
   · simp at h
 | slc hm hl hc hn hx =>
   rename_i d i v off sz' len b o t x cc cap
   simp only at h
   cases hr:dg H d i v with
   | none=>rw[hr] at h;simp at h
   | some r =>
     rw[hr] at h
     simp only at h
     split at h
     · rename_i hfit
       obtain ⟨rfl,hn',hfit⟩:=hfit
       simp only[Option.some.injEq] at h
       subst h
       obtain ⟨c,e,k1,k2,k3,k4⟩:=mS hH hr hm
       have hsl:=Row.dp r off (n*sz') hfit
       have hul:(BO d (r.sub off (n*sz'))).len=n*sz':=by rw[pw,hsl]
       by_cases hz:n=0
       · subst hz
         simp only[Nat.zero_mul] at hul ⊢
         exact ⟨#[],by simp[Builtin.firstCells,loadCells,loadCellsFrom],by rw[hul];rfl,hul,fun j hj=>absurd hj (by rw[hul];omega)⟩
       · have hxx:x=o+off:=hx.resolve_left wO
         subst hxx
         have hrel:=(k4.sub off (n*sz') hfit).BO
         obtain ⟨cs,j1,j2,j3⟩:=mk b (o+off) (BO d (r.sub off (n*sz'))) (fun j=>c.getD (o+(off+j)) Go.undef) (fun j hj=>by
          rw[hul] at hj;simp only[World.cell?,k1];have:o+(off+j)<c.size:=by omega
          rw[Nat.add_assoc];simp[this]) hrel hul
         exact ⟨cs,by simp[Builtin.firstCells,j1],j2,hul,j3⟩
     · simp at h
 | slcT vs h0 h1 hv hl hf hx =>
   rename_i s r sz' len b o x cc full
   simp only at h
   split at h
   · rename_i hfit
     obtain ⟨rfl,hn',hfit⟩:=hfit
     simp only[Option.some.injEq] at h
     have hr:bg p (pA M s) r vs:=fun j hj=>⟨hv j hj,h1 j hj⟩
     have hsub:=hr.sub 0 (n*sz') wO
     have hsl:=Row.dp r 0 (n*sz') wO
     have hq:bg p M q (fun j=>vs (0+j))∧q.len=n*sz':=by
      subst h;cases s with
      | none=>exact ⟨fun j hj=>⟨(hsub j hj).1.mono (aF.le.refl _) ((Mu.le.no _).jc _),(hsub j hj).2⟩,hsl⟩
      | some k =>
        exact ⟨bg.BO hsub,by simp only[pw,hsl]⟩
     by_cases hz:n=0
     · subst hz
       have:=hq.2
       simp only[Nat.zero_mul] at this
       exact ⟨#[],by simp[Builtin.firstCells,loadCells,loadCellsFrom],by rw[this];rfl,by simpa using this,fun j hj=>absurd hj wO⟩
     · have hxx:x=o:=hx.resolve_left wO
       subst hxx
       obtain ⟨cs,j1,j2,j3⟩:=mk b x q (fun j=>vs (0+j)) (fun j hj=>by
        simp only[Nat.zero_add];exact hH.pers _ _ _ (h0 j (by have:=hq.2;omega))) hq.1 hq.2
       exact ⟨cs,by simp[Builtin.firstCells,j1],j2,hq.2,j3⟩
   · simp at h
 | slcN =>
   rename_i a0 s r sz' full
   simp only at h
   split at h
   · rename_i hfit
     obtain ⟨rfl,hn',hfit⟩:=hfit
     obtain rfl:n=0:=by omega
     simp only[Option.some.injEq] at h
     have hql:q.len=0:=by
      subst h;cases s with
      | none=>rw[Row.dp _ _ _ wO];omega
      | some k=>rw[pw,Row.dp _ _ _ wO];omega
     exact ⟨#[],by cases a0<;>simp[Builtin.firstCells,loadCells,loadCellsFrom],by rw[hql];rfl,by rw[hql];omega,fun j hj=>absurd hj wO⟩
   · simp at h
 | _=>simp at h

theorem dP {α:Type} (l:List α):∀ n,(oc l n).length=n*l.length
 | 0=>by simp[oc]
 | n+1=>by simp[oc,dP l n,Nat.add_mul];omega
theorem qf {α:Type} (l:List α) (d:α) (hl:0<l.length):∀ n j,j<n*l.length→(oc l n).getD j d=l.getD (j % l.length) d
 | 0,j,h=>by simp at h
 | n + 1,j,h=>by
   simp only[oc];by_cases e:j<l.length
   · rw[Nat.mod_eq_of_lt e];simp[List.getElem?_append_left e]
   · have ih:=qf l d hl n (j-l.length) (by rw[Nat.add_mul] at h;omega);have:(l++oc l n).getD j d=(oc l n).getD (j-l.length) d:=by
      simp[List.getElem?_append_right (Nat.le_of_not_lt e)]
     rw[this,ih];congr 1;rw[Nat.mod_eq_sub_mod (Nat.le_of_not_lt e)]
theorem qm {p:aF} {M:Mu} {z:Row} {cs:Array Value} (hs:cs.size=z.len) (hr:bg p M z (fun j=>cs.getD j Go.undef)) (n:Nat) :
 (dT z n).len=n*z.len∧∀ ds:Array Value,ds.size=n*z.len→(∀ j,j<n*z.len→ds.getD j Go.undef=cs.getD (j % cs.size) Go.undef)→bg p M (dT z n) (fun j=>ds.getD j Go.undef):=by
 have hlen:(dT z n).len=n*z.len:=by
  cases z with
  | I k l=>simp[dT,Row.len,dP]
  | G l=>simp[dT,Row.len,Row.toList,dP]
  | F f m=>simp[dT,Row.len,dP,Row.toList,cG]
  | M m=>simp[dT,Row.len,dP,Row.toList,cG]
 refine ⟨hlen,fun ds hds he j hj=>?_⟩
 rw[hlen] at hj
 have hz:0<z.len:=by
  rcases Nat.eq_zero_or_pos z.len with e | e
  · rw[e] at hj;simp at hj
  · exact e
 have hm:j % cs.size<z.len:=by rw[hs];exact Nat.mod_lt _ hz
 simp only
 rw[he j hj]
 have h1:=hr _ hm
 refine ⟨?_,h1.2⟩
 have hg:=hr.get _ hm
 have key:∀ l:List AV,l=z.toList→al p M ((oc l n).getD j .undef) (cs.getD (j % cs.size) Go.undef):=by
  intro l e;subst e;have hlz:=Row.bo z;rw[qf _ _ (by rw[hlz];exact hz) n j (by rw[hlz];exact hj),hlz,← hs,Row.jy z _ hm];exact hg
 cases z with
 | I k l =>
   simp only[dT,Row.get,jc]
   have hl0:0<l.length:=by simpa[Row.len] using hz
   rw[qf _ _ hl0 n j (by simpa[Row.len] using hj)]
   have:cs.size=l.length:=by simpa[Row.len] using hs
   rw[this] at hg ⊢
   simpa[Row.get] using hg
 | G l=>exact key _ rfl
 | F f m=>exact key _ rfl
 | M m=>exact key _ rfl
theorem BU {p:aF} {M:Mu} {z:Row} {cs:Array Value} (hs:cs.size=z.len) (hr:bg p M z (fun j=>cs.getD j Go.undef)) (n:Nat) :
 (dM z n).len=n*z.len∧∀ ds:Array Value,ds.size=n*z.len→(∀ j,j<n*z.len→ds.getD j Go.undef=cs.getD (j % cs.size) Go.undef)→bg p M (dM z n) (fun j=>ds.getD j Go.undef):=by
 have h0:=qm hs hr n
 have fn:∀ l:List AV,l=z.toList→dM z n=FK l n→dT z n=.G (oc l n)→(dM z n).len=n*z.len∧∀ ds:Array Value,ds.size=n*z.len→(∀ j,j<n*z.len→ds.getD j Go.undef=cs.getD (j % cs.size) Go.undef)→bg p M (dM z n) (fun j=>ds.getD j Go.undef):=by
  intro l hl e1 e2;rw[e1];unfold FK;split
  · rename_i v;split
    · rename_i hv;have hz1:z.len=1:=by rw[← Row.bo,← hl];rfl
      refine ⟨by rw[hz1];show n=n*1;omega,fun ds hd he j hj=>?_⟩;have hj':j<n*z.len:=by rw[hz1];simpa[Row.len] using hj
      simp only[Row.get,jc];rw[he j hj'];have hm:j % cs.size<z.len:=by rw[hs];exact Nat.mod_lt _ wO
      have hg:=hr.get _ hm;have e0:j % cs.size=0:=by omega
      rw[e0] at hg ⊢;have:z.get 0=v:=by
       rw[← Row.jy z 0 wO,← hl];rfl
      rw[this] at hg;exact ⟨mR hv hg,by have:=(hr 0 wO).2;exact this⟩
    · rw[← e2];exact h0
  · rw[← e2];exact h0
 cases z with
 | I k l =>
   simp only[dM]
   split
   · rename_i hz
     refine ⟨by simp[Row.len,ay,aP],fun ds hd he j hj=>?_⟩
     have hj':j<n*l.length:=by simpa[Row.len,ay,aP] using hj
     have hl0:0<l.length:=by
      rcases Nat.eq_zero_or_pos l.length with e | e
      · rw[e] at hj';simp at hj'
      · exact e
     have hm:j % cs.size<l.length:=by rw[hs];exact Nat.mod_lt _ hl0
     simp only[Row.get,getM,jc,if_pos hj']
     rw[he j hj']
     have:=hr _ hm
     simp only[Row.get,rR l hz] at this
     exact ⟨this.1.bp _ _,this.2⟩
   · exact h0
 | G l=>exact fn l rfl rfl rfl
 | F f m=>exact fn _ rfl rfl rfl
 | M m=>exact fn _ rfl rfl rfl
theorem ue {p:aF} {M:Mu} {z:Row} {cs:Array Value} (sy:Bool) (hs:cs.size=z.len) (hr:bg p M z (fun j=>cs.getD j Go.undef)) (n:Nat) :
 (if sy then dM z n else dT z n).len=n*z.len∧∀ ds:Array Value,ds.size=n*z.len→(∀ j,j<n*z.len→ds.getD j Go.undef=cs.getD (j % cs.size) Go.undef)→bg p M (if sy then dM z n else dT z n) (fun j=>ds.getD j Go.undef):=by
 cases sy with
 | true=>exact BU hs hr n
 | false=>exact qm hs hr n

theorem tw (f:Nat→Value):(Array.range 0).map f=#[]:=by apply Array.ext';simp
theorem run_range_map (cs:Array Value) (n:Nat):∀ j,j<n→(((Array.range n).map (cs[· % cs.size]!)).getD j Go.undef)=cs[j % cs.size]!:=by
 intro j hj;simp[hj]
theorem pN (cs:Array Value) (i:Nat) (h:i<cs.size):cs[i]! = cs.getD i Go.undef:=by simp[h]

theorem pf {p:aF} {M:Mu} {H:ab} {r:Row} {cs:Array Value} {ty:TypeId} {w w0:World} {sz len cc:Nat} {cap:Option Nat} (h:bg p M r (fun j=>cs.getD j Go.undef)) (hs:r.len≤cs.size) (hl:len≤cc)
 (hc:∀ c,cap=some c→cc=c) (hn:cap=none→cc*sz=cs.size) (hw:dx (fun _=>True) w w0) (he:w0.heap.size=w.heap.size) :
 eI p M H nx (.slc 0 nx 0 0 sz len cap) (.push (.row r)) (.slice (some ⟨w0.heap.size,0,none⟩) len cc) w (w0.alloc (.cells cs ty)):=by
 refine ⟨cs.size,by simp,?_,?_,⟨hw.os,hw.tape,hw.output,by simp;omega,fun b hb _=>(Go.RowKit.Below.heap_alloc w0 _ b wO).trans (hw.block b hb trivial)⟩⟩
 · rw[he]
   exact .slc (b:=w.heap.size) (o:=0) (t:=cs.size) (by simp[br]) hl hc (fun e=>by simpa using hn e) (.inr rfl)
 · rw[← he];exact nz h hs

theorem uL {P:Program} {sy:Bool} {H:ab} {t:TypeId} {l c v:AV} {δ:Delta} {cl cc:Value} (h:iT P sy nx t l c=some (v,δ)) {p:aF} {M:Mu} (hl:al p M l cl) (hc:al p M c cc) (w:World) :
 ∃ cv w',(Instr.makeSlice t cl cc).run P w=.ok cv w'∧eI p M H nx v δ cv w w':=by
 unfold iT at h
 cases hu:P.underlying t with
 | none=>rw[hu] at h;simp at h
 | some d =>
   rw[hu] at h
   cases d<;>try (simp at h;done)
   rename_i e
   cases hl<;>try (simp at h;done)
   rename_i kl nl
   cases hc<;>try (simp at h;done)
   rename_i kc nc
   simp only at h
   cases hi:P.info? e with
   | none=>rw[hi] at h;simp at h
   | some inf =>
     cases hz:(cX P e).bind AV.row with
     | none=>rw[hi,hz] at h;simp at h
     | some z =>
       rw[hi,hz] at h
       simp only at h
       split at h
       · rename_i hb
         obtain ⟨h0,h1,h2,h3,h4⟩:=hb
         simp only[nP] at h
         obtain ⟨rfl,rfl⟩:=h
         cases hz0:cX P e with
         | none=>rw[hz0] at hz;simp at hz
         | some zv =>
           rw[hz0] at hz
           simp only[Option.bind_some] at hz
           obtain ⟨c0,hc0,hr0⟩:=dB hz0
           have hv:=AV.iv (p:=p) (M:=M) (hc0 ▸ dD p M c0) hz
           have hz':=ue sy hv.1 hv.2 nc.toNat
           generalize (if sy=true then dM z nc.toNat else dT z nc.toNat)=zr at hz' ⊢
           have hsz:bE P e=some inf.size:=by simp[bE,hi]
           have room46:room=70368744177664:=rfl
           have hwl:IntKind.i64.wrap nl=nl:=by rw[IntKind.wrap_i64];omega
           have hwc:IntKind.i64.wrap nc=nc:=by rw[IntKind.wrap_i64];omega
           have hbytes:(inf.bytes:Int)*nc≤70368744177664:=by
            have:((nc.toNat*inf.bytes:Nat):Int)≤70368744177664:=by omega
            rw[Int.natCast_mul,Int.toNat_of_nonneg wO,Int.mul_comm] at this;exact this
           have hask:(askRoom (nc.toNat*inf.bytes)).run P w=.ok () w:=by
            unfold askRoom;have:¬ nc.toNat*inf.bytes > roomBytes:=by
             have:roomBytes=140737488355328:=rfl;omega
            rw[if_neg this];rfl
           have hbig1:¬ (nc<0∨(281474976710656:Int)<(inf.bytes:Int)*nc):=by omega
           have hbig:(decide (nc<0) || decide ((inf.bytes:Int)*nc > 2 ^ 48))=false:=by
            have k1:¬ nc<0:=by omega
            have k2:¬ ((inf.bytes:Int)*nc > 2 ^ 48):=by
             have e48:(2:Int) ^ 48=281474976710656:=by decide
             rw[e48];omega
            rw[decide_eq_false k1,decide_eq_false k2];rfl
           refine ⟨_,_,?_,pf (w0:=w) (ty:=e) (cc:=nc.toNat) (cs:=if nc.toNat*inf.size=0 then #[] else (Array.range (nc.toNat*inf.size)).map (c0.cells[· % c0.cells.size]!)) ?_ ?_ wO (fun q hq=>by simpa using hq) (fun e=>by simp at e) (dx.refl _ _) rfl⟩
           · simp only[Instr.makeSlice,Sem.run_bind,run_underlying hu,Result.andThen,asInt,asIntOf,Sem.run_pure,typeInfo,run_program,hi,hwl,hwc]
             have hneg:¬ ((((decide (nc<0) || decide ((inf.bytes:Int)*nc > 2 ^ 48)) || decide (nl<0)) || decide (nl > nc))=true):=by
              rw[hbig];simp;omega
             rw[if_neg hneg]
             simp only[Sem.run_bind,hask,Result.andThen,aN hsz]
             by_cases hn0:nc.toNat*inf.size=0
             · simp[hn0,newRow,Sem.run_bind,Result.andThen,run_newObj_alloc,tw]
             · simp[hn0,Sem.run_bind,hr0,newRow,Result.andThen,run_newObj_alloc]
           · split
             · rename_i e0
               exact fun j hj=>absurd hj (by rw[hz'.1,h4];omega)
             · refine hz'.2 _ (by simp[h4]) (fun j hj=>?_)
               rw[h4] at hj
               rw[run_range_map _ _ j hj,pN]
               exact Nat.mod_lt _ (by rw[hv.1,h4];exact Nat.pos_of_ne_zero (fun e=>by rw[e] at hj;simp at hj))
           · rw[hz'.1,h4]
             split
             · rename_i e0;omega
             · simp
       · simp at h

theorem r4 {P:Program} {H:ab} {t:TypeId} {len:Nat} {v:AV} {δ:Delta} {p:aF} {M:Mu} {nt:Nat} {fr:aA} {a:Act} (hF:bX p M nt fr a) (parts:Array (Nat×Operand))
 (h:jl P nx t len (dS fr parts.toList)=some (v,δ)) (w:World) :
 ∃ cv w',(Instr.buildSlice t len (parts.map fun (i,x)=>(i,a.eval x))).run P w=.ok cv w'∧eI p M H nx v δ cv w w':=by
 unfold jl at h
 cases hu:P.underlying t with
 | none=>rw[hu] at h;simp at h
 | some d =>
   rw[hu] at h
   cases d<;>try (simp at h;done)
   rename_i e
   simp only at h
   cases hs:bE P e with
   | none=>rw[hs] at h;simp at h
   | some z =>
     cases hz:(cX P e).bind AV.row with
     | none=>rw[hs,hz] at h;simp at h
     | some zr =>
       rw[hs,hz] at h
       simp only at h
       split at h
       · rename_i hb
         obtain ⟨hb1,hb2⟩:=hb
         obtain ⟨r',hf,he⟩:=Option.map_eq_some_iff.1 h
         simp only[Prod.mk.injEq] at he
         obtain ⟨rfl,rfl⟩:=he
         cases hz0:cX P e with
         | none=>rw[hz0] at hz;simp at hz
         | some zv =>
           rw[hz0] at hz
           simp only[Option.bind_some] at hz
           obtain ⟨c0,hc0,hr0⟩:=dB hz0
           have hv:=AV.iv (p:=p) (M:=M) (hc0 ▸ dD p M c0) hz
           have hz':=qm hv.1 hv.2 len
           have hop:=tj hF parts.toList
           have hcp:(parts.map fun (i,x)=>(i,a.eval x)).toList=parts.toList.map fun x=>(x.1,a.eval x.2):=by simp
           obtain ⟨XH,hZ⟩:∃ XH:Array Value,XH=if len*z=0 then #[] else (Array.range (len*z)).map (c0.cells[· % c0.cells.size]!):=⟨_,rfl⟩
           have hZs:XH.size=len*z:=by        rw[hZ];split;· rename_i e0;simp[e0]
                                             · simp
           have hZr:bg p M (dT zr len) (fun j=>XH.getD j Go.undef):=by
            rw[hZ];split
            · rename_i e0;exact fun j hj=>absurd hj (by rw[hz'.1,hb2];omega)
            · refine hz'.2 _ (by simp[hb2]) (fun j hj=>?_);rw[hb2] at hj;rw[run_range_map _ _ j hj,pN];exact Nat.mod_lt _ (by rw[hv.1,hb2];exact Nat.pos_of_ne_zero (fun e=>by rw[e] at hj;simp at hj))
           obtain ⟨cells',k1,k2,k3⟩:=oN (place':=fun i=>some (i*z,z)) (dS fr parts.toList) (parts.toList.map fun x=>(x.1,a.eval x.2)) (dT zr len) r' XH hf (fun i x hx=>hx) hZr (by rw[hZs,hz'.1,hb2])
            (by simp[hop.1]) (fun j hj=>hop.2 j (by rw[hop.1] at hj;exact hj))
           refine ⟨_,_,?_,pf (w0:=w) (ty:=e) (cc:=len) (cs:=cells') k3 (by rw[k2];exact Nat.le_refl _) (Nat.le_refl _) (fun q hq=>by simpa using hq) (fun e=>by simp at e) (dx.refl _ _) rfl⟩
           have hno:¬ len*z > 2 ^ 24:=by omega
           simp only[Instr.buildSlice,Sem.run_bind,run_underlying hu,Result.andThen,aN hs,if_neg hno,hcp]
           by_cases e0:len*z=0
           · have hZ0:XH=#[]:=by rw[hZ,if_pos e0]
             subst hZ0
             simp only[e0,if_true,Sem.run_pure,tw,k1]
             simp[newRow,Sem.run_bind,Result.andThen,run_newObj_alloc]
           · rw[if_neg e0] at hZ
             simp only[if_neg e0,Sem.run_bind,hr0,Result.andThen,Sem.run_pure,← hZ,k1]
             simp[newRow,Sem.run_bind,Result.andThen,run_newObj_alloc]
       · simp at h

theorem yD {P:Program} {p:aF} {M:Mu} {H:ab} (t:TypeId) (w:World) {B:an} (hB:B=.map []∨∃ q,B=.fmap q (fun _=>false) (fun _=>0) 0) :
 ∃ cv w',(Instr.makeMap t none).run P w=.ok cv w'∧eI p M H nx (.map 0 nx) (.push B) cv w w':=by
 rcases hB with rfl | ⟨q,rfl⟩
 · refine ⟨.map (some w.heap.size),w.alloc (.map #[] 0),by simp[Instr.makeMap,Sem.run_bind,Result.andThen,run_newObj_alloc],0,by simp,.map (b:=w.heap.size) (o:=0) (t:=0) (by simp[br]),?_,fq _ _⟩
   exact ⟨#[],0,World.alloc_heap_new _ _,rfl,⟨fun j hj=>absurd hj (by simp),fun i j hi=>absurd hi (by simp)⟩,fun j hj=>absurd hj (by simp)⟩
 · refine ⟨.map (some w.heap.size),w.alloc (.map #[] 0),by simp[Instr.makeMap,Sem.run_bind,Result.andThen,run_newObj_alloc],0,by simp,.map (b:=w.heap.size) (o:=0) (t:=0) (by simp[br]),?_,fq _ _⟩
   exact ⟨[],⟨rfl,fun j hj=>absurd hj (by simp),fun n h=>(by cases h),fun n h=>rfl,fun i j hi=>absurd hi (by simp)⟩,#[],0,World.alloc_heap_new _ _,rfl,⟨fun j hj=>absurd hj (by simp),fun i j hi=>absurd hi (by simp)⟩,fun j hj=>absurd hj (by simp)⟩

theorem Ed {P:Program} {call:aK} {t:TypeId}:nf call (s8 P t) (.map [])=.map []∨∃ q,nf call (s8 P t) (.map [])=.fmap q (fun _=>false) (fun _=>0) 0:=by
 unfold nf s8;split
 · split
   · split
     · exact .inr ⟨_,rfl⟩
     · exact .inl rfl
   · exact .inl rfl
 · exact .inl rfl
theorem l7 {P:Program} (mx:Bool) {p:aF} {M:Mu} (w:World):∀ (l:List AV) (cs:List Value) (k:IntKind) (x:Int) (v:AV),eG mx k x l=some v→cs.length=l.length →
 (∀ j,j<l.length→al p M (l.getD j .undef) (cs.getD j Go.undef))→∃ c,(cs.foldlM (m:=Sem) (if mx then Builtin.max2 else Builtin.min2) (.int k x)).run P w=.ok c w∧al p M v c
 | [],cs,k,x,v,h,hl,_=>by
   have:cs=[]:=List.length_eq_zero_iff.1 (by simpa using hl);subst this;simp only[eG,Option.some.injEq] at h;subst h;exact ⟨_,by simp,.int _ _⟩
 | y :: l,cs,k,x,v,h,hl,hv=>by
   cases cs with
   | nil=>simp at hl
   | cons c cs =>
     have h0:=hv 0 (by simp);simp only[List.getD_cons_zero] at h0;cases y<;>try (simp[eG] at h;done)
     rename_i k' n;cases h0;simp only[eG] at h;split at h
     · rename_i hk;subst hk;obtain ⟨c',k1,k2⟩:=l7 mx w l cs _ _ v h (by simpa using hl) (fun j hj=>by have:=hv (j+1) (by simpa using hj);simpa using this);refine ⟨c',?_,k2⟩;cases mx
       · simp only[Bool.false_eq_true,if_false,List.foldlM_cons,Sem.run_bind,Builtin.min2,Sem.run_pure,Result.andThen] at k1 ⊢;exact k1
       · simp only[if_true,List.foldlM_cons,Sem.run_bind,Builtin.max2,Sem.run_pure,Result.andThen] at k1 ⊢;exact k1
     · simp at h

end Go.Eng
