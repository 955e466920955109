/- The engine: a range over a map that ends in one state, in whatever order its entries come. -/
import Derived.Test.YtoomemfhcbajoaaV7EngRn3x2
section
namespace Go.Eng
set_option linter.unusedVariables false
set_option linter.unusedSimpArgs false

structure RStart where
 id0:Nat
 ops0:Array Oper
 pre:List Oper
 ro:Oper
 m:Tmp
 ty:TypeId
def RStart.code (S:RStart) (L:RLoop):Code:=.seq (.region S.id0 S.ops0 false) L.code
structure RStart.Ok (P:Program) (S:RStart) (L:RLoop):Prop where
 l0:S.ops0.toList=S.pre++[S.ro]
 o0:S.ro.op=.range S.ty (.tmp S.m)
 d0:S.ro.dst=some L.it
 g0:S.ro.guard=none
 t0:∃ k e,P.underlying S.ty=some (.map k e)

noncomputable def round1 (L:RLoop) (cx:Cx) (k n:Nat) (R:Heap) (kv:AV×AV) (s:Frm×Lvl):Option (Frm×Lvl) :=
 match L.round cx k n kv s.1 (s.2::R) with
 | some (fr,l::_)=>some (fr,l)
 | _=>none
noncomputable def isIn (s:Option (Frm×Lvl)) (Xs:List (Frm×Lvl)):Bool :=
 match s with
 | none=>false
 | some s=>Xs.any fun t=>eqS s t
noncomputable def isAt (s:Option (Frm×Lvl)) (t:Frm×Lvl):Bool :=
 match s with
 | none=>false
 | some s=>eqS s t
theorem isIn_mem {s:Option (Frm×Lvl)} {Xs:List (Frm×Lvl)} (h:isIn s Xs=true):∃ t ∈ Xs,s=some t:=by
 cases s with
 | none=>cases h
 | some s =>
   obtain ⟨t,ht,he⟩:=List.any_eq_true.1 h
   exact ⟨t,ht,by rw[eqS_eq _ _ he]⟩
theorem isAt_eq {s:Option (Frm×Lvl)} {t:Frm×Lvl} (h:isAt s t=true):s=some t:=by
 cases s with
 | none=>cases h
 | some s=>rw[eqS_eq _ _ h]
theorem round1_some {L:RLoop} {cx:Cx} {k n:Nat} {R:Heap} {kv:AV×AV} {s t:Frm×Lvl} (h:round1 L cx k n R kv s=some t):∃ R1,L.round cx k n kv s.1 (s.2::R)=some (t.1,t.2::R1):=by
 unfold round1 at h
 split at h
 · rename_i fr l R1 e
   simp only[Option.some.injEq] at h
   subst h
   exact ⟨R1,e⟩
 · cases h

noncomputable def sure (L:RLoop) (cx:Cx) (k n:Nat) (R:Heap) (kvs:List (AV×AV)) (s0 t:Frm×Lvl) (Xs:List (Frm×Lvl)) (j0:Nat):Bool :=
 match kvs with
 | []=>eqS s0 t && isPtr0 k (fGet s0.1 L.it)
 | _=>isIn (some s0) Xs && (Xs.all (fun s=>isPtr0 k (fGet s.1 L.it) && (kvs.all (fun kv=>isIn (round1 L cx k n R kv s) Xs) && isAt (round1 L cx k n R (kvs.getD j0 (.undef,.undef)) s) t)) &&
    (kvs.all (fun kv=>isAt (round1 L cx k n R kv t) t) && Nat.ble (j0+1) kvs.length))
noncomputable def foldS (L:RLoop) (cx:Cx) (k n:Nat) (R:Heap):List (AV×AV)→Frm×Lvl→Option (Frm×Lvl)
 | [],s=>some s
 | kv::r,s=>match round1 L cx k n R kv s with
   | some t=>foldS L cx k n R r t
   | none=>none
noncomputable def nexts (L:RLoop) (cx:Cx) (k n:Nat) (R:Heap) (s:Frm×Lvl):List (AV×AV)→List (Frm×Lvl)
 | []=>[]
 | kv::r=>match round1 L cx k n R kv s with
   | some t=>t::nexts L cx k n R s r
   | none=>nexts L cx k n R s r
noncomputable def findJ (L:RLoop) (cx:Cx) (k n:Nat) (R:Heap) (s0 t:Frm×Lvl):List (AV×AV)→Nat→Nat
 | [],j=>j
 | kv::r,j=>if isAt (round1 L cx k n R kv s0) t then j else findJ L cx k n R s0 t r (j+1)

def movV (n i:Nat) (v:AV):AV :=
 match v with
 | .map 0 j=>if Nat.beq j i then .map n 0 else v
 | v=>v
def bckV (n i:Nat) (v:AV):AV :=
 match v with
 | .map d 0=>if Nat.beq d n then .map 0 i else v
 | v=>v
def mapG (f:AV→AV) (fr:Frm):Frm:=fr.map fun x=>(x.1,f x.2)
theorem mapG_get {f:AV→AV} (hf:f .undef=.undef):∀ (fr:Frm) (x:Nat),fGet (mapG f fr) x=f (fGet fr x)
 | [],x=>hf.symm
 | (y,v)::r,x=>by
   show fGet ((y,f v)::mapG f r) x=_
   unfold fGet
   split
   · rfl
   · exact mapG_get hf r x
theorem fGet_all {f:Nat×AV→Bool} (hf:∀ x,f (x,.undef)=true):∀ {fr:Frm} {x:Nat},fr.all f=true→(∀ y v,f (y,v)=f (x,v))→f (x,fGet fr x)=true
 | [],x,_,_=>hf x
 | (y,v)::r,x,h,hx=>by
   simp only[List.all_cons,Bool.and_eq_true] at h
   unfold fGet
   split
   · rw[← hx y v];exact h.1
   · exact fGet_all hf h.2 hx
theorem movV_rel {p:Pst} {M:Mu} {H:Heap} {w:World} (h:HRel p M H w) {i:Nat} {v:AV} {c:Value} (hv:VRel p M v c):VRel p (MuL M H.length i) (movV H.length i v) c:=by
 unfold movV
 split
 · split
   · rename_i e
     cases hv;rename_i hm
     rw[Nat.eq_of_beq_eq_true e] at hm
     exact .map (by unfold MuL;rw[if_pos rfl,if_pos ⟨rfl,rfl⟩];exact hm)
   · exact hv.mono (Pst.le.refl _) (MuL_le h i)
 · exact hv.mono (Pst.le.refl _) (MuL_le h i)
theorem bckV_rel {p:Pst} {MK:Mu} {n i:Nat} (hn:0<n) (he:MK n 0 0=MK 0 i 0) {v:AV} {c:Value} (hf:flatV n i (bckV n i v)=true) (hv:VRel p MK v c):VRel p (MuC MK n i) (bckV n i v) c:=by
 unfold bckV at hf ⊢
 split at hf
 · split at hf
   · rename_i e
     rw[if_pos e]
     cases hv;rename_i hm
     rw[Nat.eq_of_beq_eq_true e,he] at hm
     exact .map (by unfold MuC;rw[if_pos ⟨hn,fun x=>x.2.2 rfl⟩];exact hm)
   · rename_i e
     rw[if_neg e]
     exact flatV_c hf hv
 · exact flatV_c hf hv

noncomputable def rangeRun (cx:Cx) (S:RStart) (L:RLoop) (fr:Frm) (H:Heap):Option (Frm×Heap) :=
 match runOpsX cx.P cx.nt cx.call S.ops0 S.pre fr H with
 | some (fr1, l1::r1)=>match fGet fr1 S.m with
   | .map 0 i => match hGet (l1::r1) 0 i with
     | (0, .map es) =>
       if l1.lock || !(es.all fun e=>noH 9 e.1 && noH 9 e.2) then none else
       match hKill (l1::r1) 0 i with
       | lk :: r2 =>
         let n:=r2.length+1
         let R:=hLockAll r2++[lvM es]
         let k:=hNext (l1::r1)
         let s0:Frm×Lvl:=(putO cx.nt (mapG (movV n i) fr1) (some L.it) (.ptr 0 k 0 0),{ lk with bs:=lk.bs++[(0,.dead)] })
         match foldS L cx k (k+1) R es s0 with
         | some t =>
           if sure L cx k (k+1) R es s0 t (s0::nexts L cx k (k+1) R s0 es) (findJ L cx k (k+1) R s0 t es 0) then
            match L.last cx t.1 (t.2::R) with
            | some (fr',lE::_) =>
              if lE.bs.all (fun x=>flatB n i x.2) && ((mapG (bckV n i) fr').all (fun x=>flatV n i x.2) && isDead (nthBlk lE.bs i).2) then some (mapG (bckV n i) fr',hSet (lE::r2) 0 i (0,.map es)) else none
            | _=>none
           else none
         | none=>none
       | _=>none
     | _=>none
   | _=>none
 | _=>none

theorem range_code {cx:Cx} {F:Fence} (hFW:Wide F) (hN:Named cx.P) (hC:CallOk cx.P cx.call) (hX:CodeMore cx F) {S:RStart} {L:RLoop} (hS:S.Ok cx.P L) (hL:L.Ok) {fr fr':Frm} {H H':Heap} (h:rangeRun cx S L fr H=some (fr',H')) :
 CodeOk cx.P F cx.ro cx.nt (S.code L) fr H .normal fr' H':=by
 intro n0 p M a w Q hF hH hne hR hM hQ
 unfold rangeRun at h
 rw[runOpsX_eq] at h
 split at h
 case h_2=>simp at h
 rename_i fr1 l1 r1 hro
 split at h
 case h_2=>simp at h
 rename_i i hmap
 split at h
 case h_2=>simp at h
 rename_i es hg
 split at h
 · simp at h
 rename_i hlk
 simp only[Bool.or_eq_true,not_or,Bool.not_eq_true,Bool.not_eq_false'] at hlk
 obtain ⟨hl0,hnoH⟩:=hlk
 split at h
 case h_2=>simp at h
 rename_i lk r2 hk1
 dsimp only at h
 split at h
 case h_2=>simp at h
 rename_i t hfold
 split at h
 case isFalse=>simp at h
 rename_i hsure
 split at h
 case h_2=>simp at h
 rename_i frE lE RE hlast
 split at h
 case isFalse=>simp at h
 rename_i hchk
 simp only[Bool.and_eq_true] at hchk
 obtain ⟨hcB,hcF,hcD⟩:=hchk
 simp only[nP] at h
 obtain ⟨rfl,rfl⟩:=h
 refine wpIn_seq (wpIn_region_list ?_)
 rw[hS.l0]
 refine runOps_relK hFW hN hC _ _ _ _ _ hro p M a w hF hH hne (fun a1 w1 ⟨p1,M1,hE1,hF1,hd1⟩=>?_)
 unfold wpListIn
 rw[if_pos (by unfold Region.wanted;rw[hS.g0])]
 -- the map
 have hvm:=hF1.at_ S.m
 rw[hmap] at hvm
 obtain ⟨b,o,tt,hmu,hev⟩:∃ b o t,M1 0 i 0=some (b,o,t)∧a1.tmps.getD S.m Go.undef=.map (some b):=by
  generalize a1.tmps.getD S.m Go.undef=z at hvm
  cases hvm
  rename_i b o t hm
  exact ⟨b,o,t,hm,rfl⟩
 obtain ⟨ces,clock,hb,hsz,hborn,hrel⟩:=map_own hE1.rel hg hmu
 have hev':a1.eval (.tmp S.m)=.map (some b):=hev
 obtain ⟨kt,et,hu⟩:=hS.t0
 have hrun:=_root_.Go.run_range_map (P:=cx.P) w1 S.ty kt et b ces clock hu hb
 refine op_val hFW (by rw[hS.o0];intro c h;cases h) (cv:=.pointer (some ⟨w1.heap.size,0,none⟩)) (w':=w1.alloc (.mapIter (some b) clock #[] clock)) (by simp only[execOp,hS.o0,hev'];simp[Sem.run_bind,hrun,Result.andThen]) ?_
 unfold wpListIn
 rw[hS.d0]
 -- the base of the loop: the map has sunk
 have hlen:(l1::r1).length=r2.length+1:=by
  have:=hKill_len (l1::r1) 0 i
  rw[hk1] at this;simpa using this.symm
 have hlenR:(hLockAll r2).length+1=r2.length+1:=by rw[hLockAll_len]
 have hle:Mu.le M1 (MuL M1 (r2.length+1) i):=by have:=MuL_le hE1.rel i;rwa [hlen] at this
 have hsink:HRel p1 (MuL M1 (r2.length+1) i) (lk::hLockAll r2++[lvM es]) w1:=by
  have:=hE1.rel.sink hg (by simpa using hnoH)
  rw[hlen,hk1] at this
  refine this.same (fun d j=>?_) (fun d=>?_)
  · rw[hGet_app,hGet_app]
    have e1:(lk::hLockAll r2).length=(lk::r2).length:=by simp[hLockAll_len]
    rw[e1]
    by_cases e:d<(lk::r2).length
    · rw[if_pos e,if_pos e];exact lockRest_get (lk::r2) d j
    · rw[if_neg e,if_neg e]
  · rw[hNextAt_app,hNextAt_app]
    have e1:(lk::hLockAll r2).length=(lk::r2).length:=by simp[hLockAll_len]
    rw[e1]
    by_cases e:d<(lk::r2).length
    · rw[if_pos e,if_pos e];exact lockRest_next (lk::r2) d
    · rw[if_neg e,if_neg e]
 have hlk0:lk.lock=false:=by
  have:=hLock_kill (l1::r1) 0 i 0
  rw[hk1] at this
  exact this.trans hl0
 have hEp:=Evo.pad hsink (by simp) 1 (Stay.refl _ _)
 have hpad:hPad (lk::hLockAll r2++[lvM es]) 1={ lk with bs:=lk.bs++[(0,.dead)] } :: (hLockAll r2++[lvM es]):=rfl
 obtain ⟨lb,hlbd⟩:∃ lb,lb=({ lk with bs:=lk.bs++[(0,.dead)] }:Lvl):=⟨_,rfl⟩
 obtain ⟨R,hRd⟩:∃ R,R=hLockAll r2++[lvM es]:=⟨_,rfl⟩
 rw[← hlbd,← hRd] at hfold hsure
 rw[← hRd] at hlast
 rw[hpad,← hlbd,← hRd] at hEp
 have hRl:∀ d,hLock R d=true:=fun d=>by
  rw[hRd,hLock_app]
  split
  · exact hLock_lockAll _ _
  · cases (d-(hLockAll r2).length)<;>rfl
 have hnx:hNext (lk::hLockAll r2++[lvM es])=hNext (l1::r1):=by
  have:hNextAt (hKill (l1::r1) 0 i) 0=hNextAt (l1::r1) 0:=hNextAt_kill _ _ _ _
  rw[hk1] at this
  exact this
 have hnb:hNext (lb::R)=hNext (l1::r1)+1:=by
  rw[← hnx,hlbd]
  show (lk.bs++[(0,Blk.dead)]).length=lk.bs.length+1
  simp
 have hdead:(hGet (lb::R) 0 (hNext (l1::r1))).2=.dead:=by
  rw[← hnx,hlbd]
  exact Classical.byContradiction fun hn=>by
   have h1:=hPad_get (lk::hLockAll r2++[lvM es]) 1 0 (hNext (lk::hLockAll r2++[lvM es]))
   rw[hpad] at h1
   have h2:hGet ({ lk with bs:=lk.bs++[(0,.dead)] } :: R) 0 (hNext (lk::hLockAll r2++[lvM es]))=hGet (lk::hLockAll r2++[lvM es]) 0 (hNext (lk::hLockAll r2++[lvM es])):=h1
   rw[h2] at hn
   have:=hGet_lt hn
   rw[hNextAt_zero] at this
   omega
 have hlb:hLock (lb::R) 0=false:=by rw[hlbd];exact hlk0
 have hno:∀ v,MuL M1 (r2.length+1) i 0 (hNext (l1::r1)) v=none:=fun v=>by
  unfold MuL
  rw[if_neg (by omega)]
  cases hx:M1 0 (hNext (l1::r1)) v with
  | none=>rfl
  | some u =>
    have:=(hE1.rel.dom _ _ _ _ hx).1
    rw[hNextAt_zero] at this
    omega
 have hEn:=Evo.name hEp.rel hdead (by rw[hNextAt_zero,hnb];omega) hno hlb (.mapIter (some b) clock #[] clock)
 have hkb:Go.Eng.keep (MuL M1 (r2.length+1) i) (lb::R) b:=by
  intro d' i' v' B' hg' hB' hl' o' t' hm'
  cases d' with
  | succ d' =>
    rw[show hLock (lb::R) (d'+1)=hLock R d' from rfl,hRl] at hl';cases hl'
  | zero =>
    have h1:=hPad_get (lk::hLockAll r2++[lvM es]) 1 0 i'
    rw[hpad,← hlbd,← hRd,hg'] at h1
    have h2:hGet (hKill (l1::r1) 0 i) 0 i'=(v',B'):=by rw[hk1];exact h1.symm
    unfold MuL at hm'
    rw[if_neg (by omega)] at hm'
    rw[hGet_kill] at h2
    split at h2
    · simp only[Prod.mk.injEq] at h2;exact hB' h2.2.symm
    · rename_i e
      exact e (hE1.rel.apart 0 i' v' B' 0 i 0 (.map es) b o' t' o tt h2 hB' hg (by simp) hm' hmu)
 have hF1':FRel p1 (MuL M1 (r2.length+1) i) cx.nt (mapG (movV (r2.length+1) i) fr1) a1:=⟨hF1.size,fun x=>by
  rw[mapG_get rfl]
  have:=movV_rel hE1.rel (i:=i) (hF1.at_ x)
  rwa [hlen] at this⟩
 have hF2:=(hF1'.mono hEn.pst hEn.mu).put (some L.it) (v:=.ptr 0 (hNext (l1::r1)) 0 0) (c:=.pointer (some ⟨w1.heap.size,0,none⟩)) (.ptr (o:=0) (t:=0) (by simp[muSet]))
 have hM2:Marks n0 (muSet (MuL M1 (r2.length+1) i) 0 (hNext (l1::r1)) 0 (w1.heap.size,0,0)) (lb::R) (w1.alloc (.mapIter (some b) clock #[] clock)) (a1.put (some L.it) (.pointer (some ⟨w1.heap.size,0,none⟩))).defers:=by
  rw[put_defers,hd1]
  have m1:=hM.evo hE1
  have m3:Marks n0 (MuL M1 (r2.length+1) i) (lk::hLockAll r2++[lvM es]) w1 a.defers:=by
   obtain ⟨rs,g1,g2,g0,g3⟩:=m1
   refine ⟨rs,g1,g2,g0,fun q hq=>⟨(g3 q hq).1,fun d' i' v' B' hg' hB' hl' o' t' hm'=>?_,(g3 q hq).2.2⟩⟩
   obtain ⟨b2,o2,t2,k1,k2,_⟩:=hsink.live d' i' v' B' hg' hB'
   rw[hm'] at k1
   simp only[nP] at k1
   obtain ⟨rfl,_,_⟩:=k1
   have hq1:=(g3 q hq).1
   cases B' with
   | dead=>exact hB' rfl
   | row r=>obtain ⟨_,_,e,_⟩:=k2;rw[hq1] at e;simp at e
   | map es=>obtain ⟨_,_,e,_⟩:=k2;rw[hq1] at e;simp at e
   | fmap kq f g c=>obtain ⟨_,_,_,_,e,_⟩:=k2;rw[hq1] at e;simp at e
   | loop l=>obtain ⟨_,e,_⟩:=k2;rw[hq1] at e;simp at e
  exact (m3.evo hEp).evo hEn
 have hR2:RoOk F cx.ro (MuL M1 (r2.length+1) i):=hR.mono (hE1.mu.trans hle)
 -- what the check has shown
 have facts:∃ (X:Frm→Lvl→Prop) (j0:Nat),X (putO cx.nt (mapG (movV (r2.length+1) i) fr1) (some L.it) (.ptr 0 (hNext (l1::r1)) 0 0)) lb ∧
  (∀ f l,X f l→fGet f L.it=.ptr 0 (hNext (l1::r1)) 0 0) ∧
  (∀ f l,X f l→∀ j,j<es.length→∃ f1 m1 R1,L.round cx (hNext (l1::r1)) (hNext (l1::r1)+1) (es.getD j (.undef,.undef)) f (l::R)=some (f1,m1::R1)∧X f1 m1∧(j=j0→(f1,m1)=t)) ∧
  (∀ f l,(f,l)=t→∀ j,j<es.length→∀ f1 m1 R1,L.round cx (hNext (l1::r1)) (hNext (l1::r1)+1) (es.getD j (.undef,.undef)) f (l::R)=some (f1,m1::R1)→(f1,m1)=t) ∧
  (∀ f l,X f l→(0<es.length→(f,l)=t)→(f,l)=t)∧(0<es.length→j0<es.length):=by
  clear hrel hsz hg hnoH hsink hpad hRd hEp
  generalize es=kvs at hsure ⊢
  unfold sure at hsure
  split at hsure
  · simp only[Bool.and_eq_true] at hsure
    have e1:=eqS_eq _ _ hsure.1
    refine ⟨fun f l=>(f,l)=t,0,e1,fun f l hx=>?_,fun f l _ j hj=>absurd hj (by simp),fun f l _ j hj=>absurd hj (by simp),fun f l hx _=>hx,fun hp=>absurd hp (by simp)⟩
    have:f=(putO cx.nt (mapG (movV (r2.length+1) i) fr1) (some L.it) (.ptr 0 (hNext (l1::r1)) 0 0)):=by rw[← e1] at hx;exact (Prod.mk.inj hx).1
    rw[this];exact isPtr0_eq hsure.2
  · simp only[Bool.and_eq_true] at hsure
    obtain ⟨h1,h2,h3,h4⟩:=hsure
    have hj:findJ L cx (hNext (l1::r1)) (hNext (l1::r1)+1) R (putO cx.nt (mapG (movV (r2.length+1) i) fr1) (some L.it) (.ptr 0 (hNext (l1::r1)) 0 0),lb) t kvs 0<kvs.length:=by
     have:=Nat.le_of_ble_eq_true h4;omega
    have mem:∀ j,j<kvs.length→kvs.getD j (.undef,.undef) ∈ kvs:=fun j hj=>by
     rw[List.getD_eq_getElem?_getD,List.getElem?_eq_getElem hj];simp
    refine ⟨fun f l=>(f,l) ∈ ((putO cx.nt (mapG (movV (r2.length+1) i) fr1) (some L.it) (.ptr 0 (hNext (l1::r1)) 0 0),lb)::nexts L cx (hNext (l1::r1)) (hNext (l1::r1)+1) R (putO cx.nt (mapG (movV (r2.length+1) i) fr1) (some L.it) (.ptr 0 (hNext (l1::r1)) 0 0),lb) kvs),
     findJ L cx (hNext (l1::r1)) (hNext (l1::r1)+1) R (putO cx.nt (mapG (movV (r2.length+1) i) fr1) (some L.it) (.ptr 0 (hNext (l1::r1)) 0 0),lb) t kvs 0,by simp,fun f l hx=>?_,fun f l hx j hjl=>?_,fun f l he j hjl f1 m1 R1 hr=>?_,fun f l _ hp=>hp (by omega),fun _=>hj⟩
    · have:=List.all_eq_true.1 h2 _ hx
      simp only[Bool.and_eq_true] at this
      exact isPtr0_eq this.1
    · have:=List.all_eq_true.1 h2 _ hx
      simp only[Bool.and_eq_true] at this
      obtain ⟨_,g2,g3⟩:=this
      obtain ⟨s,hs,he⟩:=isIn_mem (List.all_eq_true.1 g2 _ (mem j hjl))
      obtain ⟨R1,hr⟩:=round1_some he
      refine ⟨s.1,s.2,R1,hr,hs,fun hjj=>?_⟩
      rw[← hjj] at g3
      have:=isAt_eq g3
      rw[he] at this
      exact Option.some.inj this
    · have:=isAt_eq (List.all_eq_true.1 h3 _ (mem j hjl))
      rw[← he] at this
      obtain ⟨R2,hr2⟩:=round1_some this
      dsimp only at hr2
      rw[hr] at hr2
      simp only[Option.some.injEq,Prod.mk.injEq,List.cons.injEq] at hr2
      rw[hr2.1,hr2.2.1]
      first | done | rfl | exact he | (rw[← he])
 obtain ⟨X,j0,x1,x2,x3,x4,x5,x6⟩:=facts
 have hit:L.it<cx.nt:=by
  refine Nat.lt_of_not_le fun hle=>?_
  have h7:=x2 _ _ x1
  have h8:=hF2.at_ L.it
  rw[h7] at h8
  have:(a1.put (some L.it) (.pointer (some ⟨w1.heap.size,0,none⟩))).tmps.getD L.it Go.undef=Go.undef:=by
   have hs:=hF2.size
   rw[Array.getD_eq_getD_getElem?,Array.getElem?_eq_none (by omega)];rfl
  rw[this] at h8
  cases h8
 have hslot:(a1.put (some L.it) (.pointer (some ⟨w1.heap.size,0,none⟩))).tmps.getD L.it Go.undef=.pointer (some ⟨w1.heap.size,0,none⟩):=by
  have hs:=hF1.size
  simp[Act.put,hs,hit]
 refine loop_rel (fr':=frE) (H':=lE::RE) hFW hN hC hX hL hit (X:=X) (S:=fun f l=>(f,l)=t) (R:=R) hRl x2 x3 x4 (fun f l hx hp=>?_) x6 rfl hEp.rel hnb (by simp) hR2 hkb hb hborn hsz ?_ (Nat.le_refl _) hEn hF2 hM2 x1 (World.alloc_heap_new _ _) hslot (fun a' w' hnow=>?_)
 · have:=x5 f l hx hp
   rw[← this] at hlast
   exact hlast
 · intro j hj
   have:=hrel j hj
   exact ⟨this.1.mono (Pst.le.refl _) hle,this.2.mono (Pst.le.refl _) hle⟩
 · obtain ⟨p',MK,e1,e2,e3⟩:=hnow
   have e4:=hEp.trans e1
   have hRE:RE=R:=by
    refine heap_ext _ _ (by have:=e4.len;rw[hRd];simpa using this) (fun d' i'=>?_) (fun d'=>?_) (fun d'=>?_)
    · have:=e4.same (d'+1) i' (by omega) (by have:=hRl d';rw[hRd] at this;exact this)
      rw[hRd];exact this
    · have:=e4.next (d'+1) (by omega) (by have:=hRl d';rw[hRd] at this;exact this)
      rw[hRd];exact this
    · have:=e4.lock (d'+1)
      rw[hRd];exact this
   rw[hRE,hRd] at e4 e3
   have hK0:HRel p1 M1 (lk::hLockAll r2) w1:=by
    have:=hE1.rel.kill 0 i
    rw[hk1] at this
    exact this.same (fun d j=>lockRest_get (lk::r2) d j) (fun d=>lockRest_next (lk::r2) d)
   have hv0:∀ v t,M1 0 i v=some t→v=0:=fun v t hm=>by
    have:=(hE1.rel.dom 0 i v t hm).2 (by rw[hg];simp)
    rw[hg] at this
    exact Nat.le_zero.1 this
   have e5:=Evo.rise hK0 (fun d=>hLock_lockAll r2 d) hlk0 hv0 (by rw[hlenR];exact e4) (by rw[hlenR];exact hcB) (by
    show (nthBlk lE.bs i).2=.dead
    revert hcD
    generalize (nthBlk lE.bs i).2=B
    cases B<;>simp[isDead])
   rw[hlenR] at e5
   have hH2':HRel p1 M1 (lk::r2) w1:=by rw[← hk1];exact hE1.rel.kill 0 i
   have e6:=Evo.unlock hH2' hlk0 e5
   -- the map's cells are nobody's
   have hmK:MK (r2.length+1) 0 0=some (b,o,tt):=e4.mu _ _ _ _ (by unfold MuL;rw[if_pos rfl,if_pos ⟨rfl,rfl⟩];exact hmu)
   have hmK0:MK 0 i 0=some (b,o,tt):=e4.mu _ _ _ _ (hle _ _ _ _ hmu)
   have hp0:∀ x,p' b x=none:=by
    obtain ⟨b2,o2,t2,j1,_,j3⟩:=e4.rel.live (r2.length+1) 0 0 (.map es) (by
     show hGet ((lE::hLockAll r2)++[lvM es]) (r2.length+1) 0=_
     rw[hGet_app,if_neg (by simp[hLockAll_len])]
     simp[hLockAll_len,hGet,lvM,nthBlk]) (by simp)
    rw[hmK] at j1
    simp only[nP] at j1
    rw[j1.1];exact j3
   have e7:=Evo.restore hE1.rel hg (by simp) hmu hl0 hl0 (by rw[hk1];exact e6) (fun v1 t1 hm=>by
    unfold MuC at hm
    split at hm
    · rename_i e
      exact Nat.le_of_not_lt fun hlt=>e.2 ⟨rfl,rfl,by omega⟩
    · cases hm) hp0
   have e8:=hE1.trans e7
   refine hQ a' w' ⟨p',_,e8,⟨e2.size,fun x=>?_⟩,?_⟩
   · rw[mapG_get rfl]
     refine bckV_rel (by omega) (by rw[hmK,hmK0]) ?_ (e2.at_ x)
     have:=fGet_all (f:=fun x=>flatV (r2.length+1) i x.2) (fun _=>rfl) (x:=x) hcF (fun _ _=>rfl)
     rw[mapG_get rfl] at this
     exact this
   · obtain ⟨rs,g1,g2,g0,g3⟩:=e3
     refine ⟨rs,g1,g2,g0,fun q hq=>⟨(g3 q hq).1,?_,(g3 q hq).2.2⟩⟩
     -- a mark is kept: it is no block that is known
     intro d' i' v' B' hg' hB' hl' o' t' hm'
     obtain ⟨b2,o2,t2,k1,k2,_⟩:=e7.rel.live d' i' v' B' hg' hB'
     rw[hm'] at k1
     simp only[nP] at k1
     obtain ⟨rfl,_,_⟩:=k1
     have hq1:=(g3 q hq).1
     cases B' with
     | dead=>exact hB' rfl
     | row r=>obtain ⟨_,_,e,_⟩:=k2;rw[hq1] at e;simp at e
     | map es=>obtain ⟨_,_,e,_⟩:=k2;rw[hq1] at e;simp at e
     | fmap kq f g c=>obtain ⟨_,_,_,_,e,_⟩:=k2;rw[hq1] at e;simp at e
     | loop l=>obtain ⟨_,e,_⟩:=k2;rw[hq1] at e;simp at e

end Go.Eng
end
section
namespace Go.Eng
set_option linter.unusedVariables false
set_option linter.unusedSimpArgs false

noncomputable def rangeRunL (cx:Cx) (S:RStart) (L:RLoop) (fr:Frm) (H:Heap):Option (Frm×Heap) :=
 match runOpsX cx.P cx.nt cx.call S.ops0 S.pre fr H with
 | some (fr1,l1::r1)=>match fGet fr1 S.m with
   | .map (d+1) i=>match hGet (l1::r1) (d+1) i with
     | (0,.map es) =>
       if l1.lock then none else
       let R:=hLockAll r1
       let k:=hNext (l1::r1)
       let s0:Frm×Lvl:=(putO cx.nt fr1 (some L.it) (.ptr 0 k 0 0),{ l1 with bs:=l1.bs++[(0,.dead)] })
       let kvs:=es.map fun e=>(upV (d+1) e.1,upV (d+1) e.2)
       match foldS L cx k (k+1) R kvs s0 with
       | some t =>
         if sure L cx k (k+1) R kvs s0 t (s0::nexts L cx k (k+1) R s0 kvs) (findJ L cx k (k+1) R s0 t kvs 0) then
          match L.last cx t.1 (t.2::R) with
          | some (fr',l'::_)=>some (fr',l'::r1)
          | _=>none
         else none
       | none=>none
     | _=>none
   | _=>none
 | _=>none

theorem rangeL_code {cx:Cx} {F:Fence} (hFW:Wide F) (hN:Named cx.P) (hC:CallOk cx.P cx.call) (hX:CodeMore cx F) {S:RStart} {L:RLoop} (hS:S.Ok cx.P L) (hL:L.Ok) {fr fr':Frm} {H H':Heap} (h:rangeRunL cx S L fr H=some (fr',H')) :
 CodeOk cx.P F cx.ro cx.nt (S.code L) fr H .normal fr' H':=by
 intro n0 p M a w Q hF hH hne hR hM hQ
 unfold rangeRunL at h
 rw[runOpsX_eq] at h
 split at h
 case h_2=>simp at h
 rename_i fr1 l1 r1 hro
 split at h
 case h_2=>simp at h
 rename_i d i hmap
 split at h
 case h_2=>simp at h
 rename_i es hg
 split at h
 · simp at h
 rename_i hl0
 simp only[Bool.not_eq_true] at hl0
 dsimp only at h
 split at h
 case h_2=>simp at h
 rename_i t hfold
 split at h
 case isFalse=>simp at h
 rename_i hsure
 split at h
 case h_2=>simp at h
 rename_i frE lE RE hlast
 simp only[nP] at h
 obtain ⟨rfl,rfl⟩:=h
 refine wpIn_seq (wpIn_region_list ?_)
 rw[hS.l0]
 refine runOps_relK hFW hN hC _ _ _ _ _ hro p M a w hF hH hne (fun a1 w1 ⟨p1,M1,hE1,hF1,hd1⟩=>?_)
 unfold wpListIn
 rw[if_pos (by unfold Region.wanted;rw[hS.g0])]
 -- the map
 have hvm:=hF1.at_ S.m
 rw[hmap] at hvm
 obtain ⟨b,o,tt,hmu,hev⟩:∃ b o t,M1 (d+1) i 0=some (b,o,t)∧a1.tmps.getD S.m Go.undef=.map (some b):=by
  generalize a1.tmps.getD S.m Go.undef=z at hvm
  cases hvm
  rename_i b o t hm
  exact ⟨b,o,t,hm,rfl⟩
 obtain ⟨ces,clock,hb,hsz,hborn,hrel⟩:=map_own hE1.rel hg hmu
 have hev':a1.eval (.tmp S.m)=.map (some b):=hev
 obtain ⟨kt,et,hu⟩:=hS.t0
 have hrun:=_root_.Go.run_range_map (P:=cx.P) w1 S.ty kt et b ces clock hu hb
 refine op_val hFW (by rw[hS.o0];intro c h;cases h) (cv:=.pointer (some ⟨w1.heap.size,0,none⟩)) (w':=w1.alloc (.mapIter (some b) clock #[] clock)) (by simp only[execOp,hS.o0,hev'];simp[Sem.run_bind,hrun,Result.andThen]) ?_
 unfold wpListIn
 rw[hS.d0]
 -- the base of the loop
 obtain ⟨R,hRd⟩:∃ R,R=hLockAll r1:=⟨_,rfl⟩
 obtain ⟨lb,hlbd⟩:∃ lb,lb=({ l1 with bs:=l1.bs++[(0,.dead)] }:Lvl):=⟨_,rfl⟩
 rw[← hlbd,← hRd] at hfold hsure
 rw[← hRd] at hlast
 have hH3:HRel p1 M1 (lockRest (l1::r1)) w1:=hE1.rel.same (lockRest_get _) (lockRest_next _)
 have hne3:lockRest (l1::r1)≠[]:=by simp[lockRest]
 have hEp:=Evo.pad hH3 hne3 1 (Stay.refl _ _)
 have hpad:hPad (lockRest (l1::r1)) 1=lb::R:=by rw[hlbd,hRd];rfl
 rw[hpad] at hEp
 have hRl:∀ d,hLock R d=true:=fun d=>by rw[hRd];exact hLock_lockAll _ _
 have hnx:hNext (lockRest (l1::r1))=hNext (l1::r1):=by
  rw[← hNextAt_zero,lockRest_next,hNextAt_zero]
 have hnb:hNext (lb::R)=hNext (l1::r1)+1:=by
  rw[← hpad,← hNextAt_zero,hPad_next _ hne3,if_pos rfl,hnx]
 have hdead:(hGet (lb::R) 0 (hNext (l1::r1))).2=.dead:=by
  rw[← hpad,hPad_get]
  exact Classical.byContradiction fun hn=>by
   have:=hGet_lt hn
   rw[lockRest_next,hNextAt_zero] at this
   omega
 have hlb:hLock (lb::R) 0=false:=by rw[hlbd];exact hl0
 have hno:∀ v,M1 0 (hNext (l1::r1)) v=none:=fun v=>by
  cases hx:M1 0 (hNext (l1::r1)) v with
  | none=>rfl
  | some u =>
    have:=(hE1.rel.dom _ _ _ _ hx).1
    rw[hNextAt_zero] at this
    omega
 have hEn:=Evo.name hEp.rel hdead (by rw[hNextAt_zero,hnb];omega) hno hlb (.mapIter (some b) clock #[] clock)
 have hkb:Go.Eng.keep M1 (lb::R) b:=by
  intro d' i' v' B' hg' hB' hl' o' t' hm'
  cases d' with
  | succ d' =>
    rw[show hLock (lb::R) (d'+1)=hLock R d' from rfl,hRl] at hl';cases hl'
  | zero =>
    rw[← hpad,hPad_get,lockRest_get] at hg'
    have:=(hE1.rel.apart 0 i' v' B' (d+1) i 0 (.map es) b o' t' o tt hg' hB' hg (by simp) hm' hmu).1
    omega
 have hF2:=(hF1.mono hEn.pst hEn.mu).put (some L.it) (v:=.ptr 0 (hNext (l1::r1)) 0 0) (c:=.pointer (some ⟨w1.heap.size,0,none⟩)) (.ptr (o:=0) (t:=0) (by simp[muSet]))
 have hM2:Marks n0 (muSet M1 0 (hNext (l1::r1)) 0 (w1.heap.size,0,0)) (lb::R) (w1.alloc (.mapIter (some b) clock #[] clock)) (a1.put (some L.it) (.pointer (some ⟨w1.heap.size,0,none⟩))).defers:=by
  rw[put_defers,hd1]
  have m1:=hM.evo hE1
  have m3:Marks n0 M1 (lockRest (l1::r1)) w1 a.defers:=by
   obtain ⟨rs,g1,g2,g0,g3⟩:=m1
   refine ⟨rs,g1,g2,g0,fun q hq=>⟨(g3 q hq).1,fun d' i' v' B' hg' hB' hl' o' t'=>?_,(g3 q hq).2.2⟩⟩
   rw[lockRest_get] at hg'
   cases d' with
   | zero=>exact (g3 q hq).2.1 0 i' v' B' hg' hB' hl0 o' t'
   | succ d' =>
     have:hLock (hLockAll r1) d'=true:=hLock_lockAll _ _
     have h7:hLock (lockRest (l1::r1)) (d'+1)=hLock (hLockAll r1) d':=rfl
     rw[h7,this] at hl';cases hl'
  exact (m3.evo hEp).evo hEn
 have hR2:RoOk F cx.ro M1:=hR.mono hE1.mu
 have hkvs:(es.map fun e=>(upV (d+1) e.1,upV (d+1) e.2)).length=es.length:=by simp
 -- what the check has shown
 have facts:∃ (X:Frm→Lvl→Prop) (j0:Nat),X (putO cx.nt fr1 (some L.it) (.ptr 0 (hNext (l1::r1)) 0 0)) lb ∧
  (∀ f l,X f l→fGet f L.it=.ptr 0 (hNext (l1::r1)) 0 0) ∧
  (∀ f l,X f l→∀ j,j<(es.map fun e=>(upV (d+1) e.1,upV (d+1) e.2)).length→∃ f1 m1 R1,L.round cx (hNext (l1::r1)) (hNext (l1::r1)+1) ((es.map fun e=>(upV (d+1) e.1,upV (d+1) e.2)).getD j (.undef,.undef)) f (l::R)=some (f1,m1::R1)∧X f1 m1∧(j=j0→(f1,m1)=t)) ∧
  (∀ f l,(f,l)=t→∀ j,j<(es.map fun e=>(upV (d+1) e.1,upV (d+1) e.2)).length→∀ f1 m1 R1,L.round cx (hNext (l1::r1)) (hNext (l1::r1)+1) ((es.map fun e=>(upV (d+1) e.1,upV (d+1) e.2)).getD j (.undef,.undef)) f (l::R)=some (f1,m1::R1)→(f1,m1)=t) ∧
  (∀ f l,X f l→(0<(es.map fun e=>(upV (d+1) e.1,upV (d+1) e.2)).length→(f,l)=t)→(f,l)=t)∧(0<(es.map fun e=>(upV (d+1) e.1,upV (d+1) e.2)).length→j0<(es.map fun e=>(upV (d+1) e.1,upV (d+1) e.2)).length):=by
  generalize (es.map fun e=>(upV (d+1) e.1,upV (d+1) e.2))=kvs at hsure ⊢
  unfold sure at hsure
  split at hsure
  · simp only[Bool.and_eq_true] at hsure
    have e1:=eqS_eq _ _ hsure.1
    refine ⟨fun f l=>(f,l)=t,0,e1,fun f l hx=>?_,fun f l _ j hj=>absurd hj (by simp),fun f l _ j hj=>absurd hj (by simp),fun f l hx _=>hx,fun hp=>absurd hp (by simp)⟩
    have:f=(putO cx.nt fr1 (some L.it) (.ptr 0 (hNext (l1::r1)) 0 0)):=by rw[← e1] at hx;exact (Prod.mk.inj hx).1
    rw[this];exact isPtr0_eq hsure.2
  · simp only[Bool.and_eq_true] at hsure
    obtain ⟨h1,h2,h3,h4⟩:=hsure
    have hj:findJ L cx (hNext (l1::r1)) (hNext (l1::r1)+1) R (putO cx.nt fr1 (some L.it) (.ptr 0 (hNext (l1::r1)) 0 0),lb) t kvs 0<kvs.length:=by
     have:=Nat.le_of_ble_eq_true h4;omega
    have mem:∀ j,j<kvs.length→kvs.getD j (.undef,.undef) ∈ kvs:=fun j hj=>by
     rw[List.getD_eq_getElem?_getD,List.getElem?_eq_getElem hj];simp
    refine ⟨fun f l=>(f,l) ∈ ((putO cx.nt fr1 (some L.it) (.ptr 0 (hNext (l1::r1)) 0 0),lb)::nexts L cx (hNext (l1::r1)) (hNext (l1::r1)+1) R (putO cx.nt fr1 (some L.it) (.ptr 0 (hNext (l1::r1)) 0 0),lb) kvs),
     findJ L cx (hNext (l1::r1)) (hNext (l1::r1)+1) R (putO cx.nt fr1 (some L.it) (.ptr 0 (hNext (l1::r1)) 0 0),lb) t kvs 0,by simp,fun f l hx=>?_,fun f l hx j hjl=>?_,fun f l he j hjl f1 m1 R1 hr=>?_,fun f l _ hp=>hp (by omega),fun _=>hj⟩
    · have:=List.all_eq_true.1 h2 _ hx
      simp only[Bool.and_eq_true] at this
      exact isPtr0_eq this.1
    · have:=List.all_eq_true.1 h2 _ hx
      simp only[Bool.and_eq_true] at this
      obtain ⟨_,g2,g3⟩:=this
      obtain ⟨s,hs,he⟩:=isIn_mem (List.all_eq_true.1 g2 _ (mem j hjl))
      obtain ⟨R1,hr⟩:=round1_some he
      refine ⟨s.1,s.2,R1,hr,hs,fun hjj=>?_⟩
      rw[← hjj] at g3
      have:=isAt_eq g3
      rw[he] at this
      exact Option.some.inj this
    · have:=isAt_eq (List.all_eq_true.1 h3 _ (mem j hjl))
      rw[← he] at this
      obtain ⟨R2,hr2⟩:=round1_some this
      dsimp only at hr2
      rw[hr] at hr2
      simp only[Option.some.injEq,Prod.mk.injEq,List.cons.injEq] at hr2
      rw[hr2.1,hr2.2.1]
      first | done | rfl | exact he | (rw[← he])
 obtain ⟨X,j0,x1,x2,x3,x4,x5,x6⟩:=facts
 have hit:L.it<cx.nt:=by
  refine Nat.lt_of_not_le fun hle=>?_
  have h7:=x2 _ _ x1
  have h8:=hF2.at_ L.it
  rw[h7] at h8
  have:(a1.put (some L.it) (.pointer (some ⟨w1.heap.size,0,none⟩))).tmps.getD L.it Go.undef=Go.undef:=by
   have hs:=hF2.size
   rw[Array.getD_eq_getD_getElem?,Array.getElem?_eq_none (by omega)];rfl
  rw[this] at h8
  cases h8
 have hslot:(a1.put (some L.it) (.pointer (some ⟨w1.heap.size,0,none⟩))).tmps.getD L.it Go.undef=.pointer (some ⟨w1.heap.size,0,none⟩):=by
  have hs:=hF1.size
  simp[Act.put,hs,hit]
 refine loop_rel hFW hN hC hX hL hit (X:=X) (S:=fun f l=>(f,l)=t) (R:=R) hRl x2 x3 x4 (fun f l hx hp=>?_) x6 rfl hEp.rel hnb (by simp) hR2 hkb hb hborn (by rw[hkvs];exact hsz) ?_ (Nat.le_refl _) hEn hF2 hM2 x1 (World.alloc_heap_new _ _) hslot (fun a' w' hnow=>?_) (fr':=frE) (H':=lE::RE)
 · have:=x5 f l hx hp
   rw[← this] at hlast
   exact hlast
 · intro j hj
   have hj2:j<es.length:=by rw[← hsz];exact hj
   have:=hrel j hj
   have e1:(es.map fun e=>(upV (d+1) e.1,upV (d+1) e.2)).getD j (.undef,.undef)=(upV (d+1) (es.getD j (.undef,.undef)).1,upV (d+1) (es.getD j (.undef,.undef)).2):=by
    simp[List.getD_eq_getElem?_getD,List.getElem?_eq_getElem hj2]
   rw[e1]
   exact ⟨this.1.up,this.2.up⟩
 · obtain ⟨p',M',e1,e2,e3⟩:=hnow
   have e4:Evo p1 M1 (lockRest (l1::r1)) w1 p' M' (lE::RE) w':=hEp.trans e1
   have hRE:RE=hLockAll r1:=by
    refine heap_ext _ _ (by have:=e4.len;simpa[lockRest,hLockAll_len] using this) (fun d' i'=>?_) (fun d'=>?_) (fun d'=>?_)
    · exact e4.same (d'+1) i' (by omega) (hLock_lockAll r1 d')
    · exact e4.next (d'+1) (by omega) (hLock_lockAll r1 d')
    · exact e4.lock (d'+1)
   rw[hRE] at e4 e3
   have e5:=Evo.unlock hE1.rel hl0 e4
   have e7:=hE1.trans e5
   refine hQ a' w' ⟨p',M',e7,e2,?_⟩
   obtain ⟨rs,g1,g2,g0,g3⟩:=e3
   refine ⟨rs,g1,g2,g0,fun q hq=>⟨(g3 q hq).1,?_,(g3 q hq).2.2⟩⟩
   -- a mark is kept: it is no block that is known
   intro d' i' v' B' hg' hB' hl' o' t' hm'
   obtain ⟨b2,o2,t2,k1,k2,_⟩:=e7.rel.live d' i' v' B' hg' hB'
   rw[hm'] at k1
   simp only[nP] at k1
   obtain ⟨rfl,_,_⟩:=k1
   have hq1:=(g3 q hq).1
   cases B' with
   | dead=>exact hB' rfl
   | row r=>obtain ⟨_,_,e,_⟩:=k2;rw[hq1] at e;simp at e
   | map es=>obtain ⟨_,_,e,_⟩:=k2;rw[hq1] at e;simp at e
   | fmap kq f g c=>obtain ⟨_,_,_,_,e,_⟩:=k2;rw[hq1] at e;simp at e
   | loop l=>obtain ⟨_,e,_⟩:=k2;rw[hq1] at e;simp at e

noncomputable def rangeAny (cx:Cx) (S:RStart) (L:RLoop) (fr:Frm) (H:Heap):Option (Frm×Heap) :=
 match rangeRun cx S L fr H with
 | some x=>some x
 | none=>rangeRunL cx S L fr H
theorem rangeAny_code {cx:Cx} {F:Fence} (hFW:Wide F) (hN:Named cx.P) (hC:CallOk cx.P cx.call) (hX:CodeMore cx F) {S:RStart} {L:RLoop} (hS:S.Ok cx.P L) (hL:L.Ok) {fr fr':Frm} {H H':Heap} (h:rangeAny cx S L fr H=some (fr',H')) :
 CodeOk cx.P F cx.ro cx.nt (S.code L) fr H .normal fr' H':=by
 unfold rangeAny at h
 split at h
 · rename_i x e
   simp only[Option.some.injEq] at h
   subst h
   exact range_code hFW hN hC hX hS hL e
 · exact rangeL_code hFW hN hC hX hS hL h
end Go.Eng
end
section
namespace Go.Eng
set_option linter.unusedVariables false
set_option linter.unusedSimpArgs false

def assemble:List Code→Code→Code→Code
 | [],C,suf=>.seq C suf
 | c::r,C,suf=>.seq c (assemble r C suf)
structure RFun where
 f:FuncId
 pre:List Code
 S:RStart
 L:RLoop
 suf:Code
def RFun.Ok (P:Program) (r:RFun):Prop:=(∃ fn,P.funcs[r.f]?=some fn∧fn.body=some (assemble r.pre (r.S.code r.L) r.suf))∧r.S.Ok P r.L∧r.L.Ok

noncomputable def pieces (cx:Cx) (S:RStart) (L:RLoop) (suf:Code):List Code→Frm→Heap→Option (Ex×Frm×Heap)
 | [],fr,H=>match rangeAny cx S L fr H with
   | some (fr,H)=>execX cx suf fr H
   | none=>none
 | c::r,fr,H=>match execX cx c fr H with
   | some (.normal,fr,H)=>pieces cx S L suf r fr H
   | x=>x

theorem code_seq {cx:Cx} {F:Fence} {x y:Code} {fr fr1 fr':Frm} {H H1 H':Heap} {e:Ex} (hx:CodeOk cx.P F cx.ro cx.nt x fr H .normal fr1 H1) (hy:CodeOk cx.P F cx.ro cx.nt y fr1 H1 e fr' H'):CodeOk cx.P F cx.ro cx.nt (.seq x y) fr H e fr' H' :=
 fun n0 p M a w Q hF hH hne hR hM hQ=>wpIn_seq (hx n0 p M a w _ hF hH hne hR hM (fun a1 w1 ⟨p1,M1,k1,k2,k3⟩=>hy n0 p1 M1 a1 w1 Q k2 k1.rel (k1.ne hne) (hR.mono k1.mu) k3 (fun a2 w2 h2=>hQ a2 w2 (Now.trans k1 h2))))
theorem code_seq_out {cx:Cx} {F:Fence} {x y:Code} {fr fr':Frm} {H H':Heap} {e:Ex} (he:e≠.normal) (hx:CodeOk cx.P F cx.ro cx.nt x fr H e fr' H'):CodeOk cx.P F cx.ro cx.nt (.seq x y) fr H e fr' H' :=
 fun n0 p M a w Q hF hH hne hR hM hQ=>wpIn_seq (hx n0 p M a w _ hF hH hne hR hM (fun a1 w1 hn=>by
  have:=hQ a1 w1 hn
  cases e<;>first | exact absurd rfl he | exact this))

theorem pieces_ok {cx:Cx} {F:Fence} (hFW:Wide F) (hN:Named cx.P) (hC:CallOk cx.P cx.call) (hX:CodeMore cx F) {S:RStart} {L:RLoop} {suf:Code} (hS:S.Ok cx.P L) (hL:L.Ok):∀ (pre:List Code) (fr:Frm) (H:Heap) (e:Ex) (fr':Frm) (H':Heap),
 pieces cx S L suf pre fr H=some (e,fr',H')→CodeOk cx.P F cx.ro cx.nt (assemble pre (S.code L) suf) fr H e fr' H'
 | [],fr,H,e,fr',H',h=>by
   simp only[pieces] at h
   cases hr:rangeAny cx S L fr H with
   | none=>rw[hr] at h;simp at h
   | some q =>
     obtain ⟨fr1,H1⟩:=q
     rw[hr] at h
     dsimp only at h
     rw[execX_eq] at h
     exact code_seq (rangeAny_code hFW hN hC hX hS hL hr) (exec_rel hFW hN hC hX _ _ _ _ _ _ h)
 | c :: r,fr,H,e,fr',H',h=>by
   simp only[pieces] at h
   rw[execX_eq] at h
   cases hx:exec cx c fr H with
   | none=>rw[hx] at h;simp at h
   | some q =>
     obtain ⟨e1,fr1,H1⟩:=q
     rw[hx] at h
     have h1:=exec_rel hFW hN hC hX _ _ _ _ _ _ hx
     cases e1 with
     | normal=>exact code_seq h1 (pieces_ok hFW hN hC hX hS hL r fr1 H1 e fr' H' h)
     | _ =>
       simp only[nP] at h
       obtain ⟨rfl,rfl,rfl⟩:=h
       exact code_seq_out (by simp) h1

noncomputable def rCall (P:Program) (KT:FuncId→Nat→Nat) (fu:Nat) (r:RFun) (call:CallT) (args:List AV) (H:Heap):Option (AV×Heap) :=
 match P.funcs[r.f]? with
 | none=>none
 | some fn=>if Nat.ble args.length fn.ntmps then
   match pieces ⟨P,call,fu,r.f,fn.ntmps,KT r.f,none⟩ r.S r.L r.suf r.pre (argFrm 0 args) (⟨false,[]⟩::H) with
   | some (e,fr,l::H')=>(match e with
     | .normal | .ret=>match resV P fr (l::H') fn.results.toList with
       | some vs=>some (frzV l.bs 5 (one vs),H')
       | none=>none
     | _=>none)
   | _=>none
   else none

theorem rCall_ok {P:Program} (hN:Named P) (hD:DrawOk P) {r:RFun} (hr:r.Ok P) (KT:FuncId→Nat→Nat) (fu:Nat) {call:CallT} (hC:CallOk P call) {args:List AV} {H:Heap} {v:AV} {H':Heap} (h:rCall P KT fu r call args H=some (v,H'))
 {p:Pst} {M:Mu} {w:World} {cargs:Array Value} (hH:HRel p M H w) (hA:CRel p M args cargs):(∃ fn,P.funcs[r.f]?=some fn∧fn.body.isNone=false)∧CallsIn Fence.wide 0 P r.f cargs w (Post p M H w v H'):=by
 obtain ⟨⟨fn,hf,hb⟩,hS,hL⟩:=hr
 unfold rCall at h
 rw[hf] at h
 dsimp only at h
 split at h
 · rename_i hle
   split at h
   · rename_i e fr l H1 he
     have hcode:=pieces_ok (cx:=⟨P,call,fu,r.f,fn.ntmps,KT r.f,none⟩) Wide.wide hN hC (more hN hD hC _ _ rfl rfl Wide.wide) hS hL _ _ _ _ _ _ he
     split at h
     · cases hv:resV P fr (l::H1) fn.results.toList with
       | none=>rw[hv] at h;simp at h
       | some vs =>
         rw[hv] at h
         simp only[nP] at h
         obtain ⟨rfl,rfl⟩:=h
         exact ⟨⟨fn,hf,by rw[hb];rfl⟩,func_rel hf hb (by simpa using hle) (.inl rfl) hv hcode hH hA⟩
     · cases hv:resV P fr (l::H1) fn.results.toList with
       | none=>rw[hv] at h;simp at h
       | some vs =>
         rw[hv] at h
         simp only[nP] at h
         obtain ⟨rfl,rfl⟩:=h
         exact ⟨⟨fn,hf,by rw[hb];rfl⟩,func_rel hf hb (by simpa using hle) (.inr rfl) hv hcode hH hA⟩
     · simp at h
   · simp at h
 · simp at h

noncomputable def oraR (P:Program) (KT:FuncId→Nat→Nat) (fu:Nat) (tab:List Ora):List RFun→CallT→FuncId→List AV→Heap→Option (AV×Heap)
 | [],c,f,args,H=>oraT tab c f args H
 | r::rs,c,f,args,H=>if Nat.beq r.f f then rCall P KT fu r c args H else oraR P KT fu tab rs c f args H
theorem oraR_ok {P:Program} (hN:Named P) (hD:DrawOk P) (KT:FuncId→Nat→Nat) (fu:Nat) {tab:List Ora} (hT:∀ e ∈ tab,OneOk P e):∀ (rs:List RFun),(∀ r ∈ rs,r.Ok P)→OraOk P (oraR P KT fu tab rs)
 | [],_=>oraT_ok tab hT
 | r :: rs,hr=>fun call hC f args H v H' h hne p M w cargs hH hA=>by
   simp only[oraR] at h
   split at h
   · rename_i hf
     have:=Nat.eq_of_beq_eq_true hf
     subst this
     exact rCall_ok hN hD (hr r (by simp)) KT fu hC h hH hA
   · exact oraR_ok hN hD KT fu hT rs (fun q hq=>hr q (by simp[hq])) call hC f args H v H' h hne p M w cargs hH hA

end Go.Eng
end
section
namespace Go.Eng
set_option linter.unusedVariables false
set_option linter.unusedSimpArgs false

theorem func_own {P:Program} {f:FuncId} {fn:Func} {c:Code} (hf:P.funcs[f]?=some fn) (hb:fn.body=some c) {args:List AV} (hle:args.length≤fn.ntmps) {H:Heap} {e:Ex} {fr:Frm} {l:Lvl} {H':Heap} (he:e=.normal∨e=.ret)
 {j ver off sz len:Nat} {cap:Option Nat} {q:Row} (hv:resV P fr (l::H') fn.results.toList=some [.slc 0 j ver off sz len cap]) (hq:hRow (l::H') 0 j ver=some q) (hl0:l.lock=false) (hl1:hLock H' 0=false) (hne:H'≠[])
 (hC:CodeOk P Fence.wide none fn.ntmps c (argFrm 0 args) (⟨false,[]⟩::H) e fr (l::H')) {p:Pst} {M:Mu} {w:World} {cargs:Array Value} (hH:HRel p M H w) (hA:CRel p M args cargs) :
 CallsIn Fence.wide 0 P f cargs w (Post p M H w (.slc 0 (hNextAt H' 0) 0 off sz len cap) (hPushAt H' 0 (.row (dnR 1 q)))):=by
 refine callsIn_of_wp_marks hf hb trivial (hC w.heap.size p (muDown M) _ w _ (args_rel hA hle) hH.down (by simp) rfl (Marks.nil _ _ _) (fun a' w' ⟨p',M',k1,k2,k3⟩=>?_)) rfl
 have main:LeavesInM Fence.wide 0 P fn a'.tmps (Post p M H w (.slc 0 (hNextAt H' 0) 0 off sz len cap) (hPushAt H' 0 (.row (dnR 1 q)))) a'.defers .returning w':=by
  obtain ⟨rs,h1,h2,_,h3⟩:=k3
  rw[h1]
  refine leaves_rel (p:=p) (M:=muDown M) (H:=⟨false,[]⟩::H) (w:=w) (p':=p') (M':=M') (H':=l::H') (fun w2 hE=>?_) rs w' h2 (fun r hr=>⟨(h3 r hr).1,(h3 r hr).2.2⟩) k1
  obtain ⟨cv,r1,r2⟩:=results_rel k2 hE.rel hv
  have r2':VRel p' M' (.slc 0 j ver off sz len cap) cv:=r2
  cases r2' with
  | slc hm h5 h6 h7 h8 =>
    rename_i b o t x cc
    have mv:=hE.rel.move (d:=1) hq hm hl0 hl1 (by
     cases H' with
     | nil=>exact absurd rfl hne
     | cons y r=>simp) (by omega)
    have hE2:=hE.trans mv
    have hk:hPushAt (hKill (l::H') 0 j) 1 (.row (dnR 1 q))=(⟨l.lock,(setBlk l.bs j ((hGet (l::H') 0 j).1,.dead))⟩:Lvl)::hPushAt H' 0 (.row (dnR 1 q)):=rfl
    rw[hk] at hE2
    refine ⟨_,r1,_,rfl,⟨fun d i hl=>hE2.same (d+1) i (by omega) hl,fun d hl=>hE2.next (d+1) (by omega) hl⟩,_,_,hE2.pop,?_⟩
    refine .slc (b:=b) (o:=o) (t:=t) ?_ h5 h6 h7 h8
    show muSet M' 1 (hNextAt (l::H') 1) 0 (b,o,t) 1 (hNextAt H' 0) 0=some (b,o,t)
    unfold muSet
    exact if_pos ⟨rfl,rfl,rfl⟩
 rcases he with rfl | rfl
 · exact main
 · exact main

noncomputable def oCall (P:Program) (KT:FuncId→Nat→Nat) (fu:Nat) (f:FuncId) (call:CallT) (args:List AV) (H:Heap):Option (AV×Heap) :=
 match P.funcs[f]? with
 | none=>none
 | some fn => match fn.body with
   | none=>none
   | some c=>if Nat.ble args.length fn.ntmps then
     match execX ⟨P,call,fu,f,fn.ntmps,KT f,none⟩ c (argFrm 0 args) (⟨false,[]⟩::H) with
     | some (e,fr,l::l1::H')=>(match e with
       | .normal | .ret=>match resV P fr (l::l1::H') fn.results.toList with
         | some [.slc 0 j ver off sz len cap]=>match hRow (l::l1::H') 0 j ver with
           | some q=>if l.lock || l1.lock then none else some (.slc 0 l1.bs.length 0 off sz len cap,hPushAt (l1::H') 0 (.row (dnR 1 q)))
           | none=>none
         | _=>none
       | _=>none)
     | _=>none
     else none
theorem oCall_ok {P:Program} (hN:Named P) (hD:DrawOk P) {f:FuncId} (KT:FuncId→Nat→Nat) (fu:Nat) {call:CallT} (hC:CallOk P call) {args:List AV} {H:Heap} {v:AV} {H':Heap} (h:oCall P KT fu f call args H=some (v,H'))
 {p:Pst} {M:Mu} {w:World} {cargs:Array Value} (hH:HRel p M H w) (hA:CRel p M args cargs):(∃ fn,P.funcs[f]?=some fn∧fn.body.isNone=false)∧CallsIn Fence.wide 0 P f cargs w (Post p M H w v H'):=by
 unfold oCall at h
 split at h
 · simp at h
 rename_i fn hf
 split at h
 · simp at h
 rename_i c hb
 split at h
 case isFalse=>simp at h
 rename_i hle
 split at h
 case h_2=>simp at h
 rename_i e fr l l1 H1 he
 rw[execX_eq] at he
 have hcode:=exec_rel (cx:=⟨P,call,fu,f,fn.ntmps,KT f,none⟩) Wide.wide hN hC (more hN hD hC _ _ rfl rfl Wide.wide) _ _ _ _ _ _ he
 have fin:(e=.normal∨e=.ret)→(match resV P fr (l::l1::H1) fn.results.toList with
  | some [.slc 0 j ver off sz len cap]=>match hRow (l::l1::H1) 0 j ver with
    | some q=>if l.lock || l1.lock then none else some (AV.slc 0 l1.bs.length 0 off sz len cap,hPushAt (l1::H1) 0 (.row (dnR 1 q)))
    | none=>none
  | _=>none)=some (v,H')→(∃ fn,P.funcs[f]?=some fn∧fn.body.isNone=false)∧CallsIn Fence.wide 0 P f cargs w (Post p M H w v H'):=fun he h=>by
  split at h
  case h_2=>simp at h
  rename_i j ver off sz len cap hv
  split at h
  case h_2=>simp at h
  rename_i q hq
  split at h
  case isTrue=>simp at h
  rename_i hlk
  simp only[Bool.or_eq_true,not_or,Bool.not_eq_true] at hlk
  simp only[nP] at h
  obtain ⟨rfl,rfl⟩:=h
  exact ⟨⟨fn,hf,by rw[hb];rfl⟩,func_own hf hb (by simpa using hle) he hv hq hlk.1 hlk.2 (by simp) hcode hH hA⟩
 split at h
 · exact fin (.inl rfl) h
 · exact fin (.inr rfl) h
 · simp at h

noncomputable def oraO (P:Program) (KT:FuncId→Nat→Nat) (fu:Nat) (tab:List Ora) (rs:List RFun) (os:List FuncId) (c:CallT) (f:FuncId) (args:List AV) (H:Heap):Option (AV×Heap) :=
 if os.any (fun g=>Nat.beq g f) then oCall P KT fu f c args H else oraR P KT fu tab rs c f args H
theorem oraO_ok {P:Program} (hN:Named P) (hD:DrawOk P) (KT:FuncId→Nat→Nat) (fu:Nat) {tab:List Ora} (hT:∀ e ∈ tab,OneOk P e) {rs:List RFun} (hr:∀ r ∈ rs,r.Ok P) (os:List FuncId):OraOk P (oraO P KT fu tab rs os) :=
 fun call hC f args H v H' h hne p M w cargs hH hA=>by
  unfold oraO at h
  split at h
  · exact oCall_ok hN hD KT fu hC h hH hA
  · exact oraR_ok hN hD KT fu hT rs hr call hC f args H v H' h hne p M w cargs hH hA
theorem one_ofO {P:Program} (hN:Named P) (hm:P.follows .mixedOrders=true) {tab:List Ora} (hT:∀ e ∈ tab,OneOk P e) {rs:List RFun} (hr:∀ r ∈ rs,r.Ok P) (os:List FuncId) (KT:FuncId→Nat→Nat) (fu n:Nat) {e:Ora} {H':Heap}
 (h:callNX P (oraO P KT fu tab rs os) KT fu n (.fn e.f) e.args [⟨true,[]⟩]=some (e.v,H')) (hn:e.args.all (noH 9)=true):OneOk P e:=by
 rw[callNX_eq] at h
 exact one_of_call (callN_rel hN (drawOk hN hm) (oraO_ok hN (drawOk hN hm) KT fu hT hr os) KT fu n) h hn
end Go.Eng
end
section
namespace Go.Eng
set_option linter.unusedVariables false
set_option linter.unusedSimpArgs false

end Go.Eng
end
