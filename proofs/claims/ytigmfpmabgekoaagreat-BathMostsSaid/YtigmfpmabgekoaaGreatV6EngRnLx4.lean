/- The engine: a range over a map of a lower level that ends in one state: all levels but the own one are locked for the while. -/
import Derived.Test.YtigmfpmabgekoaaGreatV6EngRsx2
set_option linter.unusedVariables false
set_option linter.unusedSimpArgs false
section
namespace Go.Eng

noncomputable def jX (cx:Cx) (S:bx) (L:a8) (fr:au) (H:aa):Option (au×aa) :=
 match cA cx.P cx.nt cx.call S.ops0 S.pre fr H with
 | some (fr1,l1::r1)=>match bh fr1 S.m with
   | .map (d+1) i=>match ao (l1::r1) (d+1) i with
     | (0,.map es) =>
       if l1.lock then none else
       let R:=av r1
       let k:=an (l1::r1)
       let s0:au×bo:=(c9 cx.nt fr1 (some L.it) (.ptr 0 k 0 0),{ l1 with bs:=l1.bs++[(0,.dead)] })
       let kvs:=es.map fun e=>(fW (d+1) e.1,fW (d+1) e.2)
       match c7 L cx k (k+1) R kvs s0 with
       | some t =>
         if sure L cx k (k+1) R kvs s0 t (s0::uG L cx k (k+1) R s0 kvs) (r8 L cx k (k+1) R s0 t kvs 0) then
          match L.last cx t.1 (t.2::R) with
          | some (fr',l'::_)=>some (fr',l'::r1)
          | _=>none
         else none
       | none=>none
     | _=>none
   | _=>none
 | _=>none

theorem yl {cx:Cx} {F:Fence} (hFW:cE F) (hN:b8 cx.P) (hC:bD cx.P cx.call) (hX:cJ cx F) {S:bx} {L:a8} (hS:S.Ok cx.P L) (hL:L.Ok) {fr fr':au} {H H':aa} (h:jX cx S L fr H=some (fr',H')) :
 cL cx.P F cx.ro cx.nt (S.code L) fr H .normal fr' H':=by
 intro n0 p M a w Q hF hH hne hR hM hQ
 unfold jX at h
 rw[bU] at h
 split at h
 case h_2=>simp at h
 rename_i fr1 l1 r1 hro
 split at h
 case h_2=>simp at h
 rename_i d i hmap
 split at h
 case h_2=>simp at h
 rename_i es hg
 split at h
 · simp at h
 rename_i hl0
 simp only[Bool.not_eq_true] at hl0
 dsimp only at h
 split at h
 case h_2=>simp at h
 rename_i t hfold
 split at h
 case isFalse=>simp at h
 rename_i hsure
 split at h
 case h_2=>simp at h
 rename_i qZ lE RE hlast
 simp only[nP] at h
 obtain ⟨rfl,rfl⟩:=h
 refine wpIn_seq (wpIn_region_list ?_)
 rw[hS.l0]
 refine fv hFW hN hC _ _ _ _ _ hro p M a w hF hH hne (fun a1 w1 ⟨p1,M1,hE1,hF1,hd1⟩=>?_)
 unfold wpListIn
 rw[if_pos (by unfold Region.wanted;rw[hS.g0])]
 -- the map
 have hvm:=hF1.at_ S.m
 rw[hmap] at hvm
 obtain ⟨b,o,tt,hmu,hev⟩:∃ b o t,M1 (d+1) i 0=some (b,o,t)∧a1.tmps.getD S.m Go.undef=.map (some b):=by
  generalize a1.tmps.getD S.m Go.undef=z at hvm
  cases hvm
  rename_i b o t hm
  exact ⟨b,o,t,hm,rfl⟩
 obtain ⟨ces,clock,hb,hsz,hborn,hrel⟩:=rb hE1.rel hg hmu
 have hev':a1.eval (.tmp S.m)=.map (some b):=hev
 obtain ⟨kt,et,hu⟩:=hS.t0
 have hrun:=_root_.Go.run_range_map (P:=cx.P) w1 S.ty kt et b ces clock hu hb
 refine jq hFW (by rw[hS.o0];intro c h;cases h) (cv:=.pointer (some ⟨w1.heap.size,0,none⟩)) (w':=w1.alloc (.mapIter (some b) clock #[] clock)) (by simp only[execOp,hS.o0,hev'];simp[Sem.run_bind,hrun,Result.andThen]) ?_
 unfold wpListIn
 rw[hS.d0]
 -- the base of the loop
 obtain ⟨R,hRd⟩:∃ R,R=av r1:=⟨_,rfl⟩
 obtain ⟨lb,hlbd⟩:∃ lb,lb=({ l1 with bs:=l1.bs++[(0,.dead)] }:bo):=⟨_,rfl⟩
 rw[← hlbd,← hRd] at hfold hsure
 rw[← hRd] at hlast
 have hH3:aS p1 M1 (bC (l1::r1)) w1:=hE1.rel.same (bO _) (bJ _)
 have hne3:bC (l1::r1)≠[]:=by simp[bC]
 have hEp:=bL.pad hH3 hne3 1 (cR.refl _ _)
 have hpad:jN (bC (l1::r1)) 1=lb::R:=by rw[hlbd,hRd];rfl
 rw[hpad] at hEp
 have hRl:∀ d,aw R d=true:=fun d=>by rw[hRd];exact aZ _ _
 have hnx:an (bC (l1::r1))=an (l1::r1):=by
  rw[← aA,bJ,aA]
 have hnb:an (lb::R)=an (l1::r1)+1:=by
  rw[← hpad,← aA,ik _ hne3,if_pos rfl,hnx]
 have hdead:(ao (lb::R) 0 (an (l1::r1))).2=.dead:=by
  rw[← hpad,dm]
  exact Classical.byContradiction fun hn=>by
   have:=gr hn
   rw[bJ,aA] at this
   omega
 have hlb:aw (lb::R) 0=false:=by rw[hlbd];exact hl0
 have hno:∀ v,M1 0 (an (l1::r1)) v=none:=fun v=>by
  cases hx:M1 0 (an (l1::r1)) v with
  | none=>rfl
  | some u =>
    have:=(hE1.rel.dom _ _ _ _ hx).1
    rw[aA] at this
    omega
 have hEn:=bL.name hEp.rel hdead (by rw[aA,hnb];omega) hno hlb (.mapIter (some b) clock #[] clock)
 have hkb:Go.Eng.aX M1 (lb::R) b:=by
  intro d' i' v' B' hg' hB' hl' o' t' hm'
  cases d' with
  | succ d' =>
    rw[show aw (lb::R) (d'+1)=aw R d' from rfl,hRl] at hl';cases hl'
  | zero =>
    rw[← hpad,dm,bO] at hg'
    have:=(hE1.rel.apart 0 i' v' B' (d+1) i 0 (.map es) b o' t' o tt hg' hB' hg (by simp) hm' hmu).1
    omega
 have hF2:=(hF1.mono hEn.pst hEn.mu).put (some L.it) (v:=.ptr 0 (an (l1::r1)) 0 0) (c:=.pointer (some ⟨w1.heap.size,0,none⟩)) (.ptr (o:=0) (t:=0) (by simp[aY]))
 have hM2:Marks n0 (aY M1 0 (an (l1::r1)) 0 (w1.heap.size,0,0)) (lb::R) (w1.alloc (.mapIter (some b) clock #[] clock)) (a1.put (some L.it) (.pointer (some ⟨w1.heap.size,0,none⟩))).defers:=by
  rw[put_defers,hd1]
  have m1:=hM.oh hE1
  have m3:Marks n0 M1 (bC (l1::r1)) w1 a.defers:=by
   obtain ⟨rs,g1,g2,g0,g3⟩:=m1
   refine ⟨rs,g1,g2,g0,fun q hq=>⟨(g3 q hq).1,fun d' i' v' B' hg' hB' hl' o' t'=>?_,(g3 q hq).2.2⟩⟩
   rw[bO] at hg'
   cases d' with
   | zero=>exact (g3 q hq).2.1 0 i' v' B' hg' hB' hl0 o' t'
   | succ d' =>
     have:aw (av r1) d'=true:=aZ _ _
     have h7:aw (bC (l1::r1)) (d'+1)=aw (av r1) d':=rfl
     rw[h7,this] at hl';cases hl'
  exact (m3.oh hEp).oh hEn
 have hR2:mV F cx.ro M1:=hR.mono hE1.mu
 have hkvs:(es.map fun e=>(fW (d+1) e.1,fW (d+1) e.2)).length=es.length:=by simp
 -- what the check has shown
 have facts:∃ (X:au→bo→Prop) (j0:Nat),X (c9 cx.nt fr1 (some L.it) (.ptr 0 (an (l1::r1)) 0 0)) lb ∧
  (∀ f l,X f l→bh f L.it=.ptr 0 (an (l1::r1)) 0 0) ∧
  (∀ f l,X f l→∀ j,j<(es.map fun e=>(fW (d+1) e.1,fW (d+1) e.2)).length→∃ f1 m1 R1,L.round cx (an (l1::r1)) (an (l1::r1)+1) ((es.map fun e=>(fW (d+1) e.1,fW (d+1) e.2)).getD j (.undef,.undef)) f (l::R)=some (f1,m1::R1)∧X f1 m1∧(j=j0→(f1,m1)=t)) ∧
  (∀ f l,(f,l)=t→∀ j,j<(es.map fun e=>(fW (d+1) e.1,fW (d+1) e.2)).length→∀ f1 m1 R1,L.round cx (an (l1::r1)) (an (l1::r1)+1) ((es.map fun e=>(fW (d+1) e.1,fW (d+1) e.2)).getD j (.undef,.undef)) f (l::R)=some (f1,m1::R1)→(f1,m1)=t) ∧
  (∀ f l,X f l→(0<(es.map fun e=>(fW (d+1) e.1,fW (d+1) e.2)).length→(f,l)=t)→(f,l)=t)∧(0<(es.map fun e=>(fW (d+1) e.1,fW (d+1) e.2)).length→j0<(es.map fun e=>(fW (d+1) e.1,fW (d+1) e.2)).length):=by
  generalize (es.map fun e=>(fW (d+1) e.1,fW (d+1) e.2))=kvs at hsure ⊢
  unfold sure at hsure
  split at hsure
  · simp only[Bool.and_eq_true] at hsure
    have e1:=vw _ _ hsure.1
    refine ⟨fun f l=>(f,l)=t,0,e1,fun f l hx=>?_,fun f l _ j hj=>absurd hj (by simp),fun f l _ j hj=>absurd hj (by simp),fun f l hx _=>hx,fun hp=>absurd hp (by simp)⟩
    have:f=(c9 cx.nt fr1 (some L.it) (.ptr 0 (an (l1::r1)) 0 0)):=by rw[← e1] at hx;exact (Prod.mk.inj hx).1
    rw[this];exact eJ hsure.2
  · simp only[Bool.and_eq_true] at hsure
    obtain ⟨h1,h2,h3,h4⟩:=hsure
    have hj:r8 L cx (an (l1::r1)) (an (l1::r1)+1) R (c9 cx.nt fr1 (some L.it) (.ptr 0 (an (l1::r1)) 0 0),lb) t kvs 0<kvs.length:=by
     have:=Nat.le_of_ble_eq_true h4;omega
    have mem:∀ j,j<kvs.length→kvs.getD j (.undef,.undef) ∈ kvs:=fun j hj=>by
     rw[List.getD_eq_getElem?_getD,List.getElem?_eq_getElem hj];simp
    refine ⟨fun f l=>(f,l) ∈ ((c9 cx.nt fr1 (some L.it) (.ptr 0 (an (l1::r1)) 0 0),lb)::uG L cx (an (l1::r1)) (an (l1::r1)+1) R (c9 cx.nt fr1 (some L.it) (.ptr 0 (an (l1::r1)) 0 0),lb) kvs),
     r8 L cx (an (l1::r1)) (an (l1::r1)+1) R (c9 cx.nt fr1 (some L.it) (.ptr 0 (an (l1::r1)) 0 0),lb) t kvs 0,by simp,fun f l hx=>?_,fun f l hx j hjl=>?_,fun f l he j hjl f1 m1 R1 hr=>?_,fun f l _ hp=>hp (by omega),fun _=>hj⟩
    · have:=List.all_eq_true.1 h2 _ hx
      simp only[Bool.and_eq_true] at this
      exact eJ this.1
    · have:=List.all_eq_true.1 h2 _ hx
      simp only[Bool.and_eq_true] at this
      obtain ⟨_,g2,g3⟩:=this
      obtain ⟨s,hs,he⟩:=xx (List.all_eq_true.1 g2 _ (mem j hjl))
      obtain ⟨R1,hr⟩:=ft he
      refine ⟨s.1,s.2,R1,hr,hs,fun hjj=>?_⟩
      rw[← hjj] at g3
      have:=q9 g3
      rw[he] at this
      exact Option.some.inj this
    · have:=q9 (List.all_eq_true.1 h3 _ (mem j hjl))
      rw[← he] at this
      obtain ⟨R2,hr2⟩:=ft this
      dsimp only at hr2
      rw[hr] at hr2
      simp only[Option.some.injEq,Prod.mk.injEq,List.cons.injEq] at hr2
      rw[hr2.1,hr2.2.1]
      first | done | rfl | exact he | (rw[← he])
 obtain ⟨X,j0,x1,x2,x3,x4,x5,x6⟩:=facts
 have hit:L.it<cx.nt:=by
  refine Nat.lt_of_not_le fun hle=>?_
  have h7:=x2 _ _ x1
  have h8:=hF2.at_ L.it
  rw[h7] at h8
  have:(a1.put (some L.it) (.pointer (some ⟨w1.heap.size,0,none⟩))).tmps.getD L.it Go.undef=Go.undef:=by
   have hs:=hF2.size
   rw[Array.getD_eq_getD_getElem?,Array.getElem?_eq_none (by omega)];rfl
  rw[this] at h8
  cases h8
 have hslot:(a1.put (some L.it) (.pointer (some ⟨w1.heap.size,0,none⟩))).tmps.getD L.it Go.undef=.pointer (some ⟨w1.heap.size,0,none⟩):=by
  have hs:=hF1.size
  simp[Act.put,hs,hit]
 refine xM hFW hN hC hX hL hit (X:=X) (S:=fun f l=>(f,l)=t) (R:=R) hRl x2 x3 x4 (fun f l hx hp=>?_) x6 rfl hEp.rel hnb (by simp) hR2 hkb hb hborn (by rw[hkvs];exact hsz) ?_ (Nat.le_refl _) hEn hF2 hM2 x1 (World.alloc_heap_new _ _) hslot (fun a' w' hnow=>?_) (fr':=qZ) (H':=lE::RE)
 · have:=x5 f l hx hp
   rw[← this] at hlast
   exact hlast
 · intro j hj
   have hj2:j<es.length:=by rw[← hsz];exact hj
   have:=hrel j hj
   have e1:(es.map fun e=>(fW (d+1) e.1,fW (d+1) e.2)).getD j (.undef,.undef)=(fW (d+1) (es.getD j (.undef,.undef)).1,fW (d+1) (es.getD j (.undef,.undef)).2):=by
    simp[List.getD_eq_getElem?_getD,List.getElem?_eq_getElem hj2]
   rw[e1]
   exact ⟨this.1.up,this.2.up⟩
 · obtain ⟨p',M',e1,e2,e3⟩:=hnow
   have e4:bL p1 M1 (bC (l1::r1)) w1 p' M' (lE::RE) w':=hEp.trans e1
   have hRE:RE=av r1:=by
    refine jP _ _ (by have:=e4.len;simpa[bC,bN] using this) (fun d' i'=>?_) (fun d'=>?_) (fun d'=>?_)
    · exact e4.same (d'+1) i' (by omega) (aZ r1 d')
    · exact e4.next (d'+1) (by omega) (aZ r1 d')
    · exact e4.lock (d'+1)
   rw[hRE] at e4 e3
   have e5:=bL.unlock hE1.rel hl0 e4
   have e7:=hE1.trans e5
   refine hQ a' w' ⟨p',M',e7,e2,?_⟩
   obtain ⟨rs,g1,g2,g0,g3⟩:=e3
   refine ⟨rs,g1,g2,g0,fun q hq=>⟨(g3 q hq).1,?_,(g3 q hq).2.2⟩⟩
   -- a mark is kept: it is no block that is known
   intro d' i' v' B' hg' hB' hl' o' t' hm'
   obtain ⟨b2,o2,t2,k1,k2,_⟩:=e7.rel.live d' i' v' B' hg' hB'
   rw[hm'] at k1
   simp only[nP] at k1
   obtain ⟨rfl,_,_⟩:=k1
   have hq1:=(g3 q hq).1
   cases B' with
   | dead=>exact hB' rfl
   | row r=>obtain ⟨_,_,e,_⟩:=k2;rw[hq1] at e;simp at e
   | map es=>obtain ⟨_,_,e,_⟩:=k2;rw[hq1] at e;simp at e
   | fmap kq f g c=>obtain ⟨_,_,_,_,e,_⟩:=k2;rw[hq1] at e;simp at e
   | loop l=>obtain ⟨_,e,_⟩:=k2;rw[hq1] at e;simp at e

noncomputable def jW (cx:Cx) (S:bx) (L:a8) (fr:au) (H:aa):Option (au×aa) :=
 match l5 cx S L fr H with
 | some x=>some x
 | none=>jX cx S L fr H
theorem mO {cx:Cx} {F:Fence} (hFW:cE F) (hN:b8 cx.P) (hC:bD cx.P cx.call) (hX:cJ cx F) {S:bx} {L:a8} (hS:S.Ok cx.P L) (hL:L.Ok) {fr fr':au} {H H':aa} (h:jW cx S L fr H=some (fr',H')) :
 cL cx.P F cx.ro cx.nt (S.code L) fr H .normal fr' H':=by
 unfold jW at h
 split at h
 · rename_i x e
   simp only[Option.some.injEq] at h
   subst h
   exact zL hFW hN hC hX hS hL e
 · exact yl hFW hN hC hX hS hL h
end Go.Eng
end
section
namespace Go.Eng

def assemble:List Code→Code→Code→Code
 | [],C,suf=>.seq C suf
 | c::r,C,suf=>.seq c (assemble r C suf)
structure pe where
 f:FuncId
 pre:List Code
 S:bx
 L:a8
 suf:Code
def pe.Ok (P:Program) (r:pe):Prop:=(∃ fn,P.funcs[r.f]?=some fn∧fn.body=some (assemble r.pre (r.S.code r.L) r.suf))∧r.S.Ok P r.L∧r.L.Ok

noncomputable def pieces (cx:Cx) (S:bx) (L:a8) (suf:Code):List Code→au→aa→Option (Ex×au×aa)
 | [],fr,H=>match jW cx S L fr H with
   | some (fr,H)=>cS cx suf fr H
   | none=>none
 | c::r,fr,H=>match cS cx c fr H with
   | some (.normal,fr,H)=>pieces cx S L suf r fr H
   | x=>x

theorem nX {cx:Cx} {F:Fence} {x y:Code} {fr fr1 fr':au} {H H1 H':aa} {e:Ex} (hx:cL cx.P F cx.ro cx.nt x fr H .normal fr1 H1) (hy:cL cx.P F cx.ro cx.nt y fr1 H1 e fr' H'):cL cx.P F cx.ro cx.nt (.seq x y) fr H e fr' H' :=
 fun n0 p M a w Q hF hH hne hR hM hQ=>wpIn_seq (hx n0 p M a w _ hF hH hne hR hM (fun a1 w1 ⟨p1,M1,k1,k2,k3⟩=>hy n0 p1 M1 a1 w1 Q k2 k1.rel (k1.ne hne) (hR.mono k1.mu) k3 (fun a2 w2 h2=>hQ a2 w2 (CA.trans k1 h2))))
theorem nY {cx:Cx} {F:Fence} {x y:Code} {fr fr':au} {H H':aa} {e:Ex} (he:e≠.normal) (hx:cL cx.P F cx.ro cx.nt x fr H e fr' H'):cL cx.P F cx.ro cx.nt (.seq x y) fr H e fr' H' :=
 fun n0 p M a w Q hF hH hne hR hM hQ=>wpIn_seq (hx n0 p M a w _ hF hH hne hR hM (fun a1 w1 hn=>by
  have:=hQ a1 w1 hn
  cases e<;>first | exact absurd rfl he | exact this))

theorem uP {cx:Cx} {F:Fence} (hFW:cE F) (hN:b8 cx.P) (hC:bD cx.P cx.call) (hX:cJ cx F) {S:bx} {L:a8} {suf:Code} (hS:S.Ok cx.P L) (hL:L.Ok):∀ (pre:List Code) (fr:au) (H:aa) (e:Ex) (fr':au) (H':aa),
 pieces cx S L suf pre fr H=some (e,fr',H')→cL cx.P F cx.ro cx.nt (assemble pre (S.code L) suf) fr H e fr' H'
 | [],fr,H,e,fr',H',h=>by
   simp only[pieces] at h
   cases hr:jW cx S L fr H with
   | none=>rw[hr] at h;simp at h
   | some q =>
     obtain ⟨fr1,H1⟩:=q
     rw[hr] at h
     dsimp only at h
     rw[dj] at h
     exact nX (mO hFW hN hC hX hS hL hr) (bV hFW hN hC hX _ _ _ _ _ _ h)
 | c :: r,fr,H,e,fr',H',h=>by
   simp only[pieces] at h
   rw[dj] at h
   cases hx:exec cx c fr H with
   | none=>rw[hx] at h;simp at h
   | some q =>
     obtain ⟨e1,fr1,H1⟩:=q
     rw[hx] at h
     have h1:=bV hFW hN hC hX _ _ _ _ _ _ hx
     cases e1 with
     | normal=>exact nX h1 (uP hFW hN hC hX hS hL r fr1 H1 e fr' H' h)
     | _ =>
       simp only[nP] at h
       obtain ⟨rfl,rfl,rfl⟩:=h
       exact nY (by simp) h1

noncomputable def Ec (P:Program) (KT:FuncId→Nat→Nat) (fu:Nat) (r:pe) (call:aJ) (args:List AV) (H:aa):Option (AV×aa) :=
 match P.funcs[r.f]? with
 | none=>none
 | some fn=>if Nat.ble args.length fn.ntmps then
   match pieces ⟨P,call,fu,r.f,fn.ntmps,KT r.f,none⟩ r.S r.L r.suf r.pre (dC 0 args) (⟨false,[]⟩::H) with
   | some (e,fr,l::H')=>(match e with
     | .normal | .ret=>match dZ P fr (l::H') fn.results.toList with
       | some vs=>some (cG l.bs 5 (one vs),H')
       | none=>none
     | _=>none)
   | _=>none
   else none

theorem Ed {P:Program} (hN:b8 P) (hD:gL P) {r:pe} (hr:r.Ok P) (KT:FuncId→Nat→Nat) (fu:Nat) {call:aJ} (hC:bD P call) {args:List AV} {H:aa} {v:AV} {H':aa} (h:Ec P KT fu r call args H=some (v,H'))
 {p:aC} {M:Mu} {w:World} {cargs:Array Value} (hH:aS p M H w) (hA:fU p M args cargs):(∃ fn,P.funcs[r.f]?=some fn∧fn.body.isNone=false)∧CallsIn Fence.wide 0 P r.f cargs w (ji p M H w v H'):=by
 obtain ⟨⟨fn,hf,hb⟩,hS,hL⟩:=hr
 unfold Ec at h
 rw[hf] at h
 dsimp only at h
 split at h
 · rename_i hle
   split at h
   · rename_i e fr l H1 he
     have hcode:=uP (cx:=⟨P,call,fu,r.f,fn.ntmps,KT r.f,none⟩) cE.wide hN hC (more hN hD hC _ _ rfl rfl cE.wide) hS hL _ _ _ _ _ _ he
     split at h
     · cases hv:dZ P fr (l::H1) fn.results.toList with
       | none=>rw[hv] at h;simp at h
       | some vs =>
         rw[hv] at h
         simp only[nP] at h
         obtain ⟨rfl,rfl⟩:=h
         exact ⟨⟨fn,hf,by rw[hb];rfl⟩,iu hf hb (by simpa using hle) (.inl rfl) hv hcode hH hA⟩
     · cases hv:dZ P fr (l::H1) fn.results.toList with
       | none=>rw[hv] at h;simp at h
       | some vs =>
         rw[hv] at h
         simp only[nP] at h
         obtain ⟨rfl,rfl⟩:=h
         exact ⟨⟨fn,hf,by rw[hb];rfl⟩,iu hf hb (by simpa using hle) (.inr rfl) hv hcode hH hA⟩
     · simp at h
   · simp at h
 · simp at h

noncomputable def Gi (P:Program) (KT:FuncId→Nat→Nat) (fu:Nat) (tab:List iQ):List pe→aJ→FuncId→List AV→aa→Option (AV×aa)
 | [],c,f,args,H=>zI tab c f args H
 | r::rs,c,f,args,H=>if Nat.beq r.f f then Ec P KT fu r c args H else Gi P KT fu tab rs c f args H
theorem A0 {P:Program} (hN:b8 P) (hD:gL P) (KT:FuncId→Nat→Nat) (fu:Nat) {tab:List iQ} (hT:∀ e ∈ tab,bM P e):∀ (rs:List pe),(∀ r ∈ rs,r.Ok P)→tS P (Gi P KT fu tab rs)
 | [],_=>vU tab hT
 | r :: rs,hr=>fun call hC f args H v H' h hne p M w cargs hH hA=>by
   simp only[Gi] at h
   split at h
   · rename_i hf
     have:=Nat.eq_of_beq_eq_true hf
     subst this
     exact Ed hN hD (hr r (by simp)) KT fu hC h hH hA
   · exact A0 hN hD KT fu hT rs (fun q hq=>hr q (by simp[hq])) call hC f args H v H' h hne p M w cargs hH hA

end Go.Eng
end
section
namespace Go.Eng

theorem Dn {P:Program} {f:FuncId} {fn:Func} {c:Code} (hf:P.funcs[f]?=some fn) (hb:fn.body=some c) {args:List AV} (hle:args.length≤fn.ntmps) {H:aa} {e:Ex} {fr:au} {l:bo} {H':aa} (he:e=.normal∨e=.ret)
 {j ver off sz len:Nat} {cap:Option Nat} {q:Row} (hv:dZ P fr (l::H') fn.results.toList=some [.slc 0 j ver off sz len cap]) (hq:cX (l::H') 0 j ver=some q) (hl0:l.lock=false) (hl1:aw H' 0=false) (hne:H'≠[])
 (hC:cL P Fence.wide none fn.ntmps c (dC 0 args) (⟨false,[]⟩::H) e fr (l::H')) {p:aC} {M:Mu} {w:World} {cargs:Array Value} (hH:aS p M H w) (hA:fU p M args cargs) :
 CallsIn Fence.wide 0 P f cargs w (ji p M H w (.slc 0 (ah H' 0) 0 off sz len cap) (bn H' 0 (.row (iY 1 q)))):=by
 refine callsIn_of_wp_marks hf hb trivial (hC w.heap.size p (cU M) _ w _ (rF hA hle) hH.down (by simp) rfl (Marks.nil _ _ _) (fun a' w' ⟨p',M',k1,k2,k3⟩=>?_)) rfl
 have main:LeavesInM Fence.wide 0 P fn a'.tmps (ji p M H w (.slc 0 (ah H' 0) 0 off sz len cap) (bn H' 0 (.row (iY 1 q)))) a'.defers .returning w':=by
  obtain ⟨rs,h1,h2,_,h3⟩:=k3
  rw[h1]
  refine kC (p:=p) (M:=cU M) (H:=⟨false,[]⟩::H) (w:=w) (p':=p') (M':=M') (H':=l::H') (fun w2 hE=>?_) rs w' h2 (fun r hr=>⟨(h3 r hr).1,(h3 r hr).2.2⟩) k1
  obtain ⟨cv,r1,r2⟩:=l6 k2 hE.rel hv
  have r2':ai p' M' (.slc 0 j ver off sz len cap) cv:=r2
  cases r2' with
  | slc hm h5 h6 h7 h8 =>
    rename_i b o t x cc
    have mv:=hE.rel.move (d:=1) hq hm hl0 hl1 (by
     cases H' with
     | nil=>exact absurd rfl hne
     | cons y r=>simp) (by omega)
    have hE2:=hE.trans mv
    have hk:bn (b9 (l::H') 0 j) 1 (.row (iY 1 q))=(⟨l.lock,(bA l.bs j ((ao (l::H') 0 j).1,.dead))⟩:bo)::bn H' 0 (.row (iY 1 q)):=rfl
    rw[hk] at hE2
    refine ⟨_,r1,_,rfl,⟨fun d i hl=>hE2.same (d+1) i (by omega) hl,fun d hl=>hE2.next (d+1) (by omega) hl⟩,_,_,hE2.pop,?_⟩
    refine .slc (b:=b) (o:=o) (t:=t) ?_ h5 h6 h7 h8
    show aY M' 1 (ah (l::H') 1) 0 (b,o,t) 1 (ah H' 0) 0=some (b,o,t)
    unfold aY
    exact if_pos ⟨rfl,rfl,rfl⟩
 rcases he with rfl | rfl
 · exact main
 · exact main

noncomputable def AX (P:Program) (KT:FuncId→Nat→Nat) (fu:Nat) (f:FuncId) (call:aJ) (args:List AV) (H:aa):Option (AV×aa) :=
 match P.funcs[f]? with
 | none=>none
 | some fn => match fn.body with
   | none=>none
   | some c=>if Nat.ble args.length fn.ntmps then
     match cS ⟨P,call,fu,f,fn.ntmps,KT f,none⟩ c (dC 0 args) (⟨false,[]⟩::H) with
     | some (e,fr,l::l1::H')=>(match e with
       | .normal | .ret=>match dZ P fr (l::l1::H') fn.results.toList with
         | some [.slc 0 j ver off sz len cap]=>match cX (l::l1::H') 0 j ver with
           | some q=>if l.lock || l1.lock then none else some (.slc 0 l1.bs.length 0 off sz len cap,bn (l1::H') 0 (.row (iY 1 q)))
           | none=>none
         | _=>none
       | _=>none)
     | _=>none
     else none
theorem x9 {P:Program} (hN:b8 P) (hD:gL P) {f:FuncId} (KT:FuncId→Nat→Nat) (fu:Nat) {call:aJ} (hC:bD P call) {args:List AV} {H:aa} {v:AV} {H':aa} (h:AX P KT fu f call args H=some (v,H'))
 {p:aC} {M:Mu} {w:World} {cargs:Array Value} (hH:aS p M H w) (hA:fU p M args cargs):(∃ fn,P.funcs[f]?=some fn∧fn.body.isNone=false)∧CallsIn Fence.wide 0 P f cargs w (ji p M H w v H'):=by
 unfold AX at h
 split at h
 · simp at h
 rename_i fn hf
 split at h
 · simp at h
 rename_i c hb
 split at h
 case isFalse=>simp at h
 rename_i hle
 split at h
 case h_2=>simp at h
 rename_i e fr l l1 H1 he
 rw[dj] at he
 have hcode:=bV (cx:=⟨P,call,fu,f,fn.ntmps,KT f,none⟩) cE.wide hN hC (more hN hD hC _ _ rfl rfl cE.wide) _ _ _ _ _ _ he
 have fin:(e=.normal∨e=.ret)→(match dZ P fr (l::l1::H1) fn.results.toList with
  | some [.slc 0 j ver off sz len cap]=>match cX (l::l1::H1) 0 j ver with
    | some q=>if l.lock || l1.lock then none else some (AV.slc 0 l1.bs.length 0 off sz len cap,bn (l1::H1) 0 (.row (iY 1 q)))
    | none=>none
  | _=>none)=some (v,H')→(∃ fn,P.funcs[f]?=some fn∧fn.body.isNone=false)∧CallsIn Fence.wide 0 P f cargs w (ji p M H w v H'):=fun he h=>by
  split at h
  case h_2=>simp at h
  rename_i j ver off sz len cap hv
  split at h
  case h_2=>simp at h
  rename_i q hq
  split at h
  case isTrue=>simp at h
  rename_i hlk
  simp only[Bool.or_eq_true,not_or,Bool.not_eq_true] at hlk
  simp only[nP] at h
  obtain ⟨rfl,rfl⟩:=h
  exact ⟨⟨fn,hf,by rw[hb];rfl⟩,Dn hf hb (by simpa using hle) he hv hq hlk.1 hlk.2 (by simp) hcode hH hA⟩
 split at h
 · exact fin (.inl rfl) h
 · exact fin (.inr rfl) h
 · simp at h

noncomputable def ID (P:Program) (KT:FuncId→Nat→Nat) (fu:Nat) (tab:List iQ) (rs:List pe) (os:List FuncId) (c:aJ) (f:FuncId) (args:List AV) (H:aa):Option (AV×aa) :=
 if os.any (fun g=>Nat.beq g f) then AX P KT fu f c args H else Gi P KT fu tab rs c f args H
theorem Gh {P:Program} (hN:b8 P) (hD:gL P) (KT:FuncId→Nat→Nat) (fu:Nat) {tab:List iQ} (hT:∀ e ∈ tab,bM P e) {rs:List pe} (hr:∀ r ∈ rs,r.Ok P) (os:List FuncId):tS P (ID P KT fu tab rs os) :=
 fun call hC f args H v H' h hne p M w cargs hH hA=>by
  unfold ID at h
  split at h
  · exact x9 hN hD KT fu hC h hH hA
  · exact A0 hN hD KT fu hT rs hr call hC f args H v H' h hne p M w cargs hH hA
theorem dG {P:Program} (hN:b8 P) (hm:P.follows .mixedOrders=true) {tab:List iQ} (hT:∀ e ∈ tab,bM P e) {rs:List pe} (hr:∀ r ∈ rs,r.Ok P) (os:List FuncId) (KT:FuncId→Nat→Nat) (fu n:Nat) {e:iQ} {H':aa}
 (h:kh P (ID P KT fu tab rs os) KT fu n (.fn e.f) e.args [⟨true,[]⟩]=some (e.v,H')) (hn:e.args.all (qA 9)=true):bM P e:=by
 rw[ub] at h
 exact ya (ph hN (vt hN hm) (Gh hN (vt hN hm) KT fu hT hr os) KT fu n) h hn
end Go.Eng
end
section
namespace Go.Eng

theorem BW {P:Program} {f:FuncId} {fn:Func} {c:Code} (hf:P.funcs[f]?=some fn) (hb:fn.body=some c) {args:List AV} (hle:args.length≤fn.ntmps) {H:aa} {e:Ex} {fr:au} {l:bo} {H':aa} (he:e=.normal∨e=.ret) {v0:AV}
 {j ver off sz len:Nat} {cap:Option Nat} {q:Row} (hv:dZ P fr (l::H') fn.results.toList=some [v0,.slc 0 j ver off sz len cap]) (hq:cX (l::H') 0 j ver=some q) (hl0:l.lock=false) (hl1:aw H' 0=false) (hne:H'≠[])
 (hC:cL P Fence.wide none fn.ntmps c (dC 0 args) (⟨false,[]⟩::H) e fr (l::H')) {p:aC} {M:Mu} {w:World} {cargs:Array Value} (hH:aS p M H w) (hA:fU p M args cargs) :
 CallsIn Fence.wide 0 P f cargs w (ji p M H w (cG (bA l.bs j ((ao (l::H') 0 j).1,.dead)) 5 (.tup [v0,.slc 1 (ah H' 0) 0 off sz len cap])) (bn H' 0 (.row (iY 1 q)))):=by
 refine callsIn_of_wp_marks hf hb trivial (hC w.heap.size p (cU M) _ w _ (rF hA hle) hH.down (by simp) rfl (Marks.nil _ _ _) (fun a' w' ⟨p',M',k1,k2,k3⟩=>?_)) rfl
 have main:LeavesInM Fence.wide 0 P fn a'.tmps (ji p M H w (cG (bA l.bs j ((ao (l::H') 0 j).1,.dead)) 5 (.tup [v0,.slc 1 (ah H' 0) 0 off sz len cap])) (bn H' 0 (.row (iY 1 q)))) a'.defers .returning w':=by
  obtain ⟨rs,h1,h2,_,h3⟩:=k3
  rw[h1]
  refine kC (p:=p) (M:=cU M) (H:=⟨false,[]⟩::H) (w:=w) (p':=p') (M':=M') (H':=l::H') (fun w2 hE=>?_) rs w' h2 (fun r hr=>⟨(h3 r hr).1,(h3 r hr).2.2⟩) k1
  obtain ⟨cv,r1,r2⟩:=l6 k2 hE.rel hv
  have r2':ai p' M' (.tup [v0,.slc 0 j ver off sz len cap]) cv:=r2
  cases r2' with
  | tup hs hvv =>
    rename_i cs
    have e0:=hvv 0 (by simp)
    have e1:=hvv 1 (by simp)
    simp only[List.getD_cons_zero,List.getD_cons_succ] at e0 e1
    generalize hc1:cs.getD 1 undef=c1 at e1
    cases e1 with
    | slc hm h5 h6 h7 h8 =>
      rename_i b o t x cc
      have mv:=hE.rel.move (d:=1) hq hm hl0 hl1 (by
       cases H' with
       | nil=>exact absurd rfl hne
       | cons y r=>simp) (by omega)
      have hE2:=hE.trans mv
      have hk:bn (b9 (l::H') 0 j) 1 (.row (iY 1 q))=(⟨l.lock,(bA l.bs j ((ao (l::H') 0 j).1,.dead))⟩:bo)::bn H' 0 (.row (iY 1 q)):=rfl
      rw[hk] at hE2
      refine ⟨_,r1,_,rfl,⟨fun d i hl=>hE2.same (d+1) i (by omega) hl,fun d hl=>hE2.next (d+1) (by omega) hl⟩,_,_,hE2.pop,?_⟩
      have:=vD hE2.rel 5 (.tup [v0,.slc 1 (ah H' 0) 0 off sz len cap]) (.tuple cs) (.tup (by simpa using hs) (fun j2 hj2=>by
       have h01:j2=0∨j2=1:=by simp at hj2;omega
       rcases h01 with rfl | rfl
       · simp only[List.getD_cons_zero]
         exact e0.mono (aC.le.refl _) mv.mu
       · simp only[List.getD_cons_zero,List.getD_cons_succ]
         rw[hc1]
         refine .slc (b:=b) (o:=o) (t:=t) ?_ h5 h6 h7 h8
         show aY M' 1 (ah (l::H') 1) 0 (b,o,t) 1 (ah H' 0) 0=some (b,o,t)
         unfold aY
         exact if_pos ⟨rfl,rfl,rfl⟩))
      exact this
 rcases he with rfl | rfl
 · exact main
 · exact main

noncomputable def zD (P:Program) (KT:FuncId→Nat→Nat) (fu:Nat) (f:FuncId) (call:aJ) (args:List AV) (H:aa):Option (AV×aa) :=
 match P.funcs[f]? with
 | none=>none
 | some fn => match fn.body with
   | none=>none
   | some c=>if Nat.ble args.length fn.ntmps then
     match cS ⟨P,call,fu,f,fn.ntmps,KT f,none⟩ c (dC 0 args) (⟨false,[]⟩::H) with
     | some (e,fr,l::l1::H')=>(match e with
       | .normal | .ret=>match dZ P fr (l::l1::H') fn.results.toList with
         | some [v0,.slc 0 j ver off sz len cap]=>match cX (l::l1::H') 0 j ver with
           | some q=>if l.lock || l1.lock then none else some (cG (bA l.bs j ((ao (l::l1::H') 0 j).1,.dead)) 5 (.tup [v0,.slc 1 l1.bs.length 0 off sz len cap]),bn (l1::H') 0 (.row (iY 1 q)))
           | none=>none
         | _=>none
       | _=>none)
     | _=>none
     else none
theorem Cb {P:Program} (hN:b8 P) (hD:gL P) {f:FuncId} (KT:FuncId→Nat→Nat) (fu:Nat) {call:aJ} (hC:bD P call) {args:List AV} {H:aa} {v:AV} {H':aa} (h:zD P KT fu f call args H=some (v,H'))
 {p:aC} {M:Mu} {w:World} {cargs:Array Value} (hH:aS p M H w) (hA:fU p M args cargs):(∃ fn,P.funcs[f]?=some fn∧fn.body.isNone=false)∧CallsIn Fence.wide 0 P f cargs w (ji p M H w v H'):=by
 unfold zD at h
 split at h
 · simp at h
 rename_i fn hf
 split at h
 · simp at h
 rename_i c hb
 split at h
 case isFalse=>simp at h
 rename_i hle
 split at h
 case h_2=>simp at h
 rename_i e fr l l1 H1 he
 rw[dj] at he
 have hcode:=bV (cx:=⟨P,call,fu,f,fn.ntmps,KT f,none⟩) cE.wide hN hC (more hN hD hC _ _ rfl rfl cE.wide) _ _ _ _ _ _ he
 have fin:(e=.normal∨e=.ret)→(match dZ P fr (l::l1::H1) fn.results.toList with
  | some [v0,.slc 0 j ver off sz len cap]=>match cX (l::l1::H1) 0 j ver with
    | some q=>if l.lock || l1.lock then none else some (cG (bA l.bs j ((ao (l::l1::H1) 0 j).1,.dead)) 5 (AV.tup [v0,.slc 1 l1.bs.length 0 off sz len cap]),bn (l1::H1) 0 (.row (iY 1 q)))
    | none=>none
  | _=>none)=some (v,H')→(∃ fn,P.funcs[f]?=some fn∧fn.body.isNone=false)∧CallsIn Fence.wide 0 P f cargs w (ji p M H w v H'):=fun he h=>by
  split at h
  case h_2=>simp at h
  rename_i v0 j ver off sz len cap hv
  split at h
  case h_2=>simp at h
  rename_i q hq
  split at h
  case isTrue=>simp at h
  rename_i hlk
  simp only[Bool.or_eq_true,not_or,Bool.not_eq_true] at hlk
  simp only[nP] at h
  obtain ⟨rfl,rfl⟩:=h
  exact ⟨⟨fn,hf,by rw[hb];rfl⟩,BW hf hb (by simpa using hle) he hv hq hlk.1 hlk.2 (by simp) hcode hH hA⟩
 split at h
 · exact fin (.inl rfl) h
 · exact fin (.inr rfl) h
 · simp at h

noncomputable def IN (P:Program) (KT:FuncId→Nat→Nat) (fu:Nat) (f:FuncId) (call:aJ) (args:List AV) (H:aa):Option (AV×aa) :=
 match P.funcs[f]? with
 | none=>none
 | some fn=>match fn.body with
   | none=>none
   | some c=>if Nat.ble args.length fn.ntmps then
     match exec ⟨P,call,fu,f,fn.ntmps,KT f,none⟩ c (dC 0 args) (⟨false,[]⟩::H) with
     | some (e,fr,l::H')=>(match e with
       | .normal | .ret=>match dZ P fr (l::H') fn.results.toList with
         | some vs=>some (cG l.bs 5 (one vs),H')
         | none=>none
       | _=>none)
     | _=>none
     else none
theorem Gv {P:Program} (hN:b8 P) (hD:gL P) {f:FuncId} (KT:FuncId→Nat→Nat) (fu:Nat) {call:aJ} (hC:bD P call) {args:List AV} {H:aa} {v:AV} {H':aa} (h:IN P KT fu f call args H=some (v,H'))
 {p:aC} {M:Mu} {w:World} {cargs:Array Value} (hH:aS p M H w) (hA:fU p M args cargs):(∃ fn,P.funcs[f]?=some fn∧fn.body.isNone=false)∧CallsIn Fence.wide 0 P f cargs w (ji p M H w v H'):=by
 unfold IN at h
 split at h
 · simp at h
 rename_i fn hf
 split at h
 · simp at h
 rename_i c hb
 split at h
 case isFalse=>simp at h
 rename_i hle
 split at h
 case h_2=>simp at h
 rename_i e fr l H1 he
 have hcode:=bV (cx:=⟨P,call,fu,f,fn.ntmps,KT f,none⟩) cE.wide hN hC (more hN hD hC _ _ rfl rfl cE.wide) _ _ _ _ _ _ he
 have fin:(e=.normal∨e=.ret)→(match dZ P fr (l::H1) fn.results.toList with
  | some vs=>some (cG l.bs 5 (one vs),H1)
  | none=>none)=some (v,H')→(∃ fn,P.funcs[f]?=some fn∧fn.body.isNone=false)∧CallsIn Fence.wide 0 P f cargs w (ji p M H w v H'):=fun he h=>by
  split at h
  case h_2=>simp at h
  rename_i vs hv
  simp only[nP] at h
  obtain ⟨rfl,rfl⟩:=h
  exact ⟨⟨fn,hf,by rw[hb];rfl⟩,iu hf hb (by simpa using hle) he hv hcode hH hA⟩
 split at h
 · exact fin (.inl rfl) h
 · exact fin (.inr rfl) h
 · simp at h
noncomputable def z8 (P:Program) (KT:FuncId→Nat→Nat) (fu:Nat) (g:FuncId) (call:aJ):aJ:=fun tgt args H=>match tgt with
 | .fn f=>if Nat.beq f g then zD P KT fu g call args H else call (.fn f) args H
 | tgt=>call tgt args H
theorem Cz {P:Program} (hN:b8 P) (hD:gL P) (KT:FuncId→Nat→Nat) (fu:Nat) (g:FuncId) {call:aJ} (hC:bD P call):bD P (z8 P KT fu g call):=by
 intro tgt args H v H' h hne p M w cargs hH hA
 cases tgt with
 | fn f =>
   unfold z8 at h
   dsimp only at h
   split at h
   · rename_i e
     have:=Nat.eq_of_beq_eq_true e
     subst this
     exact Cb hN hD KT fu hC h hH hA
   · exact hC (.fn f) args H v H' h hne p M w cargs hH hA
 | round d i=>exact hC (.round d i) args H v H' h hne p M w cargs hH hA
 | mode=>exact hC .mode args H v H' h hne p M w cargs hH hA
end Go.Eng
end
