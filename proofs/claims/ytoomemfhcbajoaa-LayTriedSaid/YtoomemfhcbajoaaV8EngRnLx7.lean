/- The engine: a range over a map of a lower level that ends in one state: all levels but the own one are locked for the while. -/
import Derived.Test.YtoomemfhcbajoaaV8EngRsx2
import Derived.Test.YtoomemfhcbajoaaV8EngThx4
set_option linter.unusedVariables false
set_option linter.unusedSimpArgs false
section
namespace Go.Eng

noncomputable def j4 (cx:Cx) (S:cw) (L:bm) (fr:aq) (H:aa):Option (aq×aa) :=
 match dj cx.P cx.nt cx.call S.ops0 S.pre fr H with
 | some (fr1,l1::r1)=>match bk fr1 S.m with
   | .map (d+1) i=>match ao (l1::r1) (d+1) i with
     | (0,.map es) =>
       if l1.lock then none else
       let R:=av r1
       let k:=al (l1::r1)
       let s0:aq×aV:=(di cx.nt fr1 (some L.it) (.ptr 0 k 0 0),{ l1 with bs:=l1.bs++[(0,.dead)] })
       let kvs:=es.map fun e=>(fq (d+1) e.1,fq (d+1) e.2)
       match fc L cx k (k+1) R kvs s0 with
       | some t =>
         if sure L cx k (k+1) R kvs s0 t (s0::uQ L cx k (k+1) R s0 kvs) (r4 L cx k (k+1) R s0 t kvs 0) then
          match L.last cx t.1 (t.2::R) with
          | some (fr',l'::_)=>some (fr',l'::r1)
          | _=>none
         else none
       | none=>none
     | _=>none
   | _=>none
 | _=>none

theorem yL {cx:Cx} {F:Fence} (hFW:dh F) (hN:cS cx.P) (hC:bY cx.P cx.call) (hX:dL cx F) {S:cw} {L:bm} (hS:S.Ok cx.P L) (hL:L.Ok) {fr fr':aq} {H H':aa} (h:j4 cx S L fr H=some (fr',H')) :
 dm cx.P F cx.ro cx.nt (S.code L) fr H .normal fr' H':=by
 intro n0 p M a w Q hF hH hne hR hM hQ
 unfold j4 at h
 rw[bX] at h
 split at h
 case h_2=>simp at h
 rename_i fr1 l1 r1 hro
 split at h
 case h_2=>simp at h
 rename_i d i hmap
 split at h
 case h_2=>simp at h
 rename_i es hg
 split at h
 · simp at h
 rename_i hl0
 simp only[Bool.not_eq_true] at hl0
 dsimp only at h
 split at h
 case h_2=>simp at h
 rename_i t hfold
 split at h
 case isFalse=>simp at h
 rename_i hsure
 split at h
 case h_2=>simp at h
 rename_i frE lE RE hlast
 simp only[nP] at h
 obtain ⟨rfl,rfl⟩:=h
 refine wpIn_seq (wpIn_region_list ?_)
 rw[hS.l0]
 refine gZ hFW hN hC _ _ _ _ _ hro p M a w hF hH hne (fun a1 w1 ⟨p1,M1,hE1,hF1,hd1⟩=>?_)
 unfold wpListIn
 rw[if_pos (by unfold Region.wanted;rw[hS.g0])]
 -- the map
 have hvm:=hF1.at_ S.m
 rw[hmap] at hvm
 obtain ⟨b,o,tt,hmu,hev⟩:∃ b o t,M1 (d+1) i 0=some (b,o,t)∧a1.tmps.getD S.m Go.undef=.map (some b):=by
  generalize a1.tmps.getD S.m Go.undef=z at hvm
  cases hvm
  rename_i b o t hm
  exact ⟨b,o,t,hm,rfl⟩
 obtain ⟨ces,clock,hb,hsz,hborn,hrel⟩:=re hE1.rel hg hmu
 have hev':a1.eval (.tmp S.m)=.map (some b):=hev
 obtain ⟨kt,et,hu⟩:=hS.t0
 have hrun:=_root_.Go.run_range_map (P:=cx.P) w1 S.ty kt et b ces clock hu hb
 refine kP hFW (by rw[hS.o0];intro c h;cases h) (cv:=.pointer (some ⟨w1.heap.size,0,none⟩)) (w':=w1.alloc (.mapIter (some b) clock #[] clock)) (by simp only[execOp,hS.o0,hev'];simp[Sem.run_bind,hrun,Result.andThen]) ?_
 unfold wpListIn
 rw[hS.d0]
 -- the base of the loop
 obtain ⟨R,hRd⟩:∃ R,R=av r1:=⟨_,rfl⟩
 obtain ⟨lb,hlbd⟩:∃ lb,lb=({ l1 with bs:=l1.bs++[(0,.dead)] }:aV):=⟨_,rfl⟩
 rw[← hlbd,← hRd] at hfold hsure
 rw[← hRd] at hlast
 have hH3:aP p1 M1 (bF (l1::r1)) w1:=hE1.rel.same (cq _) (bU _)
 have hne3:bF (l1::r1)≠[]:=by simp[bF]
 have hEp:=bP.pad hH3 hne3 1 (cU.refl _ _)
 have hpad:kF (bF (l1::r1)) 1=lb::R:=by rw[hlbd,hRd];rfl
 rw[hpad] at hEp
 have hRl:∀ d,ar R d=true:=fun d=>by rw[hRd];exact bh _ _
 have hnx:al (bF (l1::r1))=al (l1::r1):=by
  rw[← ay,bU,ay]
 have hnb:al (lb::R)=al (l1::r1)+1:=by
  rw[← hpad,← ay,iB _ hne3,if_pos rfl,hnx]
 have hdead:(ao (lb::R) 0 (al (l1::r1))).2=.dead:=by
  rw[← hpad,eF]
  exact Classical.byContradiction fun hn=>by
   have:=iq hn
   rw[bU,ay] at this
   omega
 have hlb:ar (lb::R) 0=false:=by rw[hlbd];exact hl0
 have hno:∀ v,M1 0 (al (l1::r1)) v=none:=fun v=>by
  cases hx:M1 0 (al (l1::r1)) v with
  | none=>rfl
  | some u =>
    have:=(hE1.rel.dom _ _ _ _ hx).1
    rw[ay] at this
    omega
 have hEn:=bP.name hEp.rel hdead (by rw[ay,hnb];omega) hno hlb (.mapIter (some b) clock #[] clock)
 have hkb:Go.Eng.aS M1 (lb::R) b:=by
  intro d' i' v' B' hg' hB' hl' o' t' hm'
  cases d' with
  | succ d' =>
    rw[show ar (lb::R) (d'+1)=ar R d' from rfl,hRl] at hl';cases hl'
  | zero =>
    rw[← hpad,eF,cq] at hg'
    have:=(hE1.rel.apart 0 i' v' B' (d+1) i 0 (.map es) b o' t' o tt hg' hB' hg (by simp) hm' hmu).1
    omega
 have hF2:=(hF1.mono hEn.pst hEn.mu).put (some L.it) (v:=.ptr 0 (al (l1::r1)) 0 0) (c:=.pointer (some ⟨w1.heap.size,0,none⟩)) (.ptr (o:=0) (t:=0) (by simp[aY]))
 have hM2:Marks n0 (aY M1 0 (al (l1::r1)) 0 (w1.heap.size,0,0)) (lb::R) (w1.alloc (.mapIter (some b) clock #[] clock)) (a1.put (some L.it) (.pointer (some ⟨w1.heap.size,0,none⟩))).defers:=by
  rw[put_defers,hd1]
  have m1:=hM.qi hE1
  have m3:Marks n0 M1 (bF (l1::r1)) w1 a.defers:=by
   obtain ⟨rs,g1,g2,g0,g3⟩:=m1
   refine ⟨rs,g1,g2,g0,fun q hq=>⟨(g3 q hq).1,fun d' i' v' B' hg' hB' hl' o' t'=>?_,(g3 q hq).2.2⟩⟩
   rw[cq] at hg'
   cases d' with
   | zero=>exact (g3 q hq).2.1 0 i' v' B' hg' hB' hl0 o' t'
   | succ d' =>
     have:ar (av r1) d'=true:=bh _ _
     have h7:ar (bF (l1::r1)) (d'+1)=ar (av r1) d':=rfl
     rw[h7,this] at hl';cases hl'
  exact (m3.qi hEp).qi hEn
 have hR2:ph F cx.ro M1:=hR.mono hE1.mu
 have hkvs:(es.map fun e=>(fq (d+1) e.1,fq (d+1) e.2)).length=es.length:=by simp
 -- what the check has shown
 have facts:∃ (X:aq→aV→Prop) (j0:Nat),X (di cx.nt fr1 (some L.it) (.ptr 0 (al (l1::r1)) 0 0)) lb ∧
  (∀ f l,X f l→bk f L.it=.ptr 0 (al (l1::r1)) 0 0) ∧
  (∀ f l,X f l→∀ j,j<(es.map fun e=>(fq (d+1) e.1,fq (d+1) e.2)).length→∃ f1 m1 R1,L.round cx (al (l1::r1)) (al (l1::r1)+1) ((es.map fun e=>(fq (d+1) e.1,fq (d+1) e.2)).getD j (.undef,.undef)) f (l::R)=some (f1,m1::R1)∧X f1 m1∧(j=j0→(f1,m1)=t)) ∧
  (∀ f l,(f,l)=t→∀ j,j<(es.map fun e=>(fq (d+1) e.1,fq (d+1) e.2)).length→∀ f1 m1 R1,L.round cx (al (l1::r1)) (al (l1::r1)+1) ((es.map fun e=>(fq (d+1) e.1,fq (d+1) e.2)).getD j (.undef,.undef)) f (l::R)=some (f1,m1::R1)→(f1,m1)=t) ∧
  (∀ f l,X f l→(0<(es.map fun e=>(fq (d+1) e.1,fq (d+1) e.2)).length→(f,l)=t)→(f,l)=t)∧(0<(es.map fun e=>(fq (d+1) e.1,fq (d+1) e.2)).length→j0<(es.map fun e=>(fq (d+1) e.1,fq (d+1) e.2)).length):=by
  generalize (es.map fun e=>(fq (d+1) e.1,fq (d+1) e.2))=kvs at hsure ⊢
  unfold sure at hsure
  split at hsure
  · simp only[Bool.and_eq_true] at hsure
    have e1:=vJ _ _ hsure.1
    refine ⟨fun f l=>(f,l)=t,0,e1,fun f l hx=>?_,fun f l _ j hj=>absurd hj (by simp),fun f l _ j hj=>absurd hj (by simp),fun f l hx _=>hx,fun hp=>absurd hp (by simp)⟩
    have:f=(di cx.nt fr1 (some L.it) (.ptr 0 (al (l1::r1)) 0 0)):=by rw[← e1] at hx;exact (Prod.mk.inj hx).1
    rw[this];exact eO hsure.2
  · simp only[Bool.and_eq_true] at hsure
    obtain ⟨h1,h2,h3,h4⟩:=hsure
    have hj:r4 L cx (al (l1::r1)) (al (l1::r1)+1) R (di cx.nt fr1 (some L.it) (.ptr 0 (al (l1::r1)) 0 0),lb) t kvs 0<kvs.length:=by
     have:=Nat.le_of_ble_eq_true h4;omega
    have mem:∀ j,j<kvs.length→kvs.getD j (.undef,.undef) ∈ kvs:=fun j hj=>by
     rw[List.getD_eq_getElem?_getD,List.getElem?_eq_getElem hj];simp
    refine ⟨fun f l=>(f,l) ∈ ((di cx.nt fr1 (some L.it) (.ptr 0 (al (l1::r1)) 0 0),lb)::uQ L cx (al (l1::r1)) (al (l1::r1)+1) R (di cx.nt fr1 (some L.it) (.ptr 0 (al (l1::r1)) 0 0),lb) kvs),
     r4 L cx (al (l1::r1)) (al (l1::r1)+1) R (di cx.nt fr1 (some L.it) (.ptr 0 (al (l1::r1)) 0 0),lb) t kvs 0,by simp,fun f l hx=>?_,fun f l hx j hjl=>?_,fun f l he j hjl f1 m1 R1 hr=>?_,fun f l _ hp=>hp (by omega),fun _=>hj⟩
    · have:=List.all_eq_true.1 h2 _ hx
      simp only[Bool.and_eq_true] at this
      exact eO this.1
    · have:=List.all_eq_true.1 h2 _ hx
      simp only[Bool.and_eq_true] at this
      obtain ⟨_,g2,g3⟩:=this
      obtain ⟨s,hs,he⟩:=xS (List.all_eq_true.1 g2 _ (mem j hjl))
      obtain ⟨R1,hr⟩:=fM he
      refine ⟨s.1,s.2,R1,hr,hs,fun hjj=>?_⟩
      rw[← hjj] at g3
      have:=q9 g3
      rw[he] at this
      exact Option.some.inj this
    · have:=q9 (List.all_eq_true.1 h3 _ (mem j hjl))
      rw[← he] at this
      obtain ⟨R2,hr2⟩:=fM this
      dsimp only at hr2
      rw[hr] at hr2
      simp only[Option.some.injEq,Prod.mk.injEq,List.cons.injEq] at hr2
      rw[hr2.1,hr2.2.1]
      first | done | rfl | exact he | (rw[← he])
 obtain ⟨X,j0,x1,x2,x3,x4,x5,x6⟩:=facts
 have hit:L.it<cx.nt:=by
  refine Nat.lt_of_not_le fun hle=>?_
  have h7:=x2 _ _ x1
  have h8:=hF2.at_ L.it
  rw[h7] at h8
  have:(a1.put (some L.it) (.pointer (some ⟨w1.heap.size,0,none⟩))).tmps.getD L.it Go.undef=Go.undef:=by
   have hs:=hF2.size
   rw[Array.getD_eq_getD_getElem?,Array.getElem?_eq_none (by omega)];rfl
  rw[this] at h8
  cases h8
 have hslot:(a1.put (some L.it) (.pointer (some ⟨w1.heap.size,0,none⟩))).tmps.getD L.it Go.undef=.pointer (some ⟨w1.heap.size,0,none⟩):=by
  have hs:=hF1.size
  simp[Act.put,hs,hit]
 refine yg hFW hN hC hX hL hit (X:=X) (S:=fun f l=>(f,l)=t) (R:=R) hRl x2 x3 x4 (fun f l hx hp=>?_) x6 rfl hEp.rel hnb (by simp) hR2 hkb hb hborn (by rw[hkvs];exact hsz) ?_ (Nat.le_refl _) hEn hF2 hM2 x1 (World.alloc_heap_new _ _) hslot (fun a' w' hnow=>?_) (fr':=frE) (H':=lE::RE)
 · have:=x5 f l hx hp
   rw[← this] at hlast
   exact hlast
 · intro j hj
   have hj2:j<es.length:=by rw[← hsz];exact hj
   have:=hrel j hj
   have e1:(es.map fun e=>(fq (d+1) e.1,fq (d+1) e.2)).getD j (.undef,.undef)=(fq (d+1) (es.getD j (.undef,.undef)).1,fq (d+1) (es.getD j (.undef,.undef)).2):=by
    simp[List.getD_eq_getElem?_getD,List.getElem?_eq_getElem hj2]
   rw[e1]
   exact ⟨this.1.up,this.2.up⟩
 · obtain ⟨p',M',e1,e2,e3⟩:=hnow
   have e4:bP p1 M1 (bF (l1::r1)) w1 p' M' (lE::RE) w':=hEp.trans e1
   have hRE:RE=av r1:=by
    refine jU _ _ (by have:=e4.len;simpa[bF,dD] using this) (fun d' i'=>?_) (fun d'=>?_) (fun d'=>?_)
    · exact e4.same (d'+1) i' (by omega) (bh r1 d')
    · exact e4.next (d'+1) (by omega) (bh r1 d')
    · exact e4.lock (d'+1)
   rw[hRE] at e4 e3
   have e5:=bP.unlock hE1.rel hl0 e4
   have e7:=hE1.trans e5
   refine hQ a' w' ⟨p',M',e7,e2,?_⟩
   obtain ⟨rs,g1,g2,g0,g3⟩:=e3
   refine ⟨rs,g1,g2,g0,fun q hq=>⟨(g3 q hq).1,?_,(g3 q hq).2.2⟩⟩
   -- a mark is kept: it is no block that is known
   intro d' i' v' B' hg' hB' hl' o' t' hm'
   obtain ⟨b2,o2,t2,k1,k2,_⟩:=e7.rel.live d' i' v' B' hg' hB'
   rw[hm'] at k1
   simp only[nP] at k1
   obtain ⟨rfl,_,_⟩:=k1
   have hq1:=(g3 q hq).1
   cases B' with
   | dead=>exact hB' rfl
   | row r=>obtain ⟨_,_,e,_⟩:=k2;rw[hq1] at e;simp at e
   | map es=>obtain ⟨_,_,e,_⟩:=k2;rw[hq1] at e;simp at e
   | fmap kq f g c=>obtain ⟨_,_,_,_,e,_⟩:=k2;rw[hq1] at e;simp at e
   | loop l=>obtain ⟨_,e,_⟩:=k2;rw[hq1] at e;simp at e

noncomputable def jZ (cx:Cx) (S:cw) (L:bm) (fr:aq) (H:aa):Option (aq×aa) :=
 match lZ cx S L fr H with
 | some x=>some x
 | none=>j4 cx S L fr H
theorem mX {cx:Cx} {F:Fence} (hFW:dh F) (hN:cS cx.P) (hC:bY cx.P cx.call) (hX:dL cx F) {S:cw} {L:bm} (hS:S.Ok cx.P L) (hL:L.Ok) {fr fr':aq} {H H':aa} (h:jZ cx S L fr H=some (fr',H')) :
 dm cx.P F cx.ro cx.nt (S.code L) fr H .normal fr' H':=by
 unfold jZ at h
 split at h
 · rename_i x e
   simp only[Option.some.injEq] at h
   subst h
   exact An hFW hN hC hX hS hL e
 · exact yL hFW hN hC hX hS hL h
end Go.Eng
end
section
namespace Go.Eng

def assemble:List Code→Code→Code→Code
 | [],C,suf=>.seq C suf
 | c::r,C,suf=>.seq c (assemble r C suf)
structure nR where
 f:FuncId
 pre:List Code
 S:cw
 L:bm
 suf:Code
def nR.Ok (P:Program) (r:nR):Prop:=(∃ fn,P.funcs[r.f]?=some fn∧fn.body=some (assemble r.pre (r.S.code r.L) r.suf))∧r.S.Ok P r.L∧r.L.Ok

noncomputable def pieces (cx:Cx) (S:cw) (L:bm) (suf:Code):List Code→aq→aa→Option (Ex×aq×aa)
 | [],fr,H=>match jZ cx S L fr H with
   | some (fr,H)=>df cx suf fr H
   | none=>none
 | c::r,fr,H=>match df cx c fr H with
   | some (.normal,fr,H)=>pieces cx S L suf r fr H
   | x=>x

theorem n8 {cx:Cx} {F:Fence} {x y:Code} {fr fr1 fr':aq} {H H1 H':aa} {e:Ex} (hx:dm cx.P F cx.ro cx.nt x fr H .normal fr1 H1) (hy:dm cx.P F cx.ro cx.nt y fr1 H1 e fr' H'):dm cx.P F cx.ro cx.nt (.seq x y) fr H e fr' H' :=
 fun n0 p M a w Q hF hH hne hR hM hQ=>wpIn_seq (hx n0 p M a w _ hF hH hne hR hM (fun a1 w1 ⟨p1,M1,k1,k2,k3⟩=>hy n0 p1 M1 a1 w1 Q k2 k1.rel (k1.ne hne) (hR.mono k1.mu) k3 (fun a2 w2 h2=>hQ a2 w2 (DC.trans k1 h2))))
theorem n9 {cx:Cx} {F:Fence} {x y:Code} {fr fr':aq} {H H':aa} {e:Ex} (he:e≠.normal) (hx:dm cx.P F cx.ro cx.nt x fr H e fr' H'):dm cx.P F cx.ro cx.nt (.seq x y) fr H e fr' H' :=
 fun n0 p M a w Q hF hH hne hR hM hQ=>wpIn_seq (hx n0 p M a w _ hF hH hne hR hM (fun a1 w1 hn=>by
  have:=hQ a1 w1 hn
  cases e<;>first | exact absurd rfl he | exact this))

theorem uY {cx:Cx} {F:Fence} (hFW:dh F) (hN:cS cx.P) (hC:bY cx.P cx.call) (hX:dL cx F) {S:cw} {L:bm} {suf:Code} (hS:S.Ok cx.P L) (hL:L.Ok):∀ (pre:List Code) (fr:aq) (H:aa) (e:Ex) (fr':aq) (H':aa),
 pieces cx S L suf pre fr H=some (e,fr',H')→dm cx.P F cx.ro cx.nt (assemble pre (S.code L) suf) fr H e fr' H'
 | [],fr,H,e,fr',H',h=>by
   simp only[pieces] at h
   cases hr:jZ cx S L fr H with
   | none=>rw[hr] at h;simp at h
   | some q =>
     obtain ⟨fr1,H1⟩:=q
     rw[hr] at h
     dsimp only at h
     rw[cZ] at h
     exact n8 (mX hFW hN hC hX hS hL hr) (b6 hFW hN hC hX _ _ _ _ _ _ h)
 | c :: r,fr,H,e,fr',H',h=>by
   simp only[pieces] at h
   rw[cZ] at h
   cases hx:exec cx c fr H with
   | none=>rw[hx] at h;simp at h
   | some q =>
     obtain ⟨e1,fr1,H1⟩:=q
     rw[hx] at h
     have h1:=b6 hFW hN hC hX _ _ _ _ _ _ hx
     cases e1 with
     | normal=>exact n8 h1 (uY hFW hN hC hX hS hL r fr1 H1 e fr' H' h)
     | _ =>
       simp only[nP] at h
       obtain ⟨rfl,rfl,rfl⟩:=h
       exact n9 (by simp) h1

noncomputable def Fk (P:Program) (KT:FuncId→Nat→Nat) (fu:Nat) (r:nR) (call:aJ) (args:List AV) (H:aa):Option (AV×aa) :=
 match P.funcs[r.f]? with
 | none=>none
 | some fn=>if Nat.ble args.length fn.ntmps then
   match pieces ⟨P,call,fu,r.f,fn.ntmps,KT r.f,none⟩ r.S r.L r.suf r.pre (fU 0 args) (⟨false,[]⟩::H) with
   | some (e,fr,l::H')=>(match e with
     | .normal | .ret=>match gE P fr (l::H') fn.results.toList with
       | some vs=>some (dw l.bs 5 (one vs),H')
       | none=>none
     | _=>none)
   | _=>none
   else none

theorem Fl {P:Program} (hN:cS P) (hD:kf P) {r:nR} (hr:r.Ok P) (KT:FuncId→Nat→Nat) (fu:Nat) {call:aJ} (hC:bY P call) {args:List AV} {H:aa} {v:AV} {H':aa} (h:Fk P KT fu r call args H=some (v,H'))
 {p:aw} {M:Mu} {w:World} {cargs:Array Value} (hH:aP p M H w) (hA:iF p M args cargs):(∃ fn,P.funcs[r.f]?=some fn∧fn.body.isNone=false)∧CallsIn Fence.wide 0 P r.f cargs w (pg p M H w v H'):=by
 obtain ⟨⟨fn,hf,hb⟩,hS,hL⟩:=hr
 unfold Fk at h
 rw[hf] at h
 dsimp only at h
 split at h
 · rename_i hle
   split at h
   · rename_i e fr l H1 he
     have hcode:=uY (cx:=⟨P,call,fu,r.f,fn.ntmps,KT r.f,none⟩) dh.wide hN hC (more hN hD hC _ _ rfl rfl dh.wide) hS hL _ _ _ _ _ _ he
     split at h
     · cases hv:gE P fr (l::H1) fn.results.toList with
       | none=>rw[hv] at h;simp at h
       | some vs =>
         rw[hv] at h
         simp only[nP] at h
         obtain ⟨rfl,rfl⟩:=h
         exact ⟨⟨fn,hf,by rw[hb];rfl⟩,jP hf hb (by simpa using hle) (.inl rfl) hv hcode hH hA⟩
     · cases hv:gE P fr (l::H1) fn.results.toList with
       | none=>rw[hv] at h;simp at h
       | some vs =>
         rw[hv] at h
         simp only[nP] at h
         obtain ⟨rfl,rfl⟩:=h
         exact ⟨⟨fn,hf,by rw[hb];rfl⟩,jP hf hb (by simpa using hle) (.inr rfl) hv hcode hH hA⟩
     · simp at h
   · simp at h
 · simp at h

noncomputable def G3 (P:Program) (KT:FuncId→Nat→Nat) (fu:Nat) (tab:List fO):List nR→aJ→FuncId→List AV→aa→Option (AV×aa)
 | [],c,f,args,H=>Aj tab c f args H
 | r::rs,c,f,args,H=>if Nat.beq r.f f then Fk P KT fu r c args H else G3 P KT fu tab rs c f args H
theorem BU {P:Program} (hN:cS P) (hD:kf P) (KT:FuncId→Nat→Nat) (fu:Nat) {tab:List fO} (hT:∀ e ∈ tab,bp P e):∀ (rs:List nR),(∀ r ∈ rs,r.Ok P)→tU P (G3 P KT fu tab rs)
 | [],_=>we tab hT
 | r :: rs,hr=>fun call hC f args H v H' h hne p M w cargs hH hA=>by
   simp only[G3] at h
   split at h
   · rename_i hf
     have:=Nat.eq_of_beq_eq_true hf
     subst this
     exact Fl hN hD (hr r (by simp)) KT fu hC h hH hA
   · exact BU hN hD KT fu hT rs (fun q hq=>hr q (by simp[hq])) call hC f args H v H' h hne p M w cargs hH hA

end Go.Eng
end
section
namespace Go.Eng

theorem Ep {P:Program} {f:FuncId} {fn:Func} {c:Code} (hf:P.funcs[f]?=some fn) (hb:fn.body=some c) {args:List AV} (hle:args.length≤fn.ntmps) {H:aa} {e:Ex} {fr:aq} {l:aV} {H':aa} (he:e=.normal∨e=.ret)
 {j ver off sz len:Nat} {cap:Option Nat} {q:Row} (hv:gE P fr (l::H') fn.results.toList=some [.slc 0 j ver off sz len cap]) (hq:dx (l::H') 0 j ver=some q) (hl0:l.lock=false) (hl1:ar H' 0=false) (hne:H'≠[])
 (hC:dm P Fence.wide none fn.ntmps c (fU 0 args) (⟨false,[]⟩::H) e fr (l::H')) {p:aw} {M:Mu} {w:World} {cargs:Array Value} (hH:aP p M H w) (hA:iF p M args cargs) :
 CallsIn Fence.wide 0 P f cargs w (pg p M H w (.slc 0 (aj H' 0) 0 off sz len cap) (bC H' 0 (.row (lf 1 q)))):=by
 refine callsIn_of_wp_marks hf hb trivial (hC w.heap.size p (db M) _ w _ (w9 hA hle) hH.down (by simp) rfl (Marks.nil _ _ _) (fun a' w' ⟨p',M',k1,k2,k3⟩=>?_)) rfl
 have main:LeavesInM Fence.wide 0 P fn a'.tmps (pg p M H w (.slc 0 (aj H' 0) 0 off sz len cap) (bC H' 0 (.row (lf 1 q)))) a'.defers .returning w':=by
  obtain ⟨rs,h1,h2,_,h3⟩:=k3
  rw[h1]
  refine nk (p:=p) (M:=db M) (H:=⟨false,[]⟩::H) (w:=w) (p':=p') (M':=M') (H':=l::H') (fun w2 hE=>?_) rs w' h2 (fun r hr=>⟨(h3 r hr).1,(h3 r hr).2.2⟩) k1
  obtain ⟨cv,r1,r2⟩:=qH k2 hE.rel hv
  have r2':ai p' M' (.slc 0 j ver off sz len cap) cv:=r2
  cases r2' with
  | slc hm h5 h6 h7 h8 =>
    rename_i b o t x cc
    have mv:=hE.rel.move (d:=1) hq hm hl0 hl1 (by
     cases H' with
     | nil=>exact absurd rfl hne
     | cons y r=>simp) (by omega)
    have hE2:=hE.trans mv
    have hk:bC (cJ (l::H') 0 j) 1 (.row (lf 1 q))=(⟨l.lock,(bN l.bs j ((ao (l::H') 0 j).1,.dead))⟩:aV)::bC H' 0 (.row (lf 1 q)):=rfl
    rw[hk] at hE2
    refine ⟨_,r1,_,rfl,⟨fun d i hl=>hE2.same (d+1) i (by omega) hl,fun d hl=>hE2.next (d+1) (by omega) hl⟩,_,_,hE2.pop,?_⟩
    refine .slc (b:=b) (o:=o) (t:=t) ?_ h5 h6 h7 h8
    show aY M' 1 (aj (l::H') 1) 0 (b,o,t) 1 (aj H' 0) 0=some (b,o,t)
    unfold aY
    exact if_pos ⟨rfl,rfl,rfl⟩
 rcases he with rfl | rfl
 · exact main
 · exact main

noncomputable def yx (P:Program) (KT:FuncId→Nat→Nat) (fu:Nat) (f:FuncId) (call:aJ) (args:List AV) (H:aa):Option (AV×aa) :=
 match P.funcs[f]? with
 | none=>none
 | some fn => match fn.body with
   | none=>none
   | some c=>if Nat.ble args.length fn.ntmps then
     match df ⟨P,call,fu,f,fn.ntmps,KT f,none⟩ c (fU 0 args) (⟨false,[]⟩::H) with
     | some (e,fr,l::l1::H')=>(match e with
       | .normal | .ret=>match gE P fr (l::l1::H') fn.results.toList with
         | some [.slc 0 j ver off sz len cap]=>match dx (l::l1::H') 0 j ver with
           | some q=>if l.lock || l1.lock then none else some (.slc 0 l1.bs.length 0 off sz len cap,bC (l1::H') 0 (.row (lf 1 q)))
           | none=>none
         | _=>none
       | _=>none)
     | _=>none
     else none
theorem sA {P:Program} (hN:cS P) (hD:kf P) {f:FuncId} (KT:FuncId→Nat→Nat) (fu:Nat) {call:aJ} (hC:bY P call) {args:List AV} {H:aa} {v:AV} {H':aa} (h:yx P KT fu f call args H=some (v,H'))
 {p:aw} {M:Mu} {w:World} {cargs:Array Value} (hH:aP p M H w) (hA:iF p M args cargs):(∃ fn,P.funcs[f]?=some fn∧fn.body.isNone=false)∧CallsIn Fence.wide 0 P f cargs w (pg p M H w v H'):=by
 unfold yx at h
 split at h
 · simp at h
 rename_i fn hf
 split at h
 · simp at h
 rename_i c hb
 split at h
 case isFalse=>simp at h
 rename_i hle
 split at h
 case h_2=>simp at h
 rename_i e fr l l1 H1 he
 rw[cZ] at he
 have hcode:=b6 (cx:=⟨P,call,fu,f,fn.ntmps,KT f,none⟩) dh.wide hN hC (more hN hD hC _ _ rfl rfl dh.wide) _ _ _ _ _ _ he
 have fin:(e=.normal∨e=.ret)→(match gE P fr (l::l1::H1) fn.results.toList with
  | some [.slc 0 j ver off sz len cap]=>match dx (l::l1::H1) 0 j ver with
    | some q=>if l.lock || l1.lock then none else some (AV.slc 0 l1.bs.length 0 off sz len cap,bC (l1::H1) 0 (.row (lf 1 q)))
    | none=>none
  | _=>none)=some (v,H')→(∃ fn,P.funcs[f]?=some fn∧fn.body.isNone=false)∧CallsIn Fence.wide 0 P f cargs w (pg p M H w v H'):=fun he h=>by
  split at h
  case h_2=>simp at h
  rename_i j ver off sz len cap hv
  split at h
  case h_2=>simp at h
  rename_i q hq
  split at h
  case isTrue=>simp at h
  rename_i hlk
  simp only[Bool.or_eq_true,not_or,Bool.not_eq_true] at hlk
  simp only[nP] at h
  obtain ⟨rfl,rfl⟩:=h
  exact ⟨⟨fn,hf,by rw[hb];rfl⟩,Ep hf hb (by simpa using hle) he hv hq hlk.1 hlk.2 (by simp) hcode hH hA⟩
 split at h
 · exact fin (.inl rfl) h
 · exact fin (.inr rfl) h
 · simp at h

noncomputable def Jv (P:Program) (KT:FuncId→Nat→Nat) (fu:Nat) (tab:List fO) (rs:List nR) (os:List FuncId) (c:aJ) (f:FuncId) (args:List AV) (H:aa):Option (AV×aa) :=
 if os.any (fun g=>Nat.beq g f) then yx P KT fu f c args H else G3 P KT fu tab rs c f args H
theorem G1 {P:Program} (hN:cS P) (hD:kf P) (KT:FuncId→Nat→Nat) (fu:Nat) {tab:List fO} (hT:∀ e ∈ tab,bp P e) {rs:List nR} (hr:∀ r ∈ rs,r.Ok P) (os:List FuncId):tU P (Jv P KT fu tab rs os) :=
 fun call hC f args H v H' h hne p M w cargs hH hA=>by
  unfold Jv at h
  split at h
  · exact sA hN hD KT fu hC h hH hA
  · exact BU hN hD KT fu hT rs hr call hC f args H v H' h hne p M w cargs hH hA
theorem bW {P:Program} (hN:cS P) (hm:P.follows .mixedOrders=true) {tab:List fO} (hT:∀ e ∈ tab,bp P e) {rs:List nR} (hr:∀ r ∈ rs,r.Ok P) (os:List FuncId) (KT:FuncId→Nat→Nat) (fu n:Nat) {e:fO} {H':aa}
 (h:ko P (Jv P KT fu tab rs os) KT fu n (.fn e.f) e.args [⟨true,[]⟩]=some (e.v,H')) (hn:e.args.all (qC 9)=true):bp P e:=by
 rw[ue] at h
 exact yy (pk hN (vF hN hm) (G1 hN (vF hN hm) KT fu hT hr os) KT fu n) h hn
end Go.Eng
end
section
namespace Go.Eng

end Go.Eng
end
section
namespace Go.Eng
noncomputable section

def JF (base:bB) (d0 i0:Nat) (args0:List AV) (H0:aa) (u:Tr (AV×aa)):bB:=fun tgt args H=>match tgt with
 | .round d i=>cond (Nat.beq d d0 && Nat.beq i i0) (.reqP (qP args=args0∧H=H0) (u.bind fun y=>.ok ((y.1,none),y.2))) .bad
 | .fn g=>base (.fn g) args H
 | .mode=>base .mode args H
theorem sL {base:bB} {call:aJ} (h:base.Ok call) {d0 i0:Nat} {args0:List AV} {H0:aa} {u:Tr (AV×aa)} (k:∀ x,u.run=some x→call (.round d0 i0) args0 H0=some x):(JF base d0 i0 args0 H0 u).Ok call:=by
 refine ⟨h.1,fun tgt args H x hx=>?_⟩
 cases tgt with
 | fn g=>exact h.2 _ _ _ _ hx
 | mode=>exact h.2 _ _ _ _ hx
 | round d i =>
   unfold JF at hx
   obtain ⟨hc,hx2⟩:=Tr.aF hx
   clear hx
   rw[Bool.and_eq_true] at hc
   have e1:=Nat.eq_of_beq_eq_true hc.1
   have e2:=Nat.eq_of_beq_eq_true hc.2
   subst e1;subst e2
   obtain ⟨⟨e3,e4⟩,hx3⟩:=Tr.cY hx2
   obtain ⟨y,h1,h2⟩:=Tr.bind_some hx3
   rw[e3,e4,k _ h1,← Tr.ab h2]

theorem Fs {P:Program} {ora:aJ→FuncId→List AV→aa→Option (AV×aa)} {KT:FuncId→Nat→Nat} {fu n d i:Nat} {args:List AV} {H H1 H2:aa} {l l1 l2:gM} {fr fr1 fr2:aq} {e:Ex} {lv:aV}
 (hg:ao H d i=(0,.loop l)) (hl:ar H d=false) (hs:l.state=.ready) (hp:ln l.nt (mb (d+1) l.fr) l.params (args.map (fq 1))=some fr)
 (h1:exec ⟨P,cI P ora KT fu n,fu,l.fn,l.nt,KT l.fn,some (d+1,i)⟩ l.assign fr (⟨false,[]⟩::H)=some (.normal,fr1,H1)) (hg1:ao H1 (d+1) i=(0,.loop l1)) (hs1:l1.state=.ready)
 (h2:exec ⟨P,cI P ora KT fu n,fu,l.fn,l.nt,KT l.fn,some (d+1,i)⟩ l.body fr1 (dU H1 (d+1) i (0,.loop { l1 with state:=.busy }))=some (e,fr2,lv::H2)) (hg2:ao H2 d i=(0,.loop l2)) :
 cI P ora KT fu (n+1) (.round d i) args H=some (.bool (cV e).isNone,dU H2 d i (0,.loop { l2 with state:=if (cV e).isNone then .ready else .done,pending:=cV e })):=by
 simp only[cI,hg,hl,Bool.false_eq_true,if_false,hs,hp,h1,hg1,hs1,h2,hg2]
theorem yN {cx:Cx} {f:Operand} {ps:Array Tmp} {as bd:Code} {fr:aq} {H H1:aa} {g:FuncId} {a b:List AV} {v:AV} {l:gM} {e:Ex} (hf:bE fr f=.fn (.func g) a b) (hh:cx.here H=true) (hl:ar H 0=false)
 (hc:cx.call (.fn g) (a++(.yld 0 (al H)::b)) (gB fr H cx ps as bd)=some (v,H1)) (hg:ao H1 0 (al H)=(0,.loop l)) (hb:(l.state == .busy)=false) (he:rR l.pending=some e) :
 exec cx (.rangeFunc f ps as bd) fr H=some (e,fr,cJ H1 0 (al H)):=by
 unfold exec
 rw[hf]
 dsimp only
 rw[hh,hl]
 simp only[Bool.not_true,Bool.false_or,Bool.false_eq_true,if_false,hc,hg,hb,he]

end
end Go.Eng
end
section
namespace Go.Eng
noncomputable section

def Tr.all {α:Type} (T:Tr α) (Q:α→Prop):Prop:=∃ x,T.run=some x∧Q x
theorem Tr.bc {α:Type} {a:α} {Q:α→Prop} (h:Q a):(Tr.ok a).all Q:=⟨a,rfl,h⟩
theorem Tr.bn {α:Type} {c:Bool} {a b:Tr α} {Q:α→Prop} (h1:c=true→a.all Q) (h2:c=false→b.all Q):(Tr.ite c a b).all Q:=by
 cases c with
 | true=>exact h1 rfl
 | false=>exact h2 rfl
theorem Tr.cj {α:Type} {c:Bool} {a:Tr α} {Q:α→Prop} (h:c=true) (k:a.all Q):(Tr.req c a).all Q:=by
 subst h;exact k
theorem Tr.bg {α:Type} {p:Prop} {a:Tr α} {Q:α→Prop} (h:p) (k:a.all Q):(Tr.reqP p a).all Q:=by
 obtain ⟨x,h1,h2⟩:=k
 exact ⟨x,(Tr.Fv h).trans h1,h2⟩
theorem Js (b:Bool):(bx b=true)=(b=false):=by rw[gL];cases b<;>simp
theorem Jr (b:Bool):(bx b=false)=(b=true):=by rw[gL];cases b<;>simp
theorem Ix (a b:Bool):(jI a b=true)=(a=true∧b=true):=by rw[nT];cases a<;>cases b<;>simp
theorem Iw (a b:Bool):(jI a b=false)=¬ (a=true∧b=true):=by rw[nT];cases a<;>cases b<;>simp
theorem K4 (x y:Int):(cF x y=true)=(x<y):=by rw[eH];simp
theorem K3 (x y:Int):(cF x y=false)=(y≤x):=by rw[eH];simp
theorem KY (x y:Int):(mU x y=true)=(x≤y):=by rw[kJ];simp
theorem KX (x y:Int):(mU x y=false)=(y<x):=by rw[kJ];simp
theorem Ky (x y:Int):(dX x y=true)=(x=y):=by rw[dB];simp
theorem Kx (x y:Int):(dX x y=false)=¬ (x=y):=by rw[dB];simp
theorem KM (x:Int) (n:Nat):(dJ x n=true)=(0≤x∧x<(n:Int)):=by rw[pK];simp
theorem IA (x:Int) (n:Nat):(tv x n=true)=(0≤x∧x≤(n:Int)):=by rw[AW];simp
theorem K6 (x y:Nat):(dg x y=true)=(x<y):=by rw[gd];simp
theorem K5 (x y:Nat):(dg x y=false)=(y≤x):=by rw[gd];simp
theorem K0 (x y:Nat):(jz x y=true)=(x≤y):=by rw[kK];simp
theorem KZ (x y:Nat):(jz x y=false)=(y<x):=by rw[kK];simp
theorem KA (x y:Nat):(cT x y=true)=(x=y):=by rw[gr];simp
theorem Kz (x y:Nat):(cT x y=false)=¬ (x=y):=by rw[gr];simp
theorem KN (o m p n:Nat):(kH o m p n=true)=(p≤o∧o+m≤p+n):=by rw[gx];simp
theorem oQ (x y:Int):yn x y=min x y:=by rw[BH];omega
theorem ym (x y:Int):C7 x y=max x y:=by rw[BG];omega
theorem He (m n b:Nat):(j8 m n b=true)=((m+n)*b≤70368744177664∧m+n≤70368744177664):=by rw[yU];exact decide_eq_true_eq
theorem K9 (l c:Int) (b:Nat):(EO l c b=true)=(0≤l∧l≤c∧c.toNat*b≤70368744177664∧c.toNat≤70368744177664):=by rw[wa];exact decide_eq_true_eq
theorem Ag (n:Nat):Int.ofNat n=(n:Int):=rfl
theorem yo:Int.negSucc 1=-2:=rfl
theorem wc:Int.negSucc 0=-1:=rfl
theorem yp:Int.negSucc 2=-3:=rfl
theorem Hq {x:Int} (h:0≤x):(x+1).toNat=x.toNat+1:=by omega
theorem lq {k:Int} (h1:-9223372036854775808≤k) (h2:k≤9223372036854775807):IntKind.i64.wrap k=k:=Go.IntWalk.i64_in _ (by omega)

theorem nV:(∀ x y:Int,(cF x y=true)=(x<y)) ∧
 (∀ x y:Int,(cF x y=false)=(y≤x)) ∧
 (∀ x y:Int,(mU x y=true)=(x≤y)) ∧
 (∀ x y:Int,(mU x y=false)=(y<x)) ∧
 (∀ x y:Int,(dX x y=true)=(x=y)) ∧
 (∀ x y:Int,(dX x y=false)=¬ (x=y)) ∧
 (∀ b:Bool,(bx b=true)=(b=false)) ∧
 (∀ b:Bool,(bx b=false)=(b=true)) ∧
 (∀ a b:Bool,(jI a b=true)=(a=true∧b=true)) ∧
 (∀ a b:Bool,(jI a b=false)=¬ (a=true∧b=true)) ∧
 (∀ (x:Int) (n:Nat),(dJ x n=true)=(0≤x∧x<(n:Int))) ∧
 (∀ (x:Int) (n:Nat),(tv x n=true)=(0≤x∧x≤(n:Int))) ∧
 (∀ x y:Nat,(dg x y=true)=(x<y)) ∧
 (∀ x y:Nat,(dg x y=false)=(y≤x)) ∧
 (∀ x y:Nat,(jz x y=true)=(x≤y)) ∧
 (∀ x y:Nat,(jz x y=false)=(y<x)) ∧
 (∀ x y:Nat,(cT x y=true)=(x=y)) ∧
 (∀ x y:Nat,(cT x y=false)=¬ (x=y)) ∧
 (∀ o m p n:Nat,(kH o m p n=true)=(p≤o∧o+m≤p+n)) ∧
 (∀ m n b:Nat,(j8 m n b=true)=((m+n)*b≤70368744177664∧m+n≤70368744177664)) ∧
 (∀ (l c:Int) (b:Nat),(EO l c b=true)=(0≤l∧l≤c∧c.toNat*b≤70368744177664∧c.toNat≤70368744177664)) ∧
 (∀ x y:Int,yn x y=min x y) ∧
 (∀ x y:Int,C7 x y=max x y) ∧
 (∀ (o:Nat) (i:Int) (s:Nat),aA o i s=o+i.toNat*s) ∧
 (∀ a b:Nat,cM a b=a+b) ∧
 (∀ a b:Nat,s4 a b=a-b) ∧
 (∀ i:Int,fa i=i.toNat) ∧
 (∀ (k:IntKind) (x y:Int),bf k x y=k.wrap (x+y)) ∧
 (∀ (k:IntKind) (x y:Int),cB k x y=k.wrap (x-y)) ∧
 (∀ (k:IntKind) (x y:Int),fg k x y=k.wrap (x*y)) ∧
 (∀ n:Nat,Int.ofNat n=(n:Int)) ∧
 (Int.negSucc 0=-1) ∧
 (Int.negSucc 1=-2) ∧
 (Int.negSucc 2=-3) ∧
 (∀ {k:Int},-9223372036854775808≤k→k≤9223372036854775807→IntKind.i64.wrap k=k) ∧
 (∀ {x:Int},0≤x→(x+1).toNat=x.toNat+1) ∧
 ((0:Int).toNat=0) ∧
 (∀ n:Nat,0*n=0) ∧
 (∀ n:Nat,1*n=n) ∧
 (∀ n:Nat,(n:Int).toNat=n) ∧
 (((0:Nat):Int)=0) ∧
 (((1:Nat):Int)=1) ∧
 (∀ n:Nat,0+n=n) ∧
 ((¬ True)=False) ∧
 ((¬ False)=True) ∧
 ((true=false)=False) ∧
 ((false=true)=False) ∧
 ((!true)=false) ∧
 ((!false)=true) ∧
 (∀ p:Prop,(True∧p)=p) ∧
 (∀ p:Prop,(p∧True)=p) ∧
 (∀ p:Prop,(False∧p)=False) ∧
 (∀ p:Prop,(p∧False)=False) :=
 ⟨K4,K3,KY,KX,Ky,Kx,Js,Jr,Ix,Iw,KM,IA,K6,K5,K0,KZ,KA,Kz,KN,He,K9,oQ,ym,kG,bK,kV,qa,jc,mF,mA,Ag,wc,yo,yp,lq,Hq,Int.toNat_zero,Nat.zero_mul,Nat.one_mul,Int.toNat_natCast,Int.natCast_zero,Int.natCast_one,Nat.zero_add,not_true_eq_false,not_false_eq_true,Bool.true_eq_false,Bool.false_eq_true,Bool.not_true,Bool.not_false,true_and,and_true,false_and,and_false⟩
theorem nW:(∀ a b:Nat,GP a b=a*b)∧(∀ {α:Type} (a:α),(a=a)=True)∧(∀ {n:Nat},((no_index (OfNat.ofNat n):Nat):Int)=OfNat.ofNat n):=⟨BK,fun a=>eq_self a,Int.cast_ofNat_Int⟩
theorem wF {p:Prop} (h:p:=by
  repeat' first | (refine Tr.bn (fun hc=>?_) (fun hc=>?_)<;>(try simp (disch:=omega) only[nV,nW] at hc)<;>try omega) | (refine Tr.cj ?_ ?_;· (try simp (disch:=omega) only[nV,nW]);try omega) | (refine Tr.bg ?_ ?_;· first | exact trivial | rfl | exact ⟨rfl,rfl⟩ | exact ⟨trivial,rfl⟩ | exact ⟨rfl,by assumption⟩ | exact ⟨trivial,by assumption⟩ | exact ⟨rfl,rfl,rfl⟩ | (simp (disch:=omega) only[nV,nW];done) | ((try simp (disch:=omega) only[nV,nW]);omega)) | fail
  all_goals first
  | exact Tr.bc ⟨rfl,rfl⟩
  | exact Tr.bc rfl
  | fail):p:=h
theorem g7 {c B:Code} {i:Nat} (h:((aM c).filter fun x=>Nat.beq x.1 i)=[(i,B)]):∀ b,(i,b) ∈ aM c→b=B:=by
  intro b hb
  have hm:(i,b) ∈ ((aM c).filter fun x=>Nat.beq x.1 i):=List.mem_filter.2 ⟨hb,Nat.beq_refl i⟩
  rw[h] at hm;simpa using hm
end
end Go.Eng
end
section
namespace Go.Eng
end Go.Eng
end
