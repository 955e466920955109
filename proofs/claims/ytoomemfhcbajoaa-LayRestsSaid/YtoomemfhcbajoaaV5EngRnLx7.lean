/- The engine: a range over a map of a lower level that ends in one state: all levels but the own one are locked for the while. -/
import Derived.Test.YtoomemfhcbajoaaV5EngRsx2
import Derived.Test.YtoomemfhcbajoaaV5EngThx4
set_option linter.unusedVariables false
set_option linter.unusedSimpArgs false
section
namespace Go.Eng

noncomputable def kd (cx:Cx) (S:cK) (L:bp) (fr:ar) (H:aa):Option (ar×aa) :=
 match dw cx.P cx.nt cx.call S.ops0 S.pre fr H with
 | some (fr1,l1::r1)=>match bo fr1 S.m with
   | .map (d+1) i=>match aq (l1::r1) (d+1) i with
     | (0,.map es) =>
       if l1.lock then none else
       let R:=az r1
       let k:=an (l1::r1)
       let s0:ar×aU:=(dr cx.nt fr1 (some L.it) (.ptr 0 k 0 0),{ l1 with bs:=l1.bs++[(0,.dead)] })
       let kvs:=es.map fun e=>(fm (d+1) e.1,fm (d+1) e.2)
       match fb L cx k (k+1) R kvs s0 with
       | some t =>
         if sure L cx k (k+1) R kvs s0 t (s0::vc L cx k (k+1) R s0 kvs) (se L cx k (k+1) R s0 t kvs 0) then
          match L.last cx t.1 (t.2::R) with
          | some (fr',l'::_)=>some (fr',l'::r1)
          | _=>none
         else none
       | none=>none
     | _=>none
   | _=>none
 | _=>none

theorem y9 {cx:Cx} {F:Fence} (hFW:dq F) (hN:c8 cx.P) (hC:cr cx.P cx.call) (hX:dQ cx F) {S:cK} {L:bp} (hS:S.Ok cx.P L) (hL:L.Ok) {fr fr':ar} {H H':aa} (h:kd cx S L fr H=some (fr',H')) :
 dz cx.P F cx.ro cx.nt (S.code L) fr H .normal fr' H':=by
 intro n0 p M a w Q hF hH hne hR hM hQ
 unfold kd at h
 rw[cj] at h
 split at h
 case h_2=>simp at h
 rename_i fr1 l1 r1 hro
 split at h
 case h_2=>simp at h
 rename_i d i hmap
 split at h
 case h_2=>simp at h
 rename_i es hg
 split at h
 · simp at h
 rename_i hl0
 simp only[Bool.not_eq_true] at hl0
 dsimp only at h
 split at h
 case h_2=>simp at h
 rename_i t hfold
 split at h
 case isFalse=>simp at h
 rename_i hsure
 split at h
 case h_2=>simp at h
 rename_i frE lE RE hlast
 simp only[nP] at h
 obtain ⟨rfl,rfl⟩:=h
 refine wpIn_seq (wpIn_region_list ?_)
 rw[hS.l0]
 refine h9 hFW hN hC _ _ _ _ _ hro p M a w hF hH hne (fun a1 w1 ⟨p1,M1,hE1,hF1,hd1⟩=>?_)
 unfold wpListIn
 rw[if_pos (by unfold Region.wanted;rw[hS.g0])]
 -- the map
 have hvm:=hF1.at_ S.m
 rw[hmap] at hvm
 obtain ⟨b,o,tt,hmu,hev⟩:∃ b o t,M1 (d+1) i 0=some (b,o,t)∧a1.tmps.getD S.m Go.undef=.map (some b):=by
  generalize a1.tmps.getD S.m Go.undef=z at hvm
  cases hvm
  rename_i b o t hm
  exact ⟨b,o,t,hm,rfl⟩
 obtain ⟨ces,clock,hb,hsz,hborn,hrel⟩:=rq hE1.rel hg hmu
 have hev':a1.eval (.tmp S.m)=.map (some b):=hev
 obtain ⟨kt,et,hu⟩:=hS.t0
 have hrun:=_root_.Go.run_range_map (P:=cx.P) w1 S.ty kt et b ces clock hu hb
 refine kW hFW (by rw[hS.o0];intro c h;cases h) (cv:=.pointer (some ⟨w1.heap.size,0,none⟩)) (w':=w1.alloc (.mapIter (some b) clock #[] clock)) (by simp only[execOp,hS.o0,hev'];simp[Sem.run_bind,hrun,Result.andThen]) ?_
 unfold wpListIn
 rw[hS.d0]
 -- the base of the loop
 obtain ⟨R,hRd⟩:∃ R,R=az r1:=⟨_,rfl⟩
 obtain ⟨lb,hlbd⟩:∃ lb,lb=({ l1 with bs:=l1.bs++[(0,.dead)] }:aU):=⟨_,rfl⟩
 rw[← hlbd,← hRd] at hfold hsure
 rw[← hRd] at hlast
 have hH3:aV p1 M1 (bI (l1::r1)) w1:=hE1.rel.same (cH _) (b9 _)
 have hne3:bI (l1::r1)≠[]:=by simp[bI]
 have hEp:=bX.pad hH3 hne3 1 (da.refl _ _)
 have hpad:kN (bI (l1::r1)) 1=lb::R:=by rw[hlbd,hRd];rfl
 rw[hpad] at hEp
 have hRl:∀ d,au R d=true:=fun d=>by rw[hRd];exact bk _ _
 have hnx:an (bI (l1::r1))=an (l1::r1):=by
  rw[← aB,b9,aB]
 have hnb:an (lb::R)=an (l1::r1)+1:=by
  rw[← hpad,← aB,iJ _ hne3,if_pos rfl,hnx]
 have hdead:(aq (lb::R) 0 (an (l1::r1))).2=.dead:=by
  rw[← hpad,eF]
  exact Classical.byContradiction fun hn=>by
   have:=iz hn
   rw[b9,aB] at this
   omega
 have hlb:au (lb::R) 0=false:=by rw[hlbd];exact hl0
 have hno:∀ v,M1 0 (an (l1::r1)) v=none:=fun v=>by
  cases hx:M1 0 (an (l1::r1)) v with
  | none=>rfl
  | some u =>
    have:=(hE1.rel.dom _ _ _ _ hx).1
    rw[aB] at this
    omega
 have hEn:=bX.name hEp.rel hdead (by rw[aB,hnb];omega) hno hlb (.mapIter (some b) clock #[] clock)
 have hkb:Go.Eng.aZ M1 (lb::R) b:=by
  intro d' i' v' B' hg' hB' hl' o' t' hm'
  cases d' with
  | succ d' =>
    rw[show au (lb::R) (d'+1)=au R d' from rfl,hRl] at hl';cases hl'
  | zero =>
    rw[← hpad,eF,cH] at hg'
    have:=(hE1.rel.apart 0 i' v' B' (d+1) i 0 (.map es) b o' t' o tt hg' hB' hg (by simp) hm' hmu).1
    omega
 have hF2:=(hF1.mono hEn.pst hEn.mu).put (some L.it) (v:=.ptr 0 (an (l1::r1)) 0 0) (c:=.pointer (some ⟨w1.heap.size,0,none⟩)) (.ptr (o:=0) (t:=0) (by simp[bc]))
 have hM2:Marks n0 (bc M1 0 (an (l1::r1)) 0 (w1.heap.size,0,0)) (lb::R) (w1.alloc (.mapIter (some b) clock #[] clock)) (a1.put (some L.it) (.pointer (some ⟨w1.heap.size,0,none⟩))).defers:=by
  rw[put_defers,hd1]
  have m1:=hM.qq hE1
  have m3:Marks n0 M1 (bI (l1::r1)) w1 a.defers:=by
   obtain ⟨rs,g1,g2,g0,g3⟩:=m1
   refine ⟨rs,g1,g2,g0,fun q hq=>⟨(g3 q hq).1,fun d' i' v' B' hg' hB' hl' o' t'=>?_,(g3 q hq).2.2⟩⟩
   rw[cH] at hg'
   cases d' with
   | zero=>exact (g3 q hq).2.1 0 i' v' B' hg' hB' hl0 o' t'
   | succ d' =>
     have:au (az r1) d'=true:=bk _ _
     have h7:au (bI (l1::r1)) (d'+1)=au (az r1) d':=rfl
     rw[h7,this] at hl';cases hl'
  exact (m3.qq hEp).qq hEn
 have hR2:pw F cx.ro M1:=hR.mono hE1.mu
 have hkvs:(es.map fun e=>(fm (d+1) e.1,fm (d+1) e.2)).length=es.length:=by simp
 -- what the check has shown
 have facts:∃ (X:ar→aU→Prop) (j0:Nat),X (dr cx.nt fr1 (some L.it) (.ptr 0 (an (l1::r1)) 0 0)) lb ∧
  (∀ f l,X f l→bo f L.it=.ptr 0 (an (l1::r1)) 0 0) ∧
  (∀ f l,X f l→∀ j,j<(es.map fun e=>(fm (d+1) e.1,fm (d+1) e.2)).length→∃ f1 m1 R1,L.round cx (an (l1::r1)) (an (l1::r1)+1) ((es.map fun e=>(fm (d+1) e.1,fm (d+1) e.2)).getD j (.undef,.undef)) f (l::R)=some (f1,m1::R1)∧X f1 m1∧(j=j0→(f1,m1)=t)) ∧
  (∀ f l,(f,l)=t→∀ j,j<(es.map fun e=>(fm (d+1) e.1,fm (d+1) e.2)).length→∀ f1 m1 R1,L.round cx (an (l1::r1)) (an (l1::r1)+1) ((es.map fun e=>(fm (d+1) e.1,fm (d+1) e.2)).getD j (.undef,.undef)) f (l::R)=some (f1,m1::R1)→(f1,m1)=t) ∧
  (∀ f l,X f l→(0<(es.map fun e=>(fm (d+1) e.1,fm (d+1) e.2)).length→(f,l)=t)→(f,l)=t)∧(0<(es.map fun e=>(fm (d+1) e.1,fm (d+1) e.2)).length→j0<(es.map fun e=>(fm (d+1) e.1,fm (d+1) e.2)).length):=by
  generalize (es.map fun e=>(fm (d+1) e.1,fm (d+1) e.2))=kvs at hsure ⊢
  unfold sure at hsure
  split at hsure
  · simp only[Bool.and_eq_true] at hsure
    have e1:=vU _ _ hsure.1
    refine ⟨fun f l=>(f,l)=t,0,e1,fun f l hx=>?_,fun f l _ j hj=>absurd hj (by simp),fun f l _ j hj=>absurd hj (by simp),fun f l hx _=>hx,fun hp=>absurd hp (by simp)⟩
    have:f=(dr cx.nt fr1 (some L.it) (.ptr 0 (an (l1::r1)) 0 0)):=by rw[← e1] at hx;exact (Prod.mk.inj hx).1
    rw[this];exact eO hsure.2
  · simp only[Bool.and_eq_true] at hsure
    obtain ⟨h1,h2,h3,h4⟩:=hsure
    have hj:se L cx (an (l1::r1)) (an (l1::r1)+1) R (dr cx.nt fr1 (some L.it) (.ptr 0 (an (l1::r1)) 0 0),lb) t kvs 0<kvs.length:=by
     have:=Nat.le_of_ble_eq_true h4;omega
    have mem:∀ j,j<kvs.length→kvs.getD j (.undef,.undef) ∈ kvs:=fun j hj=>by
     rw[List.getD_eq_getElem?_getD,List.getElem?_eq_getElem hj];simp
    refine ⟨fun f l=>(f,l) ∈ ((dr cx.nt fr1 (some L.it) (.ptr 0 (an (l1::r1)) 0 0),lb)::vc L cx (an (l1::r1)) (an (l1::r1)+1) R (dr cx.nt fr1 (some L.it) (.ptr 0 (an (l1::r1)) 0 0),lb) kvs),
     se L cx (an (l1::r1)) (an (l1::r1)+1) R (dr cx.nt fr1 (some L.it) (.ptr 0 (an (l1::r1)) 0 0),lb) t kvs 0,by simp,fun f l hx=>?_,fun f l hx j hjl=>?_,fun f l he j hjl f1 m1 R1 hr=>?_,fun f l _ hp=>hp (by omega),fun _=>hj⟩
    · have:=List.all_eq_true.1 h2 _ hx
      simp only[Bool.and_eq_true] at this
      exact eO this.1
    · have:=List.all_eq_true.1 h2 _ hx
      simp only[Bool.and_eq_true] at this
      obtain ⟨_,g2,g3⟩:=this
      obtain ⟨s,hs,he⟩:=ye (List.all_eq_true.1 g2 _ (mem j hjl))
      obtain ⟨R1,hr⟩:=fK he
      refine ⟨s.1,s.2,R1,hr,hs,fun hjj=>?_⟩
      rw[← hjj] at g3
      have:=rm g3
      rw[he] at this
      exact Option.some.inj this
    · have:=rm (List.all_eq_true.1 h3 _ (mem j hjl))
      rw[← he] at this
      obtain ⟨R2,hr2⟩:=fK this
      dsimp only at hr2
      rw[hr] at hr2
      simp only[Option.some.injEq,Prod.mk.injEq,List.cons.injEq] at hr2
      rw[hr2.1,hr2.2.1]
      first | done | rfl | exact he | (rw[← he])
 obtain ⟨X,j0,x1,x2,x3,x4,x5,x6⟩:=facts
 have hit:L.it<cx.nt:=by
  refine Nat.lt_of_not_le fun hle=>?_
  have h7:=x2 _ _ x1
  have h8:=hF2.at_ L.it
  rw[h7] at h8
  have:(a1.put (some L.it) (.pointer (some ⟨w1.heap.size,0,none⟩))).tmps.getD L.it Go.undef=Go.undef:=by
   have hs:=hF2.size
   rw[Array.getD_eq_getD_getElem?,Array.getElem?_eq_none (by omega)];rfl
  rw[this] at h8
  cases h8
 have hslot:(a1.put (some L.it) (.pointer (some ⟨w1.heap.size,0,none⟩))).tmps.getD L.it Go.undef=.pointer (some ⟨w1.heap.size,0,none⟩):=by
  have hs:=hF1.size
  simp[Act.put,hs,hit]
 refine yy hFW hN hC hX hL hit (X:=X) (S:=fun f l=>(f,l)=t) (R:=R) hRl x2 x3 x4 (fun f l hx hp=>?_) x6 rfl hEp.rel hnb (by simp) hR2 hkb hb hborn (by rw[hkvs];exact hsz) ?_ (Nat.le_refl _) hEn hF2 hM2 x1 (World.alloc_heap_new _ _) hslot (fun a' w' hnow=>?_) (fr':=frE) (H':=lE::RE)
 · have:=x5 f l hx hp
   rw[← this] at hlast
   exact hlast
 · intro j hj
   have hj2:j<es.length:=by rw[← hsz];exact hj
   have:=hrel j hj
   have e1:(es.map fun e=>(fm (d+1) e.1,fm (d+1) e.2)).getD j (.undef,.undef)=(fm (d+1) (es.getD j (.undef,.undef)).1,fm (d+1) (es.getD j (.undef,.undef)).2):=by
    simp[List.getD_eq_getElem?_getD,List.getElem?_eq_getElem hj2]
   rw[e1]
   exact ⟨this.1.up,this.2.up⟩
 · obtain ⟨p',M',e1,e2,e3⟩:=hnow
   have e4:bX p1 M1 (bI (l1::r1)) w1 p' M' (lE::RE) w':=hEp.trans e1
   have hRE:RE=az r1:=by
    refine j4 _ _ (by have:=e4.len;simpa[bI,dK] using this) (fun d' i'=>?_) (fun d'=>?_) (fun d'=>?_)
    · exact e4.same (d'+1) i' (by omega) (bk r1 d')
    · exact e4.next (d'+1) (by omega) (bk r1 d')
    · exact e4.lock (d'+1)
   rw[hRE] at e4 e3
   have e5:=bX.unlock hE1.rel hl0 e4
   have e7:=hE1.trans e5
   refine hQ a' w' ⟨p',M',e7,e2,?_⟩
   obtain ⟨rs,g1,g2,g0,g3⟩:=e3
   refine ⟨rs,g1,g2,g0,fun q hq=>⟨(g3 q hq).1,?_,(g3 q hq).2.2⟩⟩
   -- a mark is kept: it is no block that is known
   intro d' i' v' B' hg' hB' hl' o' t' hm'
   obtain ⟨b2,o2,t2,k1,k2,_⟩:=e7.rel.live d' i' v' B' hg' hB'
   rw[hm'] at k1
   simp only[nP] at k1
   obtain ⟨rfl,_,_⟩:=k1
   have hq1:=(g3 q hq).1
   cases B' with
   | dead=>exact hB' rfl
   | row r=>obtain ⟨_,_,e,_⟩:=k2;rw[hq1] at e;simp at e
   | map es=>obtain ⟨_,_,e,_⟩:=k2;rw[hq1] at e;simp at e
   | fmap kq f g c=>obtain ⟨_,_,_,_,e,_⟩:=k2;rw[hq1] at e;simp at e
   | loop l=>obtain ⟨_,e,_⟩:=k2;rw[hq1] at e;simp at e

noncomputable def kb (cx:Cx) (S:cK) (L:bp) (fr:ar) (H:aa):Option (ar×aa) :=
 match me cx S L fr H with
 | some x=>some x
 | none=>kd cx S L fr H
theorem na {cx:Cx} {F:Fence} (hFW:dq F) (hN:c8 cx.P) (hC:cr cx.P cx.call) (hX:dQ cx F) {S:cK} {L:bp} (hS:S.Ok cx.P L) (hL:L.Ok) {fr fr':ar} {H H':aa} (h:kb cx S L fr H=some (fr',H')) :
 dz cx.P F cx.ro cx.nt (S.code L) fr H .normal fr' H':=by
 unfold kb at h
 split at h
 · rename_i x e
   simp only[Option.some.injEq] at h
   subst h
   exact AF hFW hN hC hX hS hL e
 · exact y9 hFW hN hC hX hS hL h
end Go.Eng
end
section
namespace Go.Eng

def assemble:List Code→Code→Code→Code
 | [],C,suf=>.seq C suf
 | c::r,C,suf=>.seq c (assemble r C suf)
structure n7 where
 f:FuncId
 pre:List Code
 S:cK
 L:bp
 suf:Code
def n7.Ok (P:Program) (r:n7):Prop:=(∃ fn,P.funcs[r.f]?=some fn∧fn.body=some (assemble r.pre (r.S.code r.L) r.suf))∧r.S.Ok P r.L∧r.L.Ok

noncomputable def pieces (cx:Cx) (S:cK) (L:bp) (suf:Code):List Code→ar→aa→Option (Ex×ar×aa)
 | [],fr,H=>match kb cx S L fr H with
   | some (fr,H)=>dp cx suf fr H
   | none=>none
 | c::r,fr,H=>match dp cx c fr H with
   | some (.normal,fr,H)=>pieces cx S L suf r fr H
   | x=>x

theorem oj {cx:Cx} {F:Fence} {x y:Code} {fr fr1 fr':ar} {H H1 H':aa} {e:Ex} (hx:dz cx.P F cx.ro cx.nt x fr H .normal fr1 H1) (hy:dz cx.P F cx.ro cx.nt y fr1 H1 e fr' H'):dz cx.P F cx.ro cx.nt (.seq x y) fr H e fr' H' :=
 fun n0 p M a w Q hF hH hne hR hM hQ=>wpIn_seq (hx n0 p M a w _ hF hH hne hR hM (fun a1 w1 ⟨p1,M1,k1,k2,k3⟩=>hy n0 p1 M1 a1 w1 Q k2 k1.rel (k1.ne hne) (hR.mono k1.mu) k3 (fun a2 w2 h2=>hQ a2 w2 (DD.trans k1 h2))))
theorem om {cx:Cx} {F:Fence} {x y:Code} {fr fr':ar} {H H':aa} {e:Ex} (he:e≠.normal) (hx:dz cx.P F cx.ro cx.nt x fr H e fr' H'):dz cx.P F cx.ro cx.nt (.seq x y) fr H e fr' H' :=
 fun n0 p M a w Q hF hH hne hR hM hQ=>wpIn_seq (hx n0 p M a w _ hF hH hne hR hM (fun a1 w1 hn=>by
  have:=hQ a1 w1 hn
  cases e<;>first | exact absurd rfl he | exact this))

theorem vk {cx:Cx} {F:Fence} (hFW:dq F) (hN:c8 cx.P) (hC:cr cx.P cx.call) (hX:dQ cx F) {S:cK} {L:bp} {suf:Code} (hS:S.Ok cx.P L) (hL:L.Ok):∀ (pre:List Code) (fr:ar) (H:aa) (e:Ex) (fr':ar) (H':aa),
 pieces cx S L suf pre fr H=some (e,fr',H')→dz cx.P F cx.ro cx.nt (assemble pre (S.code L) suf) fr H e fr' H'
 | [],fr,H,e,fr',H',h=>by
   simp only[pieces] at h
   cases hr:kb cx S L fr H with
   | none=>rw[hr] at h;simp at h
   | some q =>
     obtain ⟨fr1,H1⟩:=q
     rw[hr] at h
     dsimp only at h
     rw[df] at h
     exact oj (na hFW hN hC hX hS hL hr) (cB hFW hN hC hX _ _ _ _ _ _ h)
 | c :: r,fr,H,e,fr',H',h=>by
   simp only[pieces] at h
   rw[df] at h
   cases hx:exec cx c fr H with
   | none=>rw[hx] at h;simp at h
   | some q =>
     obtain ⟨e1,fr1,H1⟩:=q
     rw[hx] at h
     have h1:=cB hFW hN hC hX _ _ _ _ _ _ hx
     cases e1 with
     | normal=>exact oj h1 (vk hFW hN hC hX hS hL r fr1 H1 e fr' H' h)
     | _ =>
       simp only[nP] at h
       obtain ⟨rfl,rfl,rfl⟩:=h
       exact om (by simp) h1

noncomputable def Fl (P:Program) (KT:FuncId→Nat→Nat) (fu:Nat) (r:n7) (call:aQ) (args:List AV) (H:aa):Option (AV×aa) :=
 match P.funcs[r.f]? with
 | none=>none
 | some fn=>if Nat.ble args.length fn.ntmps then
   match pieces ⟨P,call,fu,r.f,fn.ntmps,KT r.f,none⟩ r.S r.L r.suf r.pre (fT 0 args) (⟨false,[]⟩::H) with
   | some (e,fr,l::H')=>(match e with
     | .normal | .ret=>match gL P fr (l::H') fn.results.toList with
       | some vs=>some (dE l.bs 5 (one vs),H')
       | none=>none
     | _=>none)
   | _=>none
   else none

theorem Fm {P:Program} (hN:c8 P) (hD:kr P) {r:n7} (hr:r.Ok P) (KT:FuncId→Nat→Nat) (fu:Nat) {call:aQ} (hC:cr P call) {args:List AV} {H:aa} {v:AV} {H':aa} (h:Fl P KT fu r call args H=some (v,H'))
 {p:aA} {M:Mu} {w:World} {cargs:Array Value} (hH:aV p M H w) (hA:iM p M args cargs):(∃ fn,P.funcs[r.f]?=some fn∧fn.body.isNone=false)∧CallsIn Fence.wide 0 P r.f cargs w (pt p M H w v H'):=by
 obtain ⟨⟨fn,hf,hb⟩,hS,hL⟩:=hr
 unfold Fl at h
 rw[hf] at h
 dsimp only at h
 split at h
 · rename_i hle
   split at h
   · rename_i e fr l H1 he
     have hcode:=vk (cx:=⟨P,call,fu,r.f,fn.ntmps,KT r.f,none⟩) dq.wide hN hC (more hN hD hC _ _ rfl rfl dq.wide) hS hL _ _ _ _ _ _ he
     split at h
     · cases hv:gL P fr (l::H1) fn.results.toList with
       | none=>rw[hv] at h;simp at h
       | some vs =>
         rw[hv] at h
         simp only[nP] at h
         obtain ⟨rfl,rfl⟩:=h
         exact ⟨⟨fn,hf,by rw[hb];rfl⟩,jV hf hb (by simpa using hle) (.inl rfl) hv hcode hH hA⟩
     · cases hv:gL P fr (l::H1) fn.results.toList with
       | none=>rw[hv] at h;simp at h
       | some vs =>
         rw[hv] at h
         simp only[nP] at h
         obtain ⟨rfl,rfl⟩:=h
         exact ⟨⟨fn,hf,by rw[hb];rfl⟩,jV hf hb (by simpa using hle) (.inr rfl) hv hcode hH hA⟩
     · simp at h
   · simp at h
 · simp at h

noncomputable def G7 (P:Program) (KT:FuncId→Nat→Nat) (fu:Nat) (tab:List fL):List n7→aQ→FuncId→List AV→aa→Option (AV×aa)
 | [],c,f,args,H=>AB tab c f args H
 | r::rs,c,f,args,H=>if Nat.beq r.f f then Fl P KT fu r c args H else G7 P KT fu tab rs c f args H
theorem BX {P:Program} (hN:c8 P) (hD:kr P) (KT:FuncId→Nat→Nat) (fu:Nat) {tab:List fL} (hT:∀ e ∈ tab,bu P e):∀ (rs:List n7),(∀ r ∈ rs,r.Ok P)→uk P (G7 P KT fu tab rs)
 | [],_=>wx tab hT
 | r :: rs,hr=>fun call hC f args H v H' h hne p M w cargs hH hA=>by
   simp only[G7] at h
   split at h
   · rename_i hf
     have:=Nat.eq_of_beq_eq_true hf
     subst this
     exact Fm hN hD (hr r (by simp)) KT fu hC h hH hA
   · exact BX hN hD KT fu hT rs (fun q hq=>hr q (by simp[hq])) call hC f args H v H' h hne p M w cargs hH hA

end Go.Eng
end
section
namespace Go.Eng

theorem En {P:Program} {f:FuncId} {fn:Func} {c:Code} (hf:P.funcs[f]?=some fn) (hb:fn.body=some c) {args:List AV} (hle:args.length≤fn.ntmps) {H:aa} {e:Ex} {fr:ar} {l:aU} {H':aa} (he:e=.normal∨e=.ret)
 {j ver off sz len:Nat} {cap:Option Nat} {q:Row} (hv:gL P fr (l::H') fn.results.toList=some [.slc 0 j ver off sz len cap]) (hq:dF (l::H') 0 j ver=some q) (hl0:l.lock=false) (hl1:au H' 0=false) (hne:H'≠[])
 (hC:dz P Fence.wide none fn.ntmps c (fT 0 args) (⟨false,[]⟩::H) e fr (l::H')) {p:aA} {M:Mu} {w:World} {cargs:Array Value} (hH:aV p M H w) (hA:iM p M args cargs) :
 CallsIn Fence.wide 0 P f cargs w (pt p M H w (.slc 0 (ak H' 0) 0 off sz len cap) (bG H' 0 (.row (lr 1 q)))):=by
 refine callsIn_of_wp_marks hf hb trivial (hC w.heap.size p (dm M) _ w _ (xw hA hle) hH.down (by simp) rfl (Marks.nil _ _ _) (fun a' w' ⟨p',M',k1,k2,k3⟩=>?_)) rfl
 have main:LeavesInM Fence.wide 0 P fn a'.tmps (pt p M H w (.slc 0 (ak H' 0) 0 off sz len cap) (bG H' 0 (.row (lr 1 q)))) a'.defers .returning w':=by
  obtain ⟨rs,h1,h2,_,h3⟩:=k3
  rw[h1]
  refine nA (p:=p) (M:=dm M) (H:=⟨false,[]⟩::H) (w:=w) (p':=p') (M':=M') (H':=l::H') (fun w2 hE=>?_) rs w' h2 (fun r hr=>⟨(h3 r hr).1,(h3 r hr).2.2⟩) k1
  obtain ⟨cv,r1,r2⟩:=qP k2 hE.rel hv
  have r2':aj p' M' (.slc 0 j ver off sz len cap) cv:=r2
  cases r2' with
  | slc hm h5 h6 h7 h8 =>
    rename_i b o t x cc
    have mv:=hE.rel.move (d:=1) hq hm hl0 hl1 (by
     cases H' with
     | nil=>exact absurd rfl hne
     | cons y r=>simp) (by omega)
    have hE2:=hE.trans mv
    have hk:bG (cU (l::H') 0 j) 1 (.row (lr 1 q))=(⟨l.lock,(bW l.bs j ((aq (l::H') 0 j).1,.dead))⟩:aU)::bG H' 0 (.row (lr 1 q)):=rfl
    rw[hk] at hE2
    refine ⟨_,r1,_,rfl,⟨fun d i hl=>hE2.same (d+1) i (by omega) hl,fun d hl=>hE2.next (d+1) (by omega) hl⟩,_,_,hE2.pop,?_⟩
    refine .slc (b:=b) (o:=o) (t:=t) ?_ h5 h6 h7 h8
    show bc M' 1 (ak (l::H') 1) 0 (b,o,t) 1 (ak H' 0) 0=some (b,o,t)
    unfold bc
    exact if_pos ⟨rfl,rfl,rfl⟩
 rcases he with rfl | rfl
 · exact main
 · exact main

noncomputable def yO (P:Program) (KT:FuncId→Nat→Nat) (fu:Nat) (f:FuncId) (call:aQ) (args:List AV) (H:aa):Option (AV×aa) :=
 match P.funcs[f]? with
 | none=>none
 | some fn => match fn.body with
   | none=>none
   | some c=>if Nat.ble args.length fn.ntmps then
     match dp ⟨P,call,fu,f,fn.ntmps,KT f,none⟩ c (fT 0 args) (⟨false,[]⟩::H) with
     | some (e,fr,l::l1::H')=>(match e with
       | .normal | .ret=>match gL P fr (l::l1::H') fn.results.toList with
         | some [.slc 0 j ver off sz len cap]=>match dF (l::l1::H') 0 j ver with
           | some q=>if l.lock || l1.lock then none else some (.slc 0 l1.bs.length 0 off sz len cap,bG (l1::H') 0 (.row (lr 1 q)))
           | none=>none
         | _=>none
       | _=>none)
     | _=>none
     else none
theorem sL {P:Program} (hN:c8 P) (hD:kr P) {f:FuncId} (KT:FuncId→Nat→Nat) (fu:Nat) {call:aQ} (hC:cr P call) {args:List AV} {H:aa} {v:AV} {H':aa} (h:yO P KT fu f call args H=some (v,H'))
 {p:aA} {M:Mu} {w:World} {cargs:Array Value} (hH:aV p M H w) (hA:iM p M args cargs):(∃ fn,P.funcs[f]?=some fn∧fn.body.isNone=false)∧CallsIn Fence.wide 0 P f cargs w (pt p M H w v H'):=by
 unfold yO at h
 split at h
 · simp at h
 rename_i fn hf
 split at h
 · simp at h
 rename_i c hb
 split at h
 case isFalse=>simp at h
 rename_i hle
 split at h
 case h_2=>simp at h
 rename_i e fr l l1 H1 he
 rw[df] at he
 have hcode:=cB (cx:=⟨P,call,fu,f,fn.ntmps,KT f,none⟩) dq.wide hN hC (more hN hD hC _ _ rfl rfl dq.wide) _ _ _ _ _ _ he
 have fin:(e=.normal∨e=.ret)→(match gL P fr (l::l1::H1) fn.results.toList with
  | some [.slc 0 j ver off sz len cap]=>match dF (l::l1::H1) 0 j ver with
    | some q=>if l.lock || l1.lock then none else some (AV.slc 0 l1.bs.length 0 off sz len cap,bG (l1::H1) 0 (.row (lr 1 q)))
    | none=>none
  | _=>none)=some (v,H')→(∃ fn,P.funcs[f]?=some fn∧fn.body.isNone=false)∧CallsIn Fence.wide 0 P f cargs w (pt p M H w v H'):=fun he h=>by
  split at h
  case h_2=>simp at h
  rename_i j ver off sz len cap hv
  split at h
  case h_2=>simp at h
  rename_i q hq
  split at h
  case isTrue=>simp at h
  rename_i hlk
  simp only[Bool.or_eq_true,not_or,Bool.not_eq_true] at hlk
  simp only[nP] at h
  obtain ⟨rfl,rfl⟩:=h
  exact ⟨⟨fn,hf,by rw[hb];rfl⟩,En hf hb (by simpa using hle) he hv hq hlk.1 hlk.2 (by simp) hcode hH hA⟩
 split at h
 · exact fin (.inl rfl) h
 · exact fin (.inr rfl) h
 · simp at h

noncomputable def Jy (P:Program) (KT:FuncId→Nat→Nat) (fu:Nat) (tab:List fL) (rs:List n7) (os:List FuncId) (c:aQ) (f:FuncId) (args:List AV) (H:aa):Option (AV×aa) :=
 if os.any (fun g=>Nat.beq g f) then yO P KT fu f c args H else G7 P KT fu tab rs c f args H
theorem G6 {P:Program} (hN:c8 P) (hD:kr P) (KT:FuncId→Nat→Nat) (fu:Nat) {tab:List fL} (hT:∀ e ∈ tab,bu P e) {rs:List n7} (hr:∀ r ∈ rs,r.Ok P) (os:List FuncId):uk P (Jy P KT fu tab rs os) :=
 fun call hC f args H v H' h hne p M w cargs hH hA=>by
  unfold Jy at h
  split at h
  · exact sL hN hD KT fu hC h hH hA
  · exact BX hN hD KT fu hT rs hr call hC f args H v H' h hne p M w cargs hH hA
theorem cg {P:Program} (hN:c8 P) (hm:P.follows .mixedOrders=true) {tab:List fL} (hT:∀ e ∈ tab,bu P e) {rs:List n7} (hr:∀ r ∈ rs,r.Ok P) (os:List FuncId) (KT:FuncId→Nat→Nat) (fu n:Nat) {e:fL} {H':aa}
 (h:kB P (Jy P KT fu tab rs os) KT fu n (.fn e.f) e.args [⟨true,[]⟩]=some (e.v,H')) (hn:e.args.all (qK 9)=true):bu P e:=by
 rw[uw] at h
 exact yP (pz hN (vP hN hm) (G6 hN (vP hN hm) KT fu hT hr os) KT fu n) h hn
end Go.Eng
end
section
namespace Go.Eng

end Go.Eng
end
section
namespace Go.Eng
noncomputable section

def JG (base:bE) (d0 i0:Nat) (args0:List AV) (H0:aa) (u:Tr (AV×aa)):bE:=fun tgt args H=>match tgt with
 | .round d i=>cond (Nat.beq d d0 && Nat.beq i i0) (.reqP (qX args=args0∧H=H0) (u.bind fun y=>.ok ((y.1,none),y.2))) .bad
 | .fn g=>base (.fn g) args H
 | .mode=>base .mode args H
theorem sX {base:bE} {call:aQ} (h:base.Ok call) {d0 i0:Nat} {args0:List AV} {H0:aa} {u:Tr (AV×aa)} (k:∀ x,u.run=some x→call (.round d0 i0) args0 H0=some x):(JG base d0 i0 args0 H0 u).Ok call:=by
 refine ⟨h.1,fun tgt args H x hx=>?_⟩
 cases tgt with
 | fn g=>exact h.2 _ _ _ _ hx
 | mode=>exact h.2 _ _ _ _ hx
 | round d i =>
   unfold JG at hx
   obtain ⟨hc,hx2⟩:=Tr.aJ hx
   clear hx
   rw[Bool.and_eq_true] at hc
   have e1:=Nat.eq_of_beq_eq_true hc.1
   have e2:=Nat.eq_of_beq_eq_true hc.2
   subst e1;subst e2
   obtain ⟨⟨e3,e4⟩,hx3⟩:=Tr.cW hx2
   obtain ⟨y,h1,h2⟩:=Tr.bind_some hx3
   rw[e3,e4,k _ h1,← Tr.ab h2]

theorem Ft {P:Program} {ora:aQ→FuncId→List AV→aa→Option (AV×aa)} {KT:FuncId→Nat→Nat} {fu n d i:Nat} {args:List AV} {H H1 H2:aa} {l l1 l2:gV} {fr fr1 fr2:ar} {e:Ex} {lv:aU}
 (hg:aq H d i=(0,.loop l)) (hl:au H d=false) (hs:l.state=.ready) (hp:lB l.nt (mn (d+1) l.fr) l.params (args.map (fm 1))=some fr)
 (h1:exec ⟨P,cT P ora KT fu n,fu,l.fn,l.nt,KT l.fn,some (d+1,i)⟩ l.assign fr (⟨false,[]⟩::H)=some (.normal,fr1,H1)) (hg1:aq H1 (d+1) i=(0,.loop l1)) (hs1:l1.state=.ready)
 (h2:exec ⟨P,cT P ora KT fu n,fu,l.fn,l.nt,KT l.fn,some (d+1,i)⟩ l.body fr1 (ec H1 (d+1) i (0,.loop { l1 with state:=.busy }))=some (e,fr2,lv::H2)) (hg2:aq H2 d i=(0,.loop l2)) :
 cT P ora KT fu (n+1) (.round d i) args H=some (.bool (db e).isNone,ec H2 d i (0,.loop { l2 with state:=if (db e).isNone then .ready else .done,pending:=db e })):=by
 simp only[cT,hg,hl,Bool.false_eq_true,if_false,hs,hp,h1,hg1,hs1,h2,hg2]
theorem zb {cx:Cx} {f:Operand} {ps:Array Tmp} {as bd:Code} {fr:ar} {H H1:aa} {g:FuncId} {a b:List AV} {v:AV} {l:gV} {e:Ex} (hf:bH fr f=.fn (.func g) a b) (hh:cx.here H=true) (hl:au H 0=false)
 (hc:cx.call (.fn g) (a++(.yld 0 (an H)::b)) (gK fr H cx ps as bd)=some (v,H1)) (hg:aq H1 0 (an H)=(0,.loop l)) (hb:(l.state == .busy)=false) (he:r5 l.pending=some e) :
 exec cx (.rangeFunc f ps as bd) fr H=some (e,fr,cU H1 0 (an H)):=by
 unfold exec
 rw[hf]
 dsimp only
 rw[hh,hl]
 simp only[Bool.not_true,Bool.false_or,Bool.false_eq_true,if_false,hc,hg,hb,he]

end
end Go.Eng
end
section
namespace Go.Eng
noncomputable section

def Tr.all {α:Type} (T:Tr α) (Q:α→Prop):Prop:=∃ x,T.run=some x∧Q x
theorem Tr.bg {α:Type} {a:α} {Q:α→Prop} (h:Q a):(Tr.ok a).all Q:=⟨a,rfl,h⟩
theorem Tr.bj {α:Type} {c:Bool} {a b:Tr α} {Q:α→Prop} (h1:c=true→a.all Q) (h2:c=false→b.all Q):(Tr.ite c a b).all Q:=by
 cases c with
 | true=>exact h1 rfl
 | false=>exact h2 rfl
theorem Tr.cu {α:Type} {c:Bool} {a:Tr α} {Q:α→Prop} (h:c=true) (k:a.all Q):(Tr.req c a).all Q:=by
 subst h;exact k
theorem Tr.aY {α:Type} {p:Prop} {a:Tr α} {Q:α→Prop} (h:p) (k:a.all Q):(Tr.reqP p a).all Q:=by
 obtain ⟨x,h1,h2⟩:=k
 exact ⟨x,(Tr.Fy h).trans h1,h2⟩
theorem Jv (b:Bool):(ba b=true)=(b=false):=by rw[gU];cases b<;>simp
theorem Ju (b:Bool):(ba b=false)=(b=true):=by rw[gU];cases b<;>simp
theorem II (a b:Bool):(cM a b=true)=(a=true∧b=true):=by rw[n8];cases a<;>cases b<;>simp
theorem IH (a b:Bool):(cM a b=false)=¬ (a=true∧b=true):=by rw[n8];cases a<;>cases b<;>simp
theorem Le (x y:Int):(cq x y=true)=(x<y):=by rw[eY];simp
theorem Ld (x y:Int):(cq x y=false)=(y≤x):=by rw[eY];simp
theorem K8 (x y:Int):(lH x y=true)=(x≤y):=by rw[l5];simp
theorem K7 (x y:Int):(lH x y=false)=(y<x):=by rw[l5];simp
theorem KF (x y:Int):(cQ x y=true)=(x=y):=by rw[fW];simp
theorem KE (x y:Int):(cQ x y=false)=¬ (x=y):=by rw[fW];simp
theorem KW (x:Int) (n:Nat):(dv x n=true)=(0≤x∧x<(n:Int)):=by rw[pS];simp
theorem IL (x:Int) (n:Nat):(tJ x n=true)=(0≤x∧x≤(n:Int)):=by rw[Bb];simp
theorem Lg (x y:Nat):(c9 x y=true)=(x<y):=by rw[gf];simp
theorem Lf (x y:Nat):(c9 x y=false)=(y≤x):=by rw[gf];simp
theorem La (x y:Nat):(bY x y=true)=(x≤y):=by rw[kQ];simp
theorem K9 (x y:Nat):(bY x y=false)=(y<x):=by rw[kQ];simp
theorem KH (x y:Nat):(bM x y=true)=(x=y):=by rw[gz];simp
theorem KG (x y:Nat):(bM x y=false)=¬ (x=y):=by rw[gz];simp
theorem KX (o m p n:Nat):(iB o m p n=true)=(p≤o∧o+m≤p+n):=by rw[gG];simp
theorem j7 (x y:Int):ub x y=min x y:=by rw[BL];omega
theorem j6 (x y:Int):ua x y=max x y:=by rw[BK];omega
theorem Hj (m n b:Nat):(cF m n b=true)=((m+n)*b≤70368744177664∧m+n≤70368744177664):=by rw[zi];exact decide_eq_true_eq
theorem Lk (l c:Int) (b:Nat):(H6 l c b=true)=(0≤l∧l≤c∧c.toNat*b≤70368744177664∧c.toNat≤70368744177664):=by rw[Au];exact decide_eq_true_eq
theorem Ay (n:Nat):Int.ofNat n=(n:Int):=rfl
theorem yG:Int.negSucc 1=-2:=rfl
theorem wv:Int.negSucc 0=-1:=rfl
theorem yH:Int.negSucc 2=-3:=rfl
theorem Hy {x:Int} (h:0≤x):(x+1).toNat=x.toNat+1:=by omega
theorem po {k:Int} (h1:-9223372036854775808≤k) (h2:k≤9223372036854775807):IntKind.i64.wrap k=k:=Go.IntWalk.i64_in _ (by omega)

theorem nV:(∀ x y:Int,(cq x y=true)=(x<y)) ∧
 (∀ x y:Int,(cq x y=false)=(y≤x)) ∧
 (∀ x y:Int,(lH x y=true)=(x≤y)) ∧
 (∀ x y:Int,(lH x y=false)=(y<x)) ∧
 (∀ x y:Int,(cQ x y=true)=(x=y)) ∧
 (∀ x y:Int,(cQ x y=false)=¬ (x=y)) ∧
 (∀ b:Bool,(ba b=true)=(b=false)) ∧
 (∀ b:Bool,(ba b=false)=(b=true)) ∧
 (∀ a b:Bool,(cM a b=true)=(a=true∧b=true)) ∧
 (∀ a b:Bool,(cM a b=false)=¬ (a=true∧b=true)) ∧
 (∀ (x:Int) (n:Nat),(dv x n=true)=(0≤x∧x<(n:Int))) ∧
 (∀ (x:Int) (n:Nat),(tJ x n=true)=(0≤x∧x≤(n:Int))) ∧
 (∀ x y:Nat,(c9 x y=true)=(x<y)) ∧
 (∀ x y:Nat,(c9 x y=false)=(y≤x)) ∧
 (∀ x y:Nat,(bY x y=true)=(x≤y)) ∧
 (∀ x y:Nat,(bY x y=false)=(y<x)) ∧
 (∀ x y:Nat,(bM x y=true)=(x=y)) ∧
 (∀ x y:Nat,(bM x y=false)=¬ (x=y)) ∧
 (∀ o m p n:Nat,(iB o m p n=true)=(p≤o∧o+m≤p+n)) ∧
 (∀ m n b:Nat,(cF m n b=true)=((m+n)*b≤70368744177664∧m+n≤70368744177664)) ∧
 (∀ (l c:Int) (b:Nat),(H6 l c b=true)=(0≤l∧l≤c∧c.toNat*b≤70368744177664∧c.toNat≤70368744177664)) ∧
 (∀ x y:Int,ub x y=min x y) ∧
 (∀ x y:Int,ua x y=max x y) ∧
 (∀ (o:Nat) (i:Int) (s:Nat),ay o i s=o+i.toNat*s) ∧
 (∀ a b:Nat,bB a b=a+b) ∧
 (∀ a b:Nat,th a b=a-b) ∧
 (∀ i:Int,fy i=i.toNat) ∧
 (∀ (k:IntKind) (x y:Int),br k x y=k.wrap (x+y)) ∧
 (∀ (k:IntKind) (x y:Int),bP k x y=k.wrap (x-y)) ∧
 (∀ (k:IntKind) (x y:Int),yF k x y=k.wrap (x*y)) ∧
 (∀ n:Nat,Int.ofNat n=(n:Int)) ∧
 (Int.negSucc 0=-1) ∧
 (Int.negSucc 1=-2) ∧
 (Int.negSucc 2=-3) ∧
 (∀ {k:Int},-9223372036854775808≤k→k≤9223372036854775807→IntKind.i64.wrap k=k) ∧
 (∀ {x:Int},0≤x→(x+1).toNat=x.toNat+1) ∧
 ((0:Int).toNat=0) ∧
 (∀ n:Nat,0*n=0) ∧
 (∀ n:Nat,1*n=n) ∧
 (∀ n:Nat,(n:Int).toNat=n) ∧
 (((0:Nat):Int)=0) ∧
 (((1:Nat):Int)=1) ∧
 (∀ n:Nat,0+n=n) ∧
 ((¬ True)=False) ∧
 ((¬ False)=True) ∧
 ((true=false)=False) ∧
 ((false=true)=False) ∧
 ((!true)=false) ∧
 ((!false)=true) ∧
 (∀ p:Prop,(True∧p)=p) ∧
 (∀ p:Prop,(p∧True)=p) ∧
 (∀ p:Prop,(False∧p)=False) ∧
 (∀ p:Prop,(p∧False)=False) :=
 ⟨Le,Ld,K8,K7,KF,KE,Jv,Ju,II,IH,KW,IL,Lg,Lf,La,K9,KH,KG,KX,Hj,Lk,j7,j6,kO,bD,lg,qi,jj,mN,mI,Ay,wv,yG,yH,po,Hy,Int.toNat_zero,Nat.zero_mul,Nat.one_mul,Int.toNat_natCast,Int.natCast_zero,Int.natCast_one,Nat.zero_add,not_true_eq_false,not_false_eq_true,Bool.true_eq_false,Bool.false_eq_true,Bool.not_true,Bool.not_false,true_and,and_true,false_and,and_false⟩
theorem nW:(∀ a b:Nat,GU a b=a*b)∧(∀ {α:Type} (a:α),(a=a)=True)∧(∀ {n:Nat},((no_index (OfNat.ofNat n):Nat):Int)=OfNat.ofNat n):=⟨BO,fun a=>eq_self a,Int.cast_ofNat_Int⟩
theorem wF {p:Prop} (h:p:=by
  repeat' first | (refine Tr.bj (fun hc=>?_) (fun hc=>?_)<;>(try simp (disch:=omega) only[nV,nW] at hc)<;>try omega) | (refine Tr.cu ?_ ?_;· (try simp (disch:=omega) only[nV,nW]);try omega) | (refine Tr.aY ?_ ?_;· first | exact trivial | rfl | exact ⟨rfl,rfl⟩ | exact ⟨trivial,rfl⟩ | exact ⟨rfl,by assumption⟩ | exact ⟨rfl,rfl,rfl⟩ | (simp (disch:=omega) only[nV,nW];done) | ((try simp (disch:=omega) only[nV,nW]);omega)) | fail
  all_goals first
  | exact Tr.bg ⟨rfl,rfl⟩
  | exact Tr.bg rfl
  | fail):p:=h
theorem gq {c B:Code} {i:Nat} (h:((aN c).filter fun x=>Nat.beq x.1 i)=[(i,B)]):∀ b,(i,b) ∈ aN c→b=B:=by
  intro b hb
  have hm:(i,b) ∈ ((aN c).filter fun x=>Nat.beq x.1 i):=List.mem_filter.2 ⟨hb,Nat.beq_refl i⟩
  rw[h] at hm;simpa using hm
end
end Go.Eng
end
section
namespace Go.Eng
end Go.Eng
end
