/- The engine: a range over a map of a lower level that ends in one state: all levels but the own one are locked for the while. -/
import Derived.Test.YtigmfpmabgekoaaGreatV9EngRsx2
set_option linter.unusedVariables false
set_option linter.unusedSimpArgs false
section
namespace Go.Eng

noncomputable def kK (cx:Cx) (S:bK) (L:bm) (fr:av) (H:aa):Option (av×aa) :=
 match cR cx.P cx.nt cx.call S.ops0 S.pre fr H with
 | some (fr1,l1::r1)=>match bw fr1 S.m with
   | .map (d+1) i=>match au (l1::r1) (d+1) i with
     | (0,.map es) =>
       if l1.lock then none else
       let R:=aA r1
       let k:=ar (l1::r1)
       let s0:av×bx:=(dz cx.nt fr1 (some L.it) (.ptr 0 k 0 0),{ l1 with bs:=l1.bs++[(0,.dead)] })
       let kvs:=es.map fun e=>(gC (d+1) e.1,gC (d+1) e.2)
       match dw L cx k (k+1) R kvs s0 with
       | some t =>
         if sure L cx k (k+1) R kvs s0 t (s0::wg L cx k (k+1) R s0 kvs) (tj L cx k (k+1) R s0 t kvs 0) then
          match L.last cx t.1 (t.2::R) with
          | some (fr',l'::_)=>some (fr',l'::r1)
          | _=>none
         else none
       | none=>none
     | _=>none
   | _=>none
 | _=>none

theorem zW {cx:Cx} {F:Fence} (hFW:cT F) (hN:cH cx.P) (hC:bR cx.P cx.call) (hX:c7 cx F) {S:bK} {L:bm} (hS:S.Ok cx.P L) (hL:L.Ok) {fr fr':av} {H H':aa} (h:kK cx S L fr H=some (fr',H')) :
 da cx.P F cx.ro cx.nt (S.code L) fr H .normal fr' H':=by
 intro n0 p M a w Q hF hH hne hR hM hQ
 unfold kK at h
 rw[cA] at h
 split at h
 case h_2=>simp at h
 rename_i fr1 l1 r1 hro
 split at h
 case h_2=>simp at h
 rename_i d i hmap
 split at h
 case h_2=>simp at h
 rename_i es hg
 split at h
 · simp at h
 rename_i hl0
 simp only[Bool.not_eq_true] at hl0
 dsimp only at h
 split at h
 case h_2=>simp at h
 rename_i t hfold
 split at h
 case isFalse=>simp at h
 rename_i hsure
 split at h
 case h_2=>simp at h
 rename_i si lE RE hlast
 simp only[nP] at h
 obtain ⟨rfl,rfl⟩:=h
 refine wpIn_seq (wpIn_region_list ?_)
 rw[hS.l0]
 refine ga hFW hN hC _ _ _ _ _ hro p M a w hF hH hne (fun a1 w1 ⟨p1,M1,hE1,hF1,hd1⟩=>?_)
 unfold wpListIn
 rw[if_pos (by unfold Region.wanted;rw[hS.g0])]
 -- the map
 have hvm:=hF1.at_ S.m
 rw[hmap] at hvm
 obtain ⟨b,o,tt,hmu,hev⟩:∃ b o t,M1 (d+1) i 0=some (b,o,t)∧a1.tmps.getD S.m Go.undef=.map (some b):=by
  generalize a1.tmps.getD S.m Go.undef=z at hvm
  cases hvm
  rename_i b o t hm
  exact ⟨b,o,t,hm,rfl⟩
 obtain ⟨ces,clock,hb,hsz,hborn,hrel⟩:=so hE1.rel hg hmu
 have hev':a1.eval (.tmp S.m)=.map (some b):=hev
 obtain ⟨kt,et,hu⟩:=hS.t0
 have hrun:=_root_.Go.run_range_map (P:=cx.P) w1 S.ty kt et b ces clock hu hb
 refine j5 hFW (by rw[hS.o0];intro c h;cases h) (cv:=.pointer (some ⟨w1.heap.size,0,none⟩)) (w':=w1.alloc (.mapIter (some b) clock #[] clock)) (by simp only[execOp,hS.o0,hev'];simp[Sem.run_bind,hrun,Result.andThen]) ?_
 unfold wpListIn
 rw[hS.d0]
 -- the base of the loop
 obtain ⟨R,hRd⟩:∃ R,R=aA r1:=⟨_,rfl⟩
 obtain ⟨lb,hlbd⟩:∃ lb,lb=({ l1 with bs:=l1.bs++[(0,.dead)] }:bx):=⟨_,rfl⟩
 rw[← hlbd,← hRd] at hfold hsure
 rw[← hRd] at hlast
 have hH3:a8 p1 M1 (bP (l1::r1)) w1:=hE1.rel.same (ct _) (b7 _)
 have hne3:bP (l1::r1)≠[]:=by simp[bP]
 have hEp:=b9.pad hH3 hne3 1 (dg.refl _ _)
 have hpad:kD (bP (l1::r1)) 1=lb::R:=by rw[hlbd,hRd];rfl
 rw[hpad] at hEp
 have hRl:∀ d,az R d=true:=fun d=>by rw[hRd];exact bk _ _
 have hnx:ar (bP (l1::r1))=ar (l1::r1):=by
  rw[← aG,b7,aG]
 have hnb:ar (lb::R)=ar (l1::r1)+1:=by
  rw[← hpad,← aG,iP _ hne3,if_pos rfl,hnx]
 have hdead:(au (lb::R) 0 (ar (l1::r1))).2=.dead:=by
  rw[← hpad,dM]
  exact Classical.byContradiction fun hn=>by
   have:=gW hn
   rw[b7,aG] at this
   omega
 have hlb:az (lb::R) 0=false:=by rw[hlbd];exact hl0
 have hno:∀ v,M1 0 (ar (l1::r1)) v=none:=fun v=>by
  cases hx:M1 0 (ar (l1::r1)) v with
  | none=>rfl
  | some u =>
    have:=(hE1.rel.dom _ _ _ _ hx).1
    rw[aG] at this
    omega
 have hEn:=b9.name hEp.rel hdead (by rw[aG,hnb];omega) hno hlb (.mapIter (some b) clock #[] clock)
 have hkb:Go.Eng.bf M1 (lb::R) b:=by
  intro d' i' v' B' hg' hB' hl' o' t' hm'
  cases d' with
  | succ d' =>
    rw[show az (lb::R) (d'+1)=az R d' from rfl,hRl] at hl';cases hl'
  | zero =>
    rw[← hpad,dM,ct] at hg'
    have:=(hE1.rel.apart 0 i' v' B' (d+1) i 0 (.map es) b o' t' o tt hg' hB' hg (by simp) hm' hmu).1
    omega
 have hF2:=(hF1.mono hEn.pst hEn.mu).put (some L.it) (v:=.ptr 0 (ar (l1::r1)) 0 0) (c:=.pointer (some ⟨w1.heap.size,0,none⟩)) (.ptr (o:=0) (t:=0) (by simp[bh]))
 have hM2:Marks n0 (bh M1 0 (ar (l1::r1)) 0 (w1.heap.size,0,0)) (lb::R) (w1.alloc (.mapIter (some b) clock #[] clock)) (a1.put (some L.it) (.pointer (some ⟨w1.heap.size,0,none⟩))).defers:=by
  rw[put_defers,hd1]
  have m1:=hM.po hE1
  have m3:Marks n0 M1 (bP (l1::r1)) w1 a.defers:=by
   obtain ⟨rs,g1,g2,g0,g3⟩:=m1
   refine ⟨rs,g1,g2,g0,fun q hq=>⟨(g3 q hq).1,fun d' i' v' B' hg' hB' hl' o' t'=>?_,(g3 q hq).2.2⟩⟩
   rw[ct] at hg'
   cases d' with
   | zero=>exact (g3 q hq).2.1 0 i' v' B' hg' hB' hl0 o' t'
   | succ d' =>
     have:az (aA r1) d'=true:=bk _ _
     have h7:az (bP (l1::r1)) (d'+1)=az (aA r1) d':=rfl
     rw[h7,this] at hl';cases hl'
  exact (m3.po hEp).po hEn
 have hR2:nT F cx.ro M1:=hR.mono hE1.mu
 have hkvs:(es.map fun e=>(gC (d+1) e.1,gC (d+1) e.2)).length=es.length:=by simp
 -- what the check has shown
 have facts:∃ (X:av→bx→Prop) (j0:Nat),X (dz cx.nt fr1 (some L.it) (.ptr 0 (ar (l1::r1)) 0 0)) lb ∧
  (∀ f l,X f l→bw f L.it=.ptr 0 (ar (l1::r1)) 0 0) ∧
  (∀ f l,X f l→∀ j,j<(es.map fun e=>(gC (d+1) e.1,gC (d+1) e.2)).length→∃ f1 m1 R1,L.round cx (ar (l1::r1)) (ar (l1::r1)+1) ((es.map fun e=>(gC (d+1) e.1,gC (d+1) e.2)).getD j (.undef,.undef)) f (l::R)=some (f1,m1::R1)∧X f1 m1∧(j=j0→(f1,m1)=t)) ∧
  (∀ f l,(f,l)=t→∀ j,j<(es.map fun e=>(gC (d+1) e.1,gC (d+1) e.2)).length→∀ f1 m1 R1,L.round cx (ar (l1::r1)) (ar (l1::r1)+1) ((es.map fun e=>(gC (d+1) e.1,gC (d+1) e.2)).getD j (.undef,.undef)) f (l::R)=some (f1,m1::R1)→(f1,m1)=t) ∧
  (∀ f l,X f l→(0<(es.map fun e=>(gC (d+1) e.1,gC (d+1) e.2)).length→(f,l)=t)→(f,l)=t)∧(0<(es.map fun e=>(gC (d+1) e.1,gC (d+1) e.2)).length→j0<(es.map fun e=>(gC (d+1) e.1,gC (d+1) e.2)).length):=by
  generalize (es.map fun e=>(gC (d+1) e.1,gC (d+1) e.2))=kvs at hsure ⊢
  unfold sure at hsure
  split at hsure
  · simp only[Bool.and_eq_true] at hsure
    have e1:=xj _ _ hsure.1
    refine ⟨fun f l=>(f,l)=t,0,e1,fun f l hx=>?_,fun f l _ j hj=>absurd hj (by simp),fun f l _ j hj=>absurd hj (by simp),fun f l hx _=>hx,fun hp=>absurd hp (by simp)⟩
    have:f=(dz cx.nt fr1 (some L.it) (.ptr 0 (ar (l1::r1)) 0 0)):=by rw[← e1] at hx;exact (Prod.mk.inj hx).1
    rw[this];exact fk hsure.2
  · simp only[Bool.and_eq_true] at hsure
    obtain ⟨h1,h2,h3,h4⟩:=hsure
    have hj:tj L cx (ar (l1::r1)) (ar (l1::r1)+1) R (dz cx.nt fr1 (some L.it) (.ptr 0 (ar (l1::r1)) 0 0),lb) t kvs 0<kvs.length:=by
     have:=Nat.le_of_ble_eq_true h4;omega
    have mem:∀ j,j<kvs.length→kvs.getD j (.undef,.undef) ∈ kvs:=fun j hj=>by
     rw[List.getD_eq_getElem?_getD,List.getElem?_eq_getElem hj];simp
    refine ⟨fun f l=>(f,l) ∈ ((dz cx.nt fr1 (some L.it) (.ptr 0 (ar (l1::r1)) 0 0),lb)::wg L cx (ar (l1::r1)) (ar (l1::r1)+1) R (dz cx.nt fr1 (some L.it) (.ptr 0 (ar (l1::r1)) 0 0),lb) kvs),
     tj L cx (ar (l1::r1)) (ar (l1::r1)+1) R (dz cx.nt fr1 (some L.it) (.ptr 0 (ar (l1::r1)) 0 0),lb) t kvs 0,by simp,fun f l hx=>?_,fun f l hx j hjl=>?_,fun f l he j hjl f1 m1 R1 hr=>?_,fun f l _ hp=>hp (by omega),fun _=>hj⟩
    · have:=List.all_eq_true.1 h2 _ hx
      simp only[Bool.and_eq_true] at this
      exact fk this.1
    · have:=List.all_eq_true.1 h2 _ hx
      simp only[Bool.and_eq_true] at this
      obtain ⟨_,g2,g3⟩:=this
      obtain ⟨s,hs,he⟩:=y8 (List.all_eq_true.1 g2 _ (mem j hjl))
      obtain ⟨R1,hr⟩:=fZ he
      refine ⟨s.1,s.2,R1,hr,hs,fun hjj=>?_⟩
      rw[← hjj] at g3
      have:=sk g3
      rw[he] at this
      exact Option.some.inj this
    · have:=sk (List.all_eq_true.1 h3 _ (mem j hjl))
      rw[← he] at this
      obtain ⟨R2,hr2⟩:=fZ this
      dsimp only at hr2
      rw[hr] at hr2
      simp only[Option.some.injEq,Prod.mk.injEq,List.cons.injEq] at hr2
      rw[hr2.1,hr2.2.1]
      first | done | rfl | exact he | (rw[← he])
 obtain ⟨X,j0,x1,x2,x3,x4,x5,x6⟩:=facts
 have hit:L.it<cx.nt:=by
  refine Nat.lt_of_not_le fun hle=>?_
  have h7:=x2 _ _ x1
  have h8:=hF2.at_ L.it
  rw[h7] at h8
  have:(a1.put (some L.it) (.pointer (some ⟨w1.heap.size,0,none⟩))).tmps.getD L.it Go.undef=Go.undef:=by
   have hs:=hF2.size
   rw[Array.getD_eq_getD_getElem?,Array.getElem?_eq_none (by omega)];rfl
  rw[this] at h8
  cases h8
 have hslot:(a1.put (some L.it) (.pointer (some ⟨w1.heap.size,0,none⟩))).tmps.getD L.it Go.undef=.pointer (some ⟨w1.heap.size,0,none⟩):=by
  have hs:=hF1.size
  simp[Act.put,hs,hit]
 refine zp hFW hN hC hX hL hit (X:=X) (S:=fun f l=>(f,l)=t) (R:=R) hRl x2 x3 x4 (fun f l hx hp=>?_) x6 rfl hEp.rel hnb (by simp) hR2 hkb hb hborn (by rw[hkvs];exact hsz) ?_ (Nat.le_refl _) hEn hF2 hM2 x1 (World.alloc_heap_new _ _) hslot (fun a' w' hnow=>?_) (fr':=si) (H':=lE::RE)
 · have:=x5 f l hx hp
   rw[← this] at hlast
   exact hlast
 · intro j hj
   have hj2:j<es.length:=by rw[← hsz];exact hj
   have:=hrel j hj
   have e1:(es.map fun e=>(gC (d+1) e.1,gC (d+1) e.2)).getD j (.undef,.undef)=(gC (d+1) (es.getD j (.undef,.undef)).1,gC (d+1) (es.getD j (.undef,.undef)).2):=by
    simp[List.getD_eq_getElem?_getD,List.getElem?_eq_getElem hj2]
   rw[e1]
   exact ⟨this.1.up,this.2.up⟩
 · obtain ⟨p',M',e1,e2,e3⟩:=hnow
   have e4:b9 p1 M1 (bP (l1::r1)) w1 p' M' (lE::RE) w':=hEp.trans e1
   have hRE:RE=aA r1:=by
    refine kF _ _ (by have:=e4.len;simpa[bP,cr] using this) (fun d' i'=>?_) (fun d'=>?_) (fun d'=>?_)
    · exact e4.same (d'+1) i' (by omega) (bk r1 d')
    · exact e4.next (d'+1) (by omega) (bk r1 d')
    · exact e4.lock (d'+1)
   rw[hRE] at e4 e3
   have e5:=b9.unlock hE1.rel hl0 e4
   have e7:=hE1.trans e5
   refine hQ a' w' ⟨p',M',e7,e2,?_⟩
   obtain ⟨rs,g1,g2,g0,g3⟩:=e3
   refine ⟨rs,g1,g2,g0,fun q hq=>⟨(g3 q hq).1,?_,(g3 q hq).2.2⟩⟩
   -- a mark is kept: it is no block that is known
   intro d' i' v' B' hg' hB' hl' o' t' hm'
   obtain ⟨b2,o2,t2,k1,k2,_⟩:=e7.rel.live d' i' v' B' hg' hB'
   rw[hm'] at k1
   simp only[nP] at k1
   obtain ⟨rfl,_,_⟩:=k1
   have hq1:=(g3 q hq).1
   cases B' with
   | dead=>exact hB' rfl
   | row r=>obtain ⟨_,_,e,_⟩:=k2;rw[hq1] at e;simp at e
   | map es=>obtain ⟨_,_,e,_⟩:=k2;rw[hq1] at e;simp at e
   | fmap kq f g c=>obtain ⟨_,_,_,_,e,_⟩:=k2;rw[hq1] at e;simp at e
   | loop l=>obtain ⟨_,e,_⟩:=k2;rw[hq1] at e;simp at e

noncomputable def kJ (cx:Cx) (S:bK) (L:bm) (fr:av) (H:aa):Option (av×aa) :=
 match mU cx S L fr H with
 | some x=>some x
 | none=>kK cx S L fr H
theorem nL {cx:Cx} {F:Fence} (hFW:cT F) (hN:cH cx.P) (hC:bR cx.P cx.call) (hX:c7 cx F) {S:bK} {L:bm} (hS:S.Ok cx.P L) (hL:L.Ok) {fr fr':av} {H H':aa} (h:kJ cx S L fr H=some (fr',H')) :
 da cx.P F cx.ro cx.nt (S.code L) fr H .normal fr' H':=by
 unfold kJ at h
 split at h
 · rename_i x e
   simp only[Option.some.injEq] at h
   subst h
   exact Be hFW hN hC hX hS hL e
 · exact zW hFW hN hC hX hS hL h
end Go.Eng
end
section
namespace Go.Eng

def assemble:List Code→Code→Code→Code
 | [],C,suf=>.seq C suf
 | c::r,C,suf=>.seq c (assemble r C suf)
structure ql where
 f:FuncId
 pre:List Code
 S:bK
 L:bm
 suf:Code
def ql.Ok (P:Program) (r:ql):Prop:=(∃ fn,P.funcs[r.f]?=some fn∧fn.body=some (assemble r.pre (r.S.code r.L) r.suf))∧r.S.Ok P r.L∧r.L.Ok

noncomputable def pieces (cx:Cx) (S:bK) (L:bm) (suf:Code):List Code→av→aa→Option (Ex×av×aa)
 | [],fr,H=>match kJ cx S L fr H with
   | some (fr,H)=>dh cx suf fr H
   | none=>none
 | c::r,fr,H=>match dh cx c fr H with
   | some (.normal,fr,H)=>pieces cx S L suf r fr H
   | x=>x

theorem pb {cx:Cx} {F:Fence} {x y:Code} {fr fr1 fr':av} {H H1 H':aa} {e:Ex} (hx:da cx.P F cx.ro cx.nt x fr H .normal fr1 H1) (hy:da cx.P F cx.ro cx.nt y fr1 H1 e fr' H'):da cx.P F cx.ro cx.nt (.seq x y) fr H e fr' H' :=
 fun n0 p M a w Q hF hH hne hR hM hQ=>wpIn_seq (hx n0 p M a w _ hF hH hne hR hM (fun a1 w1 ⟨p1,M1,k1,k2,k3⟩=>hy n0 p1 M1 a1 w1 Q k2 k1.rel (k1.ne hne) (hR.mono k1.mu) k3 (fun a2 w2 h2=>hQ a2 w2 (Eg.trans k1 h2))))
theorem pc {cx:Cx} {F:Fence} {x y:Code} {fr fr':av} {H H':aa} {e:Ex} (he:e≠.normal) (hx:da cx.P F cx.ro cx.nt x fr H e fr' H'):da cx.P F cx.ro cx.nt (.seq x y) fr H e fr' H' :=
 fun n0 p M a w Q hF hH hne hR hM hQ=>wpIn_seq (hx n0 p M a w _ hF hH hne hR hM (fun a1 w1 hn=>by
  have:=hQ a1 w1 hn
  cases e<;>first | exact absurd rfl he | exact this))

theorem wx {cx:Cx} {F:Fence} (hFW:cT F) (hN:cH cx.P) (hC:bR cx.P cx.call) (hX:c7 cx F) {S:bK} {L:bm} {suf:Code} (hS:S.Ok cx.P L) (hL:L.Ok):∀ (pre:List Code) (fr:av) (H:aa) (e:Ex) (fr':av) (H':aa),
 pieces cx S L suf pre fr H=some (e,fr',H')→da cx.P F cx.ro cx.nt (assemble pre (S.code L) suf) fr H e fr' H'
 | [],fr,H,e,fr',H',h=>by
   simp only[pieces] at h
   cases hr:kJ cx S L fr H with
   | none=>rw[hr] at h;simp at h
   | some q =>
     obtain ⟨fr1,H1⟩:=q
     rw[hr] at h
     dsimp only at h
     rw[dK] at h
     exact pb (nL hFW hN hC hX hS hL hr) (cB hFW hN hC hX _ _ _ _ _ _ h)
 | c :: r,fr,H,e,fr',H',h=>by
   simp only[pieces] at h
   rw[dK] at h
   cases hx:exec cx c fr H with
   | none=>rw[hx] at h;simp at h
   | some q =>
     obtain ⟨e1,fr1,H1⟩:=q
     rw[hx] at h
     have h1:=cB hFW hN hC hX _ _ _ _ _ _ hx
     cases e1 with
     | normal=>exact pb h1 (wx hFW hN hC hX hS hL r fr1 H1 e fr' H' h)
     | _ =>
       simp only[nP] at h
       obtain ⟨rfl,rfl,rfl⟩:=h
       exact pc (by simp) h1

noncomputable def FZ (P:Program) (KT:FuncId→Nat→Nat) (fu:Nat) (r:ql) (call:aU) (args:List AV) (H:aa):Option (AV×aa) :=
 match P.funcs[r.f]? with
 | none=>none
 | some fn=>if Nat.ble args.length fn.ntmps then
   match pieces ⟨P,call,fu,r.f,fn.ntmps,KT r.f,none⟩ r.S r.L r.suf r.pre (dX 0 args) (⟨false,[]⟩::H) with
   | some (e,fr,l::H')=>(match e with
     | .normal | .ret=>match eS P fr (l::H') fn.results.toList with
       | some vs=>some (cX l.bs 5 (one vs),H')
       | none=>none
     | _=>none)
   | _=>none
   else none

theorem F0 {P:Program} (hN:cH P) (hD:ir P) {r:ql} (hr:r.Ok P) (KT:FuncId→Nat→Nat) (fu:Nat) {call:aU} (hC:bR P call) {args:List AV} {H:aa} {v:AV} {H':aa} (h:FZ P KT fu r call args H=some (v,H'))
 {p:aJ} {M:Mu} {w:World} {cargs:Array Value} (hH:a8 p M H w) (hA:gD p M args cargs):(∃ fn,P.funcs[r.f]?=some fn∧fn.body.isNone=false)∧CallsIn Fence.wide 0 P r.f cargs w (jT p M H w v H'):=by
 obtain ⟨⟨fn,hf,hb⟩,hS,hL⟩:=hr
 unfold FZ at h
 rw[hf] at h
 dsimp only at h
 split at h
 · rename_i hle
   split at h
   · rename_i e fr l H1 he
     have hcode:=wx (cx:=⟨P,call,fu,r.f,fn.ntmps,KT r.f,none⟩) cT.wide hN hC (more hN hD hC _ _ rfl rfl cT.wide) hS hL _ _ _ _ _ _ he
     split at h
     · cases hv:eS P fr (l::H1) fn.results.toList with
       | none=>rw[hv] at h;simp at h
       | some vs =>
         rw[hv] at h
         simp only[nP] at h
         obtain ⟨rfl,rfl⟩:=h
         exact ⟨⟨fn,hf,by rw[hb];rfl⟩,iW hf hb (by simpa using hle) (.inl rfl) hv hcode hH hA⟩
     · cases hv:eS P fr (l::H1) fn.results.toList with
       | none=>rw[hv] at h;simp at h
       | some vs =>
         rw[hv] at h
         simp only[nP] at h
         obtain ⟨rfl,rfl⟩:=h
         exact ⟨⟨fn,hf,by rw[hb];rfl⟩,iW hf hb (by simpa using hle) (.inr rfl) hv hcode hH hA⟩
     · simp at h
   · simp at h
 · simp at h

noncomputable def HZ (P:Program) (KT:FuncId→Nat→Nat) (fu:Nat) (tab:List jx):List ql→aU→FuncId→List AV→aa→Option (AV×aa)
 | [],c,f,args,H=>Ba tab c f args H
 | r::rs,c,f,args,H=>if Nat.beq r.f f then FZ P KT fu r c args H else HZ P KT fu tab rs c f args H
theorem CB {P:Program} (hN:cH P) (hD:ir P) (KT:FuncId→Nat→Nat) (fu:Nat) {tab:List jx} (hT:∀ e ∈ tab,cj P e):∀ (rs:List ql),(∀ r ∈ rs,r.Ok P)→vt P (HZ P KT fu tab rs)
 | [],_=>xH tab hT
 | r :: rs,hr=>fun call hC f args H v H' h hne p M w cargs hH hA=>by
   simp only[HZ] at h
   split at h
   · rename_i hf
     have:=Nat.eq_of_beq_eq_true hf
     subst this
     exact F0 hN hD (hr r (by simp)) KT fu hC h hH hA
   · exact CB hN hD KT fu hT rs (fun q hq=>hr q (by simp[hq])) call hC f args H v H' h hne p M w cargs hH hA

end Go.Eng
end
section
namespace Go.Eng

theorem Fh {P:Program} {f:FuncId} {fn:Func} {c:Code} (hf:P.funcs[f]?=some fn) (hb:fn.body=some c) {args:List AV} (hle:args.length≤fn.ntmps) {H:aa} {e:Ex} {fr:av} {l:bx} {H':aa} (he:e=.normal∨e=.ret)
 {j ver off sz len:Nat} {cap:Option Nat} {q:Row} (hv:eS P fr (l::H') fn.results.toList=some [.slc 0 j ver off sz len cap]) (hq:dp (l::H') 0 j ver=some q) (hl0:l.lock=false) (hl1:az H' 0=false) (hne:H'≠[])
 (hC:da P Fence.wide none fn.ntmps c (dX 0 args) (⟨false,[]⟩::H) e fr (l::H')) {p:aJ} {M:Mu} {w:World} {cargs:Array Value} (hH:a8 p M H w) (hA:gD p M args cargs) :
 CallsIn Fence.wide 0 P f cargs w (jT p M H w (.slc 0 (ah H' 0) 0 off sz len cap) (bC H' 0 (.row (jG 1 q)))):=by
 refine callsIn_of_wp_marks hf hb trivial (hC w.heap.size p (dj M) _ w _ (sK hA hle) hH.down (by simp) rfl (Marks.nil _ _ _) (fun a' w' ⟨p',M',k1,k2,k3⟩=>?_)) rfl
 have main:LeavesInM Fence.wide 0 P fn a'.tmps (jT p M H w (.slc 0 (ah H' 0) 0 off sz len cap) (bC H' 0 (.row (jG 1 q)))) a'.defers .returning w':=by
  obtain ⟨rs,h1,h2,_,h3⟩:=k3
  rw[h1]
  refine lx (p:=p) (M:=dj M) (H:=⟨false,[]⟩::H) (w:=w) (p':=p') (M':=M') (H':=l::H') (fun w2 hE=>?_) rs w' h2 (fun r hr=>⟨(h3 r hr).1,(h3 r hr).2.2⟩) k1
  obtain ⟨cv,r1,r2⟩:=mV k2 hE.rel hv
  have r2':ai p' M' (.slc 0 j ver off sz len cap) cv:=r2
  cases r2' with
  | slc hm h5 h6 h7 h8 =>
    rename_i b o t x cc
    have mv:=hE.rel.move (d:=1) hq hm hl0 hl1 (by
     cases H' with
     | nil=>exact absurd rfl hne
     | cons y r=>simp) (by omega)
    have hE2:=hE.trans mv
    have hk:bC (cI (l::H') 0 j) 1 (.row (jG 1 q))=(⟨l.lock,(bN l.bs j ((au (l::H') 0 j).1,.dead))⟩:bx)::bC H' 0 (.row (jG 1 q)):=rfl
    rw[hk] at hE2
    refine ⟨_,r1,_,rfl,⟨fun d i hl=>hE2.same (d+1) i (by omega) hl,fun d hl=>hE2.next (d+1) (by omega) hl⟩,_,_,hE2.pop,?_⟩
    refine .slc (b:=b) (o:=o) (t:=t) ?_ h5 h6 h7 h8
    show bh M' 1 (ah (l::H') 1) 0 (b,o,t) 1 (ah H' 0) 0=some (b,o,t)
    unfold bh
    exact if_pos ⟨rfl,rfl,rfl⟩
 rcases he with rfl | rfl
 · exact main
 · exact main

noncomputable def Cy (P:Program) (KT:FuncId→Nat→Nat) (fu:Nat) (f:FuncId) (call:aU) (args:List AV) (H:aa):Option (AV×aa) :=
 match P.funcs[f]? with
 | none=>none
 | some fn => match fn.body with
   | none=>none
   | some c=>if Nat.ble args.length fn.ntmps then
     match dh ⟨P,call,fu,f,fn.ntmps,KT f,none⟩ c (dX 0 args) (⟨false,[]⟩::H) with
     | some (e,fr,l::l1::H')=>(match e with
       | .normal | .ret=>match eS P fr (l::l1::H') fn.results.toList with
         | some [.slc 0 j ver off sz len cap]=>match dp (l::l1::H') 0 j ver with
           | some q=>if l.lock || l1.lock then none else some (.slc 0 l1.bs.length 0 off sz len cap,bC (l1::H') 0 (.row (jG 1 q)))
           | none=>none
         | _=>none
       | _=>none)
     | _=>none
     else none
theorem zJ {P:Program} (hN:cH P) (hD:ir P) {f:FuncId} (KT:FuncId→Nat→Nat) (fu:Nat) {call:aU} (hC:bR P call) {args:List AV} {H:aa} {v:AV} {H':aa} (h:Cy P KT fu f call args H=some (v,H'))
 {p:aJ} {M:Mu} {w:World} {cargs:Array Value} (hH:a8 p M H w) (hA:gD p M args cargs):(∃ fn,P.funcs[f]?=some fn∧fn.body.isNone=false)∧CallsIn Fence.wide 0 P f cargs w (jT p M H w v H'):=by
 unfold Cy at h
 split at h
 · simp at h
 rename_i fn hf
 split at h
 · simp at h
 rename_i c hb
 split at h
 case isFalse=>simp at h
 rename_i hle
 split at h
 case h_2=>simp at h
 rename_i e fr l l1 H1 he
 rw[dK] at he
 have hcode:=cB (cx:=⟨P,call,fu,f,fn.ntmps,KT f,none⟩) cT.wide hN hC (more hN hD hC _ _ rfl rfl cT.wide) _ _ _ _ _ _ he
 have fin:(e=.normal∨e=.ret)→(match eS P fr (l::l1::H1) fn.results.toList with
  | some [.slc 0 j ver off sz len cap]=>match dp (l::l1::H1) 0 j ver with
    | some q=>if l.lock || l1.lock then none else some (AV.slc 0 l1.bs.length 0 off sz len cap,bC (l1::H1) 0 (.row (jG 1 q)))
    | none=>none
  | _=>none)=some (v,H')→(∃ fn,P.funcs[f]?=some fn∧fn.body.isNone=false)∧CallsIn Fence.wide 0 P f cargs w (jT p M H w v H'):=fun he h=>by
  split at h
  case h_2=>simp at h
  rename_i j ver off sz len cap hv
  split at h
  case h_2=>simp at h
  rename_i q hq
  split at h
  case isTrue=>simp at h
  rename_i hlk
  simp only[Bool.or_eq_true,not_or,Bool.not_eq_true] at hlk
  simp only[nP] at h
  obtain ⟨rfl,rfl⟩:=h
  exact ⟨⟨fn,hf,by rw[hb];rfl⟩,Fh hf hb (by simpa using hle) he hv hq hlk.1 hlk.2 (by simp) hcode hH hA⟩
 split at h
 · exact fin (.inl rfl) h
 · exact fin (.inr rfl) h
 · simp at h

noncomputable def Kv (P:Program) (KT:FuncId→Nat→Nat) (fu:Nat) (tab:List jx) (rs:List ql) (os:List FuncId) (c:aU) (f:FuncId) (args:List AV) (H:aa):Option (AV×aa) :=
 if os.any (fun g=>Nat.beq g f) then Cy P KT fu f c args H else HZ P KT fu tab rs c f args H
theorem HY {P:Program} (hN:cH P) (hD:ir P) (KT:FuncId→Nat→Nat) (fu:Nat) {tab:List jx} (hT:∀ e ∈ tab,cj P e) {rs:List ql} (hr:∀ r ∈ rs,r.Ok P) (os:List FuncId):vt P (Kv P KT fu tab rs os) :=
 fun call hC f args H v H' h hne p M w cargs hH hA=>by
  unfold Kv at h
  split at h
  · exact zJ hN hD KT fu hC h hH hA
  · exact CB hN hD KT fu hT rs hr call hC f args H v H' h hne p M w cargs hH hA
theorem er {P:Program} (hN:cH P) (hm:P.follows .mixedOrders=true) {tab:List jx} (hT:∀ e ∈ tab,cj P e) {rs:List ql} (hr:∀ r ∈ rs,r.Ok P) (os:List FuncId) (KT:FuncId→Nat→Nat) (fu n:Nat) {e:jx} {H':aa}
 (h:kY P (Kv P KT fu tab rs os) KT fu n (.fn e.f) e.args [⟨true,[]⟩]=some (e.v,H')) (hn:e.args.all (rN 9)=true):cj P e:=by
 rw[vC] at h
 exact zK (qo hN (xg hN hm) (HY hN (xg hN hm) KT fu hT hr os) KT fu n) h hn
end Go.Eng
end
section
namespace Go.Eng

theorem DC {P:Program} {f:FuncId} {fn:Func} {c:Code} (hf:P.funcs[f]?=some fn) (hb:fn.body=some c) {args:List AV} (hle:args.length≤fn.ntmps) {H:aa} {e:Ex} {fr:av} {l:bx} {H':aa} (he:e=.normal∨e=.ret) {v0:AV}
 {j ver off sz len:Nat} {cap:Option Nat} {q:Row} (hv:eS P fr (l::H') fn.results.toList=some [v0,.slc 0 j ver off sz len cap]) (hq:dp (l::H') 0 j ver=some q) (hl0:l.lock=false) (hl1:az H' 0=false) (hne:H'≠[])
 (hC:da P Fence.wide none fn.ntmps c (dX 0 args) (⟨false,[]⟩::H) e fr (l::H')) {p:aJ} {M:Mu} {w:World} {cargs:Array Value} (hH:a8 p M H w) (hA:gD p M args cargs) :
 CallsIn Fence.wide 0 P f cargs w (jT p M H w (cX (bN l.bs j ((au (l::H') 0 j).1,.dead)) 5 (.tup [v0,.slc 1 (ah H' 0) 0 off sz len cap])) (bC H' 0 (.row (jG 1 q)))):=by
 refine callsIn_of_wp_marks hf hb trivial (hC w.heap.size p (dj M) _ w _ (sK hA hle) hH.down (by simp) rfl (Marks.nil _ _ _) (fun a' w' ⟨p',M',k1,k2,k3⟩=>?_)) rfl
 have main:LeavesInM Fence.wide 0 P fn a'.tmps (jT p M H w (cX (bN l.bs j ((au (l::H') 0 j).1,.dead)) 5 (.tup [v0,.slc 1 (ah H' 0) 0 off sz len cap])) (bC H' 0 (.row (jG 1 q)))) a'.defers .returning w':=by
  obtain ⟨rs,h1,h2,_,h3⟩:=k3
  rw[h1]
  refine lx (p:=p) (M:=dj M) (H:=⟨false,[]⟩::H) (w:=w) (p':=p') (M':=M') (H':=l::H') (fun w2 hE=>?_) rs w' h2 (fun r hr=>⟨(h3 r hr).1,(h3 r hr).2.2⟩) k1
  obtain ⟨cv,r1,r2⟩:=mV k2 hE.rel hv
  have r2':ai p' M' (.tup [v0,.slc 0 j ver off sz len cap]) cv:=r2
  cases r2' with
  | tup hs hvv =>
    rename_i cs
    have e0:=hvv 0 (by simp)
    have e1:=hvv 1 (by simp)
    simp only[List.getD_cons_zero,List.getD_cons_succ] at e0 e1
    generalize hc1:cs.getD 1 undef=c1 at e1
    cases e1 with
    | slc hm h5 h6 h7 h8 =>
      rename_i b o t x cc
      have mv:=hE.rel.move (d:=1) hq hm hl0 hl1 (by
       cases H' with
       | nil=>exact absurd rfl hne
       | cons y r=>simp) (by omega)
      have hE2:=hE.trans mv
      have hk:bC (cI (l::H') 0 j) 1 (.row (jG 1 q))=(⟨l.lock,(bN l.bs j ((au (l::H') 0 j).1,.dead))⟩:bx)::bC H' 0 (.row (jG 1 q)):=rfl
      rw[hk] at hE2
      refine ⟨_,r1,_,rfl,⟨fun d i hl=>hE2.same (d+1) i (by omega) hl,fun d hl=>hE2.next (d+1) (by omega) hl⟩,_,_,hE2.pop,?_⟩
      have:=xu hE2.rel 5 (.tup [v0,.slc 1 (ah H' 0) 0 off sz len cap]) (.tuple cs) (.tup (by simpa using hs) (fun j2 hj2=>by
       have h01:j2=0∨j2=1:=by simp at hj2;omega
       rcases h01 with rfl | rfl
       · simp only[List.getD_cons_zero]
         exact e0.mono (aJ.le.refl _) mv.mu
       · simp only[List.getD_cons_zero,List.getD_cons_succ]
         rw[hc1]
         refine .slc (b:=b) (o:=o) (t:=t) ?_ h5 h6 h7 h8
         show bh M' 1 (ah (l::H') 1) 0 (b,o,t) 1 (ah H' 0) 0=some (b,o,t)
         unfold bh
         exact if_pos ⟨rfl,rfl,rfl⟩))
      exact this
 rcases he with rfl | rfl
 · exact main
 · exact main

noncomputable def A6 (P:Program) (KT:FuncId→Nat→Nat) (fu:Nat) (f:FuncId) (call:aU) (args:List AV) (H:aa):Option (AV×aa) :=
 match P.funcs[f]? with
 | none=>none
 | some fn => match fn.body with
   | none=>none
   | some c=>if Nat.ble args.length fn.ntmps then
     match dh ⟨P,call,fu,f,fn.ntmps,KT f,none⟩ c (dX 0 args) (⟨false,[]⟩::H) with
     | some (e,fr,l::l1::H')=>(match e with
       | .normal | .ret=>match eS P fr (l::l1::H') fn.results.toList with
         | some [v0,.slc 0 j ver off sz len cap]=>match dp (l::l1::H') 0 j ver with
           | some q=>if l.lock || l1.lock then none else some (cX (bN l.bs j ((au (l::l1::H') 0 j).1,.dead)) 5 (.tup [v0,.slc 1 l1.bs.length 0 off sz len cap]),bC (l1::H') 0 (.row (jG 1 q)))
           | none=>none
         | _=>none
       | _=>none)
     | _=>none
     else none
theorem DQ {P:Program} (hN:cH P) (hD:ir P) {f:FuncId} (KT:FuncId→Nat→Nat) (fu:Nat) {call:aU} (hC:bR P call) {args:List AV} {H:aa} {v:AV} {H':aa} (h:A6 P KT fu f call args H=some (v,H'))
 {p:aJ} {M:Mu} {w:World} {cargs:Array Value} (hH:a8 p M H w) (hA:gD p M args cargs):(∃ fn,P.funcs[f]?=some fn∧fn.body.isNone=false)∧CallsIn Fence.wide 0 P f cargs w (jT p M H w v H'):=by
 unfold A6 at h
 split at h
 · simp at h
 rename_i fn hf
 split at h
 · simp at h
 rename_i c hb
 split at h
 case isFalse=>simp at h
 rename_i hle
 split at h
 case h_2=>simp at h
 rename_i e fr l l1 H1 he
 rw[dK] at he
 have hcode:=cB (cx:=⟨P,call,fu,f,fn.ntmps,KT f,none⟩) cT.wide hN hC (more hN hD hC _ _ rfl rfl cT.wide) _ _ _ _ _ _ he
 have fin:(e=.normal∨e=.ret)→(match eS P fr (l::l1::H1) fn.results.toList with
  | some [v0,.slc 0 j ver off sz len cap]=>match dp (l::l1::H1) 0 j ver with
    | some q=>if l.lock || l1.lock then none else some (cX (bN l.bs j ((au (l::l1::H1) 0 j).1,.dead)) 5 (AV.tup [v0,.slc 1 l1.bs.length 0 off sz len cap]),bC (l1::H1) 0 (.row (jG 1 q)))
    | none=>none
  | _=>none)=some (v,H')→(∃ fn,P.funcs[f]?=some fn∧fn.body.isNone=false)∧CallsIn Fence.wide 0 P f cargs w (jT p M H w v H'):=fun he h=>by
  split at h
  case h_2=>simp at h
  rename_i v0 j ver off sz len cap hv
  split at h
  case h_2=>simp at h
  rename_i q hq
  split at h
  case isTrue=>simp at h
  rename_i hlk
  simp only[Bool.or_eq_true,not_or,Bool.not_eq_true] at hlk
  simp only[nP] at h
  obtain ⟨rfl,rfl⟩:=h
  exact ⟨⟨fn,hf,by rw[hb];rfl⟩,DC hf hb (by simpa using hle) he hv hq hlk.1 hlk.2 (by simp) hcode hH hA⟩
 split at h
 · exact fin (.inl rfl) h
 · exact fin (.inr rfl) h
 · simp at h

noncomputable def KE (P:Program) (KT:FuncId→Nat→Nat) (fu:Nat) (f:FuncId) (call:aU) (args:List AV) (H:aa):Option (AV×aa) :=
 match P.funcs[f]? with
 | none=>none
 | some fn=>match fn.body with
   | none=>none
   | some c=>if Nat.ble args.length fn.ntmps then
     match exec ⟨P,call,fu,f,fn.ntmps,KT f,none⟩ c (dX 0 args) (⟨false,[]⟩::H) with
     | some (e,fr,l::H')=>(match e with
       | .normal | .ret=>match eS P fr (l::H') fn.results.toList with
         | some vs=>some (cX l.bs 5 (one vs),H')
         | none=>none
       | _=>none)
     | _=>none
     else none
theorem Ig {P:Program} (hN:cH P) (hD:ir P) {f:FuncId} (KT:FuncId→Nat→Nat) (fu:Nat) {call:aU} (hC:bR P call) {args:List AV} {H:aa} {v:AV} {H':aa} (h:KE P KT fu f call args H=some (v,H'))
 {p:aJ} {M:Mu} {w:World} {cargs:Array Value} (hH:a8 p M H w) (hA:gD p M args cargs):(∃ fn,P.funcs[f]?=some fn∧fn.body.isNone=false)∧CallsIn Fence.wide 0 P f cargs w (jT p M H w v H'):=by
 unfold KE at h
 split at h
 · simp at h
 rename_i fn hf
 split at h
 · simp at h
 rename_i c hb
 split at h
 case isFalse=>simp at h
 rename_i hle
 split at h
 case h_2=>simp at h
 rename_i e fr l H1 he
 have hcode:=cB (cx:=⟨P,call,fu,f,fn.ntmps,KT f,none⟩) cT.wide hN hC (more hN hD hC _ _ rfl rfl cT.wide) _ _ _ _ _ _ he
 have fin:(e=.normal∨e=.ret)→(match eS P fr (l::H1) fn.results.toList with
  | some vs=>some (cX l.bs 5 (one vs),H1)
  | none=>none)=some (v,H')→(∃ fn,P.funcs[f]?=some fn∧fn.body.isNone=false)∧CallsIn Fence.wide 0 P f cargs w (jT p M H w v H'):=fun he h=>by
  split at h
  case h_2=>simp at h
  rename_i vs hv
  simp only[nP] at h
  obtain ⟨rfl,rfl⟩:=h
  exact ⟨⟨fn,hf,by rw[hb];rfl⟩,iW hf hb (by simpa using hle) he hv hcode hH hA⟩
 split at h
 · exact fin (.inl rfl) h
 · exact fin (.inr rfl) h
 · simp at h
noncomputable def Bw (P:Program) (KT:FuncId→Nat→Nat) (fu:Nat) (g:FuncId) (call:aU):aU:=fun tgt args H=>match tgt with
 | .fn f=>if Nat.beq f g then A6 P KT fu g call args H else call (.fn f) args H
 | tgt=>call tgt args H
theorem Ee {P:Program} (hN:cH P) (hD:ir P) (KT:FuncId→Nat→Nat) (fu:Nat) (g:FuncId) {call:aU} (hC:bR P call):bR P (Bw P KT fu g call):=by
 intro tgt args H v H' h hne p M w cargs hH hA
 cases tgt with
 | fn f =>
   unfold Bw at h
   dsimp only at h
   split at h
   · rename_i e
     have:=Nat.eq_of_beq_eq_true e
     subst this
     exact DQ hN hD KT fu hC h hH hA
   · exact hC (.fn f) args H v H' h hne p M w cargs hH hA
 | round d i=>exact hC (.round d i) args H v H' h hne p M w cargs hH hA
 | mode=>exact hC .mode args H v H' h hne p M w cargs hH hA
end Go.Eng
end
