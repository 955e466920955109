/- The engine: a map of the own level comes to lie below all, locked, while it is ranged over: so it may be read. -/
import Derived.Test.YtigmfpmabgekoaaGreatV9EngThx4
set_option linter.unusedVariables false
set_option linter.unusedSimpArgs false
section
namespace Go.Eng

theorem fC:∀ (A B:aa) (d i:Nat),au (A++B) d i=if d<A.length then au A d i else au B (d-A.length) i
 | [],B,d,i=>by simp
 | l::A,B,0,i=>by simp[au]
 | l::A,B,d+1,i=>by
   show au (A++B) d i=_
   rw[fC A B d i]
   simp only[List.length_cons,Nat.add_lt_add_iff_right,Nat.add_sub_add_right]
   rfl
theorem dT:∀ (A B:aa) (d:Nat),ah (A++B) d=if d<A.length then ah A d else ah B (d-A.length)
 | [],B,d=>by simp
 | l::A,B,0=>by simp[ah]
 | l::A,B,d+1=>by
   show ah (A++B) d=_
   rw[dT A B d]
   simp only[List.length_cons,Nat.add_lt_add_iff_right,Nat.add_sub_add_right]
   rfl
theorem iO:∀ (A B:aa) (d:Nat),az (A++B) d=if d<A.length then az A d else az B (d-A.length)
 | [],B,d=>by simp
 | l::A,B,0=>by simp[az]
 | l::A,B,d+1=>by
   show az (A++B) d=_
   rw[iO A B d]
   simp only[List.length_cons,Nat.add_lt_add_iff_right,Nat.add_sub_add_right]
   rfl
theorem jH:∀ (H:aa) (d i:Nat),H.length≤d→au H d i=(0,.dead)
 | [],_,_,_=>rfl
 | l::H,0,i,h=>by simp at h
 | l::H,d+1,i,h=>jH H d i (by simpa using h)
theorem gn:∀ (H:aa) (d:Nat),H.length≤d→ah H d=0
 | [],_,_=>rfl
 | l::H,0,h=>by simp at h
 | l::H,d+1,h=>gn H d (by simpa using h)

def iy (B:aj):bx:=⟨true,[(0,B)]⟩
def wR (B:aj):Prop:=∀ (p:aJ) (M N:Mu) (b o t:Nat) (w:World),eQ p M B b o t w→eQ p N B b o t w
theorem EY {es:List (AV×AV)} (hn:es.all (fun e=>rN 9 e.1 && rN 9 e.2)=true):wR (.map es):=fun p M N b o t w h=>by
 obtain ⟨ces,clock,c1,c2,c3,c4⟩:=h
 refine ⟨ces,clock,c1,c2,c3,fun j hj=>?_⟩
 have hm:es.getD j (.undef,.undef) ∈ es:=by
  rw[List.getD_eq_getElem?_getD,List.getElem?_eq_getElem (by omega)];exact List.getElem_mem _
 have:=List.all_eq_true.1 hn _ hm
 simp only[Bool.and_eq_true] at this
 exact ⟨iI 9 this.1 (c4 j hj).1,iI 9 this.2 (c4 j hj).2⟩
theorem Dv {q:KK} {f:List Int→Bool} {g:List Int→Int} {c:Nat}:wR (.fmap q f g c):=fun p M N b o t w h=>by
 obtain ⟨es,he,ces,clock,c1,c2,c3,c4⟩:=h
 refine ⟨es,he,ces,clock,c1,c2,c3,fun j hj=>?_⟩
 obtain ⟨n,hn,_⟩:=he.ent j (by omega)
 have:=c4 j hj
 rw[hn] at this ⊢
 refine ⟨?_,?_⟩
 · cases q with
   | num k=>exact iI (p:=p) (M:=M) 9 (v:=.int k (n.headD 0)) rfl this.1
   | str m=>exact iI (p:=p) (M:=M) 9 (v:=.agg (.I .i64 n)) rfl this.1
 · exact iI (p:=p) (M:=M) 9 (v:=.int .i64 (g n)) rfl this.2
def kg (M:Mu) (n i:Nat):Mu:=fun d j v=>if d=n then (if j=0∧v=0 then M 0 i 0 else none) else M d j v
def uL (M:Mu) (n i:Nat):Mu:=fun d j v=>if d<n∧¬ (d=0∧j=i∧v≠0) then M d j v else none
theorem Jm (M:Mu) (n i:Nat):Mu.le (uL M n i) M:=fun d j v t h=>by
 unfold uL at h
 split at h
 · exact h
 · cases h
theorem qk {p:aJ} {M:Mu} {H:aa} {w:World} (h:a8 p M H w) (i:Nat):Mu.le M (kg M H.length i):=fun d j v t hm=>by
 unfold kg
 by_cases e:d=H.length
 · have:=(h.dom d j v t hm).1
   rw[gn H d (by omega)] at this
   omega
 · rw[if_neg e];exact hm
theorem a8.sink {p:aJ} {M:Mu} {H:aa} {w:World} (h:a8 p M H w) {i:Nat} {Bm:aj} (hg:au H 0 i=(0,Bm)) (hBm:Bm≠.dead) (hn:wR Bm):a8 p (kg M H.length i) (cI H 0 i++[iy Bm]) w:=by
 have hle:=qk h i
 have hlen:(cI H 0 i).length=H.length:=fh _ _ _
 have hpos:0<H.length:=by
  cases H with
  | nil=>exact absurd (show aj.dead=Bm from (Prod.mk.inj hg).2).symm hBm
  | cons l r=>simp
 have get:∀ d j,au (cI H 0 i++[iy Bm]) d j=if d<H.length then (if d=0∧j=i then ((au H 0 i).1,.dead) else au H d j) else if d=H.length∧j=0 then (0,Bm) else (0,.dead):=fun d j=>by
  rw[fC,hlen,cJ]
  by_cases e:d<H.length
  · rw[if_pos e,if_pos e]
  · rw[if_neg e,if_neg e]
    by_cases e2:d=H.length
    · subst e2
      rw[Nat.sub_self]
      cases j with
      | zero=>simp[au,iy,aq]
      | succ j=>simp[au,iy,aq]
    · obtain ⟨k,hk⟩:∃ k,d-H.length=k+1:=⟨d-H.length-1,by omega⟩
      rw[hk,if_neg (fun x=>e2 x.1)];rfl
 obtain ⟨b0,o0,t0,m0,B0,q0⟩:=h.live 0 i 0 Bm hg hBm
 have hmn:kg M H.length i H.length 0 0=some (b0,o0,t0):=by simp[kg,m0]
 have hB0:eQ p ((kg M H.length i).up H.length) Bm b0 o0 t0 w:=hn _ _ _ _ _ _ _ B0
 refine ⟨h.pers,?_,?_,?_⟩
 · intro d j v B hgB hB
   rw[get] at hgB
   split at hgB
   · split at hgB
     · simp only[Prod.mk.injEq] at hgB;exact absurd hgB.2.symm hB
     · obtain ⟨b,o,t,k1,k2,k3⟩:=h.live d j v B hgB hB
       exact ⟨b,o,t,hle _ _ _ _ k1,k2.mono (aJ.le.refl _) (hle.up d) rfl,k3⟩
   · split at hgB
     · rename_i e
       obtain ⟨rfl,rfl⟩:=e
       simp only[Prod.mk.injEq] at hgB
       obtain ⟨rfl,rfl⟩:=hgB
       exact ⟨b0,o0,t0,hmn,hB0,q0⟩
     · simp only[Prod.mk.injEq] at hgB;exact absurd hgB.2.symm hB
 · intro d j v B d' j' v' B' b o t o' t' hgB hB hgB' hB' hm hm'
   rw[get] at hgB hgB'
   -- of the old ones, or the map
   have old:∀ {d j v B b o t},(if d<H.length then (if d=0∧j=i then ((au H 0 i).1,aj.dead) else au H d j) else if d=H.length∧j=0 then (0,Bm) else (0,.dead))=(v,B)→B≠.dead→kg M H.length i d j v=some (b,o,t) →
    (d<H.length∧¬ (d=0∧j=i)∧au H d j=(v,B)∧M d j v=some (b,o,t))∨(d=H.length∧j=0∧v=0∧M 0 i 0=some (b,o,t)):=fun {d j v B b o t} hgB hB hm=>by
    split at hgB
    · rename_i e
      split at hgB
      · simp only[Prod.mk.injEq] at hgB;exact absurd hgB.2.symm hB
      · rename_i e2
        refine .inl ⟨e,e2,hgB,?_⟩
        unfold kg at hm
        rwa [if_neg (by omega)] at hm
    · split at hgB
      · rename_i e
        simp only[Prod.mk.injEq] at hgB
        obtain ⟨rfl,rfl⟩:=hgB
        refine .inr ⟨e.1,e.2,rfl,?_⟩
        unfold kg at hm
        rwa [if_pos e.1,if_pos ⟨e.2,rfl⟩] at hm
      · simp only[Prod.mk.injEq] at hgB;exact absurd hgB.2.symm hB
   rcases old hgB hB hm with ⟨a1,a2,a3,a4⟩ | ⟨a1,a2,a3,a4⟩<;>rcases old hgB' hB' hm' with ⟨c1,c2,c3,c4⟩ | ⟨c1,c2,c3,c4⟩
   · exact h.apart d j v B d' j' v' B' b o t o' t' a3 hB c3 hB' a4 c4
   · exact absurd (h.apart d j v B 0 i 0 Bm b o t o' t' a3 hB hg hBm a4 c4) a2
   · have:=h.apart d' j' v' B' 0 i 0 Bm b o' t' o t c3 hB' hg hBm c4 a4
     exact absurd this c2
   · exact ⟨by omega,by omega⟩
 · intro d j v t hm
   have hnx:ah (cI H 0 i++[iy Bm]) d=if d<H.length then ah H d else if d=H.length then 1 else 0:=by
    rw[dT,hlen,bz]
    by_cases e:d<H.length
    · rw[if_pos e,if_pos e]
    · rw[if_neg e,if_neg e]
      by_cases e2:d=H.length
      · subst e2;simp[ah,iy]
      · obtain ⟨k,hk⟩:∃ k,d-H.length=k+1:=⟨d-H.length-1,by omega⟩
        rw[hk,if_neg e2];rfl
   rw[hnx,get]
   unfold kg at hm
   by_cases e:d=H.length
   · rw[if_pos e] at hm
     split at hm
     · rename_i e2
       rw[if_neg (by omega),if_pos e,if_neg (by omega),if_pos ⟨e,e2.1⟩]
       exact ⟨by omega,fun _=>by omega⟩
     · cases hm
   · rw[if_neg e] at hm
     have:=h.dom d j v t hm
     have hd:d<H.length:=by
      refine Nat.lt_of_not_le fun hle=>?_
      rw[gn H d hle] at this
      omega
     rw[if_pos hd,if_pos hd]
     refine ⟨this.1,?_⟩
     split
     · exact fun x=>absurd rfl x
     · exact this.2

def lS (n i:Nat):AV→Bool
 | .ptr d j _ _=>Nat.blt d n && !(Nat.beq d 0 && Nat.beq j i)
 | .slc d j _ _ _ _ _=>Nat.blt d n && !(Nat.beq d 0 && Nat.beq j i)
 | .map d _=>Nat.blt d n
 | .yld d _=>Nat.blt d n
 | .fn f a b=>a.all (fun v=>match v with
    | .ptr d j _ _=>Nat.blt d n && !(Nat.beq d 0 && Nat.beq j i)
    | .map d _=>Nat.blt d n
    | .yld d _=>Nat.blt d n
    | v=>rN 9 v) && b.all (fun v=>match v with
    | .ptr d j _ _=>Nat.blt d n && !(Nat.beq d 0 && Nat.beq j i)
    | .map d _=>Nat.blt d n
    | .yld d _=>Nat.blt d n
    | v=>rN 9 v)
 | v=>rN 9 v
def rp (n i:Nat):aj→Bool
 | .dead=>true
 | .row (.I _ _)=>true
 | .row (.G l)=>l.all (lS n i)
 | .map es=>es.all fun e=>lS n i e.1 && lS n i e.2
 | .fmap _ _ _ _=>true
 | _=>false
theorem pt {p:aJ} {M:Mu} {n i:Nat}:∀ {v:AV} {c:Value},lS n i v=true→ai p M v c→ai p (uL M n i) v c:=by
 have hp:∀ {d j v t},(Nat.blt d n && !(Nat.beq d 0 && Nat.beq j i))=true→M d j v=some t→uL M n i d j v=some t:=fun {d j v t} h hm=>by
  simp only[Bool.and_eq_true,Bool.not_eq_true',Bool.and_eq_false_iff] at h
  have h1:d<n:=by have:=h.1;simpa[Nat.blt_eq] using this
  have hn:¬ (d=0∧j=i∧v≠0):=fun x=>by
   rcases h.2 with y | y
   · rw[x.1] at y;simp at y
   · rw[x.2.1] at y;simp at y
  unfold uL
  rw[if_pos ⟨h1,hn⟩]
  exact hm
 have hm0:∀ {d j t},Nat.blt d n=true→M d j 0=some t→uL M n i d j 0=some t:=fun {d j t} h hm=>by
  have h1:d<n:=by simpa[Nat.blt_eq] using h
  unfold uL
  rw[if_pos ⟨h1,fun x=>x.2.2 rfl⟩]
  exact hm
 have one:∀ {v:AV} {c:Value},(match v with
  | .ptr d j _ _=>Nat.blt d n && !(Nat.beq d 0 && Nat.beq j i)
  | .map d _=>Nat.blt d n
  | .yld d _=>Nat.blt d n
  | v=>rN 9 v)=true→ai p M v c→ai p (uL M n i) v c:=fun {v c} h hv=>by
  split at h
  · cases hv;rename_i hm;exact .ptr (hp h hm)
  · cases hv;rename_i hm;exact .map (hm0 h hm)
  · cases hv;rename_i hm;exact .yld (hm0 h hm)
  · exact iI 9 h hv
 intro v c h hv
 unfold lS at h
 split at h
 · cases hv;rename_i hm;exact .ptr (hp h hm)
 · cases hv with
   | slc hm h1 h2 h3 h4=>exact .slc (hp h hm) h1 h2 h3 h4
 · cases hv;rename_i hm;exact .map (hm0 h hm)
 · cases hv;rename_i hm;exact .yld (hm0 h hm)
 · cases hv with
   | fn hha hhb hva hvb =>
     simp only[Bool.and_eq_true] at h
     exact .fn hha hhb (fun j hj=>one (gi h.1 hj) (hva j hj)) (fun j hj=>one (gi h.2 hj) (hvb j hj))
 · exact iI 9 h hv
theorem G7 {p:aJ} {M:Mu} {n i:Nat} {B:aj} {b o t:Nat} {w:World} (h:rp n i B=true) (hB:eQ p M B b o t w):eQ p (uL M n i) B b o t w:=by
 unfold rp at h
 split at h
 · trivial
 · obtain ⟨c,e,h1,h2,h3,h4⟩:=hB
   exact ⟨c,e,h1,h2,h3,fun j hj=>⟨ai.bF _ _ (h4 j hj).1,(h4 j hj).2⟩⟩
 · rename_i l
   obtain ⟨c,e,h1,h2,h3,h4⟩:=hB
   exact ⟨c,e,h1,h2,h3,fun j hj=>⟨pt (gi h hj) (h4 j hj).1,(h4 j hj).2⟩⟩
 · rename_i es
   obtain ⟨ces,clock,h1,h2,h3,h4⟩:=hB
   refine ⟨ces,clock,h1,h2,h3,fun j hj=>?_⟩
   have hm:es.getD j (.undef,.undef) ∈ es:=by
    rw[List.getD_eq_getElem?_getD,List.getElem?_eq_getElem (by omega)];exact List.getElem_mem _
   have:=List.all_eq_true.1 h _ hm
   simp only[Bool.and_eq_true] at this
   exact ⟨pt this.1 (h4 j hj).1,pt this.2 (h4 j hj).2⟩
 · exact tk _ _ hB
 · cases h
theorem tV {f:Nat×aj→Bool}:∀ {l:List (Nat×aj)} {j:Nat},l.all f=true→(aq l j).2≠.dead→f (aq l j)=true
 | [],j,_,h=>absurd rfl h
 | x::l,0,h,_=>by simp at h;exact h.1
 | x::l,j+1,h,hd=>tV (l:=l) (j:=j) (by simp at h;simpa using h.2) hd
theorem b9.My {p p':aJ} {M MK:Mu} {lk lE:bx} {R0:aa} {w w':World} {i:Nat} {Bm:aj} (h:a8 p M (lk::R0) w) (hR:∀ d,az R0 d=true) (hl0:lk.lock=false)
 (hv:∀ v t,M 0 i v=some t→v=0)
 (hE:b9 p (kg M (R0.length+1) i) (lk::R0++[iy Bm]) w p' MK (lE::(R0++[iy Bm])) w') (hf:lE.bs.all (fun x=>rp (R0.length+1) i x.2)=true) (hdead:(au (lE::R0) 0 i).2=.dead):b9 p M (lk::R0) w p' (uL MK (R0.length+1) i) (lE::R0) w':=by
 have hlen:(lk::R0).length=R0.length+1:=rfl
 have hle:Mu.le M (kg M (R0.length+1) i):=qk h i
 have hleC:=Jm MK (R0.length+1) i
 have hlt:∀ {d j v t},M d j v=some t→d<R0.length+1:=fun {d j v t} hm=>by
  refine Nat.lt_of_not_le fun hx=>?_
  have:=(h.dom d j v t hm).1
  rw[gn _ d (by rw[hlen];exact hx)] at this
  omega
 have hM:Mu.le M (uL MK (R0.length+1) i):=fun d j v t hm=>by
  have h1:=hE.mu _ _ _ _ (hle _ _ _ _ hm)
  unfold uL
  have hn:¬ (d=0∧j=i∧v≠0):=fun x=>by
   obtain ⟨x1,x2,x3⟩:=x
   subst x1;subst x2
   exact x3 (hv v t hm)
  rw[if_pos ⟨hlt hm,hn⟩]
  exact h1
 have get:∀ d j,d<R0.length+1→au (lE::(R0++[iy Bm])) d j=au (lE::R0) d j:=fun d j hd=>by
  show au ((lE::R0)++[iy Bm]) d j=_
  rw[fC,if_pos (by simpa using hd)]
 have get1:∀ d j,au (lE::R0) (d+1) j=au (lk::R0) (d+1) j:=fun _ _=>rfl
 have getK:∀ d j,d<R0.length+1→au (lk::R0++[iy Bm]) d j=au (lk::R0) d j:=fun d j hd=>by
  rw[fC,if_pos (by simpa using hd)]
 have hlE:lE.lock=false:=by have:=hE.lock 0;exact this.trans hl0
 have keepK:∀ {b},Go.Eng.bf M (lk::R0) b→Go.Eng.bf (kg M (R0.length+1) i) (lk::R0++[iy Bm]) b:=fun {b} hk d j v B hg hB hl o t hm=>by
  cases d with
  | zero=>exact hk 0 j v B hg hB hl0 o t (by unfold kg at hm;rwa [if_neg (by omega)] at hm)
  | succ d =>
    rw[iO] at hl
    split at hl
    · exact absurd hl (by rw[show az (lk::R0) (d+1)=az R0 d from rfl,hR];simp)
    · have:az [iy Bm] (d+1-(lk::R0).length)=true:=by
       cases (d+1-(lk::R0).length) with
       | zero=>rfl
       | succ k=>rfl
      rw[this] at hl;cases hl
 have hlive:∀ d j v B,au (lE::R0) d j=(v,B)→B≠.dead→∃ b o t,uL MK (R0.length+1) i d j v=some (b,o,t)∧eQ p' ((uL MK (R0.length+1) i).up d) B b o t w'∧∀ x,p' b x=none:=by
  intro d j v B hg hB
  have hd:d<R0.length+1:=by
   refine Nat.lt_of_not_le fun hx=>?_
   rw[jH _ d j (by simpa using hx)] at hg
   simp only[Prod.mk.injEq] at hg;exact hB hg.2.symm
  cases d with
  | zero =>
    obtain ⟨b,o,t,k1,k2,k3⟩:=hE.rel.live 0 j v B (by rw[get 0 j hd];exact hg) hB
    have hfB:rp (R0.length+1) i B=true:=by
     have hg':aq lE.bs j=(v,B):=hg
     have:=tV hf (j:=j) (by rw[hg'];exact hB)
     rw[hg'] at this;exact this
    have hji:j≠i:=fun e=>by
     subst e
     rw[hg] at hdead
     exact hB hdead
    refine ⟨b,o,t,?_,G7 hfB k2,k3⟩
    unfold uL
    rw[if_pos ⟨by omega,fun x=>hji x.2.1⟩]
    exact k1
  | succ d =>
    obtain ⟨b,o,t,k1,k2,k3⟩:=h.live (d+1) j v B hg hB
    have k4:=hE.mu _ _ _ _ (hle _ _ _ _ k1)
    obtain ⟨b2,o2,t2,j1,j2,j3⟩:=hE.rel.live (d+1) j v B (by rw[get _ j hd];exact hg) hB
    rw[k4] at j1
    simp only[nP] at j1
    obtain ⟨rfl,rfl,rfl⟩:=j1
    refine ⟨b,o,t,hM _ _ _ _ k1,k2.mono hE.pst (hM.up (d+1)) (hE.stay.block b (k2.lt hB) ?_),j3⟩
    refine keepK (fun d1 i1 v1 B1 hg1 hB1 hl1 o1 t1 hm1=>?_)
    have:=h.apart d1 i1 v1 B1 (d+1) j v B b o1 t1 o t hg1 hB1 hg hB hm1 k1
    rw[this.1] at hl1
    exact absurd hl1 (by rw[show az (lk::R0) (d+1)=az R0 d from rfl,hR];simp)
 refine ⟨hE.pst,hM,⟨hE.rel.pers,hlive,?_,?_⟩,hE.stay.weaken (fun b hb hk=>keepK hk),?_,?_,?_,?_,fun d j hd hl=>?_,fun d hd hl=>?_,rfl,fun d=>?_,fun d j v t hm=>?_⟩
 · intro d j v B d' j' v' B' b o t o' t' hg hB hg' hB' hm hm'
   have lt1:∀ {d j v B},au (lE::R0) d j=(v,B)→B≠.dead→d<R0.length+1:=fun {d j v B} hg hB=>by
    refine Nat.lt_of_not_le fun hx=>?_
    rw[jH _ d j (by simpa using hx)] at hg
    simp only[Prod.mk.injEq] at hg;exact hB hg.2.symm
   exact hE.rel.apart d j v B d' j' v' B' b o t o' t' (by rw[get _ _ (lt1 hg hB)];exact hg) hB (by rw[get _ _ (lt1 hg' hB')];exact hg') hB' (hleC _ _ _ _ hm) (hleC _ _ _ _ hm')
 · intro d j v t hm
   have hd:d<R0.length+1:=by
    unfold uL at hm
    split at hm
    · rename_i e;exact e.1
    · cases hm
   have:=hE.rel.dom d j v t (hleC _ _ _ _ hm)
   rw[get _ _ hd] at this
   have hn:ah (lE::(R0++[iy Bm])) d=ah (lE::R0) d:=by
    show ah ((lE::R0)++[iy Bm]) d=_
    rw[dT,if_pos (by simpa using hd)]
   rw[hn] at this
   exact this
 · intro b hb hk d j v B hg hB hl o t hm
   have hd:d<R0.length+1:=by
    refine Nat.lt_of_not_le fun hx=>?_
    rw[jH _ d j (by simpa using hx)] at hg
    simp only[Prod.mk.injEq] at hg;exact hB hg.2.symm
   refine hE.bf b hb (keepK hk) d j v B (by rw[get _ _ hd];exact hg) hB ?_ o t (hleC _ _ _ _ hm)
   show az ((lE::R0)++[iy Bm]) d=false
   rw[iO,if_pos (by simpa using hd)];exact hl
 · intro b o v hx
   rcases hE.fresh b o v hx with h1 | h1 | ⟨h1,j,u,o',t',h2⟩
   · exact .inl h1
   · exact .inr (.inl h1)
   · refine .inr (.inr ⟨hl0,j,u,o',t',?_⟩)
     unfold kg at h2
     rwa [if_neg (by omega)] at h2
 · intro d j v b o t hm
   rcases hE.own d j v b o t (hleC _ _ _ _ hm) with h1 | ⟨d',j',v',o',t',hd,h1⟩
   · exact .inl h1
   · have hd2:d<R0.length+1:=by
      unfold uL at hm
      split at hm
      · rename_i e;exact e.1
      · cases hm
     refine .inr ⟨d',j',v',o',t',hd,?_⟩
     unfold kg at h1
     rwa [if_neg (by omega)] at h1
 · intro d
   cases d with
   | zero=>exact hlE.trans hl0.symm
   | succ d=>rfl
 · cases d with
   | zero=>exact absurd rfl hd
   | succ d=>rfl
 · cases d with
   | zero=>exact absurd rfl hd
   | succ d=>rfl
 · cases d with
   | zero=>exact hE.grow 0
   | succ d=>exact Nat.le_refl _
 · have hd:d<R0.length+1:=by
    unfold uL at hm
    split at hm
    · rename_i e;exact e.1
    · cases hm
   rcases hE.new d j v t (hleC _ _ _ _ hm) with h1 | h1 | h1
   · unfold kg at h1
     rw[if_neg (by omega)] at h1
     exact .inl h1
   · rw[dT,if_pos (by simpa using hd)] at h1
     exact .inr (.inl h1)
   · rw[iO,if_pos (by simpa using hd)] at h1
     exact .inr (.inr h1)
theorem yU {p:aJ} {M:Mu} {H:aa} {w:World} (h:a8 p M H w) {d i v b o t:Nat} {B:aj} (hg:au H d i=(v,B)) (hB:B≠.dead) (hm:M d i v=some (b,o,t)):Go.Eng.bf M (cI H d i) b:=by
 intro d1 i1 v1 B1 hg1 hB1 _ o1 t1 hm1
 rw[cJ] at hg1
 split at hg1
 · simp only[Prod.mk.injEq] at hg1;exact hB1 hg1.2.symm
 · rename_i e
   exact e (h.apart d1 i1 v1 B1 d i v B b o1 t1 o t hg1 hB1 hg hB hm1 hm)

theorem b9.restore {p p':aJ} {M M':Mu} {H H':aa} {w w':World} (h:a8 p M H w) {d i v b o t:Nat} {B:aj} (hg:au H d i=(v,B)) (hB:B≠.dead) (hm:M d i v=some (b,o,t)) (hl:az H d=false) (h0:az H 0=false)
 (hE:b9 p M (cI H d i) w p' M' H' w') (hv:∀ v1 t1,M' d i v1=some t1→v1≤v) (hp:∀ x,p' b x=none):b9 p M H w p' M' (dq H' d i (v,B)) w':=by
 obtain ⟨b0,o0,t0,k1,k2,k3⟩:=h.live d i v B hg hB
 rw[hm] at k1
 simp only[nP] at k1
 obtain ⟨rfl,rfl,rfl⟩:=k1
 have hlt:=k2.lt hB
 have hkeep:=yU h hg hB hm
 have hblk:=hE.stay.block b hlt hkeep
 have hm':=hE.mu _ _ _ _ hm
 have hi:i<ah H' d:=(hE.rel.dom _ _ _ _ hm').1
 have get:∀ d1 i1,au (dq H' d i (v,B)) d1 i1=if d1=d∧i1=i then (v,B) else au H' d1 i1:=fun d1 i1=>by
  rw[dL]
  by_cases e:d1=d∧i1=i
  · rw[if_pos ⟨e.1,e.2,hi⟩,if_pos e]
  · rw[if_neg (fun x=>e ⟨x.1,x.2.1⟩),if_neg e]
 have lk:∀ d1,az H' d1=az H d1:=fun d1=>by rw[hE.lock,cK]
 have other:∀ d1 i1 v1 B1 o1 t1,¬ (d1=d∧i1=i)→au H' d1 i1=(v1,B1)→B1≠.dead→M' d1 i1 v1≠some (b,o1,t1):=by
  intro d1 i1 v1 B1 o1 t1 hne hg1 hB1 hm1
  cases hl1:az H' d1 with
  | false=>exact hE.bf b hlt hkeep d1 i1 v1 B1 hg1 hB1 hl1 o1 t1 hm1
  | true =>
    have hl2:az H d1=true:=by rw[← lk];exact hl1
    have hd1:d1≠0:=fun e=>by rw[e,h0] at hl2;cases hl2
    have h3:=hE.same d1 i1 hd1 (by rw[cK];exact hl2)
    rw[cJ,if_neg hne] at h3
    have h4:au H d1 i1=(v1,B1):=by rw[← h3];exact hg1
    obtain ⟨b2,o2,t2,j1,_,_⟩:=h.live d1 i1 v1 B1 h4 hB1
    have j2:=hE.mu _ _ _ _ j1
    rw[hm1] at j2
    simp only[nP] at j2
    exact hne (h.apart d1 i1 v1 B1 d i v B b o2 t2 o t h4 hB1 hg hB (by rw[j1,← j2.1]) hm)
 refine ⟨hE.pst,hE.mu,⟨hE.rel.pers,?_,?_,?_⟩,hE.stay.weaken (fun x hx hk=>gI.kill w M H d i x hx hk),?_,fun b1 o1 v1 hx=>(hE.fresh b1 o1 v1 hx).imp id (fun h=>h.imp id (fun h=>⟨by rw[← cK H d i 0];exact h.1,h.2⟩)),hE.own,fun d1=>by rw[eF,lk],?_,?_,by rw[kE,hE.len,fh],?_,?_⟩
 · intro d1 i1 v1 B1 hg1 hB1
   rw[get] at hg1
   split at hg1
   · rename_i e
     obtain ⟨rfl,rfl⟩:=e
     simp only[Prod.mk.injEq] at hg1
     obtain ⟨rfl,rfl⟩:=hg1
     exact ⟨b,o,t,hm',k2.mono hE.pst (hE.mu.up _) hblk,hp⟩
   · exact hE.rel.live d1 i1 v1 B1 hg1 hB1
 · intro d1 i1 v1 B1 d2 i2 v2 B2 bb o1 t1 o2 t2 hg1 hB1 hg2 hB2 hm1 hm2
   rw[get] at hg1 hg2
   split at hg1
   · rename_i e1
     obtain ⟨rfl,rfl⟩:=e1
     simp only[Prod.mk.injEq] at hg1
     obtain ⟨rfl,rfl⟩:=hg1
     rw[hm'] at hm1
     simp only[nP] at hm1
     split at hg2
     · rename_i e2;exact ⟨e2.1.symm,e2.2.symm⟩
     · rename_i e2
       exact absurd (by rw[hm2,hm1.1]) (other d2 i2 v2 B2 o2 t2 e2 hg2 hB2)
   · rename_i e1
     split at hg2
     · rename_i e2
       obtain ⟨rfl,rfl⟩:=e2
       simp only[Prod.mk.injEq] at hg2
       obtain ⟨rfl,rfl⟩:=hg2
       rw[hm'] at hm2
       simp only[nP] at hm2
       exact absurd (by rw[hm1,hm2.1]) (other d1 i1 v1 B1 o1 t1 e1 hg1 hB1)
     · exact hE.rel.apart d1 i1 v1 B1 d2 i2 v2 B2 bb o1 t1 o2 t2 hg1 hB1 hg2 hB2 hm1 hm2
 · intro d1 i1 v1 u hu
   have:=hE.rel.dom d1 i1 v1 u hu
   rw[bX,get]
   refine ⟨this.1,?_⟩
   split
   · rename_i e
     obtain ⟨rfl,rfl⟩:=e
     exact fun _=>hv v1 u hu
   · exact this.2
 · intro x hx hk d1 i1 v1 B1 hg1 hB1 hl1 o1 t1 hm1
   rw[eF] at hl1
   rw[get] at hg1
   split at hg1
   · rename_i e
     obtain ⟨rfl,rfl⟩:=e
     simp only[Prod.mk.injEq] at hg1
     obtain ⟨rfl,rfl⟩:=hg1
     rw[hm'] at hm1
     simp only[nP] at hm1
     exact hk _ _ _ _ hg hB hl o t (by rw[hm,hm1.1])
   · exact hE.bf x hx (gI.kill w M H d i x hx hk) d1 i1 v1 B1 hg1 hB1 hl1 o1 t1 hm1
 · intro d1 i1 hd1 hl1
   have hne:¬ (d1=d∧i1=i):=fun e=>by rw[e.1,hl] at hl1;cases hl1
   rw[get,if_neg hne,hE.same d1 i1 hd1 (by rw[cK];exact hl1),cJ,if_neg hne]
 · intro d1 hd1 hl1
   rw[bX,hE.next d1 hd1 (by rw[cK];exact hl1),bz]
 · intro d1
   have:=hE.grow d1
   rw[bz] at this
   rw[bX];exact this
 · intro d1 i1 v1 u hu
   have:=hE.new d1 i1 v1 u hu
   rw[bz,cK] at this
   exact this

end Go.Eng
end
section
namespace Go.Eng

structure bK where
 id0:Nat
 ops0:Array Oper
 pre:List Oper
 ro:Oper
 m:Tmp
 ty:TypeId
def bK.code (S:bK) (L:bm):Code:=.seq (.region S.id0 S.ops0 false) L.code
structure bK.Ok (P:Program) (S:bK) (L:bm):Prop where
 l0:S.ops0.toList=S.pre++[S.ro]
 o0:S.ro.op=.range S.ty (.tmp S.m)
 d0:S.ro.dst=some L.it
 g0:S.ro.guard=none
 t0:∃ k e,P.underlying S.ty=some (.map k e)

noncomputable def cZ (L:bm) (cx:Cx) (k n:Nat) (R:aa) (kv:AV×AV) (s:av×bx):Option (av×bx) :=
 match L.round cx k n kv s.1 (s.2::R) with
 | some (fr,l::_)=>some (fr,l)
 | _=>none
noncomputable def Ka (s:Option (av×bx)) (Xs:List (av×bx)):Bool :=
 match s with
 | none=>false
 | some s=>Xs.any fun t=>Ly s t
noncomputable def Hi (s:Option (av×bx)) (t:av×bx):Bool :=
 match s with
 | none=>false
 | some s=>Ly s t
theorem y8 {s:Option (av×bx)} {Xs:List (av×bx)} (h:Ka s Xs=true):∃ t ∈ Xs,s=some t:=by
 cases s with
 | none=>cases h
 | some s =>
   obtain ⟨t,ht,he⟩:=List.any_eq_true.1 h
   exact ⟨t,ht,by rw[xj _ _ he]⟩
theorem sk {s:Option (av×bx)} {t:av×bx} (h:Hi s t=true):s=some t:=by
 cases s with
 | none=>cases h
 | some s=>rw[xj _ _ h]
theorem fZ {L:bm} {cx:Cx} {k n:Nat} {R:aa} {kv:AV×AV} {s t:av×bx} (h:cZ L cx k n R kv s=some t):∃ R1,L.round cx k n kv s.1 (s.2::R)=some (t.1,t.2::R1):=by
 unfold cZ at h
 split at h
 · rename_i fr l R1 e
   simp only[Option.some.injEq] at h
   subst h
   exact ⟨R1,e⟩
 · cases h

noncomputable def sure (L:bm) (cx:Cx) (k n:Nat) (R:aa) (kvs:List (AV×AV)) (s0 t:av×bx) (Xs:List (av×bx)) (j0:Nat):Bool :=
 match kvs with
 | []=>Ly s0 t && lr k (bw s0.1 L.it)
 | _=>Ka (some s0) Xs && (Xs.all (fun s=>lr k (bw s.1 L.it) && (kvs.all (fun kv=>Ka (cZ L cx k n R kv s) Xs) && Hi (cZ L cx k n R (kvs.getD j0 (.undef,.undef)) s) t)) &&
    (kvs.all (fun kv=>Hi (cZ L cx k n R kv t) t) && Nat.ble (j0+1) kvs.length))
noncomputable def dw (L:bm) (cx:Cx) (k n:Nat) (R:aa):List (AV×AV)→av×bx→Option (av×bx)
 | [],s=>some s
 | kv::r,s=>match cZ L cx k n R kv s with
   | some t=>dw L cx k n R r t
   | none=>none
noncomputable def wg (L:bm) (cx:Cx) (k n:Nat) (R:aa) (s:av×bx):List (AV×AV)→List (av×bx)
 | []=>[]
 | kv::r=>match cZ L cx k n R kv s with
   | some t=>t::wg L cx k n R s r
   | none=>wg L cx k n R s r
noncomputable def tj (L:bm) (cx:Cx) (k n:Nat) (R:aa) (s0 t:av×bx):List (AV×AV)→Nat→Nat
 | [],j=>j
 | kv::r,j=>if Hi (cZ L cx k n R kv s0) t then j else tj L cx k n R s0 t r (j+1)

def qS (n i:Nat) (v:AV):AV :=
 match v with
 | .map 0 j=>if Nat.beq j i then .map n 0 else v
 | v=>v
def sM (n i:Nat) (v:AV):AV :=
 match v with
 | .map d 0=>if Nat.beq d n then .map 0 i else v
 | v=>v
def jY (f:AV→AV) (fr:av):av:=fr.map fun x=>(x.1,f x.2)
theorem je {f:AV→AV} (hf:f .undef=.undef):∀ (fr:av) (x:Nat),bw (jY f fr) x=f (bw fr x)
 | [],x=>hf.symm
 | (y,v)::r,x=>by
   show bw ((y,f v)::jY f r) x=_
   unfold bw
   split
   · rfl
   · exact je hf r x
theorem tb {f:Nat×AV→Bool} (hf:∀ x,f (x,.undef)=true):∀ {fr:av} {x:Nat},fr.all f=true→(∀ y v,f (y,v)=f (x,v))→f (x,bw fr x)=true
 | [],x,_,_=>hf x
 | (y,v)::r,x,h,hx=>by
   simp only[List.all_cons,Bool.and_eq_true] at h
   unfold bw
   split
   · rw[← hx y v];exact h.1
   · exact tb hf h.2 hx
theorem zB {p:aJ} {M:Mu} {H:aa} {w:World} (h:a8 p M H w) {i:Nat} {v:AV} {c:Value} (hv:ai p M v c):ai p (kg M H.length i) (qS H.length i v) c:=by
 unfold qS
 split
 · split
   · rename_i e
     cases hv;rename_i hm
     rw[Nat.eq_of_beq_eq_true e] at hm
     exact .map (by unfold kg;rw[if_pos rfl,if_pos ⟨rfl,rfl⟩];exact hm)
   · exact hv.mono (aJ.le.refl _) (qk h i)
 · exact hv.mono (aJ.le.refl _) (qk h i)
theorem yo {p:aJ} {MK:Mu} {n i:Nat} (hn:0<n) (he:MK n 0 0=MK 0 i 0) {v:AV} {c:Value} (hf:lS n i (sM n i v)=true) (hv:ai p MK v c):ai p (uL MK n i) (sM n i v) c:=by
 unfold sM at hf ⊢
 split at hf
 · split at hf
   · rename_i e
     rw[if_pos e]
     cases hv;rename_i hm
     rw[Nat.eq_of_beq_eq_true e,he] at hm
     exact .map (by unfold uL;rw[if_pos ⟨hn,fun x=>x.2.2 rfl⟩];exact hm)
   · rename_i e
     rw[if_neg e]
     exact pt hf hv
 · exact pt hf hv

noncomputable def mU (cx:Cx) (S:bK) (L:bm) (fr:av) (H:aa):Option (av×aa) :=
 match cR cx.P cx.nt cx.call S.ops0 S.pre fr H with
 | some (fr1, l1::r1)=>match bw fr1 S.m with
   | .map 0 i => match au (l1::r1) 0 i with
     | (0, .map es) =>
       if l1.lock || !(es.all fun e=>rN 9 e.1 && rN 9 e.2) then none else
       match cI (l1::r1) 0 i with
       | lk :: r2 =>
         let n:=r2.length+1
         let R:=aA r2++[iy (aj.map es)]
         let k:=ar (l1::r1)
         let s0:av×bx:=(dz cx.nt (jY (qS n i) fr1) (some L.it) (.ptr 0 k 0 0),{ lk with bs:=lk.bs++[(0,.dead)] })
         match dw L cx k (k+1) R es s0 with
         | some t =>
           if sure L cx k (k+1) R es s0 t (s0::wg L cx k (k+1) R s0 es) (tj L cx k (k+1) R s0 t es 0) then
            match L.last cx t.1 (t.2::R) with
            | some (fr',lE::_) =>
              if lE.bs.all (fun x=>rp n i x.2) && ((jY (sM n i) fr').all (fun x=>lS n i x.2) && eX (aq lE.bs i).2) then some (jY (sM n i) fr',dq (lE::r2) 0 i (0,.map es)) else none
            | _=>none
           else none
         | none=>none
       | _=>none
     | _=>none
   | _=>none
 | _=>none

theorem Be {cx:Cx} {F:Fence} (hFW:cT F) (hN:cH cx.P) (hC:bR cx.P cx.call) (hX:c7 cx F) {S:bK} {L:bm} (hS:S.Ok cx.P L) (hL:L.Ok) {fr fr':av} {H H':aa} (h:mU cx S L fr H=some (fr',H')) :
 da cx.P F cx.ro cx.nt (S.code L) fr H .normal fr' H':=by
 intro n0 p M a w Q hF hH hne hR hM hQ
 unfold mU at h
 rw[cA] at h
 split at h
 case h_2=>simp at h
 rename_i fr1 l1 r1 hro
 split at h
 case h_2=>simp at h
 rename_i i hmap
 split at h
 case h_2=>simp at h
 rename_i es hg
 split at h
 · simp at h
 rename_i hlk
 simp only[Bool.or_eq_true,not_or,Bool.not_eq_true,Bool.not_eq_false'] at hlk
 obtain ⟨hl0,hnoH⟩:=hlk
 split at h
 case h_2=>simp at h
 rename_i lk r2 hk1
 dsimp only at h
 split at h
 case h_2=>simp at h
 rename_i t hfold
 split at h
 case isFalse=>simp at h
 rename_i hsure
 split at h
 case h_2=>simp at h
 rename_i si lE RE hlast
 split at h
 case isFalse=>simp at h
 rename_i hchk
 simp only[Bool.and_eq_true] at hchk
 obtain ⟨hcB,hcF,hcD⟩:=hchk
 simp only[nP] at h
 obtain ⟨rfl,rfl⟩:=h
 refine wpIn_seq (wpIn_region_list ?_)
 rw[hS.l0]
 refine ga hFW hN hC _ _ _ _ _ hro p M a w hF hH hne (fun a1 w1 ⟨p1,M1,hE1,hF1,hd1⟩=>?_)
 unfold wpListIn
 rw[if_pos (by unfold Region.wanted;rw[hS.g0])]
 -- the map
 have hvm:=hF1.at_ S.m
 rw[hmap] at hvm
 obtain ⟨b,o,tt,hmu,hev⟩:∃ b o t,M1 0 i 0=some (b,o,t)∧a1.tmps.getD S.m Go.undef=.map (some b):=by
  generalize a1.tmps.getD S.m Go.undef=z at hvm
  cases hvm
  rename_i b o t hm
  exact ⟨b,o,t,hm,rfl⟩
 obtain ⟨ces,clock,hb,hsz,hborn,hrel⟩:=so hE1.rel hg hmu
 have hev':a1.eval (.tmp S.m)=.map (some b):=hev
 obtain ⟨kt,et,hu⟩:=hS.t0
 have hrun:=_root_.Go.run_range_map (P:=cx.P) w1 S.ty kt et b ces clock hu hb
 refine j5 hFW (by rw[hS.o0];intro c h;cases h) (cv:=.pointer (some ⟨w1.heap.size,0,none⟩)) (w':=w1.alloc (.mapIter (some b) clock #[] clock)) (by simp only[execOp,hS.o0,hev'];simp[Sem.run_bind,hrun,Result.andThen]) ?_
 unfold wpListIn
 rw[hS.d0]
 -- the base of the loop: the map has sunk
 have hlen:(l1::r1).length=r2.length+1:=by
  have:=fh (l1::r1) 0 i
  rw[hk1] at this;simpa using this.symm
 have hlenR:(aA r2).length+1=r2.length+1:=by rw[cr]
 have hle:Mu.le M1 (kg M1 (r2.length+1) i):=by have:=qk hE1.rel i;rwa [hlen] at this
 have hsink:a8 p1 (kg M1 (r2.length+1) i) (lk::aA r2++[iy (aj.map es)]) w1:=by
  have:=hE1.rel.sink hg (by simp) (EY hnoH)
  rw[hlen,hk1] at this
  refine this.same (fun d j=>?_) (fun d=>?_)
  · rw[fC,fC]
    have e1:(lk::aA r2).length=(lk::r2).length:=by simp[cr]
    rw[e1]
    by_cases e:d<(lk::r2).length
    · rw[if_pos e,if_pos e];exact ct (lk::r2) d j
    · rw[if_neg e,if_neg e]
  · rw[dT,dT]
    have e1:(lk::aA r2).length=(lk::r2).length:=by simp[cr]
    rw[e1]
    by_cases e:d<(lk::r2).length
    · rw[if_pos e,if_pos e];exact b7 (lk::r2) d
    · rw[if_neg e,if_neg e]
 have hlk0:lk.lock=false:=by
  have:=cK (l1::r1) 0 i 0
  rw[hk1] at this
  exact this.trans hl0
 have hEp:=b9.pad hsink (by simp) 1 (dg.refl _ _)
 have hpad:kD (lk::aA r2++[iy (aj.map es)]) 1={ lk with bs:=lk.bs++[(0,.dead)] } :: (aA r2++[iy (aj.map es)]):=rfl
 obtain ⟨lb,hlbd⟩:∃ lb,lb=({ lk with bs:=lk.bs++[(0,.dead)] }:bx):=⟨_,rfl⟩
 obtain ⟨R,hRd⟩:∃ R,R=aA r2++[iy (aj.map es)]:=⟨_,rfl⟩
 rw[← hlbd,← hRd] at hfold hsure
 rw[← hRd] at hlast
 rw[hpad,← hlbd,← hRd] at hEp
 have hRl:∀ d,az R d=true:=fun d=>by
  rw[hRd,iO]
  split
  · exact bk _ _
  · cases (d-(aA r2).length)<;>rfl
 have hnx:ar (lk::aA r2++[iy (aj.map es)])=ar (l1::r1):=by
  have:ah (cI (l1::r1) 0 i) 0=ah (l1::r1) 0:=bz _ _ _ _
  rw[hk1] at this
  exact this
 have hnb:ar (lb::R)=ar (l1::r1)+1:=by
  rw[← hnx,hlbd]
  show (lk.bs++[(0,aj.dead)]).length=lk.bs.length+1
  simp
 have hdead:(au (lb::R) 0 (ar (l1::r1))).2=.dead:=by
  rw[← hnx,hlbd]
  exact Classical.byContradiction fun hn=>by
   have h1:=dM (lk::aA r2++[iy (aj.map es)]) 1 0 (ar (lk::aA r2++[iy (aj.map es)]))
   rw[hpad] at h1
   have h2:au ({ lk with bs:=lk.bs++[(0,.dead)] } :: R) 0 (ar (lk::aA r2++[iy (aj.map es)]))=au (lk::aA r2++[iy (aj.map es)]) 0 (ar (lk::aA r2++[iy (aj.map es)])):=h1
   rw[h2] at hn
   have:=gW hn
   rw[aG] at this
   omega
 have hlb:az (lb::R) 0=false:=by rw[hlbd];exact hlk0
 have hno:∀ v,kg M1 (r2.length+1) i 0 (ar (l1::r1)) v=none:=fun v=>by
  unfold kg
  rw[if_neg (by omega)]
  cases hx:M1 0 (ar (l1::r1)) v with
  | none=>rfl
  | some u =>
    have:=(hE1.rel.dom _ _ _ _ hx).1
    rw[aG] at this
    omega
 have hEn:=b9.name hEp.rel hdead (by rw[aG,hnb];omega) hno hlb (.mapIter (some b) clock #[] clock)
 have hkb:Go.Eng.bf (kg M1 (r2.length+1) i) (lb::R) b:=by
  intro d' i' v' B' hg' hB' hl' o' t' hm'
  cases d' with
  | succ d' =>
    rw[show az (lb::R) (d'+1)=az R d' from rfl,hRl] at hl';cases hl'
  | zero =>
    have h1:=dM (lk::aA r2++[iy (aj.map es)]) 1 0 i'
    rw[hpad,← hlbd,← hRd,hg'] at h1
    have h2:au (cI (l1::r1) 0 i) 0 i'=(v',B'):=by rw[hk1];exact h1.symm
    unfold kg at hm'
    rw[if_neg (by omega)] at hm'
    rw[cJ] at h2
    split at h2
    · simp only[Prod.mk.injEq] at h2;exact hB' h2.2.symm
    · rename_i e
      exact e (hE1.rel.apart 0 i' v' B' 0 i 0 (.map es) b o' t' o tt h2 hB' hg (by simp) hm' hmu)
 have hF1':bU p1 (kg M1 (r2.length+1) i) cx.nt (jY (qS (r2.length+1) i) fr1) a1:=⟨hF1.size,fun x=>by
  rw[je rfl]
  have:=zB hE1.rel (i:=i) (hF1.at_ x)
  rwa [hlen] at this⟩
 have hF2:=(hF1'.mono hEn.pst hEn.mu).put (some L.it) (v:=.ptr 0 (ar (l1::r1)) 0 0) (c:=.pointer (some ⟨w1.heap.size,0,none⟩)) (.ptr (o:=0) (t:=0) (by simp[bh]))
 have hM2:Marks n0 (bh (kg M1 (r2.length+1) i) 0 (ar (l1::r1)) 0 (w1.heap.size,0,0)) (lb::R) (w1.alloc (.mapIter (some b) clock #[] clock)) (a1.put (some L.it) (.pointer (some ⟨w1.heap.size,0,none⟩))).defers:=by
  rw[put_defers,hd1]
  have m1:=hM.po hE1
  have m3:Marks n0 (kg M1 (r2.length+1) i) (lk::aA r2++[iy (aj.map es)]) w1 a.defers:=by
   obtain ⟨rs,g1,g2,g0,g3⟩:=m1
   refine ⟨rs,g1,g2,g0,fun q hq=>⟨(g3 q hq).1,fun d' i' v' B' hg' hB' hl' o' t' hm'=>?_,(g3 q hq).2.2⟩⟩
   obtain ⟨b2,o2,t2,k1,k2,_⟩:=hsink.live d' i' v' B' hg' hB'
   rw[hm'] at k1
   simp only[nP] at k1
   obtain ⟨rfl,_,_⟩:=k1
   have hq1:=(g3 q hq).1
   cases B' with
   | dead=>exact hB' rfl
   | row r=>obtain ⟨_,_,e,_⟩:=k2;rw[hq1] at e;simp at e
   | map es=>obtain ⟨_,_,e,_⟩:=k2;rw[hq1] at e;simp at e
   | fmap kq f g c=>obtain ⟨_,_,_,_,e,_⟩:=k2;rw[hq1] at e;simp at e
   | loop l=>obtain ⟨_,e,_⟩:=k2;rw[hq1] at e;simp at e
  exact (m3.po hEp).po hEn
 have hR2:nT F cx.ro (kg M1 (r2.length+1) i):=hR.mono (hE1.mu.trans hle)
 -- what the check has shown
 have facts:∃ (X:av→bx→Prop) (j0:Nat),X (dz cx.nt (jY (qS (r2.length+1) i) fr1) (some L.it) (.ptr 0 (ar (l1::r1)) 0 0)) lb ∧
  (∀ f l,X f l→bw f L.it=.ptr 0 (ar (l1::r1)) 0 0) ∧
  (∀ f l,X f l→∀ j,j<es.length→∃ f1 m1 R1,L.round cx (ar (l1::r1)) (ar (l1::r1)+1) (es.getD j (.undef,.undef)) f (l::R)=some (f1,m1::R1)∧X f1 m1∧(j=j0→(f1,m1)=t)) ∧
  (∀ f l,(f,l)=t→∀ j,j<es.length→∀ f1 m1 R1,L.round cx (ar (l1::r1)) (ar (l1::r1)+1) (es.getD j (.undef,.undef)) f (l::R)=some (f1,m1::R1)→(f1,m1)=t) ∧
  (∀ f l,X f l→(0<es.length→(f,l)=t)→(f,l)=t)∧(0<es.length→j0<es.length):=by
  clear hrel hsz hg hnoH hsink hpad hRd hEp
  generalize es=kvs at hsure ⊢
  unfold sure at hsure
  split at hsure
  · simp only[Bool.and_eq_true] at hsure
    have e1:=xj _ _ hsure.1
    refine ⟨fun f l=>(f,l)=t,0,e1,fun f l hx=>?_,fun f l _ j hj=>absurd hj (by simp),fun f l _ j hj=>absurd hj (by simp),fun f l hx _=>hx,fun hp=>absurd hp (by simp)⟩
    have:f=(dz cx.nt (jY (qS (r2.length+1) i) fr1) (some L.it) (.ptr 0 (ar (l1::r1)) 0 0)):=by rw[← e1] at hx;exact (Prod.mk.inj hx).1
    rw[this];exact fk hsure.2
  · simp only[Bool.and_eq_true] at hsure
    obtain ⟨h1,h2,h3,h4⟩:=hsure
    have hj:tj L cx (ar (l1::r1)) (ar (l1::r1)+1) R (dz cx.nt (jY (qS (r2.length+1) i) fr1) (some L.it) (.ptr 0 (ar (l1::r1)) 0 0),lb) t kvs 0<kvs.length:=by
     have:=Nat.le_of_ble_eq_true h4;omega
    have mem:∀ j,j<kvs.length→kvs.getD j (.undef,.undef) ∈ kvs:=fun j hj=>by
     rw[List.getD_eq_getElem?_getD,List.getElem?_eq_getElem hj];simp
    refine ⟨fun f l=>(f,l) ∈ ((dz cx.nt (jY (qS (r2.length+1) i) fr1) (some L.it) (.ptr 0 (ar (l1::r1)) 0 0),lb)::wg L cx (ar (l1::r1)) (ar (l1::r1)+1) R (dz cx.nt (jY (qS (r2.length+1) i) fr1) (some L.it) (.ptr 0 (ar (l1::r1)) 0 0),lb) kvs),
     tj L cx (ar (l1::r1)) (ar (l1::r1)+1) R (dz cx.nt (jY (qS (r2.length+1) i) fr1) (some L.it) (.ptr 0 (ar (l1::r1)) 0 0),lb) t kvs 0,by simp,fun f l hx=>?_,fun f l hx j hjl=>?_,fun f l he j hjl f1 m1 R1 hr=>?_,fun f l _ hp=>hp (by omega),fun _=>hj⟩
    · have:=List.all_eq_true.1 h2 _ hx
      simp only[Bool.and_eq_true] at this
      exact fk this.1
    · have:=List.all_eq_true.1 h2 _ hx
      simp only[Bool.and_eq_true] at this
      obtain ⟨_,g2,g3⟩:=this
      obtain ⟨s,hs,he⟩:=y8 (List.all_eq_true.1 g2 _ (mem j hjl))
      obtain ⟨R1,hr⟩:=fZ he
      refine ⟨s.1,s.2,R1,hr,hs,fun hjj=>?_⟩
      rw[← hjj] at g3
      have:=sk g3
      rw[he] at this
      exact Option.some.inj this
    · have:=sk (List.all_eq_true.1 h3 _ (mem j hjl))
      rw[← he] at this
      obtain ⟨R2,hr2⟩:=fZ this
      dsimp only at hr2
      rw[hr] at hr2
      simp only[Option.some.injEq,Prod.mk.injEq,List.cons.injEq] at hr2
      rw[hr2.1,hr2.2.1]
      first | done | rfl | exact he | (rw[← he])
 obtain ⟨X,j0,x1,x2,x3,x4,x5,x6⟩:=facts
 have hit:L.it<cx.nt:=by
  refine Nat.lt_of_not_le fun hle=>?_
  have h7:=x2 _ _ x1
  have h8:=hF2.at_ L.it
  rw[h7] at h8
  have:(a1.put (some L.it) (.pointer (some ⟨w1.heap.size,0,none⟩))).tmps.getD L.it Go.undef=Go.undef:=by
   have hs:=hF2.size
   rw[Array.getD_eq_getD_getElem?,Array.getElem?_eq_none (by omega)];rfl
  rw[this] at h8
  cases h8
 have hslot:(a1.put (some L.it) (.pointer (some ⟨w1.heap.size,0,none⟩))).tmps.getD L.it Go.undef=.pointer (some ⟨w1.heap.size,0,none⟩):=by
  have hs:=hF1.size
  simp[Act.put,hs,hit]
 refine zp (fr':=si) (H':=lE::RE) hFW hN hC hX hL hit (X:=X) (S:=fun f l=>(f,l)=t) (R:=R) hRl x2 x3 x4 (fun f l hx hp=>?_) x6 rfl hEp.rel hnb (by simp) hR2 hkb hb hborn hsz ?_ (Nat.le_refl _) hEn hF2 hM2 x1 (World.alloc_heap_new _ _) hslot (fun a' w' hnow=>?_)
 · have:=x5 f l hx hp
   rw[← this] at hlast
   exact hlast
 · intro j hj
   have:=hrel j hj
   exact ⟨this.1.mono (aJ.le.refl _) hle,this.2.mono (aJ.le.refl _) hle⟩
 · obtain ⟨p',MK,e1,e2,e3⟩:=hnow
   have e4:=hEp.trans e1
   have hRE:RE=R:=by
    refine kF _ _ (by have:=e4.len;rw[hRd];simpa using this) (fun d' i'=>?_) (fun d'=>?_) (fun d'=>?_)
    · have:=e4.same (d'+1) i' (by omega) (by have:=hRl d';rw[hRd] at this;exact this)
      rw[hRd];exact this
    · have:=e4.next (d'+1) (by omega) (by have:=hRl d';rw[hRd] at this;exact this)
      rw[hRd];exact this
    · have:=e4.lock (d'+1)
      rw[hRd];exact this
   rw[hRE,hRd] at e4 e3
   have hK0:a8 p1 M1 (lk::aA r2) w1:=by
    have:=hE1.rel.kill 0 i
    rw[hk1] at this
    exact this.same (fun d j=>ct (lk::r2) d j) (fun d=>b7 (lk::r2) d)
   have hv0:∀ v t,M1 0 i v=some t→v=0:=fun v t hm=>by
    have:=(hE1.rel.dom 0 i v t hm).2 (by rw[hg];simp)
    rw[hg] at this
    exact Nat.le_zero.1 this
   have e5:=b9.My hK0 (fun d=>bk r2 d) hlk0 hv0 (by rw[hlenR];exact e4) (by rw[hlenR];exact hcB) (by
    show (aq lE.bs i).2=.dead
    revert hcD
    generalize (aq lE.bs i).2=B
    cases B<;>simp[eX])
   rw[hlenR] at e5
   have hH2':a8 p1 M1 (lk::r2) w1:=by rw[← hk1];exact hE1.rel.kill 0 i
   have e6:=b9.unlock hH2' hlk0 e5
   -- the map's cells are nobody's
   have hmK:MK (r2.length+1) 0 0=some (b,o,tt):=e4.mu _ _ _ _ (by unfold kg;rw[if_pos rfl,if_pos ⟨rfl,rfl⟩];exact hmu)
   have hmK0:MK 0 i 0=some (b,o,tt):=e4.mu _ _ _ _ (hle _ _ _ _ hmu)
   have hp0:∀ x,p' b x=none:=by
    obtain ⟨b2,o2,t2,j1,_,j3⟩:=e4.rel.live (r2.length+1) 0 0 (.map es) (by
     show au ((lE::aA r2)++[iy (aj.map es)]) (r2.length+1) 0=_
     rw[fC,if_neg (by simp[cr])]
     simp[cr,au,iy,aq]) (by simp)
    rw[hmK] at j1
    simp only[nP] at j1
    rw[j1.1];exact j3
   have e7:=b9.restore hE1.rel hg (by simp) hmu hl0 hl0 (by rw[hk1];exact e6) (fun v1 t1 hm=>by
    unfold uL at hm
    split at hm
    · rename_i e
      exact Nat.le_of_not_lt fun hlt=>e.2 ⟨rfl,rfl,by omega⟩
    · cases hm) hp0
   have e8:=hE1.trans e7
   refine hQ a' w' ⟨p',_,e8,⟨e2.size,fun x=>?_⟩,?_⟩
   · rw[je rfl]
     refine yo (by omega) (by rw[hmK,hmK0]) ?_ (e2.at_ x)
     have:=tb (f:=fun x=>lS (r2.length+1) i x.2) (fun _=>rfl) (x:=x) hcF (fun _ _=>rfl)
     rw[je rfl] at this
     exact this
   · obtain ⟨rs,g1,g2,g0,g3⟩:=e3
     refine ⟨rs,g1,g2,g0,fun q hq=>⟨(g3 q hq).1,?_,(g3 q hq).2.2⟩⟩
     -- a mark is kept: it is no block that is known
     intro d' i' v' B' hg' hB' hl' o' t' hm'
     obtain ⟨b2,o2,t2,k1,k2,_⟩:=e7.rel.live d' i' v' B' hg' hB'
     rw[hm'] at k1
     simp only[nP] at k1
     obtain ⟨rfl,_,_⟩:=k1
     have hq1:=(g3 q hq).1
     cases B' with
     | dead=>exact hB' rfl
     | row r=>obtain ⟨_,_,e,_⟩:=k2;rw[hq1] at e;simp at e
     | map es=>obtain ⟨_,_,e,_⟩:=k2;rw[hq1] at e;simp at e
     | fmap kq f g c=>obtain ⟨_,_,_,_,e,_⟩:=k2;rw[hq1] at e;simp at e
     | loop l=>obtain ⟨_,e,_⟩:=k2;rw[hq1] at e;simp at e

end Go.Eng
end
