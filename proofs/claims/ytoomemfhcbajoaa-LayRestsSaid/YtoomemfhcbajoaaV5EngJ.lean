/- The engine, part J: marks; cutting a level back. -/
import Derived.Test.YtoomemfhcbajoaaV5EngGx3
set_option linter.unusedVariables false
set_option linter.unusedSimpArgs false
namespace Go.Eng

def Marks (n0:Nat) (M:Mu) (H:aa) (w:World) (ds:List Deferred):Prop :=
 ∃ rs:List Nat,ds=rs.map (fun r=>{ target:=.collected r,args:=#[] })∧rs.Nodup∧n0≤w.heap.size∧∀ r ∈ rs,w.heap[r]?=some (.deferred (some []))∧aZ M H r∧n0≤r

theorem Marks.nil (M:Mu) (H:aa) (w:World):Marks w.heap.size M H w []:=⟨[],rfl,List.nodup_nil,Nat.le_refl _,fun r hr=>by simp at hr⟩
theorem Marks.qq {p p':aA} {M M':Mu} {H H':aa} {w w':World} {n0:Nat} {ds:List Deferred} (h:Marks n0 M H w ds) (hE:bX p M H w p' M' H' w'):Marks n0 M' H' w' ds:=by
 obtain ⟨rs,h1,h2,h0,h3⟩:=h
 refine ⟨rs,h1,h2,Nat.le_trans h0 hE.stay.size,fun r hr=>?_⟩
 obtain ⟨k1,k2,k3⟩:=h3 r hr
 have hlt:r<w.heap.size:=(Array.getElem?_eq_some_iff.1 k1).1
 exact ⟨by rw[hE.stay.block r hlt k2];exact k1,hE.aZ r hlt k2,k3⟩

def eC (n:Nat) (M:Mu):Mu:=fun d i v=>if d=0∧n≤i then none else M d i v
theorem jS (n:Nat) (M:Mu):Mu.le (eC n M) M:=fun d i v t h=>by
 simp only[eC] at h
 split at h
 · cases h
 · exact h
theorem Ea (n k:Nat) (M:Mu) (hk:0<k):(eC n M).up k=M.up k:=by
 funext d i v
 simp only[Mu.up,eC]
 rw[if_neg (by omega)]

theorem Eb (n s:Nat) (M:Mu):pq (eC n M) (some (s+1))=pq M (some (s+1)):=by
 funext d i v
 show eC n M (d+(s+1)) i v=M (d+(s+1)) i v
 simp only[eC]
 rw[if_neg]
 omega
theorem DZ {p:aA} {M N:Mu} {v:AV} {c:Value} (hv:CD v=true) (h:aj p M v c):aj p N v c:=by
 cases h with
 | bool b=>exact .bool b
 | int k n=>exact .int k n
 | nils=>exact .nils
 | ptrT vs h0 h1 hr =>
   rename_i s r off b o
   cases s with
   | none=>exact .ptrT vs h0 h1 hr
   | some s=>simp[CD] at hv
 | slcT vs h0 h1 hr hl hf hx =>
   rename_i s r sz len b o x cc full
   cases s with
   | none=>exact .slcT vs h0 h1 hr hl hf hx
   | some s=>simp[CD] at hv
 | slcN=>exact .slcN
 | _=>simp[CD] at hv
theorem DY {p:aA} {M N:Mu} {r:Row} {vs:Nat→Value} (hr:KB r=true) (h:∀ j,j<r.len→aj p (jz M r) (r.get j) (vs j)):∀ j,j<r.len→aj p (jz N r) (r.get j) (vs j):=by
 cases r with
 | I k l=>exact fun j hj=>(h j hj).bA _ _
 | F f m=>exact h
 | G l =>
   intro j hj
   have hj':j<l.length:=hj
   have:CD (l.getD j .undef)=true:=by
    have:=List.all_eq_true.1 hr (l.getD j .undef) (by simp[hj'])
    exact this
   exact DZ this (h j hj)
 | M l=>exact aT.fU hr h
theorem bL {p:aA} {M:Mu} {n:Nat} {v:AV} {c:Value} (hr:lF n v=false) (h:aj p M v c):aj p (eC n M) v c:=by
 have here:∀ {d i:Nat},(Nat.beq d 0 && Nat.ble n i)=false→∀ ver,eC n M d i ver=M d i ver:=by
  intro d i e ver
  simp only[eC]
  rw[if_neg]
  rintro ⟨rfl,h2⟩
  have:Nat.ble n i=true:=by simpa using h2
  simp[this] at e
 cases h with
 | undef c=>exact .undef c
 | bool b=>exact .bool b
 | int k n=>exact .int k n
 | str s=>exact .str s
 | nilp=>exact .nilp
 | nils=>exact .nils
 | nilm=>exact .nilm
 | nilf=>exact .nilf
 | ptr h=>exact .ptr (by rw[here hr];exact h)
 | ptrT vs h0 h1 hv =>
   rename_i s r off b o
   cases s with
   | none=>exact .ptrT vs h0 h1 hv
   | some s =>
     cases s with
     | zero=>exact .ptrT vs h0 h1 (DY (by simpa[lF,Br] using hr) hv)
     | succ s=>exact .ptrT vs h0 h1 (by rw[Eb];exact hv)
 | slc h hl hc hn hx=>exact .slc (by rw[here hr];exact h) hl hc hn hx
 | slcT vs h0 h1 hv hl hf hx =>
   rename_i s r sz len b o x cc full
   cases s with
   | none=>exact .slcT vs h0 h1 hv hl hf hx
   | some s =>
     cases s with
     | zero=>simp[lF,Br] at hr
     | succ s=>exact .slcT vs h0 h1 (by rw[Eb];exact hv) hl hf hx
 | slcN=>exact .slcN
 | map h=>exact .map (by rw[here hr];exact h)
 | yld h=>exact .yld (by rw[here hr];exact h)
 | fn=>simp[lF] at hr
 | agg hs h1 hv =>
   rename_i r cs
   cases r with
   | I k l=>exact .agg hs h1 (fun j hj=>(hv j hj).bA _ _)
   | F f m=>exact .agg hs h1 hv
   | G l=>simp[lF] at hr
   | M l=>exact .agg hs h1 (aT.fU (by simpa[lF] using hr) hv)
 | tup hs hv =>
   rename_i l cs
   cases l with
   | nil=>exact .tup hs (fun j hj=>absurd hj (by simp))
   | cons=>simp[lF] at hr

theorem lI {p q:aA} {M N:Mu} {f:AV→Bool}:∀ {l:List ah} {vs:Nat→Value},anyM f l=false→(∀ v c,f v=false→aj p M v c→aj q N v c)→(∀ j,j<av l→aj p M (getM l j) (vs j))→∀ j,j<av l→aj q N (getM l j) (vs j)
 | [],_,_,_,_,j,hj=>by simp[av] at hj
 | .one v::r,vs,hr,hf,hv,0,hj=>by
   simp only[anyM,Bool.or_eq_false_iff] at hr
   exact hf _ _ hr.1 (hv 0 hj)
 | .one v::r,vs,hr,hf,hv,j+1,hj=>by
   simp only[anyM,Bool.or_eq_false_iff] at hr
   have hj':j<av r:=by simp[av,aI] at hj;omega
   exact lI (vs:=fun j=>vs (j+1)) hr.2 hf (fun j hj=>hv (j+1) (by simp[av,aI];omega)) j hj'
 | .arr k z n::r,vs,hr,hf,hv,j,hj=>by
   have h0:=hv j hj
   simp only[getM] at h0 ⊢
   by_cases e:j<n
   · rw[if_pos e] at h0 ⊢;exact h0.bA _ _
   · rw[if_neg e] at h0 ⊢
     have hj':j-n<av r:=by simp[av,aI] at hj;omega
     have:=lI (p:=p) (M:=M) (q:=q) (N:=N) (l:=r) (vs:=fun i=>vs (i+n)) hr hf (fun i hi=>by
      have:=hv (i+n) (by simp[av,aI];omega)
      simp only[getM] at this
      rw[if_neg (by omega),Nat.add_sub_cancel] at this
      exact this) (j-n) hj'
     rw[Nat.sub_add_cancel (by omega)] at this
     exact this
theorem kg {p:aA} {M:Mu} {n:Nat} {v:AV} {c:Value} (hr:rh n v=false) (h:aj p M v c):aj p (eC n M) v c:=by
 have getF:∀ {l:List AV} {j:Nat},l.any (lF n)=false→j<l.length→lF n (l.getD j .undef)=false:=by
  intro l j h hj
  have:=List.any_eq_false.1 h (l.getD j .undef) (by simp[hj])
  simpa using this
 cases v with
 | agg r =>
   cases r with
   | G l =>
     cases h with
     | agg hs h1 hv=>exact .agg hs h1 (fun j hj=>bL (getF hr hj) (hv j hj))
   | I k l=>exact bL hr h
   | F f m=>exact bL hr h
   | M l =>
     cases h with
     | agg hs h1 hv=>exact .agg hs h1 (lI hr (fun v c e h=>bL e h) hv)
 | fn f x y =>
   cases h with
   | fn hx hy vx vy =>
     simp only[rh,Bool.or_eq_false_iff] at hr
     exact .fn hx hy (fun j hj=>bL (getF hr.1 hj) (vx j hj)) (fun j hj=>bL (getF hr.2 hj) (vy j hj))
 | undef=>exact bL hr h
 | bool=>exact bL hr h
 | int=>exact bL hr h
 | str=>exact bL hr h
 | nilp=>exact bL hr h
 | nils=>exact bL hr h
 | nilm=>exact bL hr h
 | nilf=>exact bL hr h
 | ptr=>exact bL hr h
 | ptrT s r off =>
   have other:(∀ l,s=some 0→r≠.M l)→lF n (.ptrT s r off)=false:=fun hn=>by
    rcases s with _ | s
    · rfl
    · cases s with
      | succ s=>rfl
      | zero =>
        cases r with
        | M l=>exact absurd rfl (hn l rfl)
        | I=>exact hr
        | F=>exact hr
        | G=>exact hr
   by_cases e:∃ l,s=some 0∧r=.M l
   · obtain ⟨l,rfl,rfl⟩:=e
     cases h with
     | ptrT vs h0 h1 hv =>
       refine .ptrT vs h0 h1 ?_
       have e1:jz (pq M (some 0)) (.M l)=M:=Mu.mQ M
       have e2:jz (pq (eC n M) (some 0)) (.M l)=eC n M:=Mu.mQ _
       rw[e1] at hv
       rw[e2]
       exact lI hr (fun v c e h=>bL e h) hv
   · exact bL (other fun l h1 h2=>e ⟨l,h1,h2⟩) h
 | slc=>exact bL hr h
 | slcT=>exact bL hr h
 | map=>exact bL hr h
 | yld=>exact bL hr h
 | tup=>exact bL hr h

theorem Fp {p:aA} {M:Mu} {n:Nat} {B:ai} {b o t:Nat} {w:World} (hr:Dj n B=false) (h:eU p M B b o t w):eU p (eC n M) B b o t w:=by
 cases B with
 | dead=>trivial
 | row r =>
   obtain ⟨c,e,e1,e2,e3,e4⟩:=h
   refine ⟨c,e,e1,e2,e3,fun j hj=>?_⟩
   cases r with
   | I k l=>exact ⟨(e4 j hj).1.bA _ _,(e4 j hj).2⟩
   | F f m=>exact e4 j hj
   | M l=>exact ⟨lI (vs:=fun j=>c.getD (o+j) Go.undef) hr (fun v c e h=>kg e h) (fun j hj=>(e4 j hj).1) j hj,(e4 j hj).2⟩
   | G l =>
     refine ⟨kg ?_ (e4 j hj).1,(e4 j hj).2⟩
     have hj':j<l.length:=hj
     have:=List.any_eq_false.1 hr (l.getD j .undef) (by simp[hj'])
     simpa[Row.get] using this
 | map es =>
   obtain ⟨ces,clock,h1,h2,h3,h4⟩:=h
   refine ⟨ces,clock,h1,h2,h3,fun j hj=>?_⟩
   have hm:es.getD j (.undef,.undef) ∈ es:=by
    rw[List.getD_eq_getElem?_getD,List.getElem?_eq_getElem (by omega)];exact List.getElem_mem _
   have hn:(es.any fun e=>rh n e.1 || rh n e.2)=false:=hr
   have:=List.any_eq_false.1 hn _ hm
   simp only[Bool.or_eq_true,not_or,Bool.not_eq_true] at this
   exact ⟨kg this.1 (h4 j hj).1,kg this.2 (h4 j hj).2⟩
 | fmap kq f g c=>exact xO _ _ h
 | loop l=>simp[Dj] at hr

theorem fJ:∀ (l:List (Nat×ai)) (n i:Nat),ao (l.take n) i=if i<n then ao l i else (0,.dead)
 | [],n,i=>by simp[ao]
 | b::l,0,i=>by simp[ao]
 | b::l,n+1,0=>by simp[ao]
 | b::l,n+1,i+1=>by simp[ao,fJ l n i]
theorem kV:∀ {l:List (Nat×ai)} {i:Nat},(ao l i).2≠.dead→ao l i ∈ l
 | [],_,h=>by simp[ao] at h
 | b::l,0,_=>by simp[ao]
 | b::l,i+1,h=>by simp only[ao];exact List.mem_cons_of_mem _ (kV (l:=l) (i:=i) h)

theorem r9:∀ (fr:ar) (x:Nat),bo fr x=.undef∨∃ y,(y,bo fr x) ∈ fr
 | [],x=>.inl rfl
 | (y,v)::r,x=>by
   simp only[bo]
   split
   · exact .inr ⟨y,by simp⟩
   · rcases r9 r x with h | ⟨z,h⟩
     · exact .inl h
     · exact .inr ⟨z,by simp[h]⟩

theorem uD {p p1:aA} {M M1:Mu} {H:aa} {w w1:World} {nt:Nat} {fr:ar} {a:Act} {l:aU} {r:aa} (hE:bX p M H w p1 M1 (l::r) w1) (hF:bN p1 M1 nt fr a) {n0:Nat} (hM:Marks n0 M1 (l::r) w1 a.defers) (hdom:∀ d i v t,M d i v=some t→i<ak H d) :
 ∀ (k m:Nat),an H≤m→∃ M2,bX p M H w p1 M2 (cutAt fr l r k m) w1∧bN p1 M2 nt fr a∧Marks n0 M2 (cutAt fr l r k m) w1 a.defers
 | 0,m,_=>⟨M1,hE,hF,hM⟩
 | k + 1, m,hm0=>by
   unfold cutAt
   split
   · exact uD hE hF hM hdom k (m+1) (by omega)
   · rename_i hno
     have hno:fr.any (fun x=>rh m x.2)=false∧(l.bs.take m).any (fun x=>Dj m x.2)=false:=by simpa using hno
     obtain ⟨hno1,hno2⟩:=hno
     have get:∀ d i,aq ({ l with bs:=l.bs.take m } :: r) d i=if d=0∧m≤i then (0,.dead) else aq (l::r) d i:=by
      intro d i
      cases d with
      | zero =>
        simp only[aq,fJ]
        by_cases e:i<m
        · rw[if_pos e,if_neg (by omega)]
        · rw[if_neg e,if_pos ⟨by trivial,Nat.le_of_not_lt e⟩]
      | succ d=>simp[aq]
     have rel:aV p1 (eC m M1) ({ l with bs:=l.bs.take m } :: r) w1:=by
      refine ⟨hE.rel.pers,?_,?_,?_⟩
      · intro d i v B hg hB
        rw[get] at hg
        split at hg
        · simp only[Prod.mk.injEq] at hg;exact absurd hg.2.symm hB
        · rename_i e
          obtain ⟨b,o,t,k1,k2,k3⟩:=hE.rel.live d i v B hg hB
          refine ⟨b,o,t,by simp only[eC];rw[if_neg e];exact k1,?_,k3⟩
          cases d with
          | succ d=>rw[Ea _ _ _ (by omega)];exact k2
          | zero =>
            refine Fp ?_ k2
            have hi:i<m:=Nat.lt_of_not_le fun e'=>e ⟨rfl,e'⟩
            have hg':ao l.bs i=(v,B):=hg
            have hm:ao (l.bs.take m) i ∈ l.bs.take m:=kV (by rw[fJ,if_pos hi,hg'];exact hB)
            rw[fJ,if_pos hi,hg'] at hm
            have:=List.any_eq_false.1 hno2 _ hm
            simpa using this
      · intro d i v B d' i' v' B' b o t o' t' hg hB hg' hB' hm hm'
        rw[get] at hg hg'
        split at hg
        · simp only[Prod.mk.injEq] at hg;exact absurd hg.2.symm hB
        · split at hg'
          · simp only[Prod.mk.injEq] at hg';exact absurd hg'.2.symm hB'
          · exact hE.rel.apart d i v B d' i' v' B' b o t o' t' hg hB hg' hB' (jS _ _ _ _ _ _ hm) (jS _ _ _ _ _ _ hm')
      · intro d i v t hm
        have h0:=hE.rel.dom d i v t (jS _ _ _ _ _ _ hm)
        have hne:¬ (d=0∧m≤i):=by
         intro e
         simp only[eC] at hm
         rw[if_pos e] at hm
         cases hm
        rw[get,if_neg hne]
        refine ⟨?_,h0.2⟩
        cases d with
        | zero =>
          have h1:i<l.bs.length:=h0.1
          have h2:i<m:=Nat.lt_of_not_le fun e=>hne ⟨rfl,e⟩
          simp only[ak,List.length_take];omega
        | succ d=>exact h0.1
     have keepc:∀ b,aZ M1 (l::r) b→aZ (eC m M1) ({ l with bs:=l.bs.take m } :: r) b:=by
      intro b hk d i v B hg hB hl o t hm
      rw[get] at hg
      split at hg
      · simp only[Prod.mk.injEq] at hg;exact absurd hg.2.symm hB
      · exact hk d i v B hg hB (by cases d<;>exact hl) o t (jS _ _ _ _ _ _ hm)
     refine ⟨eC m M1,⟨hE.pst,?_,rel,hE.stay,fun b hb hk=>keepc b (hE.aZ b hb hk),hE.fresh,fun d i v b o t hm=>hE.own d i v b o t (jS _ _ _ _ _ _ hm),fun d=>?_,fun d i hd hl=>?_,fun d hd hl=>?_,hE.len,fun d=>?_,fun d i v t hm=>hE.new d i v t (jS _ _ _ _ _ _ hm)⟩,⟨hF.size,fun x=>?_⟩,?_⟩
     · intro d i v t hm
       have:=hE.mu d i v t hm
       have h0:=hdom d i v t hm
       simp only[eC]
       rw[if_neg]
       · exact this
       · rintro ⟨rfl,e⟩
         rw[aB] at h0
         omega
     · have:=hE.lock d
       cases d<;>exact this
     · rw[get,if_neg (fun e=>hd e.1)];exact hE.same d i hd hl
     · have:=hE.next d hd hl
       cases d with
       | zero=>exact absurd rfl hd
       | succ d=>exact this
     · have:=hE.grow d
       cases d with
       | zero=>rw[aB] at this ⊢;simp only[ak,List.length_take] at this ⊢;omega
       | succ d=>exact this
     · rcases r9 fr x with e | ⟨y,e⟩
       · rw[e];exact .undef _
       · refine kg ?_ (hF.at_ x)
         have:=List.any_eq_false.1 hno1 _ e
         simpa using this
     · obtain ⟨rs,h1,h2,h0,h3⟩:=hM
       exact ⟨rs,h1,h2,h0,fun x hx=>⟨(h3 x hx).1,keepc x (h3 x hx).2.1,(h3 x hx).2.2⟩⟩

theorem rj {p p1:aA} {M M1:Mu} {H H1:aa} {w w1:World} {nt:Nat} {fr:ar} {a:Act} (hE:bX p M H w p1 M1 H1 w1) (hF:bN p1 M1 nt fr a) {n0:Nat} (hM:Marks n0 M1 H1 w1 a.defers) (hdom:∀ d i v t,M d i v=some t→i<ak H d) :
 ∃ M2,bX p M H w p1 M2 (lq (an H) fr H1) w1∧bN p1 M2 nt fr a∧Marks n0 M2 (lq (an H) fr H1) w1 a.defers:=by
 unfold lq
 cases H1 with
 | nil=>exact ⟨M1,hE,hF,hM⟩
 | cons l r =>
   simp only
   split
   · exact ⟨M1,hE,hF,hM⟩
   · exact uD hE hF hM hdom 4 (an H) (Nat.le_refl _)

def ja (a b:Nat) (M:Mu):Mu:=fun d i v=>if d=0 then (if i=b then M 0 a v else if i=a then none else M 0 i v) else M d i v
theorem GY (a b k:Nat) (M:Mu) (hk:0<k):(ja a b M).up k=M.up k:=by
 funext d i v
 simp only[Mu.up,ja]
 rw[if_neg (by omega)]
theorem sF (M:Mu):M.up 0=M:=by
 funext d i v;rfl
theorem Ge (a b:Nat) (M:Mu):Mu.le (eC 0 M) (ja a b M):=fun d i v t h=>by
 simp only[eC] at h
 simp only[ja]
 split at h
 · cases h
 · rename_i e
   rw[if_neg (fun e2=>e ⟨e2,Nat.zero_le _⟩)]
   exact h
theorem rr {a b:Nat} {M:Mu} {d i v:Nat} (hu:(Nat.beq d 0 && Nat.beq i b)=false) (ha:¬ (d=0∧i=a)):ja a b M d i v=M d i v:=by
 simp only[ja]
 by_cases hd:d=0
 · subst hd
   rw[if_pos rfl,if_neg (by
    rintro rfl
    simp at hu),if_neg (fun h=>ha ⟨rfl,h⟩)]
 · rw[if_neg hd]
theorem jl {d i a:Nat}:(Nat.beq d 0 && Nat.beq i a)=true↔d=0∧i=a:=by simp
theorem Fq {p:aA} {M:Mu} {v:AV} {c:Value} (hr:Hh v=false) (h:aj p M v c):aj p (eC 0 M) v c:=by
 unfold Hh at hr
 split at hr
 · exact kg (n:=0) hr h
 · exact bL hr h
theorem cI {p:aA} {M:Mu} {a b:Nat} {v:AV} {c:Value} (hu:uj b v=false) (h:aj p M v c):aj p (ja a b M) (ud a b v) c:=by
 have other:∀ v,Hh v=false→aj p M v c→aj p (ja a b M) v c:=fun v h1 h2=>(Fq h1 h2).mono (aA.le.refl p) (Ge a b M)
 have eb:∀ ver,ja a b M 0 b ver=M 0 a ver:=fun ver=>by simp[ja]
 cases h with
 | ptr h =>
   rename_i d i ver off blk o t
   simp only[ud]
   by_cases e:d=0∧i=a
   · rw[if_pos (jl.2 e)]
     obtain ⟨rfl,rfl⟩:=e
     exact .ptr (by rw[eb];exact h)
   · rw[if_neg (fun h=>e (jl.1 h))]
     exact .ptr (by rw[rr hu e];exact h)
 | slc h hl hc hn hx =>
   rename_i d i ver off sz len blk o t x cc cap
   simp only[ud]
   by_cases e:d=0∧i=a
   · rw[if_pos (jl.2 e)]
     obtain ⟨rfl,rfl⟩:=e
     exact .slc (by rw[eb];exact h) hl hc hn hx
   · rw[if_neg (fun h=>e (jl.1 h))]
     exact .slc (by rw[rr hu e];exact h) hl hc hn hx
 | map h =>
   rename_i d i blk o t
   simp only[ud]
   by_cases e:d=0∧i=a
   · rw[if_pos (jl.2 e)]
     obtain ⟨rfl,rfl⟩:=e
     exact .map (by rw[eb];exact h)
   · rw[if_neg (fun h=>e (jl.1 h))]
     exact .map (by rw[rr hu e];exact h)
 | yld h =>
   rename_i d i blk o t
   simp only[ud]
   by_cases e:d=0∧i=a
   · rw[if_pos (jl.2 e)]
     obtain ⟨rfl,rfl⟩:=e
     exact .yld (by rw[eb];exact h)
   · rw[if_neg (fun h=>e (jl.1 h))]
     exact .yld (by rw[rr hu e];exact h)
 | undef c=>exact .undef c
 | bool b=>exact .bool b
 | int k n=>exact .int k n
 | str s=>exact .str s
 | nilp=>exact .nilp
 | nils=>exact .nils
 | nilm=>exact .nilm
 | nilf=>exact .nilf
 | ptrT vs h0 h1 hv=>exact other _ hu (.ptrT vs h0 h1 hv)
 | slcT vs h0 h1 hv hl hf hx=>exact other _ hu (.slcT vs h0 h1 hv hl hf hx)
 | slcN=>exact .slcN
 | fn ha hb va vb=>exact other _ hu (.fn ha hb va vb)
 | agg hs h1 hv=>exact other _ hu (.agg hs h1 hv)
 | tup hs hv=>exact other _ hu (.tup hs hv)
theorem getD_map {g:AV→AV} (h0:g .undef=.undef) (l:List AV) (j:Nat):(l.map g).getD j .undef=g (l.getD j .undef):=by
 induction l generalizing j with
 | nil=>simp[h0]
 | cons x l ih =>
   cases j with
   | zero=>rfl
   | succ j=>simpa using ih j
theorem mG {p q:aA} {M N:Mu} {f:AV→Bool} {g:AV→AV} (hf:∀ v c,f v=false→aj p M v c→aj q N (g v) c):∀ {l:List ah} {vs:Nat→Value},anyM f l=false→(∀ j,j<av l→aj p M (getM l j) (vs j))→∀ j,j<av l→aj q N (getM (mapM' g l) j) (vs j)
 | [],_,_,_,j,hj=>by simp[av] at hj
 | .one v::r,vs,hr,hv,0,hj=>by
   simp only[anyM,Bool.or_eq_false_iff] at hr
   exact hf _ _ hr.1 (hv 0 hj)
 | .one v::r,vs,hr,hv,j+1,hj=>by
   simp only[anyM,Bool.or_eq_false_iff] at hr
   have hj':j<av r:=by simp[av,aI] at hj;omega
   exact mG hf (l:=r) (vs:=fun j=>vs (j+1)) hr.2 (fun j hj=>hv (j+1) (by simp[av,aI];omega)) j hj'
 | .arr k z n::r,vs,hr,hv,j,hj=>by
   have h0:=hv j hj
   simp only[getM,mapM'] at h0 ⊢
   by_cases e:j<n
   · rw[if_pos e] at h0 ⊢;exact h0.bA _ _
   · rw[if_neg e] at h0 ⊢
     have hj':j-n<av r:=by simp[av,aI] at hj;omega
     have:=mG hf (l:=r) (vs:=fun i=>vs (i+n)) hr (fun i hi=>by
      have:=hv (i+n) (by simp[av,aI];omega)
      simp only[getM] at this
      rw[if_neg (by omega),Nat.add_sub_cancel] at this
      exact this) (j-n) hj'
     rw[Nat.sub_add_cancel (by omega)] at this
     exact this
theorem oa {f:AV→Bool} {l:List AV} {j:Nat} (h:l.any f=false) (hj:j<l.length):f (l.getD j .undef)=false:=by
 have:=List.any_eq_false.1 h (l.getD j .undef) (by simp[hj])
 simpa using this
theorem wq {p:aA} {M:Mu} {a b:Nat} {v:AV} {c:Value} (hu:py (uj b) v=false) (h:aj p M v c):aj p (ja a b M) (mX (ud a b) v) c:=by
 cases v with
 | agg r =>
   cases r with
   | G l =>
     cases h with
     | agg hs h1 hv=>exact .agg (by simpa[Row.len] using hs) (fun j hj=>h1 j (by simpa[Row.len] using hj)) (fun j hj=>by
        have hj:j<l.length:=by simpa[Row.len] using hj
        have:=cI (a:=a) (oa hu hj) (hv j hj)
        show aj p _ ((l.map (ud a b)).getD j .undef) _
        rw[getD_map rfl];exact this)
   | I k l=>exact cI (a:=a) (b:=b) (v:=.agg (.I k l)) hu h
   | F f m=>exact cI (a:=a) (b:=b) (v:=.agg (.F f m)) hu h
   | M l =>
     cases h with
     | agg hs h1 hv=>exact .agg (by simpa[Row.len,aM] using hs) (fun j hj=>h1 j (by simpa[Row.len,aM] using hj)) (fun j hj =>
        mG (fun v c e h=>cI e h) (vs:=fun j=>(_:Array Value).getD j undef) hu hv j (by simpa[Row.len,aM] using hj))
 | fn f x y =>
   cases h with
   | fn hx hy vx vy =>
     simp only[py,Bool.or_eq_false_iff] at hu
     refine .fn (by simpa using hx) (by simpa using hy) (fun j hj=>?_) (fun j hj=>?_)
     · rw[getD_map rfl];exact cI (oa hu.1 (by simpa using hj)) (vx j (by simpa using hj))
     · rw[getD_map rfl];exact cI (oa hu.2 (by simpa using hj)) (vy j (by simpa using hj))
 | undef=>exact cI (a:=a) (b:=b) (v:=.undef) hu h
 | bool x=>exact cI (a:=a) (b:=b) (v:=.bool x) hu h
 | int x y=>exact cI (a:=a) (b:=b) (v:=.int x y) hu h
 | str x=>exact cI (a:=a) (b:=b) (v:=.str x) hu h
 | nilp=>exact cI (a:=a) (b:=b) (v:=.nilp) hu h
 | nils=>exact cI (a:=a) (b:=b) (v:=.nils) hu h
 | nilm=>exact cI (a:=a) (b:=b) (v:=.nilm) hu h
 | nilf=>exact cI (a:=a) (b:=b) (v:=.nilf) hu h
 | ptr d i v o=>exact cI (a:=a) (b:=b) (v:=.ptr d i v o) hu h
 | ptrT s r o=>exact cI (a:=a) (b:=b) (v:=.ptrT s r o) hu h
 | slc d i v o z l c=>exact cI (a:=a) (b:=b) (v:=.slc d i v o z l c) hu h
 | slcT s r z l f=>exact cI (a:=a) (b:=b) (v:=.slcT s r z l f) hu h
 | map d i=>exact cI (a:=a) (b:=b) (v:=.map d i) hu h
 | yld d i=>exact cI (a:=a) (b:=b) (v:=.yld d i) hu h
 | tup l=>exact cI (a:=a) (b:=b) (v:=.tup l) hu h
theorem GW {p:aA} {M:Mu} {a b:Nat} {B:ai} {x o t:Nat} {w:World} (hu:zT (uj b) B=false) (h:eU p M B x o t w):eU p (ja a b M) (pZ (ud a b) B) x o t w:=by
 cases B with
 | dead=>trivial
 | row r =>
   obtain ⟨c,e,e1,e2,e3,e4⟩:=h
   have hl:(EO (ud a b) r).len=r.len:=by cases r<;>simp[EO,Row.len,aM]
   refine ⟨c,e,e1,e2,by rw[hl];exact e3,fun j hj=>?_⟩
   rw[hl] at hj
   cases r with
   | I k l=>exact ⟨(e4 j hj).1.bA _ _,(e4 j hj).2⟩
   | F f m=>exact e4 j hj
   | M l=>exact ⟨mG (fun v c e h=>wq e h) (vs:=fun j=>c.getD (o+j) Go.undef) hu (fun j hj=>(e4 j hj).1) j hj,(e4 j hj).2⟩
   | G l =>
     have hj':j<l.length:=hj
     refine ⟨?_,(e4 j hj).2⟩
     have:=wq (a:=a) (oa hu hj') (e4 j hj).1
     show aj p _ ((l.map (mX (ud a b))).getD j .undef) _
     rw[getD_map rfl];exact this
 | map es=>simp[zT] at hu
 | fmap kq f g c=>exact xO _ _ h
 | loop l=>simp[zT] at hu

theorem kU (g:AV→AV):∀ (l:List (Nat×ai)) (i:Nat),ao (jx g l) i=((ao l i).1,pZ g (ao l i).2)
 | [],i=>rfl
 | (v,b)::r,0=>rfl
 | (v,b)::r,i+1=>kU g r i
theorem dL (g:AV→AV):∀ (l:List (Nat×ai)),(jx g l).length=l.length
 | []=>rfl
 | (v,b)::r=>by simp[jx,dL g r]
theorem iK {g:AV→AV} {B:ai}:pZ g B≠.dead↔B≠.dead:=by cases B<;>simp[pZ]
theorem sx (g:AV→AV) (h0:g .undef=.undef):∀ (fr:ar) (x:Nat),bo (p6 g fr) x=mX g (bo fr x)
 | [],x=>by simp[p6,bo,mX,h0]
 | (y,v)::r,x=>by
   simp only[p6,bo]
   split
   · rfl
   · exact sx g h0 r x
theorem nS:∀ (l:List (Nat×ai)) (j:Nat) (x:Nat×ai) (i:Nat),j<l.length→ao (bW l j x) i=if i=j then x else ao l i
 | [],j,x,i,h=>by simp at h
 | y::r,0,x,0,h=>by simp[bW,ao]
 | y::r,0,x,i+1,h=>by simp[bW,ao]
 | y::r,j+1,x,0,h=>by simp[bW,ao]
 | y::r,j+1,x,i+1,h=>by
   simp only[bW,ao]
   rw[nS r j x i (by simpa using h)]
   simp
theorem je:∀ (l:List (Nat×ai)) (j:Nat) (x:Nat×ai),(bW l j x).length=l.length
 | [],j,x=>rfl
 | y::r,0,x=>rfl
 | y::r,j+1,x=>by simp[bW,je r j x]
theorem GX {a b:Nat} {l:aU} (ha:a<l.bs.length) (hb:b<a) (i:Nat):ao (xn a b l).bs i=if i=b then ((ao l.bs a).1,pZ (ud a b) (ao l.bs a).2) else if i<a then ((ao l.bs i).1,pZ (ud a b) (ao l.bs i).2) else (0,.dead):=by
 unfold xn
 dsimp only
 rw[nS _ _ _ _ (by rw[dL];simp;omega)]
 by_cases e:i=b
 · rw[if_pos e,if_pos e]
 · rw[if_neg e,if_neg e,kU,fJ]
   by_cases e2:i<a
   · rw[if_pos e2,if_pos e2]
   · rw[if_neg e2,if_neg e2];rfl
theorem BP {a b:Nat} {l:aU} (ha:a<l.bs.length):(xn a b l).bs.length=a:=by
 unfold xn
 dsimp only
 rw[je,dL];simp;omega
theorem qL:∀ (l:List (Nat×ai)) (n i:Nat),ao (l.drop n) i=ao l (n+i)
 | [],n,i=>by simp[ao]
 | b::l,0,i=>by simp
 | b::l,n+1,i=>by
   rw[show n+1+i=(n+i)+1 by omega]
   simp only[List.drop_succ_cons,ao]
   exact qL l n i
theorem uR {fr:ar} {bs:List (Nat×ai)}:∀ {k m h:Nat},hole fr bs k m=some h→m≤h∧h+1<bs.length∧fr.any (fun x=>py (uj h) x.2)=false∧∀ i,i≠h→zT (uj h) (ao bs i).2=false
 | 0,m,h,e=>by simp[hole] at e
 | k + 1,m,h,e=>by
   unfold hole at e
   split at e
   · rename_i hlt
     split at e
     · obtain ⟨h1,h2⟩:=uR e
       exact ⟨by omega,h2⟩
     · rename_i hno
       simp only[Option.some.injEq] at e
       subst e
       rw[Bool.not_eq_true,Bool.or_eq_false_iff,Bool.or_eq_false_iff] at hno
       obtain ⟨n1,n2,n3⟩:=hno
       refine ⟨Nat.le_refl _,by simpa using hlt,n1,fun i hi=>?_⟩
       by_cases hd:(ao bs i).2=.dead
       · rw[hd];rfl
       rcases Nat.lt_or_gt_of_ne hi with h1 | h1
       · have e0:ao (bs.take m) i=ao bs i:=by rw[fJ,if_pos h1]
         have hm:ao (bs.take m) i ∈ bs.take m:=kV (by rw[e0];exact hd)
         have:=List.any_eq_false.1 n2 _ hm
         rw[e0] at this
         simpa using this
       · have e0:ao (bs.drop (m+1)) (i-(m+1))=ao bs i:=by rw[qL];congr 1;omega
         have hm:ao (bs.drop (m+1)) (i-(m+1)) ∈ bs.drop (m+1):=kV (by rw[e0];exact hd)
         have:=List.any_eq_false.1 n3 _ hm
         rw[e0] at this
         simpa using this
   · cases e

theorem Js {p p1:aA} {M M1:Mu} {H:aa} {w w1:World} {nt:Nat} {fr:ar} {a:Act} {l:aU} {r:aa} (hE:bX p M H w p1 M1 (l::r) w1) (hF:bN p1 M1 nt fr a) {n0:Nat} (hM:Marks n0 M1 (l::r) w1 a.defers) (hdom:∀ d i v t,M d i v=some t→i<ak H d)
 {x h:Nat} (hx:x+1=l.bs.length) (hh:h<x) (hn:an H≤h) (hfr:fr.any (fun x=>py (uj h) x.2)=false) (hbs:∀ i,i≠h→zT (uj h) (ao l.bs i).2=false) :
 ∃ M2,bX p M H w p1 M2 (xn x h l::r) w1∧bN p1 M2 nt (p6 (ud x h) fr) a∧Marks n0 M2 (xn x h l::r) w1 a.defers:=by
 -- where a block of the new level lay
 let old:Nat→Nat:=fun i=>if i=h then x else i
 have get0:∀ i,ao (xn x h l).bs i=if i<x then ((ao l.bs (old i)).1,pZ (ud x h) (ao l.bs (old i)).2) else (0,.dead):=by
  intro i
  rw[GX (by omega) hh]
  simp only[old]
  by_cases e:i=h
  · rw[if_pos e,if_pos e,if_pos (by omega)]
  · rw[if_neg e,if_neg e]
 have mu0:∀ i v,i<x→ja x h M1 0 i v=M1 0 (old i) v:=by
  intro i v hi
  simp only[ja,old]
  rw[if_pos trivial]
  by_cases e:i=h
  · rw[if_pos e,if_pos e]
  · rw[if_neg e,if_neg e,if_neg (by omega)]
 have muS:∀ d i v,ja x h M1 (d+1) i v=M1 (d+1) i v:=fun d i v=>by simp[ja]
 have lock0:∀ d,au (xn x h l::r) d=au (l::r) d:=fun d=>by cases d<;>rfl
 -- a block that is there lay there
 have back:∀ d i v B,aq (xn x h l::r) d i=(v,B)→B≠.dead→∃ i' B',aq (l::r) d i'=(v,B')∧B'≠.dead∧(∀ u,ja x h M1 d i u=M1 d i' u)∧(d=0→i<x∧i'=old i∧B=pZ (ud x h) B')∧(d≠0→i'=i∧B'=B):=by
  intro d i v B hg hB
  cases d with
  | succ d=>exact ⟨i,B,hg,hB,fun u=>muS d i u,fun e=>absurd e (by simp),fun _=>⟨rfl,rfl⟩⟩
  | zero =>
    have hg':ao (xn x h l).bs i=(v,B):=hg
    rw[get0] at hg'
    by_cases hi:i<x
    · rw[if_pos hi] at hg'
      simp only[Prod.mk.injEq] at hg'
      obtain ⟨e1,e2⟩:=hg'
      refine ⟨old i,(ao l.bs (old i)).2,?_,?_,fun u=>mu0 i u hi,fun _=>⟨hi,rfl,e2.symm⟩,fun e=>absurd rfl e⟩
      · show ao l.bs (old i)=_
        rw[← e1]
      · rw[← e2] at hB;exact iK.1 hB
    · rw[if_neg hi] at hg'
      simp only[Prod.mk.injEq] at hg'
      exact absurd hg'.2.symm hB
 have inj:∀ i j,i<x→j<x→old i=old j→i=j:=by
  intro i j hi hj e
  simp only[old] at e
  by_cases e1:i=h<;>by_cases e2:j=h
  · omega
  · rw[if_pos e1,if_neg e2] at e;omega
  · rw[if_neg e1,if_pos e2] at e;omega
  · rw[if_neg e1,if_neg e2] at e;exact e
 have oldne:∀ i,i<x→old i≠h:=by
  intro i hi
  simp only[old]
  by_cases e1:i=h
  · rw[if_pos e1];omega
  · rw[if_neg e1];exact e1
 have rel:aV p1 (ja x h M1) (xn x h l::r) w1:=by
  refine ⟨hE.rel.pers,?_,?_,?_⟩
  · intro d i v B hg hB
    obtain ⟨i',B',h1,h2,h3,h4,h5⟩:=back d i v B hg hB
    obtain ⟨b,o,t,k1,k2,k3⟩:=hE.rel.live d i' v B' h1 h2
    refine ⟨b,o,t,by rw[h3];exact k1,?_,k3⟩
    cases d with
    | succ d =>
      obtain ⟨rfl,rfl⟩:=h5 (by simp)
      rw[GY _ _ _ _ (by omega)];exact k2
    | zero =>
      obtain ⟨g1,g2,g3⟩:=h4 rfl
      subst g2;subst g3
      rw[sF] at k2 ⊢
      have hg1:ao l.bs (old i)=(v,B'):=h1
      have:=hbs (old i) (oldne i g1)
      rw[hg1] at this
      exact GW this k2
  · intro d i v B d' i' v' B' b o t o' t' hg hB hg' hB' hm hm'
    obtain ⟨j,C,h1,h2,h3,h4,h5⟩:=back d i v B hg hB
    obtain ⟨j',C',h1',h2',h3',h4',h5'⟩:=back d' i' v' B' hg' hB'
    rw[h3] at hm
    rw[h3'] at hm'
    obtain ⟨e1,e2⟩:=hE.rel.apart d j v C d' j' v' C' b o t o' t' h1 h2 h1' h2' hm hm'
    subst e1
    refine ⟨rfl,?_⟩
    by_cases hd:d=0
    · obtain ⟨g1,g2,_⟩:=h4 hd
      obtain ⟨g1',g2',_⟩:=h4' hd
      exact inj _ _ g1 g1' (by rw[← g2,← g2',e2])
    · rw[← (h5 hd).1,← (h5' hd).1,e2]
  · intro d i v t hm
    cases d with
    | succ d =>
      rw[muS] at hm
      exact hE.rel.dom (d+1) i v t hm
    | zero =>
      have hi:i<x:=by
       apply Nat.lt_of_not_le
       intro hle
       simp only[ja] at hm
       rw[if_pos trivial,if_neg (by omega)] at hm
       by_cases e:i=x
       · rw[if_pos e] at hm;cases hm
       · rw[if_neg e] at hm
         have h1:i<l.bs.length:=(hE.rel.dom 0 i v t hm).1
         omega
      rw[mu0 i v hi] at hm
      have h0:=hE.rel.dom 0 (old i) v t hm
      refine ⟨?_,?_⟩
      · show i<(xn x h l).bs.length
        rw[BP (by omega)];exact hi
      · show (ao (xn x h l).bs i).2≠.dead→v≤(ao (xn x h l).bs i).1
        rw[get0,if_pos hi]
        exact fun hne=>h0.2 (iK.1 hne)
 have keepc:∀ b,aZ M1 (l::r) b→aZ (ja x h M1) (xn x h l::r) b:=by
  intro b hk d i v B hg hB hl o t hm
  obtain ⟨i',B',h1,h2,h3,_⟩:=back d i v B hg hB
  rw[h3] at hm
  exact hk d i' v B' h1 h2 (by rw[← lock0];exact hl) o t hm
 -- what the new names lead to was led to
 have from':∀ d i v t,ja x h M1 d i v=some t→∃ i',M1 d i' v=some t∧(M1 d i v=some t∨(d=0∧i=h)):=by
  intro d i v t hm
  cases d with
  | succ d=>rw[muS] at hm;exact ⟨i,hm,.inl hm⟩
  | zero =>
    simp only[ja] at hm
    rw[if_pos trivial] at hm
    by_cases e:i=h
    · rw[if_pos e] at hm;exact ⟨x,hm,.inr ⟨rfl,e⟩⟩
    · rw[if_neg e] at hm
      by_cases e2:i=x
      · rw[if_pos e2] at hm;cases hm
      · rw[if_neg e2] at hm;exact ⟨i,hm,.inl hm⟩
 have hgrow:an H≤x:=by omega
 refine ⟨ja x h M1,⟨hE.pst,?_,rel,hE.stay,fun b hb hk=>keepc b (hE.aZ b hb hk),hE.fresh,fun d i v b o t hm=>?_,fun d=>?_,fun d i hd hl=>?_,fun d hd hl=>?_,hE.len,fun d=>?_,fun d i v t hm=>?_⟩,⟨hF.size,fun y=>?_⟩,?_⟩
 · intro d i v t hm
   have h1:=hE.mu d i v t hm
   have h0:=hdom d i v t hm
   cases d with
   | succ d=>rw[muS];exact h1
   | zero =>
     rw[aB] at h0
     rw[mu0 i v (by omega)]
     simp only[old]
     rw[if_neg (by omega)];exact h1
 · obtain ⟨i',h1,_⟩:=from' d i v _ hm
   exact hE.own d i' v b o t h1
 · rw[lock0];exact hE.lock d
 · have:=hE.same d i hd hl
   cases d with
   | zero=>exact absurd rfl hd
   | succ d=>exact this
 · have:=hE.next d hd hl
   cases d with
   | zero=>exact absurd rfl hd
   | succ d=>exact this
 · have:=hE.grow d
   cases d with
   | zero =>
     rw[aB]
     show an H≤(xn x h l).bs.length
     rw[BP (by omega)];exact hgrow
   | succ d=>exact this
 · obtain ⟨i',h1,h2 | ⟨rfl,rfl⟩⟩:=from' d i v t hm
   · exact hE.new d i v t h2
   · exact .inr (.inl (by rw[aB];exact hn))
 · rw[sx _ rfl]
   rcases r9 fr y with e | ⟨z,e⟩
   · rw[e];exact .undef _
   · refine wq ?_ (hF.at_ y)
     have:=List.any_eq_false.1 hfr _ e
     simpa using this
 · obtain ⟨rs,h1,h2,h0,h3⟩:=hM
   exact ⟨rs,h1,h2,h0,fun z hz=>⟨(h3 z hz).1,keepc z (h3 z hz).2.1,(h3 z hz).2.2⟩⟩

theorem tn {p p1:aA} {M:Mu} {H:aa} {w w1:World} {nt:Nat} {a:Act} {n0:Nat} (hdom:∀ d i v t,M d i v=some t→i<ak H d) :
 ∀ (k:Nat) (fr:ar) (H1:aa) (M1:Mu),bX p M H w p1 M1 H1 w1→bN p1 M1 nt fr a→Marks n0 M1 H1 w1 a.defers→∃ M2,bX p M H w p1 M2 (jf (an H) k fr H1).2 w1∧bN p1 M2 nt (jf (an H) k fr H1).1 a∧Marks n0 M2 (jf (an H) k fr H1).2 w1 a.defers
 | 0,fr,H1,M1,hE,hF,hM=>⟨M1,hE,hF,hM⟩
 | k+1,fr,[],M1,hE,hF,hM=>⟨M1,hE,hF,hM⟩
 | k + 1,fr,l::r,M1,hE,hF,hM=>by
   unfold jf
   dsimp only
   split
   · exact ⟨M1,hE,hF,hM⟩
   · rename_i h hh
     obtain ⟨h1,h2,h3,h4⟩:=uR hh
     obtain ⟨M2,hE2,hF2,hM2⟩:=Js hE hF hM hdom (x:=l.bs.length-1) (by omega) (by omega) h1 h3 h4
     obtain ⟨M3,hE3,hF3,hM3⟩:=rj hE2 hF2 hM2 hdom
     exact tn hdom k _ _ M3 hE3 hF3 hM3
theorem FL {p p1:aA} {M M1:Mu} {H H1:aa} {w w1:World} {nt:Nat} {fr:ar} {a:Act} (hE:bX p M H w p1 M1 H1 w1) (hF:bN p1 M1 nt fr a) {n0:Nat} (hM:Marks n0 M1 H1 w1 a.defers) (hdom:∀ d i v t,M d i v=some t→i<ak H d) :
 ∃ M2,bX p M H w p1 M2 (tidy (an H) fr H1).2 w1∧bN p1 M2 nt (tidy (an H) fr H1).1 a∧Marks n0 M2 (tidy (an H) fr H1).2 w1 a.defers:=by
 obtain ⟨M2,hE2,hF2,hM2⟩:=rj hE hF hM hdom
 exact tn hdom 4 _ _ M2 hE2 hF2 hM2

def oJ (p:aA) (b o n:Nat) (vs:Nat→Value):aA:=fun b' o'=>if b'=b∧o≤o'∧o'<o+n then some (vs (o'-o)) else p b' o'
theorem x8 {p q:aA} {M N:Mu} {r:Row} (h:wa r=true) {vs:Nat→Value} (hr:aT p M r vs):aT q N r vs:=by
 intro j hj
 refine ⟨?_,(hr j hj).2⟩
 have h0:=(hr j hj).1
 unfold wa at h
 split at h
 · exact h0.bA _ _
 · rename_i k z n
   have:j<n:=by simpa[Row.len,av,aI] using hj
   simp only[Row.get,getM,if_pos this] at h0 ⊢
   exact h0.bA _ _
 · cases h
theorem Ey {r:Row} (h:wa r=true) (o n:Nat):wa (r.sub o n)=true:=by
 unfold wa at h
 split at h
 · rfl
 · rfl
 · cases h
theorem oe {d j i:Nat} {x:Bool}:(Nat.beq d 0 && (Nat.beq j i && x))=true↔d=0∧j=i∧x=true:=by simp
theorem Ez {p:aA} {M:Mu} {i ver b o t:Nat} {r:Row} {vs:Nat→Value} (hm:M 0 i ver=some (b,o,t)) (hi:wa r=true) (hr:aT p M r vs) (hle:aA.le p (oJ p b o r.len vs)) {v:AV} {c:Value} (h:aj p M v c):aj (oJ p b o r.len vs) M (mU i ver r v) c:=by
 have up:=h.mono hle (Mu.le.refl M)
 have cell:∀ j,j<r.len→oJ p b o r.len vs b (o+j)=some (vs j):=fun j hj=>by
  unfold oJ
  rw[if_pos ⟨rfl,by omega,by omega⟩]
  congr 2;omega
 cases h with
 | ptr h =>
   rename_i d j v off b' o' t'
   simp only[mU]
   by_cases e:d=0∧j=i∧v=ver
   · rw[if_pos (oe.2 ⟨e.1,e.2.1,by simp[e.2.2]⟩)]
     obtain ⟨rfl,rfl,rfl⟩:=e
     rw[hm] at h
     simp only[nP] at h
     obtain ⟨rfl,rfl,rfl⟩:=h
     exact .ptrT vs cell (fun j hj=>(hr j hj).2) (fun j hj=>(x8 hi hr j hj).1)
   · rw[if_neg (fun h=>e (by have:=oe.1 h;exact ⟨this.1,this.2.1,by simpa using this.2.2⟩))]
     exact up
 | slc h hl hc hn hx =>
   rename_i d j v off sz len b' o' t' x cc cap
   simp only[mU]
   by_cases e:d=0∧j=i∧(Nat.beq v ver && Nat.ble (off+len*sz) r.len)=true
   · rw[if_pos (oe.2 e)]
     obtain ⟨rfl,rfl,e⟩:=e
     rw[Bool.and_eq_true] at e
     obtain ⟨e1,e2⟩:=e
     have e1:=Nat.eq_of_beq_eq_true e1
     have e2:=Nat.le_of_ble_eq_true e2
     subst e1
     rw[hm] at h
     simp only[nP] at h
     obtain ⟨rfl,rfl,rfl⟩:=h
     have hs:=hr.sub off (len*sz) e2
     have hsl:=Row.dy r off (len*sz) e2
     refine .slcT (o:=o+off) (fun j=>vs (off+j)) (fun j hj=>?_) (fun j hj=>(hs j hj).2) (fun j hj=>(x8 (Ey hi off (len*sz)) hs j hj).1) hl (fun hf=>?_) hx
     · rw[hsl] at hj
       rw[Nat.add_assoc];exact cell _ (by omega)
     · exact hc _ (by simpa using hf)
   · rw[if_neg (fun h=>e (oe.1 h))]
     exact up
 | undef c=>exact up
 | bool b=>exact up
 | int k n=>exact up
 | str s=>exact up
 | nilp=>exact up
 | nils=>exact up
 | nilm=>exact up
 | nilf=>exact up
 | ptrT vs h0 h1 hv=>exact up
 | slcT vs h0 h1 hv hl hf hx=>exact up
 | slcN=>exact up
 | map h=>exact up
 | yld h=>exact up
 | fn ha hb va vb=>exact up
 | agg hs h1 hv=>exact up
 | tup hs hv=>exact up
theorem p7 {p q:aA} {M N:Mu} {g:AV→AV} (h0:g .undef=.undef) (hq:∀ v c,aj p M v c→aj q N v c) (hg:∀ v c,aj p M v c→aj q N (g v) c) {v:AV} {c:Value} (h:aj p M v c):aj q N (mX g v) c:=by
 cases v with
 | agg r =>
   cases r with
   | G l =>
     cases h with
     | agg hs h1 hv=>exact .agg (by simpa[Row.len] using hs) (fun j hj=>h1 j (by simpa[Row.len] using hj)) (fun j hj=>by
        have hj:j<l.length:=by simpa[Row.len] using hj
        show aj q _ ((l.map g).getD j .undef) _
        rw[getD_map h0];exact hg _ _ (hv j hj))
   | I k l=>exact hg (.agg (.I k l)) _ h
   | F f m=>exact hg (.agg (.F f m)) _ h
   | M l =>
     cases h with
     | agg hs h1 hv=>exact .agg (by simpa[Row.len,aM] using hs) (fun j hj=>h1 j (by simpa[Row.len,aM] using hj)) (fun j hj=>by
        have hj:j<av l:=by simpa[Row.len,aM] using hj
        show aj q _ (getM (mapM' g l) j) _
        rcases iH g l j hj with e | ⟨k,n,e1,e2⟩
        · rw[e];exact hg _ _ (hv j hj)
        · have:=hv j hj
          simp only[Row.get] at this
          rw[e1] at this
          rw[e2];exact this.bA _ _)
 | fn f x y =>
   cases h with
   | fn hx hy vx vy =>
     refine .fn (by simpa using hx) (by simpa using hy) (fun j hj=>?_) (fun j hj=>?_)
     · rw[getD_map h0];exact hg _ _ (vx j (by simpa using hj))
     · rw[getD_map h0];exact hg _ _ (vy j (by simpa using hj))
 | undef=>exact hg _ _ h
 | bool b=>exact hg (.bool b) _ h
 | int k n=>exact hg (.int k n) _ h
 | str s=>exact hg (.str s) _ h
 | nilp=>exact hg .nilp _ h
 | nils=>exact hg .nils _ h
 | nilm=>exact hg .nilm _ h
 | nilf=>exact hg .nilf _ h
 | ptr d i v o=>exact hg (.ptr d i v o) _ h
 | ptrT s r o=>exact hg (.ptrT s r o) _ h
 | slc d i v o z l c=>exact hg (.slc d i v o z l c) _ h
 | slcT s r z l f=>exact hg (.slcT s r z l f) _ h
 | map d i=>exact hg (.map d i) _ h
 | yld d i=>exact hg (.yld d i) _ h
 | tup l=>exact hg (.tup l) _ h
theorem C7 {p q:aA} {M:Mu} {g:AV→AV} (h0:g .undef=.undef) (hq:aA.le p q) (hg:∀ v c,aj p M v c→aj q M (g v) c) {B:ai} {x o t:Nat} {w:World} (h:eU p M B x o t w):eU q M (pZ g B) x o t w:=by
 have hq':∀ v c,aj p M v c→aj q M v c:=fun v c h=>h.mono hq (Mu.le.refl M)
 cases B with
 | dead=>trivial
 | row r =>
   obtain ⟨c,e,e1,e2,e3,e4⟩:=h
   have hl:(EO g r).len=r.len:=by cases r<;>simp[EO,Row.len,aM]
   refine ⟨c,e,e1,e2,by rw[hl];exact e3,fun j hj=>?_⟩
   rw[hl] at hj
   cases r with
   | I k l=>exact ⟨(e4 j hj).1.bA _ _,(e4 j hj).2⟩
   | F f m=>exact ⟨(e4 j hj).1.mono hq (Mu.le.refl _),(e4 j hj).2⟩
   | M l =>
     refine ⟨?_,(e4 j hj).2⟩
     have h1:=(e4 j hj).1
     show aj q _ (getM (mapM' (mX g) l) j) _
     rcases iH (mX g) l j hj with e | ⟨k,n,k1,k2⟩
     · rw[e];exact p7 h0 hq' hg h1
     · simp only[Row.get] at h1
       rw[k1] at h1
       rw[k2];exact h1.bA _ _
   | G l =>
     refine ⟨?_,(e4 j hj).2⟩
     show aj q _ ((l.map (mX g)).getD j .undef) _
     rw[getD_map (by simp[mX,h0])]
     exact p7 h0 hq' hg (e4 j hj).1
 | map es=>exact h.mono hq (Mu.le.refl M) rfl
 | fmap kq f g c=>exact h.mono hq (Mu.le.refl M) rfl
 | loop l=>exact h.mono hq (Mu.le.refl M) rfl
theorem pR {p1:aA} {M1:Mu} {w1:World} {nt:Nat} {fr:ar} {a:Act} {l:aU} {r:aa} (hH:aV p1 M1 (l::r) w1) (hF:bN p1 M1 nt fr a) (hl:l.lock=false) (i:Nat) :
 ∃ p2,bX p1 M1 (l::r) w1 p2 M1 ((lU i fr l).2::r) w1∧bN p2 M1 nt (lU i fr l).1 a∧(lU i fr l).2.lock=false∧(lU i fr l).2.bs.length=l.bs.length:=by
 unfold lU
 split
 · rename_i ver row hb
   split
   · rename_i hc
     rw[Bool.and_eq_true] at hc
     obtain ⟨hi,-⟩:=hc
     have hil:i<l.bs.length:=by
      apply Nat.lt_of_not_le
      intro hle
      have:∀ (q:List (Nat×ai)) (i:Nat),q.length≤i→ao q i=(0,.dead):=by
       intro q
       induction q with
       | nil=>intro i _;rfl
       | cons x q ih =>
         intro i h
         cases i with
         | zero=>simp at h
         | succ i=>exact ih i (by simpa using h)
      rw[this l.bs i hle] at hb
      simp at hb
     have hg:aq (l::r) 0 i=(ver,.row row):=hb
     obtain ⟨b,o,t,k1,k2,k3⟩:=hH.live 0 i ver (.row row) hg (by simp)
     rw[sF] at k2
     obtain ⟨vs,v1,v2⟩:=s5 k2
     have hle:aA.le p1 (oJ p1 b o row.len vs):=by
      intro b' o' v hv
      unfold oJ
      rw[if_neg]
      · exact hv
      · rintro ⟨rfl,_⟩
        rw[k3] at hv;cases hv
     have hS:∀ v c,aj p1 M1 v c→aj (oJ p1 b o row.len vs) M1 (mU i ver row v) c:=fun v c h=>Ez k1 hi v1 hle h
     have hq':∀ v c,aj p1 M1 v c→aj (oJ p1 b o row.len vs) M1 v c:=fun v c h=>h.mono hle (Mu.le.refl M1)
     have get:∀ d j,aq ({ l with bs:=bW (jx (mU i ver row) l.bs) i (ver,.dead) } :: r) d j=if d=0 then (if j=i then (ver,.dead) else ((ao l.bs j).1,pZ (mU i ver row) (ao l.bs j).2)) else aq (l::r) d j:=by
      intro d j
      cases d with
      | zero =>
        rw[if_pos rfl]
        show ao (bW (jx (mU i ver row) l.bs) i (ver,.dead)) j=_
        rw[nS _ _ _ _ (by rw[dL];exact hil),kU]
      | succ d=>rw[if_neg (by omega)];rfl
     have rel : aV (oJ p1 b o row.len vs) M1 ({ l with bs:=bW (jx (mU i ver row) l.bs) i (ver,.dead) } :: r) w1:=by
      refine ⟨?_,?_,?_,?_⟩
      · intro b' o' v hp
        unfold oJ at hp
        split at hp
        · rename_i he
          obtain ⟨rfl,h1,h2⟩:=he
          rw[← hp]
          have:=v2 (o'-o) (by omega)
          rw[show o+(o'-o)=o' by omega] at this
          exact this
        · exact hH.pers _ _ _ hp
      · intro d j v B hg' hB
        rw[get] at hg'
        have other:∀ x,(d≠0∨j≠i)→∀ b' o' t',M1 d j v=some (b',o',t')→(∃ B',aq (l::r) d j=(v,B')∧B'≠.dead)→p1 b' x=none→oJ p1 b o row.len vs b' x=none:=by
         intro x hne b' o' t' hm ⟨B',hg2,hB2⟩ hn
         unfold oJ
         rw[if_neg]
         · exact hn
         · rintro ⟨rfl,_⟩
           have:=hH.apart d j v B' 0 i ver (.row row) b' o' t' o t hg2 hB2 hg (by simp) hm k1
           omega
        split at hg'
        · rename_i hd
          subst hd
          split at hg'
          · simp only[Prod.mk.injEq] at hg'
            exact absurd hg'.2.symm hB
          · rename_i hji
            simp only[Prod.mk.injEq] at hg'
            obtain ⟨e1,e2⟩:=hg'
            have hB':(ao l.bs j).2≠.dead:=by rw[← e2] at hB;exact iK.1 hB
            have hg2:aq (l::r) 0 j=(v,(ao l.bs j).2):=by rw[← e1];rfl
            obtain ⟨b',o',t',q1,q2,q3⟩:=hH.live 0 j v _ hg2 hB'
            refine ⟨b',o',t',q1,?_,fun x=>other x (.inr hji) b' o' t' q1 ⟨_,hg2,hB'⟩ (q3 x)⟩
            rw[sF] at q2 ⊢
            rw[← e2]
            exact C7 rfl hle hS q2
        · rename_i hd
          obtain ⟨b',o',t',q1,q2,q3⟩:=hH.live d j v B hg' hB
          exact ⟨b',o',t',q1,q2.mono hle (Mu.le.refl _) rfl,fun x=>other x (.inl hd) b' o' t' q1 ⟨_,hg',hB⟩ (q3 x)⟩
      · intro d j v B d' j' v' B' b1 o1 t1 o2 t2 hg1 hB1 hg2 hB2 hm1 hm2
        have back:∀ d j v B,aq ({ l with bs:=bW (jx (mU i ver row) l.bs) i (ver,.dead) } :: r) d j=(v,B)→B≠.dead→∃ B',aq (l::r) d j=(v,B')∧B'≠.dead:=by
         intro d j v B hg' hB
         rw[get] at hg'
         split at hg'
         · rename_i hd
           subst hd
           split at hg'
           · simp only[Prod.mk.injEq] at hg'
             exact absurd hg'.2.symm hB
           · simp only[Prod.mk.injEq] at hg'
             obtain ⟨e1,e2⟩:=hg'
             exact ⟨(ao l.bs j).2,by rw[← e1];rfl,by rw[← e2] at hB;exact iK.1 hB⟩
         · exact ⟨B,hg',hB⟩
        obtain ⟨C1,q1,q2⟩:=back _ _ _ _ hg1 hB1
        obtain ⟨C2,q3,q4⟩:=back _ _ _ _ hg2 hB2
        exact hH.apart d j v C1 d' j' v' C2 b1 o1 t1 o2 t2 q1 q2 q3 q4 hm1 hm2
      · intro d j v t' hm
        have h0:=hH.dom d j v t' hm
        rw[get]
        cases d with
        | succ d=>rw[if_neg (by omega)];exact h0
        | zero =>
          refine ⟨?_,?_⟩
          · show j<(bW (jx (mU i ver row) l.bs) i (ver,.dead)).length
            rw[je,dL];exact h0.1
          · rw[if_pos rfl]
            have h1:(ao l.bs j).2≠.dead→v≤(ao l.bs j).1:=h0.2
            by_cases e:j=i
            · rw[if_pos e]
              exact fun hne=>absurd rfl hne
            · rw[if_neg e];exact fun hne=>h1 (iK.1 hne)
     refine ⟨oJ p1 b o row.len vs,⟨hle,Mu.le.refl _,rel,da.refl _ _,fun b' hb' hk d j v B hg' hB hlk o' t' hm=>?_,fun b' o' v hp=>?_,fun d j v b' o' t' hm=>.inr ⟨d,j,v,o',t',Nat.le_refl _,hm⟩,fun d=>?_,fun d j hd hlk=>?_,fun d hd hlk=>?_,rfl,fun d=>?_,fun d j v t' hm=>.inl hm⟩,⟨hF.size,fun y=>?_⟩,hl,by show (bW _ _ _).length=_;rw[je,dL]⟩
     · rw[get] at hg'
       have hlk':au (l::r) d=false:=by cases d<;>exact hlk
       split at hg'
       · rename_i hd
         subst hd
         split at hg'
         · simp only[Prod.mk.injEq] at hg'
           exact absurd hg'.2.symm hB
         · simp only[Prod.mk.injEq] at hg'
           obtain ⟨e1,e2⟩:=hg'
           exact hk 0 j v (ao l.bs j).2 (by rw[← e1];rfl) (by rw[← e2] at hB;exact iK.1 hB) hlk' o' t' hm
       · exact hk d j v B hg' hB hlk' o' t' hm
     · unfold oJ at hp
       split at hp
       · rename_i he
         obtain ⟨rfl,_⟩:=he
         exact .inr (.inr ⟨hl,i,ver,o,t,k1⟩)
       · exact .inl hp
     · cases d<;>rfl
     · rw[get,if_neg hd]
     · cases d with
       | zero=>exact absurd rfl hd
       | succ d=>rfl
     · cases d with
       | zero =>
         show l.bs.length≤(bW (jx (mU i ver row) l.bs) i (ver,.dead)).length
         rw[je,dL];exact Nat.le_refl _
       | succ d=>exact Nat.le_refl _
     · rw[sx _ rfl]
       exact p7 rfl hq' hS (hF.at_ y)
   · exact ⟨p1,bX.refl hH,hF,hl,rfl⟩
 · exact ⟨p1,bX.refl hH,hF,hl,rfl⟩
theorem sk {M1:Mu} {w1:World} {nt:Nat} {fr:ar} {a:Act} {l:aU} {r:aa} {p1:aA} (hH:aV p1 M1 (l::r) w1) (hF:bN p1 M1 nt fr a) (hl:l.lock=false):∀ n:Nat,
 ∃ p2,bX p1 M1 (l::r) w1 p2 M1 ((iV n fr l).2::r) w1∧bN p2 M1 nt (iV n fr l).1 a∧(iV n fr l).2.lock=false
 | 0=>⟨p1,bX.refl hH,hF,hl⟩
 | n+1=>by
   obtain ⟨p2,h1,h2,h3⟩:=sk hH hF hl n
   obtain ⟨p3,k1,k2,k3,_⟩:=pR h1.rel h2 h3 n
   exact ⟨p3,h1.trans k1,k2,k3⟩
theorem qE {M1:Mu} {w1:World} {nt:Nat} {fr:ar} {a:Act} {l:aU} {r:aa} {p1:aA} (hH:aV p1 M1 (l::r) w1) (hF:bN p1 M1 nt fr a) (hl:l.lock=false):∀ n:Nat,
 ∃ p2,bX p1 M1 (l::r) w1 p2 M1 ((eh n fr l).2::r) w1∧bN p2 M1 nt (eh n fr l).1 a∧(eh n fr l).2.lock=false
 | 0=>⟨p1,bX.refl hH,hF,hl⟩
 | n + 1=>by
   obtain ⟨p2,h1,h2,h3⟩:=qE hH hF hl n
   unfold eh
   split
   · exact ⟨p2,h1,h2,h3⟩
   · obtain ⟨p3,k1,k2,k3,_⟩:=pR h1.rel h2 h3 n
     exact ⟨p3,h1.trans k1,k2,k3⟩
theorem EY {p:aA} {M:Mu} {sz:Nat} {v:AV} {c:Value} (h:aj p M v c):aj p M (Ll sz v) c:=by
 cases h with
 | nils=>exact .slcN
 | undef c=>exact .undef c
 | bool b=>exact .bool b
 | int k n=>exact .int k n
 | str s=>exact .str s
 | nilp=>exact .nilp
 | nilm=>exact .nilm
 | nilf=>exact .nilf
 | ptr h=>exact .ptr h
 | ptrT vs h0 h1 hv=>exact .ptrT vs h0 h1 hv
 | slc h hl hc hn hx=>exact .slc h hl hc hn hx
 | slcT vs h0 h1 hv hl hf hx=>exact .slcT vs h0 h1 hv hl hf hx
 | slcN=>exact .slcN
 | map h=>exact .map h
 | yld h=>exact .yld h
 | fn ha hb va vb=>exact .fn ha hb va vb
 | agg hs h1 hv=>exact .agg hs h1 hv
 | tup hs hv=>exact .tup hs hv
theorem yI (sz:Nat):∀ (c:Nat) (l:List AV),(C9 sz c l).length=l.length
 | c,[]=>by cases c<;>rfl
 | 0,v::l=>rfl
 | c+1,v::l=>by simp[C9,yI sz c l]
theorem yJ {p:aA} {M:Mu} {sz:Nat}:∀ (c:Nat) (l:List AV) (j:Nat) (x:Value),aj p M (l.getD j .undef) x→aj p M ((C9 sz c l).getD j .undef) x
 | c,[],j,x,h=>by cases c<;>exact h
 | 0,v::l,0,x,h=>EY h
 | 0,v::l,j+1,x,h=>h
 | c+1,v::l,0,x,h=>h
 | c+1,v::l,j+1,x,h=>yJ c l j x h
theorem EU {p:aA} {M:Mu} {c sz:Nat} {B:ai} {x o t:Nat} {w:World} (h:eU p M B x o t w):eU p M (ue c sz B) x o t w:=by
 cases B with
 | dead=>exact h
 | map es=>exact h
 | fmap kq f g c=>exact h
 | loop l=>exact h
 | row r =>
   cases r with
   | I k l=>exact h
   | F f m=>exact h
   | M l=>exact h
   | G l =>
     obtain ⟨cs,e,e1,e2,e3,e4⟩:=h
     have hl:(Row.G (C9 sz c l)).len=(Row.G l).len:=by simp[Row.len,yI]
     refine ⟨cs,e,e1,e2,by rw[hl];exact e3,fun j hj=>?_⟩
     rw[hl] at hj
     exact ⟨yJ c l j _ (e4 j hj).1,(e4 j hj).2⟩
theorem qa {c sz:Nat} {B:ai}:ue c sz B≠.dead↔B≠.dead:=by
 cases B with
 | row r=>cases r<;>simp[ue]
 | dead=>simp[ue]
 | map es=>simp[ue]
 | fmap kq f g c=>simp[ue]
 | loop l=>simp[ue]
theorem vh (c sz:Nat):∀ (l:List (Nat×ai)) (i:Nat),ao (l9 c sz l) i=((ao l i).1,ue c sz (ao l i).2)
 | [],i=>rfl
 | (v,b)::r,0=>rfl
 | (v,b)::r,i+1=>vh c sz r i
theorem kT (c sz:Nat):∀ (l:List (Nat×ai)),(l9 c sz l).length=l.length
 | []=>rfl
 | (v,b)::r=>by simp[l9,kT c sz r]
theorem EX {p1:aA} {M1:Mu} {w1:World} {l:aU} {r:aa} (hH:aV p1 M1 (l::r) w1) (hl:l.lock=false) (c sz:Nat) :
 bX p1 M1 (l::r) w1 p1 M1 ({ l with bs:=l9 c sz l.bs } :: r) w1:=by
 have get:∀ d j,aq ({ l with bs:=l9 c sz l.bs } :: r) d j=if d=0 then ((ao l.bs j).1,ue c sz (ao l.bs j).2) else aq (l::r) d j:=by
  intro d j
  cases d with
  | zero =>
    rw[if_pos rfl]
    exact vh c sz l.bs j
  | succ d=>rw[if_neg (by omega)];rfl
 have back:∀ d j v B,aq ({ l with bs:=l9 c sz l.bs } :: r) d j=(v,B)→B≠.dead→∃ B',aq (l::r) d j=(v,B')∧B'≠.dead:=by
  intro d j v B hg' hB
  rw[get] at hg'
  split at hg'
  · rename_i hd
    subst hd
    simp only[Prod.mk.injEq] at hg'
    obtain ⟨e1,e2⟩:=hg'
    exact ⟨(ao l.bs j).2,by rw[← e1];rfl,by rw[← e2] at hB;exact qa.1 hB⟩
  · exact ⟨B,hg',hB⟩
 have rel:aV p1 M1 ({ l with bs:=l9 c sz l.bs } :: r) w1:=by
  refine ⟨hH.pers,?_,?_,?_⟩
  · intro d j v B hg' hB
    rw[get] at hg'
    split at hg'
    · rename_i hd
      subst hd
      simp only[Prod.mk.injEq] at hg'
      obtain ⟨e1,e2⟩:=hg'
      have hB':(ao l.bs j).2≠.dead:=by rw[← e2] at hB;exact qa.1 hB
      have hg2:aq (l::r) 0 j=(v,(ao l.bs j).2):=by rw[← e1];rfl
      obtain ⟨b',o',t',q1,q2,q3⟩:=hH.live 0 j v _ hg2 hB'
      refine ⟨b',o',t',q1,?_,q3⟩
      rw[← e2]
      exact EU q2
    · exact hH.live d j v B hg' hB
  · intro d j v B d' j' v' B' b1 o1 t1 o2 t2 hg1 hB1 hg2 hB2 hm1 hm2
    obtain ⟨C1,q1,q2⟩:=back _ _ _ _ hg1 hB1
    obtain ⟨C2,q3,q4⟩:=back _ _ _ _ hg2 hB2
    exact hH.apart d j v C1 d' j' v' C2 b1 o1 t1 o2 t2 q1 q2 q3 q4 hm1 hm2
  · intro d j v t' hm
    have h0:=hH.dom d j v t' hm
    rw[get]
    cases d with
    | succ d=>rw[if_neg (by omega)];exact h0
    | zero =>
      refine ⟨?_,?_⟩
      · show j<(l9 c sz l.bs).length
        rw[kT];exact h0.1
      · rw[if_pos rfl]
        have h1:(ao l.bs j).2≠.dead→v≤(ao l.bs j).1:=h0.2
        exact fun hne=>h1 (qa.1 hne)
 refine ⟨aA.le.refl _,Mu.le.refl _,rel,da.refl _ _,fun b' hb' hk d j v B hg' hB hlk o' t' hm=>?_,fun b' o' v hp=>.inl hp,fun d j v b' o' t' hm=>.inr ⟨d,j,v,o',t',Nat.le_refl _,hm⟩,fun d=>?_,fun d j hd hlk=>?_,fun d hd hlk=>?_,rfl,fun d=>?_,fun d j v t' hm=>.inl hm⟩
 · obtain ⟨C1,q1,q2⟩:=back _ _ _ _ hg' hB
   have hlk':au (l::r) d=false:=by cases d<;>exact hlk
   exact hk d j v C1 q1 q2 hlk' o' t' hm
 · cases d<;>rfl
 · rw[get,if_neg hd]
 · cases d with
   | zero=>exact absurd rfl hd
   | succ d=>rfl
 · cases d with
   | zero =>
     show l.bs.length≤(l9 c sz l.bs).length
     rw[kT];exact Nat.le_refl _
   | succ d=>exact Nat.le_refl _
theorem Gv {p p1:aA} {M M1:Mu} {H H1:aa} {w w1:World} {nt m:Nat} {fr:ar} {a:Act} (hE:bX p M H w p1 M1 H1 w1) (hF:bN p1 M1 nt (bJ fr m) a) {n0:Nat} (hM:Marks n0 M1 H1 w1 a.defers) :
 ∃ p2,bX p M H w p2 M1 (CW (bJ fr m) H1).2 w1∧bN p2 M1 nt (CW (bJ fr m) H1).1 a∧Marks n0 M1 (CW (bJ fr m) H1).2 w1 a.defers:=by
 cases H1 with
 | nil=>exact ⟨p1,hE,hF,hM⟩
 | cons l r =>
   cases hl:l.lock with
   | true =>
     have e:CW (bJ fr m) (l::r)=(bJ fr m,l::r):=by unfold CW;dsimp only;rw[hl];rfl
     rw[e]
     exact ⟨p1,hE,hF,hM⟩
   | false =>
     have e:CW (bJ fr m) (l::r)=((iV l.bs.length (bJ fr m) l).1,(iV l.bs.length (bJ fr m) l).2::r):=by unfold CW;dsimp only;rw[hl];rfl
     rw[e]
     obtain ⟨p2,h1,h2,_⟩:=sk hE.rel hF hl l.bs.length
     exact ⟨p2,hE.trans h1,h2,hM.qq h1⟩
theorem Ew {p p1:aA} {M M1:Mu} {H H1:aa} {w w1:World} {nt m:Nat} {fr:ar} {a:Act} (hE:bX p M H w p1 M1 H1 w1) (hF:bN p1 M1 nt (bJ fr m) a) {n0:Nat} (hM:Marks n0 M1 H1 w1 a.defers) :
 ∃ p2,bX p M H w p2 M1 (tR (bJ fr m) H1).2 w1∧bN p2 M1 nt (tR (bJ fr m) H1).1 a∧Marks n0 M1 (tR (bJ fr m) H1).2 w1 a.defers:=by
 cases H1 with
 | nil=>exact ⟨p1,hE,hF,hM⟩
 | cons l r =>
   cases hl:l.lock with
   | true =>
     have e:tR (bJ fr m) (l::r)=(bJ fr m,l::r):=by unfold tR;dsimp only;rw[hl];rfl
     rw[e]
     exact ⟨p1,hE,hF,hM⟩
   | false =>
     have e:tR (bJ fr m) (l::r)=((eh l.bs.length (bJ fr m) l).1,(eh l.bs.length (bJ fr m) l).2::r):=by unfold tR;dsimp only;rw[hl];rfl
     rw[e]
     obtain ⟨p2,h1,h2,_⟩:=qE hE.rel hF hl l.bs.length
     exact ⟨p2,hE.trans h1,h2,hM.qq h1⟩
theorem uS {p p1:aA} {M M1:Mu} {H H1:aa} {w w1:World} {nt m:Nat} {fr:ar} {a:Act} (hE:bX p M H w p1 M1 H1 w1) (hF:bN p1 M1 nt (bJ fr m) a) {n0:Nat} (hM:Marks n0 M1 H1 w1 a.defers) :
 ∃ p2,bX p M H w p2 M1 (lV m fr H1).2 w1∧bN p2 M1 nt (lV m fr H1).1 a∧Marks n0 M1 (lV m fr H1).2 w1 a.defers:=by
 unfold lV
 split
 · obtain ⟨p2,h1,h2,h3⟩:=Gv hE hF hM
   split
   · exact ⟨p2,h1,h2,h3⟩
   · generalize (CW (bJ fr m) H1).2=H2 at h1 h3 ⊢
     unfold EV
     cases H2 with
     | nil=>exact ⟨p2,h1,h2,h3⟩
     | cons l r =>
       dsimp only
       cases hl:l.lock with
       | true=>rw[if_pos rfl];exact ⟨p2,h1,h2,h3⟩
       | false =>
         rw[if_neg (by simp)]
         have k:=EX h1.rel hl (Nat.shiftRight m 4003 % 8) (Nat.shiftRight m 4003 / 8)
         rw[hl] at k
         exact ⟨p2,h1.trans k,h2,h3.qq k⟩
 · split
   · unfold v8
     cases H1 with
     | nil=>exact ⟨p1,hE,hF,hM⟩
     | cons l r =>
       dsimp only
       cases hl:l.lock with
       | true=>rw[if_pos rfl];exact ⟨p1,hE,hF,hM⟩
       | false =>
         rw[if_neg (by simp)]
         split
         · rename_i i _
           obtain ⟨p2,h1,h2,_⟩:=pR hE.rel hF hl i
           exact ⟨p2,hE.trans h1,h2,hM.qq h1⟩
         · exact ⟨p1,hE,hF,hM⟩
   · split
     · split
       · exact Ew hE hF hM
       · exact ⟨p1,hE,hF,hM⟩
     · exact ⟨p1,hE,hF,hM⟩

end Go.Eng
