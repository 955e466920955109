/- The engine, part J: marks; cutting a level back. -/
import Derived.Test.YtigmfpmabgekoaaGreatV12EngGx3
set_option linter.unusedVariables false
set_option linter.unusedSimpArgs false
namespace Go.Eng

def Marks (n0:Nat) (M:Mu) (H:aa) (w:World) (ds:List Deferred):Prop :=
 ∃ rs:List Nat,ds=rs.map (fun r=>{ target:=.collected r,args:=#[] })∧rs.Nodup∧n0≤w.heap.size∧∀ r ∈ rs,w.heap[r]?=some (.deferred (some []))∧bf M H r∧n0≤r

theorem Marks.nil (M:Mu) (H:aa) (w:World):Marks w.heap.size M H w []:=⟨[],rfl,List.nodup_nil,Nat.le_refl _,fun r hr=>by simp at hr⟩
theorem Marks.pr {p p':aH} {M M':Mu} {H H':aa} {w w':World} {n0:Nat} {ds:List Deferred} (h:Marks n0 M H w ds) (hE:bU p M H w p' M' H' w'):Marks n0 M' H' w' ds:=by
 obtain ⟨rs,h1,h2,h0,h3⟩:=h
 refine ⟨rs,h1,h2,Nat.le_trans h0 hE.stay.size,fun r hr=>?_⟩
 obtain ⟨k1,k2,k3⟩:=h3 r hr
 have hlt:r<w.heap.size:=(Array.getElem?_eq_some_iff.1 k1).1
 exact ⟨by rw[hE.stay.block r hlt k2];exact k1,hE.bf r hlt k2,k3⟩

def eU (n:Nat) (M:Mu):Mu:=fun d i v=>if d=0∧n≤i then none else M d i v
theorem kF (n:Nat) (M:Mu):Mu.le (eU n M) M:=fun d i v t h=>by
 simp only[eU] at h
 split at h
 · cases h
 · exact h
theorem ER (n k:Nat) (M:Mu) (hk:0<k):(eU n M).up k=M.up k:=by
 funext d i v
 simp only[Mu.up,eU]
 rw[if_neg (by omega)]

theorem ES (n s:Nat) (M:Mu):qb (eU n M) (some (s+1))=qb M (some (s+1)):=by
 funext d i v
 show eU n M (d+(s+1)) i v=M (d+(s+1)) i v
 simp only[eU]
 rw[if_neg]
 omega
theorem EJ {p:aH} {M N:Mu} {v:AV} {c:Value} (hv:Dt v=true) (h:aj p M v c):aj p N v c:=by
 cases h with
 | bool b=>exact .bool b
 | int k n=>exact .int k n
 | nils=>exact .nils
 | ptrT vs h0 h1 hr =>
   rename_i s r off b o
   cases s with
   | none=>exact .ptrT vs h0 h1 hr
   | some s=>simp[Dt] at hv
 | slcT vs h0 h1 hr hl hf hx =>
   rename_i s r sz len b o x cc full
   cases s with
   | none=>exact .slcT vs h0 h1 hr hl hf hx
   | some s=>simp[Dt] at hv
 | slcN=>exact .slcN
 | _=>simp[Dt] at hv
theorem EI {p:aH} {M N:Mu} {r:Row} {vs:Nat→Value} (hr:LJ r=true) (h:∀ j,j<r.len→aj p (jL M r) (r.get j) (vs j)):∀ j,j<r.len→aj p (jL N r) (r.get j) (vs j):=by
 cases r with
 | I k l=>exact fun j hj=>(h j hj).bA _ _
 | F f m=>exact h
 | G l =>
   intro j hj
   have hj':j<l.length:=hj
   have:Dt (l.getD j .undef)=true:=by
    have:=List.all_eq_true.1 hr (l.getD j .undef) (by simp[hj'])
    exact this
   exact EJ this (h j hj)
 | M l=>exact a7.gd hr h
theorem bR {p:aH} {M:Mu} {n:Nat} {v:AV} {c:Value} (hr:mh n v=false) (h:aj p M v c):aj p (eU n M) v c:=by
 have here:∀ {d i:Nat},(Nat.beq d 0 && Nat.ble n i)=false→∀ ver,eU n M d i ver=M d i ver:=by
  intro d i e ver
  simp only[eU]
  rw[if_neg]
  rintro ⟨rfl,h2⟩
  have:Nat.ble n i=true:=by simpa using h2
  simp[this] at e
 cases h with
 | undef c=>exact .undef c
 | bool b=>exact .bool b
 | int k n=>exact .int k n
 | str s=>exact .str s
 | nilp=>exact .nilp
 | nils=>exact .nils
 | nilm=>exact .nilm
 | nilf=>exact .nilf
 | ptr h=>exact .ptr (by rw[here hr];exact h)
 | ptrT vs h0 h1 hv =>
   rename_i s r off b o
   cases s with
   | none=>exact .ptrT vs h0 h1 hv
   | some s =>
     cases s with
     | zero=>exact .ptrT vs h0 h1 (EI (by simpa[mh,Ce] using hr) hv)
     | succ s=>exact .ptrT vs h0 h1 (by rw[ES];exact hv)
 | slc h hl hc hn hx=>exact .slc (by rw[here hr];exact h) hl hc hn hx
 | slcT vs h0 h1 hv hl hf hx =>
   rename_i s r sz len b o x cc full
   cases s with
   | none=>exact .slcT vs h0 h1 hv hl hf hx
   | some s =>
     cases s with
     | zero=>simp[mh,Ce] at hr
     | succ s=>exact .slcT vs h0 h1 (by rw[ES];exact hv) hl hf hx
 | slcN=>exact .slcN
 | map h=>exact .map (by rw[here hr];exact h)
 | yld h=>exact .yld (by rw[here hr];exact h)
 | fn=>simp[mh] at hr
 | agg hs h1 hv =>
   rename_i r cs
   cases r with
   | I k l=>exact .agg hs h1 (fun j hj=>(hv j hj).bA _ _)
   | F f m=>exact .agg hs h1 hv
   | G l=>simp[mh] at hr
   | M l=>exact .agg hs h1 (a7.gd (by simpa[mh] using hr) hv)
 | tup hs hv =>
   rename_i l cs
   cases l with
   | nil=>exact .tup hs (fun j hj=>absurd hj (by simp))
   | cons=>simp[mh] at hr

theorem mq {p q:aH} {M N:Mu} {f:AV→Bool}:∀ {l:List aL} {vs:Nat→Value},anyM f l=false→(∀ v c,f v=false→aj p M v c→aj q N v c)→(∀ j,j<aE l→aj p M (getM l j) (vs j))→∀ j,j<aE l→aj q N (getM l j) (vs j)
 | [],_,_,_,_,j,hj=>by simp[aE] at hj
 | .one v::r,vs,hr,hf,hv,0,hj=>by
   simp only[anyM,Bool.or_eq_false_iff] at hr
   exact hf _ _ hr.1 (hv 0 hj)
 | .one v::r,vs,hr,hf,hv,j+1,hj=>by
   simp only[anyM,Bool.or_eq_false_iff] at hr
   have hj':j<aE r:=by simp[aE,aM] at hj;omega
   exact mq (vs:=fun j=>vs (j+1)) hr.2 hf (fun j hj=>hv (j+1) (by simp[aE,aM];omega)) j hj'
 | .arr k z n::r,vs,hr,hf,hv,j,hj=>by
   have h0:=hv j hj
   simp only[getM] at h0 ⊢
   by_cases e:j<n
   · rw[if_pos e] at h0 ⊢;exact h0.bA _ _
   · rw[if_neg e] at h0 ⊢
     have hj':j-n<aE r:=by simp[aE,aM] at hj;omega
     have:=mq (p:=p) (M:=M) (q:=q) (N:=N) (l:=r) (vs:=fun i=>vs (i+n)) hr hf (fun i hi=>by
      have:=hv (i+n) (by simp[aE,aM];omega)
      simp only[getM] at this
      rw[if_neg (by omega),Nat.add_sub_cancel] at this
      exact this) (j-n) hj'
     rw[Nat.sub_add_cancel (by omega)] at this
     exact this
theorem kW {p:aH} {M:Mu} {n:Nat} {v:AV} {c:Value} (hr:rZ n v=false) (h:aj p M v c):aj p (eU n M) v c:=by
 have getF:∀ {l:List AV} {j:Nat},l.any (mh n)=false→j<l.length→mh n (l.getD j .undef)=false:=by
  intro l j h hj
  have:=List.any_eq_false.1 h (l.getD j .undef) (by simp[hj])
  simpa using this
 cases v with
 | agg r =>
   cases r with
   | G l =>
     cases h with
     | agg hs h1 hv=>exact .agg hs h1 (fun j hj=>bR (getF hr hj) (hv j hj))
   | I k l=>exact bR hr h
   | F f m=>exact bR hr h
   | M l =>
     cases h with
     | agg hs h1 hv=>exact .agg hs h1 (mq hr (fun v c e h=>bR e h) hv)
 | fn f x y =>
   cases h with
   | fn hx hy vx vy =>
     simp only[rZ,Bool.or_eq_false_iff] at hr
     exact .fn hx hy (fun j hj=>bR (getF hr.1 hj) (vx j hj)) (fun j hj=>bR (getF hr.2 hj) (vy j hj))
 | undef=>exact bR hr h
 | bool=>exact bR hr h
 | int=>exact bR hr h
 | str=>exact bR hr h
 | nilp=>exact bR hr h
 | nils=>exact bR hr h
 | nilm=>exact bR hr h
 | nilf=>exact bR hr h
 | ptr=>exact bR hr h
 | ptrT s r off =>
   have other:(∀ l,s=some 0→r≠.M l)→mh n (.ptrT s r off)=false:=fun hn=>by
    rcases s with _ | s
    · rfl
    · cases s with
      | succ s=>rfl
      | zero =>
        cases r with
        | M l=>exact absurd rfl (hn l rfl)
        | I=>exact hr
        | F=>exact hr
        | G=>exact hr
   by_cases e:∃ l,s=some 0∧r=.M l
   · obtain ⟨l,rfl,rfl⟩:=e
     cases h with
     | ptrT vs h0 h1 hv =>
       refine .ptrT vs h0 h1 ?_
       have e1:jL (qb M (some 0)) (.M l)=M:=Mu.nI M
       have e2:jL (qb (eU n M) (some 0)) (.M l)=eU n M:=Mu.nI _
       rw[e1] at hv
       rw[e2]
       exact mq hr (fun v c e h=>bR e h) hv
   · exact bR (other fun l h1 h2=>e ⟨l,h1,h2⟩) h
 | slc=>exact bR hr h
 | slcT=>exact bR hr h
 | map=>exact bR hr h
 | yld=>exact bR hr h
 | tup=>exact bR hr h

theorem Gf {p:aH} {M:Mu} {n:Nat} {B:ak} {b o t:Nat} {w:World} (hr:D1 n B=false) (h:eM p M B b o t w):eM p (eU n M) B b o t w:=by
 cases B with
 | dead=>trivial
 | row r =>
   obtain ⟨c,e,e1,e2,e3,e4⟩:=h
   refine ⟨c,e,e1,e2,e3,fun j hj=>?_⟩
   cases r with
   | I k l=>exact ⟨(e4 j hj).1.bA _ _,(e4 j hj).2⟩
   | F f m=>exact e4 j hj
   | M l=>exact ⟨mq (vs:=fun j=>c.getD (o+j) Go.undef) hr (fun v c e h=>kW e h) (fun j hj=>(e4 j hj).1) j hj,(e4 j hj).2⟩
   | G l =>
     refine ⟨kW ?_ (e4 j hj).1,(e4 j hj).2⟩
     have hj':j<l.length:=hj
     have:=List.any_eq_false.1 hr (l.getD j .undef) (by simp[hj'])
     simpa[Row.get] using this
 | map es =>
   obtain ⟨ces,clock,h1,h2,h3,h4⟩:=h
   refine ⟨ces,clock,h1,h2,h3,fun j hj=>?_⟩
   have hm:es.getD j (.undef,.undef) ∈ es:=by
    rw[List.getD_eq_getElem?_getD,List.getElem?_eq_getElem (by omega)];exact List.getElem_mem _
   have hn:(es.any fun e=>rZ n e.1 || rZ n e.2)=false:=hr
   have:=List.any_eq_false.1 hn _ hm
   simp only[Bool.or_eq_true,not_or,Bool.not_eq_true] at this
   exact ⟨kW this.1 (h4 j hj).1,kW this.2 (h4 j hj).2⟩
 | fmap kq f g c=>exact tl _ _ h
 | loop l=>simp[D1] at hr

theorem fX:∀ (l:List (Nat×ak)) (n i:Nat),an (l.take n) i=if i<n then an l i else (0,.dead)
 | [],n,i=>by simp[an]
 | b::l,0,i=>by simp[an]
 | b::l,n+1,0=>by simp[an]
 | b::l,n+1,i+1=>by simp[an,fX l n i]
theorem lQ:∀ {l:List (Nat×ak)} {i:Nat},(an l i).2≠.dead→an l i ∈ l
 | [],_,h=>by simp[an] at h
 | b::l,0,_=>by simp[an]
 | b::l,i+1,h=>by simp only[an];exact List.mem_cons_of_mem _ (lQ (l:=l) (i:=i) h)

theorem te:∀ (fr:ay) (x:Nat),br fr x=.undef∨∃ y,(y,br fr x) ∈ fr
 | [],x=>.inl rfl
 | (y,v)::r,x=>by
   simp only[br]
   split
   · exact .inr ⟨y,by simp⟩
   · rcases te r x with h | ⟨z,h⟩
     · exact .inl h
     · exact .inr ⟨z,by simp[h]⟩

theorem vB {p p1:aH} {M M1:Mu} {H:aa} {w w1:World} {nt:Nat} {fr:ay} {a:Act} {l:bm} {r:aa} (hE:bU p M H w p1 M1 (l::r) w1) (hF:bN p1 M1 nt fr a) {n0:Nat} (hM:Marks n0 M1 (l::r) w1 a.defers) (hdom:∀ d i v t,M d i v=some t→i<ai H d) :
 ∀ (k m:Nat),ao H≤m→∃ M2,bU p M H w p1 M2 (cutAt fr l r k m) w1∧bN p1 M2 nt fr a∧Marks n0 M2 (cutAt fr l r k m) w1 a.defers
 | 0,m,_=>⟨M1,hE,hF,hM⟩
 | k + 1, m,hm0=>by
   unfold cutAt
   split
   · exact vB hE hF hM hdom k (m+1) (by omega)
   · rename_i hno
     have hno:fr.any (fun x=>rZ m x.2)=false∧(l.bs.take m).any (fun x=>D1 m x.2)=false:=by simpa using hno
     obtain ⟨hno1,hno2⟩:=hno
     have get:∀ d i,ar ({ l with bs:=l.bs.take m } :: r) d i=if d=0∧m≤i then (0,.dead) else ar (l::r) d i:=by
      intro d i
      cases d with
      | zero =>
        simp only[ar,fX]
        by_cases e:i<m
        · rw[if_pos e,if_neg (by omega)]
        · rw[if_neg e,if_pos ⟨by trivial,Nat.le_of_not_lt e⟩]
      | succ d=>simp[ar]
     have rel:a6 p1 (eU m M1) ({ l with bs:=l.bs.take m } :: r) w1:=by
      refine ⟨hE.rel.pers,?_,?_,?_⟩
      · intro d i v B hg hB
        rw[get] at hg
        split at hg
        · simp only[Prod.mk.injEq] at hg;exact absurd hg.2.symm hB
        · rename_i e
          obtain ⟨b,o,t,k1,k2,k3⟩:=hE.rel.live d i v B hg hB
          refine ⟨b,o,t,by simp only[eU];rw[if_neg e];exact k1,?_,k3⟩
          cases d with
          | succ d=>rw[ER _ _ _ (by omega)];exact k2
          | zero =>
            refine Gf ?_ k2
            have hi:i<m:=Nat.lt_of_not_le fun e'=>e ⟨rfl,e'⟩
            have hg':an l.bs i=(v,B):=hg
            have hm:an (l.bs.take m) i ∈ l.bs.take m:=lQ (by rw[fX,if_pos hi,hg'];exact hB)
            rw[fX,if_pos hi,hg'] at hm
            have:=List.any_eq_false.1 hno2 _ hm
            simpa using this
      · intro d i v B d' i' v' B' b o t o' t' hg hB hg' hB' hm hm'
        rw[get] at hg hg'
        split at hg
        · simp only[Prod.mk.injEq] at hg;exact absurd hg.2.symm hB
        · split at hg'
          · simp only[Prod.mk.injEq] at hg';exact absurd hg'.2.symm hB'
          · exact hE.rel.apart d i v B d' i' v' B' b o t o' t' hg hB hg' hB' (kF _ _ _ _ _ _ hm) (kF _ _ _ _ _ _ hm')
      · intro d i v t hm
        have h0:=hE.rel.dom d i v t (kF _ _ _ _ _ _ hm)
        have hne:¬ (d=0∧m≤i):=by
         intro e
         simp only[eU] at hm
         rw[if_pos e] at hm
         cases hm
        rw[get,if_neg hne]
        refine ⟨?_,h0.2⟩
        cases d with
        | zero =>
          have h1:i<l.bs.length:=h0.1
          have h2:i<m:=Nat.lt_of_not_le fun e=>hne ⟨rfl,e⟩
          simp only[ai,List.length_take];omega
        | succ d=>exact h0.1
     have keepc:∀ b,bf M1 (l::r) b→bf (eU m M1) ({ l with bs:=l.bs.take m } :: r) b:=by
      intro b hk d i v B hg hB hl o t hm
      rw[get] at hg
      split at hg
      · simp only[Prod.mk.injEq] at hg;exact absurd hg.2.symm hB
      · exact hk d i v B hg hB (by cases d<;>exact hl) o t (kF _ _ _ _ _ _ hm)
     refine ⟨eU m M1,⟨hE.pst,?_,rel,hE.stay,fun b hb hk=>keepc b (hE.bf b hb hk),hE.fresh,fun d i v b o t hm=>hE.own d i v b o t (kF _ _ _ _ _ _ hm),fun d=>?_,fun d i hd hl=>?_,fun d hd hl=>?_,hE.len,fun d=>?_,fun d i v t hm=>hE.new d i v t (kF _ _ _ _ _ _ hm)⟩,⟨hF.size,fun x=>?_⟩,?_⟩
     · intro d i v t hm
       have:=hE.mu d i v t hm
       have h0:=hdom d i v t hm
       simp only[eU]
       rw[if_neg]
       · exact this
       · rintro ⟨rfl,e⟩
         rw[aF] at h0
         omega
     · have:=hE.lock d
       cases d<;>exact this
     · rw[get,if_neg (fun e=>hd e.1)];exact hE.same d i hd hl
     · have:=hE.next d hd hl
       cases d with
       | zero=>exact absurd rfl hd
       | succ d=>exact this
     · have:=hE.grow d
       cases d with
       | zero=>rw[aF] at this ⊢;simp only[ai,List.length_take] at this ⊢;omega
       | succ d=>exact this
     · rcases te fr x with e | ⟨y,e⟩
       · rw[e];exact .undef _
       · refine kW ?_ (hF.at_ x)
         have:=List.any_eq_false.1 hno1 _ e
         simpa using this
     · obtain ⟨rs,h1,h2,h0,h3⟩:=hM
       exact ⟨rs,h1,h2,h0,fun x hx=>⟨(h3 x hx).1,keepc x (h3 x hx).2.1,(h3 x hx).2.2⟩⟩

theorem sd {p p1:aH} {M M1:Mu} {H H1:aa} {w w1:World} {nt:Nat} {fr:ay} {a:Act} (hE:bU p M H w p1 M1 H1 w1) (hF:bN p1 M1 nt fr a) {n0:Nat} (hM:Marks n0 M1 H1 w1 a.defers) (hdom:∀ d i v t,M d i v=some t→i<ai H d) :
 ∃ M2,bU p M H w p1 M2 (l5 (ao H) fr H1) w1∧bN p1 M2 nt fr a∧Marks n0 M2 (l5 (ao H) fr H1) w1 a.defers:=by
 unfold l5
 cases H1 with
 | nil=>exact ⟨M1,hE,hF,hM⟩
 | cons l r =>
   simp only
   split
   · exact ⟨M1,hE,hF,hM⟩
   · exact vB hE hF hM hdom 4 (ao H) (Nat.le_refl _)

def jy (a b:Nat) (M:Mu):Mu:=fun d i v=>if d=0 then (if i=b then M 0 a v else if i=a then none else M 0 i v) else M d i v
theorem H7 (a b k:Nat) (M:Mu) (hk:0<k):(jy a b M).up k=M.up k:=by
 funext d i v
 simp only[Mu.up,jy]
 rw[if_neg (by omega)]
theorem tQ (M:Mu):M.up 0=M:=by
 funext d i v;rfl
theorem Hf (a b:Nat) (M:Mu):Mu.le (eU 0 M) (jy a b M):=fun d i v t h=>by
 simp only[eU] at h
 simp only[jy]
 split at h
 · cases h
 · rename_i e
   rw[if_neg (fun e2=>e ⟨e2,Nat.zero_le _⟩)]
   exact h
theorem sr {a b:Nat} {M:Mu} {d i v:Nat} (hu:(Nat.beq d 0 && Nat.beq i b)=false) (ha:¬ (d=0∧i=a)):jy a b M d i v=M d i v:=by
 simp only[jy]
 by_cases hd:d=0
 · subst hd
   rw[if_pos rfl,if_neg (by
    rintro rfl
    simp at hu),if_neg (fun h=>ha ⟨rfl,h⟩)]
 · rw[if_neg hd]
theorem jP {d i a:Nat}:(Nat.beq d 0 && Nat.beq i a)=true↔d=0∧i=a:=by simp
theorem Gg {p:aH} {M:Mu} {v:AV} {c:Value} (hr:Iq v=false) (h:aj p M v c):aj p (eU 0 M) v c:=by
 unfold Iq at hr
 split at hr
 · exact kW (n:=0) hr h
 · exact bR hr h
theorem cJ {p:aH} {M:Mu} {a b:Nat} {v:AV} {c:Value} (hu:vk b v=false) (h:aj p M v c):aj p (jy a b M) (ve a b v) c:=by
 have other:∀ v,Iq v=false→aj p M v c→aj p (jy a b M) v c:=fun v h1 h2=>(Gg h1 h2).mono (aH.le.refl p) (Hf a b M)
 have eb:∀ ver,jy a b M 0 b ver=M 0 a ver:=fun ver=>by simp[jy]
 cases h with
 | ptr h =>
   rename_i d i ver off blk o t
   simp only[ve]
   by_cases e:d=0∧i=a
   · rw[if_pos (jP.2 e)]
     obtain ⟨rfl,rfl⟩:=e
     exact .ptr (by rw[eb];exact h)
   · rw[if_neg (fun h=>e (jP.1 h))]
     exact .ptr (by rw[sr hu e];exact h)
 | slc h hl hc hn hx =>
   rename_i d i ver off sz len blk o t x cc cap
   simp only[ve]
   by_cases e:d=0∧i=a
   · rw[if_pos (jP.2 e)]
     obtain ⟨rfl,rfl⟩:=e
     exact .slc (by rw[eb];exact h) hl hc hn hx
   · rw[if_neg (fun h=>e (jP.1 h))]
     exact .slc (by rw[sr hu e];exact h) hl hc hn hx
 | map h =>
   rename_i d i blk o t
   simp only[ve]
   by_cases e:d=0∧i=a
   · rw[if_pos (jP.2 e)]
     obtain ⟨rfl,rfl⟩:=e
     exact .map (by rw[eb];exact h)
   · rw[if_neg (fun h=>e (jP.1 h))]
     exact .map (by rw[sr hu e];exact h)
 | yld h =>
   rename_i d i blk o t
   simp only[ve]
   by_cases e:d=0∧i=a
   · rw[if_pos (jP.2 e)]
     obtain ⟨rfl,rfl⟩:=e
     exact .yld (by rw[eb];exact h)
   · rw[if_neg (fun h=>e (jP.1 h))]
     exact .yld (by rw[sr hu e];exact h)
 | undef c=>exact .undef c
 | bool b=>exact .bool b
 | int k n=>exact .int k n
 | str s=>exact .str s
 | nilp=>exact .nilp
 | nils=>exact .nils
 | nilm=>exact .nilm
 | nilf=>exact .nilf
 | ptrT vs h0 h1 hv=>exact other _ hu (.ptrT vs h0 h1 hv)
 | slcT vs h0 h1 hv hl hf hx=>exact other _ hu (.slcT vs h0 h1 hv hl hf hx)
 | slcN=>exact .slcN
 | fn ha hb va vb=>exact other _ hu (.fn ha hb va vb)
 | agg hs h1 hv=>exact other _ hu (.agg hs h1 hv)
 | tup hs hv=>exact other _ hu (.tup hs hv)
theorem getD_map {g:AV→AV} (h0:g .undef=.undef) (l:List AV) (j:Nat):(l.map g).getD j .undef=g (l.getD j .undef):=by
 induction l generalizing j with
 | nil=>simp[h0]
 | cons x l ih =>
   cases j with
   | zero=>rfl
   | succ j=>simpa using ih j
theorem nA {p q:aH} {M N:Mu} {f:AV→Bool} {g:AV→AV} (hf:∀ v c,f v=false→aj p M v c→aj q N (g v) c):∀ {l:List aL} {vs:Nat→Value},anyM f l=false→(∀ j,j<aE l→aj p M (getM l j) (vs j))→∀ j,j<aE l→aj q N (getM (mapM' g l) j) (vs j)
 | [],_,_,_,j,hj=>by simp[aE] at hj
 | .one v::r,vs,hr,hv,0,hj=>by
   simp only[anyM,Bool.or_eq_false_iff] at hr
   exact hf _ _ hr.1 (hv 0 hj)
 | .one v::r,vs,hr,hv,j+1,hj=>by
   simp only[anyM,Bool.or_eq_false_iff] at hr
   have hj':j<aE r:=by simp[aE,aM] at hj;omega
   exact nA hf (l:=r) (vs:=fun j=>vs (j+1)) hr.2 (fun j hj=>hv (j+1) (by simp[aE,aM];omega)) j hj'
 | .arr k z n::r,vs,hr,hv,j,hj=>by
   have h0:=hv j hj
   simp only[getM,mapM'] at h0 ⊢
   by_cases e:j<n
   · rw[if_pos e] at h0 ⊢;exact h0.bA _ _
   · rw[if_neg e] at h0 ⊢
     have hj':j-n<aE r:=by simp[aE,aM] at hj;omega
     have:=nA hf (l:=r) (vs:=fun i=>vs (i+n)) hr (fun i hi=>by
      have:=hv (i+n) (by simp[aE,aM];omega)
      simp only[getM] at this
      rw[if_neg (by omega),Nat.add_sub_cancel] at this
      exact this) (j-n) hj'
     rw[Nat.sub_add_cancel (by omega)] at this
     exact this
theorem o6 {f:AV→Bool} {l:List AV} {j:Nat} (h:l.any f=false) (hj:j<l.length):f (l.getD j .undef)=false:=by
 have:=List.any_eq_false.1 h (l.getD j .undef) (by simp[hj])
 simpa using this
theorem xD {p:aH} {M:Mu} {a b:Nat} {v:AV} {c:Value} (hu:qg (vk b) v=false) (h:aj p M v c):aj p (jy a b M) (nN (ve a b) v) c:=by
 cases v with
 | agg r =>
   cases r with
   | G l =>
     cases h with
     | agg hs h1 hv=>exact .agg (by simpa[Row.len] using hs) (fun j hj=>h1 j (by simpa[Row.len] using hj)) (fun j hj=>by
        have hj:j<l.length:=by simpa[Row.len] using hj
        have:=cJ (a:=a) (o6 hu hj) (hv j hj)
        show aj p _ ((l.map (ve a b)).getD j .undef) _
        rw[getD_map rfl];exact this)
   | I k l=>exact cJ (a:=a) (b:=b) (v:=.agg (.I k l)) hu h
   | F f m=>exact cJ (a:=a) (b:=b) (v:=.agg (.F f m)) hu h
   | M l =>
     cases h with
     | agg hs h1 hv=>exact .agg (by simpa[Row.len,aZ] using hs) (fun j hj=>h1 j (by simpa[Row.len,aZ] using hj)) (fun j hj =>
        nA (fun v c e h=>cJ e h) (vs:=fun j=>(_:Array Value).getD j undef) hu hv j (by simpa[Row.len,aZ] using hj))
 | fn f x y =>
   cases h with
   | fn hx hy vx vy =>
     simp only[qg,Bool.or_eq_false_iff] at hu
     refine .fn (by simpa using hx) (by simpa using hy) (fun j hj=>?_) (fun j hj=>?_)
     · rw[getD_map rfl];exact cJ (o6 hu.1 (by simpa using hj)) (vx j (by simpa using hj))
     · rw[getD_map rfl];exact cJ (o6 hu.2 (by simpa using hj)) (vy j (by simpa using hj))
 | undef=>exact cJ (a:=a) (b:=b) (v:=.undef) hu h
 | bool x=>exact cJ (a:=a) (b:=b) (v:=.bool x) hu h
 | int x y=>exact cJ (a:=a) (b:=b) (v:=.int x y) hu h
 | str x=>exact cJ (a:=a) (b:=b) (v:=.str x) hu h
 | nilp=>exact cJ (a:=a) (b:=b) (v:=.nilp) hu h
 | nils=>exact cJ (a:=a) (b:=b) (v:=.nils) hu h
 | nilm=>exact cJ (a:=a) (b:=b) (v:=.nilm) hu h
 | nilf=>exact cJ (a:=a) (b:=b) (v:=.nilf) hu h
 | ptr d i v o=>exact cJ (a:=a) (b:=b) (v:=.ptr d i v o) hu h
 | ptrT s r o=>exact cJ (a:=a) (b:=b) (v:=.ptrT s r o) hu h
 | slc d i v o z l c=>exact cJ (a:=a) (b:=b) (v:=.slc d i v o z l c) hu h
 | slcT s r z l f=>exact cJ (a:=a) (b:=b) (v:=.slcT s r z l f) hu h
 | map d i=>exact cJ (a:=a) (b:=b) (v:=.map d i) hu h
 | yld d i=>exact cJ (a:=a) (b:=b) (v:=.yld d i) hu h
 | tup l=>exact cJ (a:=a) (b:=b) (v:=.tup l) hu h
theorem H5 {p:aH} {M:Mu} {a b:Nat} {B:ak} {x o t:Nat} {w:World} (hu:AG (vk b) B=false) (h:eM p M B x o t w):eM p (jy a b M) (qL (ve a b) B) x o t w:=by
 cases B with
 | dead=>trivial
 | row r =>
   obtain ⟨c,e,e1,e2,e3,e4⟩:=h
   have hl:(FN (ve a b) r).len=r.len:=by cases r<;>simp[FN,Row.len,aZ]
   refine ⟨c,e,e1,e2,by rw[hl];exact e3,fun j hj=>?_⟩
   rw[hl] at hj
   cases r with
   | I k l=>exact ⟨(e4 j hj).1.bA _ _,(e4 j hj).2⟩
   | F f m=>exact e4 j hj
   | M l=>exact ⟨nA (fun v c e h=>xD e h) (vs:=fun j=>c.getD (o+j) Go.undef) hu (fun j hj=>(e4 j hj).1) j hj,(e4 j hj).2⟩
   | G l =>
     have hj':j<l.length:=hj
     refine ⟨?_,(e4 j hj).2⟩
     have:=xD (a:=a) (o6 hu hj') (e4 j hj).1
     show aj p _ ((l.map (nN (ve a b))).getD j .undef) _
     rw[getD_map rfl];exact this
 | map es=>simp[AG] at hu
 | fmap kq f g c=>exact tl _ _ h
 | loop l=>simp[AG] at hu

theorem lP (g:AV→AV):∀ (l:List (Nat×ak)) (i:Nat),an (jV g l) i=((an l i).1,qL g (an l i).2)
 | [],i=>rfl
 | (v,b)::r,0=>rfl
 | (v,b)::r,i+1=>lP g r i
theorem dT (g:AV→AV):∀ (l:List (Nat×ak)),(jV g l).length=l.length
 | []=>rfl
 | (v,b)::r=>by simp[jV,dT g r]
theorem jg {g:AV→AV} {B:ak}:qL g B≠.dead↔B≠.dead:=by cases B<;>simp[qL]
theorem tJ (g:AV→AV) (h0:g .undef=.undef):∀ (fr:ay) (x:Nat),br (qM g fr) x=nN g (br fr x)
 | [],x=>by simp[qM,br,nN,h0]
 | (y,v)::r,x=>by
   simp only[qM,br]
   split
   · rfl
   · exact tJ g h0 r x
theorem oN:∀ (l:List (Nat×ak)) (j:Nat) (x:Nat×ak) (i:Nat),j<l.length→an (bI l j x) i=if i=j then x else an l i
 | [],j,x,i,h=>by simp at h
 | y::r,0,x,0,h=>by simp[bI,an]
 | y::r,0,x,i+1,h=>by simp[bI,an]
 | y::r,j+1,x,0,h=>by simp[bI,an]
 | y::r,j+1,x,i+1,h=>by
   simp only[bI,an]
   rw[oN r j x i (by simpa using h)]
   simp
theorem jD:∀ (l:List (Nat×ak)) (j:Nat) (x:Nat×ak),(bI l j x).length=l.length
 | [],j,x=>rfl
 | y::r,0,x=>rfl
 | y::r,j+1,x=>by simp[bI,jD r j x]
theorem H6 {a b:Nat} {l:bm} (ha:a<l.bs.length) (hb:b<a) (i:Nat):an (yh a b l).bs i=if i=b then ((an l.bs a).1,qL (ve a b) (an l.bs a).2) else if i<a then ((an l.bs i).1,qL (ve a b) (an l.bs i).2) else (0,.dead):=by
 unfold yh
 dsimp only
 rw[oN _ _ _ _ (by rw[dT];simp;omega)]
 by_cases e:i=b
 · rw[if_pos e,if_pos e]
 · rw[if_neg e,if_neg e,lP,fX]
   by_cases e2:i<a
   · rw[if_pos e2,if_pos e2]
   · rw[if_neg e2,if_neg e2];rfl
theorem Cu {a b:Nat} {l:bm} (ha:a<l.bs.length):(yh a b l).bs.length=a:=by
 unfold yh
 dsimp only
 rw[jD,dT];simp;omega
theorem rJ:∀ (l:List (Nat×ak)) (n i:Nat),an (l.drop n) i=an l (n+i)
 | [],n,i=>by simp[an]
 | b::l,0,i=>by simp
 | b::l,n+1,i=>by
   rw[show n+1+i=(n+i)+1 by omega]
   simp only[List.drop_succ_cons,an]
   exact rJ l n i
theorem vN {fr:ay} {bs:List (Nat×ak)}:∀ {k m h:Nat},hole fr bs k m=some h→m≤h∧h+1<bs.length∧fr.any (fun x=>qg (vk h) x.2)=false∧∀ i,i≠h→AG (vk h) (an bs i).2=false
 | 0,m,h,e=>by simp[hole] at e
 | k + 1,m,h,e=>by
   unfold hole at e
   split at e
   · rename_i hlt
     split at e
     · obtain ⟨h1,h2⟩:=vN e
       exact ⟨by omega,h2⟩
     · rename_i hno
       simp only[Option.some.injEq] at e
       subst e
       rw[Bool.not_eq_true,Bool.or_eq_false_iff,Bool.or_eq_false_iff] at hno
       obtain ⟨n1,n2,n3⟩:=hno
       refine ⟨Nat.le_refl _,by simpa using hlt,n1,fun i hi=>?_⟩
       by_cases hd:(an bs i).2=.dead
       · rw[hd];rfl
       rcases Nat.lt_or_gt_of_ne hi with h1 | h1
       · have e0:an (bs.take m) i=an bs i:=by rw[fX,if_pos h1]
         have hm:an (bs.take m) i ∈ bs.take m:=lQ (by rw[e0];exact hd)
         have:=List.any_eq_false.1 n2 _ hm
         rw[e0] at this
         simpa using this
       · have e0:an (bs.drop (m+1)) (i-(m+1))=an bs i:=by rw[rJ];congr 1;omega
         have hm:an (bs.drop (m+1)) (i-(m+1)) ∈ bs.drop (m+1):=lQ (by rw[e0];exact hd)
         have:=List.any_eq_false.1 n3 _ hm
         rw[e0] at this
         simpa using this
   · cases e

theorem KD {p p1:aH} {M M1:Mu} {H:aa} {w w1:World} {nt:Nat} {fr:ay} {a:Act} {l:bm} {r:aa} (hE:bU p M H w p1 M1 (l::r) w1) (hF:bN p1 M1 nt fr a) {n0:Nat} (hM:Marks n0 M1 (l::r) w1 a.defers) (hdom:∀ d i v t,M d i v=some t→i<ai H d)
 {x h:Nat} (hx:x+1=l.bs.length) (hh:h<x) (hn:ao H≤h) (hfr:fr.any (fun x=>qg (vk h) x.2)=false) (hbs:∀ i,i≠h→AG (vk h) (an l.bs i).2=false) :
 ∃ M2,bU p M H w p1 M2 (yh x h l::r) w1∧bN p1 M2 nt (qM (ve x h) fr) a∧Marks n0 M2 (yh x h l::r) w1 a.defers:=by
 -- where a block of the new level lay
 let old:Nat→Nat:=fun i=>if i=h then x else i
 have get0:∀ i,an (yh x h l).bs i=if i<x then ((an l.bs (old i)).1,qL (ve x h) (an l.bs (old i)).2) else (0,.dead):=by
  intro i
  rw[H6 (by omega) hh]
  simp only[old]
  by_cases e:i=h
  · rw[if_pos e,if_pos e,if_pos (by omega)]
  · rw[if_neg e,if_neg e]
 have mu0:∀ i v,i<x→jy x h M1 0 i v=M1 0 (old i) v:=by
  intro i v hi
  simp only[jy,old]
  rw[if_pos trivial]
  by_cases e:i=h
  · rw[if_pos e,if_pos e]
  · rw[if_neg e,if_neg e,if_neg (by omega)]
 have muS:∀ d i v,jy x h M1 (d+1) i v=M1 (d+1) i v:=fun d i v=>by simp[jy]
 have lock0:∀ d,aA (yh x h l::r) d=aA (l::r) d:=fun d=>by cases d<;>rfl
 -- a block that is there lay there
 have back:∀ d i v B,ar (yh x h l::r) d i=(v,B)→B≠.dead→∃ i' B',ar (l::r) d i'=(v,B')∧B'≠.dead∧(∀ u,jy x h M1 d i u=M1 d i' u)∧(d=0→i<x∧i'=old i∧B=qL (ve x h) B')∧(d≠0→i'=i∧B'=B):=by
  intro d i v B hg hB
  cases d with
  | succ d=>exact ⟨i,B,hg,hB,fun u=>muS d i u,fun e=>absurd e (by simp),fun _=>⟨rfl,rfl⟩⟩
  | zero =>
    have hg':an (yh x h l).bs i=(v,B):=hg
    rw[get0] at hg'
    by_cases hi:i<x
    · rw[if_pos hi] at hg'
      simp only[Prod.mk.injEq] at hg'
      obtain ⟨e1,e2⟩:=hg'
      refine ⟨old i,(an l.bs (old i)).2,?_,?_,fun u=>mu0 i u hi,fun _=>⟨hi,rfl,e2.symm⟩,fun e=>absurd rfl e⟩
      · show an l.bs (old i)=_
        rw[← e1]
      · rw[← e2] at hB;exact jg.1 hB
    · rw[if_neg hi] at hg'
      simp only[Prod.mk.injEq] at hg'
      exact absurd hg'.2.symm hB
 have inj:∀ i j,i<x→j<x→old i=old j→i=j:=by
  intro i j hi hj e
  simp only[old] at e
  by_cases e1:i=h<;>by_cases e2:j=h
  · omega
  · rw[if_pos e1,if_neg e2] at e;omega
  · rw[if_neg e1,if_pos e2] at e;omega
  · rw[if_neg e1,if_neg e2] at e;exact e
 have oldne:∀ i,i<x→old i≠h:=by
  intro i hi
  simp only[old]
  by_cases e1:i=h
  · rw[if_pos e1];omega
  · rw[if_neg e1];exact e1
 have rel:a6 p1 (jy x h M1) (yh x h l::r) w1:=by
  refine ⟨hE.rel.pers,?_,?_,?_⟩
  · intro d i v B hg hB
    obtain ⟨i',B',h1,h2,h3,h4,h5⟩:=back d i v B hg hB
    obtain ⟨b,o,t,k1,k2,k3⟩:=hE.rel.live d i' v B' h1 h2
    refine ⟨b,o,t,by rw[h3];exact k1,?_,k3⟩
    cases d with
    | succ d =>
      obtain ⟨rfl,rfl⟩:=h5 (by simp)
      rw[H7 _ _ _ _ (by omega)];exact k2
    | zero =>
      obtain ⟨g1,g2,g3⟩:=h4 rfl
      subst g2;subst g3
      rw[tQ] at k2 ⊢
      have hg1:an l.bs (old i)=(v,B'):=h1
      have:=hbs (old i) (oldne i g1)
      rw[hg1] at this
      exact H5 this k2
  · intro d i v B d' i' v' B' b o t o' t' hg hB hg' hB' hm hm'
    obtain ⟨j,C,h1,h2,h3,h4,h5⟩:=back d i v B hg hB
    obtain ⟨j',C',h1',h2',h3',h4',h5'⟩:=back d' i' v' B' hg' hB'
    rw[h3] at hm
    rw[h3'] at hm'
    obtain ⟨e1,e2⟩:=hE.rel.apart d j v C d' j' v' C' b o t o' t' h1 h2 h1' h2' hm hm'
    subst e1
    refine ⟨rfl,?_⟩
    by_cases hd:d=0
    · obtain ⟨g1,g2,_⟩:=h4 hd
      obtain ⟨g1',g2',_⟩:=h4' hd
      exact inj _ _ g1 g1' (by rw[← g2,← g2',e2])
    · rw[← (h5 hd).1,← (h5' hd).1,e2]
  · intro d i v t hm
    cases d with
    | succ d =>
      rw[muS] at hm
      exact hE.rel.dom (d+1) i v t hm
    | zero =>
      have hi:i<x:=by
       apply Nat.lt_of_not_le
       intro hle
       simp only[jy] at hm
       rw[if_pos trivial,if_neg (by omega)] at hm
       by_cases e:i=x
       · rw[if_pos e] at hm;cases hm
       · rw[if_neg e] at hm
         have h1:i<l.bs.length:=(hE.rel.dom 0 i v t hm).1
         omega
      rw[mu0 i v hi] at hm
      have h0:=hE.rel.dom 0 (old i) v t hm
      refine ⟨?_,?_⟩
      · show i<(yh x h l).bs.length
        rw[Cu (by omega)];exact hi
      · show (an (yh x h l).bs i).2≠.dead→v≤(an (yh x h l).bs i).1
        rw[get0,if_pos hi]
        exact fun hne=>h0.2 (jg.1 hne)
 have keepc:∀ b,bf M1 (l::r) b→bf (jy x h M1) (yh x h l::r) b:=by
  intro b hk d i v B hg hB hl o t hm
  obtain ⟨i',B',h1,h2,h3,_⟩:=back d i v B hg hB
  rw[h3] at hm
  exact hk d i' v B' h1 h2 (by rw[← lock0];exact hl) o t hm
 -- what the new names lead to was led to
 have from':∀ d i v t,jy x h M1 d i v=some t→∃ i',M1 d i' v=some t∧(M1 d i v=some t∨(d=0∧i=h)):=by
  intro d i v t hm
  cases d with
  | succ d=>rw[muS] at hm;exact ⟨i,hm,.inl hm⟩
  | zero =>
    simp only[jy] at hm
    rw[if_pos trivial] at hm
    by_cases e:i=h
    · rw[if_pos e] at hm;exact ⟨x,hm,.inr ⟨rfl,e⟩⟩
    · rw[if_neg e] at hm
      by_cases e2:i=x
      · rw[if_pos e2] at hm;cases hm
      · rw[if_neg e2] at hm;exact ⟨i,hm,.inl hm⟩
 have hgrow:ao H≤x:=by omega
 refine ⟨jy x h M1,⟨hE.pst,?_,rel,hE.stay,fun b hb hk=>keepc b (hE.bf b hb hk),hE.fresh,fun d i v b o t hm=>?_,fun d=>?_,fun d i hd hl=>?_,fun d hd hl=>?_,hE.len,fun d=>?_,fun d i v t hm=>?_⟩,⟨hF.size,fun y=>?_⟩,?_⟩
 · intro d i v t hm
   have h1:=hE.mu d i v t hm
   have h0:=hdom d i v t hm
   cases d with
   | succ d=>rw[muS];exact h1
   | zero =>
     rw[aF] at h0
     rw[mu0 i v (by omega)]
     simp only[old]
     rw[if_neg (by omega)];exact h1
 · obtain ⟨i',h1,_⟩:=from' d i v _ hm
   exact hE.own d i' v b o t h1
 · rw[lock0];exact hE.lock d
 · have:=hE.same d i hd hl
   cases d with
   | zero=>exact absurd rfl hd
   | succ d=>exact this
 · have:=hE.next d hd hl
   cases d with
   | zero=>exact absurd rfl hd
   | succ d=>exact this
 · have:=hE.grow d
   cases d with
   | zero =>
     rw[aF]
     show ao H≤(yh x h l).bs.length
     rw[Cu (by omega)];exact hgrow
   | succ d=>exact this
 · obtain ⟨i',h1,h2 | ⟨rfl,rfl⟩⟩:=from' d i v t hm
   · exact hE.new d i v t h2
   · exact .inr (.inl (by rw[aF];exact hn))
 · rw[tJ _ rfl]
   rcases te fr y with e | ⟨z,e⟩
   · rw[e];exact .undef _
   · refine xD ?_ (hF.at_ y)
     have:=List.any_eq_false.1 hfr _ e
     simpa using this
 · obtain ⟨rs,h1,h2,h0,h3⟩:=hM
   exact ⟨rs,h1,h2,h0,fun z hz=>⟨(h3 z hz).1,keepc z (h3 z hz).2.1,(h3 z hz).2.2⟩⟩

theorem uw {p p1:aH} {M:Mu} {H:aa} {w w1:World} {nt:Nat} {a:Act} {n0:Nat} (hdom:∀ d i v t,M d i v=some t→i<ai H d) :
 ∀ (k:Nat) (fr:ay) (H1:aa) (M1:Mu),bU p M H w p1 M1 H1 w1→bN p1 M1 nt fr a→Marks n0 M1 H1 w1 a.defers→∃ M2,bU p M H w p1 M2 (jF (ao H) k fr H1).2 w1∧bN p1 M2 nt (jF (ao H) k fr H1).1 a∧Marks n0 M2 (jF (ao H) k fr H1).2 w1 a.defers
 | 0,fr,H1,M1,hE,hF,hM=>⟨M1,hE,hF,hM⟩
 | k+1,fr,[],M1,hE,hF,hM=>⟨M1,hE,hF,hM⟩
 | k + 1,fr,l::r,M1,hE,hF,hM=>by
   unfold jF
   dsimp only
   split
   · exact ⟨M1,hE,hF,hM⟩
   · rename_i h hh
     obtain ⟨h1,h2,h3,h4⟩:=vN hh
     obtain ⟨M2,hE2,hF2,hM2⟩:=KD hE hF hM hdom (x:=l.bs.length-1) (by omega) (by omega) h1 h3 h4
     obtain ⟨M3,hE3,hF3,hM3⟩:=sd hE2 hF2 hM2 hdom
     exact uw hdom k _ _ M3 hE3 hF3 hM3
theorem GH {p p1:aH} {M M1:Mu} {H H1:aa} {w w1:World} {nt:Nat} {fr:ay} {a:Act} (hE:bU p M H w p1 M1 H1 w1) (hF:bN p1 M1 nt fr a) {n0:Nat} (hM:Marks n0 M1 H1 w1 a.defers) (hdom:∀ d i v t,M d i v=some t→i<ai H d) :
 ∃ M2,bU p M H w p1 M2 (tidy (ao H) fr H1).2 w1∧bN p1 M2 nt (tidy (ao H) fr H1).1 a∧Marks n0 M2 (tidy (ao H) fr H1).2 w1 a.defers:=by
 obtain ⟨M2,hE2,hF2,hM2⟩:=sd hE hF hM hdom
 exact uw hdom 4 _ _ M2 hE2 hF2 hM2

def pG (p:aH) (b o n:Nat) (vs:Nat→Value):aH:=fun b' o'=>if b'=b∧o≤o'∧o'<o+n then some (vs (o'-o)) else p b' o'
theorem yS {p q:aH} {M N:Mu} {r:Row} (h:xo r=true) {vs:Nat→Value} (hr:a7 p M r vs):a7 q N r vs:=by
 intro j hj
 refine ⟨?_,(hr j hj).2⟩
 have h0:=(hr j hj).1
 unfold xo at h
 split at h
 · exact h0.bA _ _
 · rename_i k z n
   have:j<n:=by simpa[Row.len,aE,aM] using hj
   simp only[Row.get,getM,if_pos this] at h0 ⊢
   exact h0.bA _ _
 · cases h
theorem Fw {r:Row} (h:xo r=true) (o n:Nat):xo (r.sub o n)=true:=by
 unfold xo at h
 split at h
 · rfl
 · rfl
 · cases h
theorem pb {d j i:Nat} {x:Bool}:(Nat.beq d 0 && (Nat.beq j i && x))=true↔d=0∧j=i∧x=true:=by simp
theorem Fx {p:aH} {M:Mu} {i ver b o t:Nat} {r:Row} {vs:Nat→Value} (hm:M 0 i ver=some (b,o,t)) (hi:xo r=true) (hr:a7 p M r vs) (hle:aH.le p (pG p b o r.len vs)) {v:AV} {c:Value} (h:aj p M v c):aj (pG p b o r.len vs) M (nL i ver r v) c:=by
 have up:=h.mono hle (Mu.le.refl M)
 have cell:∀ j,j<r.len→pG p b o r.len vs b (o+j)=some (vs j):=fun j hj=>by
  unfold pG
  rw[if_pos ⟨rfl,by omega,by omega⟩]
  congr 2;omega
 cases h with
 | ptr h =>
   rename_i d j v off b' o' t'
   simp only[nL]
   by_cases e:d=0∧j=i∧v=ver
   · rw[if_pos (pb.2 ⟨e.1,e.2.1,by simp[e.2.2]⟩)]
     obtain ⟨rfl,rfl,rfl⟩:=e
     rw[hm] at h
     simp only[nP] at h
     obtain ⟨rfl,rfl,rfl⟩:=h
     exact .ptrT vs cell (fun j hj=>(hr j hj).2) (fun j hj=>(yS hi hr j hj).1)
   · rw[if_neg (fun h=>e (by have:=pb.1 h;exact ⟨this.1,this.2.1,by simpa using this.2.2⟩))]
     exact up
 | slc h hl hc hn hx =>
   rename_i d j v off sz len b' o' t' x cc cap
   simp only[nL]
   by_cases e:d=0∧j=i∧(Nat.beq v ver && Nat.ble (off+len*sz) r.len)=true
   · rw[if_pos (pb.2 e)]
     obtain ⟨rfl,rfl,e⟩:=e
     rw[Bool.and_eq_true] at e
     obtain ⟨e1,e2⟩:=e
     have e1:=Nat.eq_of_beq_eq_true e1
     have e2:=Nat.le_of_ble_eq_true e2
     subst e1
     rw[hm] at h
     simp only[nP] at h
     obtain ⟨rfl,rfl,rfl⟩:=h
     have hs:=hr.sub off (len*sz) e2
     have hsl:=Row.dC r off (len*sz) e2
     refine .slcT (o:=o+off) (fun j=>vs (off+j)) (fun j hj=>?_) (fun j hj=>(hs j hj).2) (fun j hj=>(yS (Fw hi off (len*sz)) hs j hj).1) hl (fun hf=>?_) hx
     · rw[hsl] at hj
       rw[Nat.add_assoc];exact cell _ (by omega)
     · exact hc _ (by simpa using hf)
   · rw[if_neg (fun h=>e (pb.1 h))]
     exact up
 | undef c=>exact up
 | bool b=>exact up
 | int k n=>exact up
 | str s=>exact up
 | nilp=>exact up
 | nils=>exact up
 | nilm=>exact up
 | nilf=>exact up
 | ptrT vs h0 h1 hv=>exact up
 | slcT vs h0 h1 hv hl hf hx=>exact up
 | slcN=>exact up
 | map h=>exact up
 | yld h=>exact up
 | fn ha hb va vb=>exact up
 | agg hs h1 hv=>exact up
 | tup hs hv=>exact up
theorem qN {p q:aH} {M N:Mu} {g:AV→AV} (h0:g .undef=.undef) (hq:∀ v c,aj p M v c→aj q N v c) (hg:∀ v c,aj p M v c→aj q N (g v) c) {v:AV} {c:Value} (h:aj p M v c):aj q N (nN g v) c:=by
 cases v with
 | agg r =>
   cases r with
   | G l =>
     cases h with
     | agg hs h1 hv=>exact .agg (by simpa[Row.len] using hs) (fun j hj=>h1 j (by simpa[Row.len] using hj)) (fun j hj=>by
        have hj:j<l.length:=by simpa[Row.len] using hj
        show aj q _ ((l.map g).getD j .undef) _
        rw[getD_map h0];exact hg _ _ (hv j hj))
   | I k l=>exact hg (.agg (.I k l)) _ h
   | F f m=>exact hg (.agg (.F f m)) _ h
   | M l =>
     cases h with
     | agg hs h1 hv=>exact .agg (by simpa[Row.len,aZ] using hs) (fun j hj=>h1 j (by simpa[Row.len,aZ] using hj)) (fun j hj=>by
        have hj:j<aE l:=by simpa[Row.len,aZ] using hj
        show aj q _ (getM (mapM' g l) j) _
        rcases ja g l j hj with e | ⟨k,n,e1,e2⟩
        · rw[e];exact hg _ _ (hv j hj)
        · have:=hv j hj
          simp only[Row.get] at this
          rw[e1] at this
          rw[e2];exact this.bA _ _)
 | fn f x y =>
   cases h with
   | fn hx hy vx vy =>
     refine .fn (by simpa using hx) (by simpa using hy) (fun j hj=>?_) (fun j hj=>?_)
     · rw[getD_map h0];exact hg _ _ (vx j (by simpa using hj))
     · rw[getD_map h0];exact hg _ _ (vy j (by simpa using hj))
 | undef=>exact hg _ _ h
 | bool b=>exact hg (.bool b) _ h
 | int k n=>exact hg (.int k n) _ h
 | str s=>exact hg (.str s) _ h
 | nilp=>exact hg .nilp _ h
 | nils=>exact hg .nils _ h
 | nilm=>exact hg .nilm _ h
 | nilf=>exact hg .nilf _ h
 | ptr d i v o=>exact hg (.ptr d i v o) _ h
 | ptrT s r o=>exact hg (.ptrT s r o) _ h
 | slc d i v o z l c=>exact hg (.slc d i v o z l c) _ h
 | slcT s r z l f=>exact hg (.slcT s r z l f) _ h
 | map d i=>exact hg (.map d i) _ h
 | yld d i=>exact hg (.yld d i) _ h
 | tup l=>exact hg (.tup l) _ h
theorem DR {p q:aH} {M:Mu} {g:AV→AV} (h0:g .undef=.undef) (hq:aH.le p q) (hg:∀ v c,aj p M v c→aj q M (g v) c) {B:ak} {x o t:Nat} {w:World} (h:eM p M B x o t w):eM q M (qL g B) x o t w:=by
 have hq':∀ v c,aj p M v c→aj q M v c:=fun v c h=>h.mono hq (Mu.le.refl M)
 cases B with
 | dead=>trivial
 | row r =>
   obtain ⟨c,e,e1,e2,e3,e4⟩:=h
   have hl:(FN g r).len=r.len:=by cases r<;>simp[FN,Row.len,aZ]
   refine ⟨c,e,e1,e2,by rw[hl];exact e3,fun j hj=>?_⟩
   rw[hl] at hj
   cases r with
   | I k l=>exact ⟨(e4 j hj).1.bA _ _,(e4 j hj).2⟩
   | F f m=>exact ⟨(e4 j hj).1.mono hq (Mu.le.refl _),(e4 j hj).2⟩
   | M l =>
     refine ⟨?_,(e4 j hj).2⟩
     have h1:=(e4 j hj).1
     show aj q _ (getM (mapM' (nN g) l) j) _
     rcases ja (nN g) l j hj with e | ⟨k,n,k1,k2⟩
     · rw[e];exact qN h0 hq' hg h1
     · simp only[Row.get] at h1
       rw[k1] at h1
       rw[k2];exact h1.bA _ _
   | G l =>
     refine ⟨?_,(e4 j hj).2⟩
     show aj q _ ((l.map (nN g)).getD j .undef) _
     rw[getD_map (by simp[nN,h0])]
     exact qN h0 hq' hg (e4 j hj).1
 | map es=>exact h.mono hq (Mu.le.refl M) rfl
 | fmap kq f g c=>exact h.mono hq (Mu.le.refl M) rfl
 | loop l=>exact h.mono hq (Mu.le.refl M) rfl
theorem qA {p1:aH} {M1:Mu} {w1:World} {nt:Nat} {fr:ay} {a:Act} {l:bm} {r:aa} (hH:a6 p1 M1 (l::r) w1) (hF:bN p1 M1 nt fr a) (hl:l.lock=false) (i:Nat) :
 ∃ p2,bU p1 M1 (l::r) w1 p2 M1 ((mQ i fr l).2::r) w1∧bN p2 M1 nt (mQ i fr l).1 a∧(mQ i fr l).2.lock=false∧(mQ i fr l).2.bs.length=l.bs.length:=by
 unfold mQ
 split
 · rename_i ver row hb
   split
   · rename_i hc
     rw[Bool.and_eq_true] at hc
     obtain ⟨hi,-⟩:=hc
     have hil:i<l.bs.length:=by
      apply Nat.lt_of_not_le
      intro hle
      have:∀ (q:List (Nat×ak)) (i:Nat),q.length≤i→an q i=(0,.dead):=by
       intro q
       induction q with
       | nil=>intro i _;rfl
       | cons x q ih =>
         intro i h
         cases i with
         | zero=>simp at h
         | succ i=>exact ih i (by simpa using h)
      rw[this l.bs i hle] at hb
      simp at hb
     have hg:ar (l::r) 0 i=(ver,.row row):=hb
     obtain ⟨b,o,t,k1,k2,k3⟩:=hH.live 0 i ver (.row row) hg (by simp)
     rw[tQ] at k2
     obtain ⟨vs,v1,v2⟩:=uj k2
     have hle:aH.le p1 (pG p1 b o row.len vs):=by
      intro b' o' v hv
      unfold pG
      rw[if_neg]
      · exact hv
      · rintro ⟨rfl,_⟩
        rw[k3] at hv;cases hv
     have hS:∀ v c,aj p1 M1 v c→aj (pG p1 b o row.len vs) M1 (nL i ver row v) c:=fun v c h=>Fx k1 hi v1 hle h
     have hq':∀ v c,aj p1 M1 v c→aj (pG p1 b o row.len vs) M1 v c:=fun v c h=>h.mono hle (Mu.le.refl M1)
     have get:∀ d j,ar ({ l with bs:=bI (jV (nL i ver row) l.bs) i (ver,.dead) } :: r) d j=if d=0 then (if j=i then (ver,.dead) else ((an l.bs j).1,qL (nL i ver row) (an l.bs j).2)) else ar (l::r) d j:=by
      intro d j
      cases d with
      | zero =>
        rw[if_pos rfl]
        show an (bI (jV (nL i ver row) l.bs) i (ver,.dead)) j=_
        rw[oN _ _ _ _ (by rw[dT];exact hil),lP]
      | succ d=>rw[if_neg (by omega)];rfl
     have rel : a6 (pG p1 b o row.len vs) M1 ({ l with bs:=bI (jV (nL i ver row) l.bs) i (ver,.dead) } :: r) w1:=by
      refine ⟨?_,?_,?_,?_⟩
      · intro b' o' v hp
        unfold pG at hp
        split at hp
        · rename_i he
          obtain ⟨rfl,h1,h2⟩:=he
          rw[← hp]
          have:=v2 (o'-o) (by omega)
          rw[show o+(o'-o)=o' by omega] at this
          exact this
        · exact hH.pers _ _ _ hp
      · intro d j v B hg' hB
        rw[get] at hg'
        have other:∀ x,(d≠0∨j≠i)→∀ b' o' t',M1 d j v=some (b',o',t')→(∃ B',ar (l::r) d j=(v,B')∧B'≠.dead)→p1 b' x=none→pG p1 b o row.len vs b' x=none:=by
         intro x hne b' o' t' hm ⟨B',hg2,hB2⟩ hn
         unfold pG
         rw[if_neg]
         · exact hn
         · rintro ⟨rfl,_⟩
           have:=hH.apart d j v B' 0 i ver (.row row) b' o' t' o t hg2 hB2 hg (by simp) hm k1
           omega
        split at hg'
        · rename_i hd
          subst hd
          split at hg'
          · simp only[Prod.mk.injEq] at hg'
            exact absurd hg'.2.symm hB
          · rename_i hji
            simp only[Prod.mk.injEq] at hg'
            obtain ⟨e1,e2⟩:=hg'
            have hB':(an l.bs j).2≠.dead:=by rw[← e2] at hB;exact jg.1 hB
            have hg2:ar (l::r) 0 j=(v,(an l.bs j).2):=by rw[← e1];rfl
            obtain ⟨b',o',t',q1,q2,q3⟩:=hH.live 0 j v _ hg2 hB'
            refine ⟨b',o',t',q1,?_,fun x=>other x (.inr hji) b' o' t' q1 ⟨_,hg2,hB'⟩ (q3 x)⟩
            rw[tQ] at q2 ⊢
            rw[← e2]
            exact DR rfl hle hS q2
        · rename_i hd
          obtain ⟨b',o',t',q1,q2,q3⟩:=hH.live d j v B hg' hB
          exact ⟨b',o',t',q1,q2.mono hle (Mu.le.refl _) rfl,fun x=>other x (.inl hd) b' o' t' q1 ⟨_,hg',hB⟩ (q3 x)⟩
      · intro d j v B d' j' v' B' b1 o1 t1 o2 t2 hg1 hB1 hg2 hB2 hm1 hm2
        have back:∀ d j v B,ar ({ l with bs:=bI (jV (nL i ver row) l.bs) i (ver,.dead) } :: r) d j=(v,B)→B≠.dead→∃ B',ar (l::r) d j=(v,B')∧B'≠.dead:=by
         intro d j v B hg' hB
         rw[get] at hg'
         split at hg'
         · rename_i hd
           subst hd
           split at hg'
           · simp only[Prod.mk.injEq] at hg'
             exact absurd hg'.2.symm hB
           · simp only[Prod.mk.injEq] at hg'
             obtain ⟨e1,e2⟩:=hg'
             exact ⟨(an l.bs j).2,by rw[← e1];rfl,by rw[← e2] at hB;exact jg.1 hB⟩
         · exact ⟨B,hg',hB⟩
        obtain ⟨C1,q1,q2⟩:=back _ _ _ _ hg1 hB1
        obtain ⟨C2,q3,q4⟩:=back _ _ _ _ hg2 hB2
        exact hH.apart d j v C1 d' j' v' C2 b1 o1 t1 o2 t2 q1 q2 q3 q4 hm1 hm2
      · intro d j v t' hm
        have h0:=hH.dom d j v t' hm
        rw[get]
        cases d with
        | succ d=>rw[if_neg (by omega)];exact h0
        | zero =>
          refine ⟨?_,?_⟩
          · show j<(bI (jV (nL i ver row) l.bs) i (ver,.dead)).length
            rw[jD,dT];exact h0.1
          · rw[if_pos rfl]
            have h1:(an l.bs j).2≠.dead→v≤(an l.bs j).1:=h0.2
            by_cases e:j=i
            · rw[if_pos e]
              exact fun hne=>absurd rfl hne
            · rw[if_neg e];exact fun hne=>h1 (jg.1 hne)
     refine ⟨pG p1 b o row.len vs,⟨hle,Mu.le.refl _,rel,cZ.refl _ _,fun b' hb' hk d j v B hg' hB hlk o' t' hm=>?_,fun b' o' v hp=>?_,fun d j v b' o' t' hm=>.inr ⟨d,j,v,o',t',Nat.le_refl _,hm⟩,fun d=>?_,fun d j hd hlk=>?_,fun d hd hlk=>?_,rfl,fun d=>?_,fun d j v t' hm=>.inl hm⟩,⟨hF.size,fun y=>?_⟩,hl,by show (bI _ _ _).length=_;rw[jD,dT]⟩
     · rw[get] at hg'
       have hlk':aA (l::r) d=false:=by cases d<;>exact hlk
       split at hg'
       · rename_i hd
         subst hd
         split at hg'
         · simp only[Prod.mk.injEq] at hg'
           exact absurd hg'.2.symm hB
         · simp only[Prod.mk.injEq] at hg'
           obtain ⟨e1,e2⟩:=hg'
           exact hk 0 j v (an l.bs j).2 (by rw[← e1];rfl) (by rw[← e2] at hB;exact jg.1 hB) hlk' o' t' hm
       · exact hk d j v B hg' hB hlk' o' t' hm
     · unfold pG at hp
       split at hp
       · rename_i he
         obtain ⟨rfl,_⟩:=he
         exact .inr (.inr ⟨hl,i,ver,o,t,k1⟩)
       · exact .inl hp
     · cases d<;>rfl
     · rw[get,if_neg hd]
     · cases d with
       | zero=>exact absurd rfl hd
       | succ d=>rfl
     · cases d with
       | zero =>
         show l.bs.length≤(bI (jV (nL i ver row) l.bs) i (ver,.dead)).length
         rw[jD,dT];exact Nat.le_refl _
       | succ d=>exact Nat.le_refl _
     · rw[tJ _ rfl]
       exact qN rfl hq' hS (hF.at_ y)
   · exact ⟨p1,bU.refl hH,hF,hl,rfl⟩
 · exact ⟨p1,bU.refl hH,hF,hl,rfl⟩
theorem tB {M1:Mu} {w1:World} {nt:Nat} {fr:ay} {a:Act} {l:bm} {r:aa} {p1:aH} (hH:a6 p1 M1 (l::r) w1) (hF:bN p1 M1 nt fr a) (hl:l.lock=false):∀ n:Nat,
 ∃ p2,bU p1 M1 (l::r) w1 p2 M1 ((jq n fr l).2::r) w1∧bN p2 M1 nt (jq n fr l).1 a∧(jq n fr l).2.lock=false
 | 0=>⟨p1,bU.refl hH,hF,hl⟩
 | n+1=>by
   obtain ⟨p2,h1,h2,h3⟩:=tB hH hF hl n
   obtain ⟨p3,k1,k2,k3,_⟩:=qA h1.rel h2 h3 n
   exact ⟨p3,h1.trans k1,k2,k3⟩
theorem rA {M1:Mu} {w1:World} {nt:Nat} {fr:ay} {a:Act} {l:bm} {r:aa} {p1:aH} (hH:a6 p1 M1 (l::r) w1) (hF:bN p1 M1 nt fr a) (hl:l.lock=false):∀ n:Nat,
 ∃ p2,bU p1 M1 (l::r) w1 p2 M1 ((eJ n fr l).2::r) w1∧bN p2 M1 nt (eJ n fr l).1 a∧(eJ n fr l).2.lock=false
 | 0=>⟨p1,bU.refl hH,hF,hl⟩
 | n + 1=>by
   obtain ⟨p2,h1,h2,h3⟩:=rA hH hF hl n
   unfold eJ
   split
   · exact ⟨p2,h1,h2,h3⟩
   · obtain ⟨p3,k1,k2,k3,_⟩:=qA h1.rel h2 h3 n
     exact ⟨p3,h1.trans k1,k2,k3⟩
theorem FZ {p:aH} {M:Mu} {sz:Nat} {v:AV} {c:Value} (h:aj p M v c):aj p M (My sz v) c:=by
 cases h with
 | nils=>exact .slcN
 | undef c=>exact .undef c
 | bool b=>exact .bool b
 | int k n=>exact .int k n
 | str s=>exact .str s
 | nilp=>exact .nilp
 | nilm=>exact .nilm
 | nilf=>exact .nilf
 | ptr h=>exact .ptr h
 | ptrT vs h0 h1 hv=>exact .ptrT vs h0 h1 hv
 | slc h hl hc hn hx=>exact .slc h hl hc hn hx
 | slcT vs h0 h1 hv hl hf hx=>exact .slcT vs h0 h1 hv hl hf hx
 | slcN=>exact .slcN
 | map h=>exact .map h
 | yld h=>exact .yld h
 | fn ha hb va vb=>exact .fn ha hb va vb
 | agg hs h1 hv=>exact .agg hs h1 hv
 | tup hs hv=>exact .tup hs hv
theorem zB (sz:Nat):∀ (c:Nat) (l:List AV),(DT sz c l).length=l.length
 | c,[]=>by cases c<;>rfl
 | 0,v::l=>rfl
 | c+1,v::l=>by simp[DT,zB sz c l]
theorem zC {p:aH} {M:Mu} {sz:Nat}:∀ (c:Nat) (l:List AV) (j:Nat) (x:Value),aj p M (l.getD j .undef) x→aj p M ((DT sz c l).getD j .undef) x
 | c,[],j,x,h=>by cases c<;>exact h
 | 0,v::l,0,x,h=>FZ h
 | 0,v::l,j+1,x,h=>h
 | c+1,v::l,0,x,h=>h
 | c+1,v::l,j+1,x,h=>zC c l j x h
theorem FW {p:aH} {M:Mu} {c sz:Nat} {B:ak} {x o t:Nat} {w:World} (h:eM p M B x o t w):eM p M (vg c sz B) x o t w:=by
 cases B with
 | dead=>exact h
 | map es=>exact h
 | fmap kq f g c=>exact h
 | loop l=>exact h
 | row r =>
   cases r with
   | I k l=>exact h
   | F f m=>exact h
   | M l=>exact h
   | G l =>
     obtain ⟨cs,e,e1,e2,e3,e4⟩:=h
     have hl:(Row.G (DT sz c l)).len=(Row.G l).len:=by simp[Row.len,zB]
     refine ⟨cs,e,e1,e2,by rw[hl];exact e3,fun j hj=>?_⟩
     rw[hl] at hj
     exact ⟨zC c l j _ (e4 j hj).1,(e4 j hj).2⟩
theorem qQ {c sz:Nat} {B:ak}:vg c sz B≠.dead↔B≠.dead:=by
 cases B with
 | row r=>cases r<;>simp[vg]
 | dead=>simp[vg]
 | map es=>simp[vg]
 | fmap kq f g c=>simp[vg]
 | loop l=>simp[vg]
theorem wa (c sz:Nat):∀ (l:List (Nat×ak)) (i:Nat),an (m6 c sz l) i=((an l i).1,vg c sz (an l i).2)
 | [],i=>rfl
 | (v,b)::r,0=>rfl
 | (v,b)::r,i+1=>wa c sz r i
theorem lO (c sz:Nat):∀ (l:List (Nat×ak)),(m6 c sz l).length=l.length
 | []=>rfl
 | (v,b)::r=>by simp[m6,lO c sz r]
theorem FY {p1:aH} {M1:Mu} {w1:World} {l:bm} {r:aa} (hH:a6 p1 M1 (l::r) w1) (hl:l.lock=false) (c sz:Nat) :
 bU p1 M1 (l::r) w1 p1 M1 ({ l with bs:=m6 c sz l.bs } :: r) w1:=by
 have get:∀ d j,ar ({ l with bs:=m6 c sz l.bs } :: r) d j=if d=0 then ((an l.bs j).1,vg c sz (an l.bs j).2) else ar (l::r) d j:=by
  intro d j
  cases d with
  | zero =>
    rw[if_pos rfl]
    exact wa c sz l.bs j
  | succ d=>rw[if_neg (by omega)];rfl
 have back:∀ d j v B,ar ({ l with bs:=m6 c sz l.bs } :: r) d j=(v,B)→B≠.dead→∃ B',ar (l::r) d j=(v,B')∧B'≠.dead:=by
  intro d j v B hg' hB
  rw[get] at hg'
  split at hg'
  · rename_i hd
    subst hd
    simp only[Prod.mk.injEq] at hg'
    obtain ⟨e1,e2⟩:=hg'
    exact ⟨(an l.bs j).2,by rw[← e1];rfl,by rw[← e2] at hB;exact qQ.1 hB⟩
  · exact ⟨B,hg',hB⟩
 have rel:a6 p1 M1 ({ l with bs:=m6 c sz l.bs } :: r) w1:=by
  refine ⟨hH.pers,?_,?_,?_⟩
  · intro d j v B hg' hB
    rw[get] at hg'
    split at hg'
    · rename_i hd
      subst hd
      simp only[Prod.mk.injEq] at hg'
      obtain ⟨e1,e2⟩:=hg'
      have hB':(an l.bs j).2≠.dead:=by rw[← e2] at hB;exact qQ.1 hB
      have hg2:ar (l::r) 0 j=(v,(an l.bs j).2):=by rw[← e1];rfl
      obtain ⟨b',o',t',q1,q2,q3⟩:=hH.live 0 j v _ hg2 hB'
      refine ⟨b',o',t',q1,?_,q3⟩
      rw[← e2]
      exact FW q2
    · exact hH.live d j v B hg' hB
  · intro d j v B d' j' v' B' b1 o1 t1 o2 t2 hg1 hB1 hg2 hB2 hm1 hm2
    obtain ⟨C1,q1,q2⟩:=back _ _ _ _ hg1 hB1
    obtain ⟨C2,q3,q4⟩:=back _ _ _ _ hg2 hB2
    exact hH.apart d j v C1 d' j' v' C2 b1 o1 t1 o2 t2 q1 q2 q3 q4 hm1 hm2
  · intro d j v t' hm
    have h0:=hH.dom d j v t' hm
    rw[get]
    cases d with
    | succ d=>rw[if_neg (by omega)];exact h0
    | zero =>
      refine ⟨?_,?_⟩
      · show j<(m6 c sz l.bs).length
        rw[lO];exact h0.1
      · rw[if_pos rfl]
        have h1:(an l.bs j).2≠.dead→v≤(an l.bs j).1:=h0.2
        exact fun hne=>h1 (qQ.1 hne)
 refine ⟨aH.le.refl _,Mu.le.refl _,rel,cZ.refl _ _,fun b' hb' hk d j v B hg' hB hlk o' t' hm=>?_,fun b' o' v hp=>.inl hp,fun d j v b' o' t' hm=>.inr ⟨d,j,v,o',t',Nat.le_refl _,hm⟩,fun d=>?_,fun d j hd hlk=>?_,fun d hd hlk=>?_,rfl,fun d=>?_,fun d j v t' hm=>.inl hm⟩
 · obtain ⟨C1,q1,q2⟩:=back _ _ _ _ hg' hB
   have hlk':aA (l::r) d=false:=by cases d<;>exact hlk
   exact hk d j v C1 q1 q2 hlk' o' t' hm
 · cases d<;>rfl
 · rw[get,if_neg hd]
 · cases d with
   | zero=>exact absurd rfl hd
   | succ d=>rfl
 · cases d with
   | zero =>
     show l.bs.length≤(m6 c sz l.bs).length
     rw[lO];exact Nat.le_refl _
   | succ d=>exact Nat.le_refl _
theorem Hq {p p1:aH} {M M1:Mu} {H H1:aa} {w w1:World} {nt m:Nat} {fr:ay} {a:Act} (hE:bU p M H w p1 M1 H1 w1) (hF:bN p1 M1 nt (bO fr m) a) {n0:Nat} (hM:Marks n0 M1 H1 w1 a.defers) :
 ∃ p2,bU p M H w p2 M1 (DL (bO fr m) H1).2 w1∧bN p2 M1 nt (DL (bO fr m) H1).1 a∧Marks n0 M1 (DL (bO fr m) H1).2 w1 a.defers:=by
 cases H1 with
 | nil=>exact ⟨p1,hE,hF,hM⟩
 | cons l r =>
   cases hl:l.lock with
   | true =>
     have e:DL (bO fr m) (l::r)=(bO fr m,l::r):=by unfold DL;dsimp only;rw[hl];rfl
     rw[e]
     exact ⟨p1,hE,hF,hM⟩
   | false =>
     have e:DL (bO fr m) (l::r)=((jq l.bs.length (bO fr m) l).1,(jq l.bs.length (bO fr m) l).2::r):=by unfold DL;dsimp only;rw[hl];rfl
     rw[e]
     obtain ⟨p2,h1,h2,_⟩:=tB hE.rel hF hl l.bs.length
     exact ⟨p2,hE.trans h1,h2,hM.pr h1⟩
theorem Fv {p p1:aH} {M M1:Mu} {H H1:aa} {w w1:World} {nt m:Nat} {fr:ay} {a:Act} (hE:bU p M H w p1 M1 H1 w1) (hF:bN p1 M1 nt (bO fr m) a) {n0:Nat} (hM:Marks n0 M1 H1 w1 a.defers) :
 ∃ p2,bU p M H w p2 M1 (uV (bO fr m) H1).2 w1∧bN p2 M1 nt (uV (bO fr m) H1).1 a∧Marks n0 M1 (uV (bO fr m) H1).2 w1 a.defers:=by
 cases H1 with
 | nil=>exact ⟨p1,hE,hF,hM⟩
 | cons l r =>
   cases hl:l.lock with
   | true =>
     have e:uV (bO fr m) (l::r)=(bO fr m,l::r):=by unfold uV;dsimp only;rw[hl];rfl
     rw[e]
     exact ⟨p1,hE,hF,hM⟩
   | false =>
     have e:uV (bO fr m) (l::r)=((eJ l.bs.length (bO fr m) l).1,(eJ l.bs.length (bO fr m) l).2::r):=by unfold uV;dsimp only;rw[hl];rfl
     rw[e]
     obtain ⟨p2,h1,h2,_⟩:=rA hE.rel hF hl l.bs.length
     exact ⟨p2,hE.trans h1,h2,hM.pr h1⟩
theorem vO {p p1:aH} {M M1:Mu} {H H1:aa} {w w1:World} {nt m:Nat} {fr:ay} {a:Act} (hE:bU p M H w p1 M1 H1 w1) (hF:bN p1 M1 nt (bO fr m) a) {n0:Nat} (hM:Marks n0 M1 H1 w1 a.defers) :
 ∃ p2,bU p M H w p2 M1 (mR m fr H1).2 w1∧bN p2 M1 nt (mR m fr H1).1 a∧Marks n0 M1 (mR m fr H1).2 w1 a.defers:=by
 unfold mR
 split
 · obtain ⟨p2,h1,h2,h3⟩:=Hq hE hF hM
   split
   · exact ⟨p2,h1,h2,h3⟩
   · generalize (DL (bO fr m) H1).2=H2 at h1 h3 ⊢
     unfold FX
     cases H2 with
     | nil=>exact ⟨p2,h1,h2,h3⟩
     | cons l r =>
       dsimp only
       cases hl:l.lock with
       | true=>rw[if_pos rfl];exact ⟨p2,h1,h2,h3⟩
       | false =>
         rw[if_neg (by simp)]
         have k:=FY h1.rel hl (Nat.shiftRight m 4003 % 8) (Nat.shiftRight m 4003 / 8)
         rw[hl] at k
         exact ⟨p2,h1.trans k,h2,h3.pr k⟩
 · split
   · unfold xm
     cases H1 with
     | nil=>exact ⟨p1,hE,hF,hM⟩
     | cons l r =>
       dsimp only
       cases hl:l.lock with
       | true=>rw[if_pos rfl];exact ⟨p1,hE,hF,hM⟩
       | false =>
         rw[if_neg (by simp)]
         split
         · rename_i i _
           obtain ⟨p2,h1,h2,_⟩:=qA hE.rel hF hl i
           exact ⟨p2,hE.trans h1,h2,hM.pr h1⟩
         · exact ⟨p1,hE,hF,hM⟩
   · split
     · split
       · exact Fv hE hF hM
       · exact ⟨p1,hE,hF,hM⟩
     · exact ⟨p1,hE,hF,hM⟩

end Go.Eng
