/- The engine, part J: marks; cutting a level back. -/
import Derived.Test.YtgphpjdchnfjlaaDoorV6EngGx3
set_option linter.unusedVariables false
set_option linter.unusedSimpArgs false
namespace Go.Eng

def Marks (n0:Nat) (M:Mu) (H:aa) (w:World) (ds:List Deferred):Prop :=
 ∃ rs:List Nat,ds=rs.map (fun r=>{ target:=.collected r,args:=#[] })∧rs.Nodup∧n0≤w.heap.size∧∀ r ∈ rs,w.heap[r]?=some (.deferred (some []))∧bE M H r∧n0≤r

theorem Marks.nil (M:Mu) (H:aa) (w:World):Marks w.heap.size M H w []:=⟨[],rfl,List.nodup_nil,Nat.le_refl _,fun r hr=>by simp at hr⟩
theorem Marks.xJ {p p':aH} {M M':Mu} {H H':aa} {w w':World} {n0:Nat} {ds:List Deferred} (h:Marks n0 M H w ds) (hE:cE p M H w p' M' H' w'):Marks n0 M' H' w' ds:=by
 obtain ⟨rs,h1,h2,h0,h3⟩:=h;refine ⟨rs,h1,h2,Nat.le_trans h0 hE.stay.size,fun r hr=>?_⟩;obtain ⟨k1,k2,k3⟩:=h3 r hr;have hlt:r<w.heap.size:=(Array.getElem?_eq_some_iff.1 k1).1;exact ⟨by rw[hE.stay.block r hlt k2];exact k1,hE.bE r hlt k2,k3⟩

def eI (n:Nat) (M:Mu):Mu:=fun d i v=>if d=0∧n≤i then none else M d i v
theorem ko (n:Nat) (M:Mu):Mu.le (eI n M) M:=fun d i v t h=>by
 simp only[eI] at h;split at h
 · cases h
 · exact h
theorem FH (n k:Nat) (M:Mu) (hk:0<k):(eI n M).up k=M.up k:=by
 funext d i v;simp only[Mu.up,eI];rw[if_neg wO]

theorem FI (n s:Nat) (M:Mu):pY (eI n M) (some (s+1))=pY M (some (s+1)):=by
 funext d i v;show eI n M (d+(s+1)) i v=M (d+(s+1)) i v;simp only[eI];rw[if_neg];omega
theorem Fw {p:aH} {M N:Mu} {v:AV} {c:Value} (hv:DV v=true) (h:al p M v c):al p N v c:=by
 cases h with
 | bool b=>exact .bool b
 | int k n=>exact .int k n
 | nils=>exact .nils
 | ptrT vs h0 h1 hr =>
   rename_i s r off b o;cases s with
   | none=>exact .ptrT vs h0 h1 hr
   | some s=>simp[DV] at hv
 | slcT vs h0 h1 hr hl hf hx =>
   rename_i s r sz len b o x cc full;cases s with
   | none=>exact .slcT vs h0 h1 hr hl hf hx
   | some s=>simp[DV] at hv
 | slcN=>exact .slcN
 | _=>simp[DV] at hv
theorem Fv {p:aH} {M N:Mu} {r:Row} {vs:Nat→Value} (hr:N0 r=true) (h:∀ j,j<r.len→al p (jy M r) (r.get j) (vs j)):∀ j,j<r.len→al p (jy N r) (r.get j) (vs j):=by
 cases r with
 | I k l=>exact fun j hj=>(h j hj).bw _ _
 | F f m=>exact h
 | G l =>
   intro j hj;have hj':j<l.length:=hj;have:DV (l.getD j .undef)=true:=by
    have:=List.all_eq_true.1 hr (l.getD j .undef) (by simp[hj']);exact this
   exact Fw this (h j hj)
 | M l=>exact bg.fO hr h
theorem b7 {p:aH} {M:Mu} {n:Nat} {v:AV} {c:Value} (hr:lZ n v=false) (h:al p M v c):al p (eI n M) v c:=by
 have here:∀ {d i:Nat},(Nat.beq d 0 && Nat.ble n i)=false→∀ ver,eI n M d i ver=M d i ver:=by
  intro d i e ver;simp only[eI];rw[if_neg];rintro ⟨rfl,h2⟩;have:Nat.ble n i=true:=by simpa using h2
  simp[this] at e
 cases h with
 | undef c=>exact .undef c
 | bool b=>exact .bool b
 | int k n=>exact .int k n
 | str s=>exact .str s
 | nilp=>exact .nilp
 | nils=>exact .nils
 | nilm=>exact .nilm
 | nilf=>exact .nilf
 | ptr h=>exact .ptr (by rw[here hr];exact h)
 | ptrT vs h0 h1 hv =>
   rename_i s r off b o;cases s with
   | none=>exact .ptrT vs h0 h1 hv
   | some s =>
     cases s with
     | zero=>exact .ptrT vs h0 h1 (Fv (by simpa[lZ,CB] using hr) hv)
     | succ s=>exact .ptrT vs h0 h1 (by rw[FI];exact hv)
 | slc h hl hc hn hx=>exact .slc (by rw[here hr];exact h) hl hc hn hx
 | slcT vs h0 h1 hv hl hf hx =>
   rename_i s r sz len b o x cc full;cases s with
   | none=>exact .slcT vs h0 h1 hv hl hf hx
   | some s =>
     cases s with
     | zero=>simp[lZ,CB] at hr
     | succ s=>exact .slcT vs h0 h1 (by rw[FI];exact hv) hl hf hx
 | slcN=>exact .slcN
 | map h=>exact .map (by rw[here hr];exact h)
 | yld h=>exact .yld (by rw[here hr];exact h)
 | fn=>simp[lZ] at hr
 | agg hs h1 hv =>
   rename_i r cs;cases r with
   | I k l=>exact .agg hs h1 (fun j hj=>(hv j hj).bw _ _)
   | F f m=>exact .agg hs h1 hv
   | G l=>simp[lZ] at hr
   | M l=>exact .agg hs h1 (bg.fO (by simpa[lZ] using hr) hv)
 | tup hs hv =>
   rename_i l cs;cases l with
   | nil=>exact .tup hs (fun j hj=>absurd hj (by simp))
   | cons=>simp[lZ] at hr

theorem me {p q:aH} {M N:Mu} {f:AV→Bool}:∀ {l:List dh} {vs:Nat→Value},anyM f l=false→(∀ v c,f v=false→al p M v c→al q N v c)→(∀ j,j<aB l→al p M (getM l j) (vs j))→∀ j,j<aB l→al q N (getM l j) (vs j)
 | [],_,_,_,_,j,hj=>by simp[aB] at hj
 | .one v::r,vs,hr,hf,hv,0,hj=>by
   simp only[anyM,Bool.or_eq_false_iff] at hr;exact hf _ _ hr.1 (hv 0 hj)
 | .one v::r,vs,hr,hf,hv,j+1,hj=>by
   simp only[anyM,Bool.or_eq_false_iff] at hr;have hj':j<aB r:=by simp[aB,aQ] at hj;omega
   exact me (vs:=fun j=>vs (j+1)) hr.2 hf (fun j hj=>hv (j+1) (by simp[aB,aQ];omega)) j hj'
 | .arr k z n::r,vs,hr,hf,hv,j,hj=>by
   have h0:=hv j hj;simp only[getM] at h0 ⊢;by_cases e:j<n
   · rw[if_pos e] at h0 ⊢;exact h0.bw _ _
   · rw[if_neg e] at h0 ⊢;have hj':j-n<aB r:=by simp[aB,aQ] at hj;omega
     have:=me (p:=p) (M:=M) (q:=q) (N:=N) (l:=r) (vs:=fun i=>vs (i+n)) hr hf (fun i hi=>by
      have:=hv (i+n) (by simp[aB,aQ];omega);simp only[getM] at this;rw[if_neg wO,Nat.add_sub_cancel] at this;exact this) (j-n) hj'
     rw[Nat.sub_add_cancel wO] at this;exact this
theorem kK {p:aH} {M:Mu} {n:Nat} {v:AV} {c:Value} (hr:vj n v=false) (h:al p M v c):al p (eI n M) v c:=by
 have getF:∀ {l:List AV} {j:Nat},l.any (lZ n)=false→j<l.length→lZ n (l.getD j .undef)=false:=by
  intro l j h hj;have:=List.any_eq_false.1 h (l.getD j .undef) (by simp[hj]);simpa using this
 cases v with
 | agg r =>
   cases r with
   | G l =>
     cases h with
     | agg hs h1 hv=>exact .agg hs h1 (fun j hj=>b7 (getF hr hj) (hv j hj))
   | I k l=>exact b7 hr h
   | F f m=>exact b7 hr h
   | M l =>
     cases h with
     | agg hs h1 hv=>exact .agg hs h1 (me hr (fun v c e h=>b7 e h) hv)
 | fn f x y =>
   cases h with
   | fn hx hy vx vy =>
     simp only[vj,Bool.or_eq_false_iff] at hr;exact .fn hx hy (fun j hj=>b7 (getF hr.1 hj) (vx j hj)) (fun j hj=>b7 (getF hr.2 hj) (vy j hj))
 | undef=>exact b7 hr h
 | bool=>exact b7 hr h
 | int=>exact b7 hr h
 | str=>exact b7 hr h
 | nilp=>exact b7 hr h
 | nils=>exact b7 hr h
 | nilm=>exact b7 hr h
 | nilf=>exact b7 hr h
 | ptr=>exact b7 hr h
 | ptrT s r off =>
   have other:(∀ l,s=some 0→r≠.M l)→lZ n (.ptrT s r off)=false:=fun hn=>by
    rcases s with _ | s
    · rfl
    · cases s with
      | succ s=>rfl
      | zero =>
        cases r with
        | M l=>exact absurd rfl (hn l rfl)
        | I=>exact hr
        | F=>exact hr
        | G=>exact hr
   by_cases e:∃ l,s=some 0∧r=.M l
   · obtain ⟨l,rfl,rfl⟩:=e;cases h with
     | ptrT vs h0 h1 hv =>
       refine .ptrT vs h0 h1 ?_;have e1:jy (pY M (some 0)) (.M l)=M:=Mu.nw M;have e2:jy (pY (eI n M) (some 0)) (.M l)=eI n M:=Mu.nw _;rw[e1] at hv;rw[e2];exact me hr (fun v c e h=>b7 e h) hv
   · exact b7 (other fun l h1 h2=>e ⟨l,h1,h2⟩) h
 | slc=>exact b7 hr h
 | slcT=>exact b7 hr h
 | map=>exact b7 hr h
 | yld=>exact b7 hr h
 | tup=>exact b7 hr h

theorem G0 {p:aH} {M:Mu} {n:Nat} {B:ao} {b o t:Nat} {w:World} (hr:Jk n B=false) (h:fH p M B b o t w):fH p (eI n M) B b o t w:=by
 cases B with
 | dead=>trivial
 | row r =>
   obtain ⟨c,e,e1,e2,e3,e4⟩:=h;refine ⟨c,e,e1,e2,e3,fun j hj=>?_⟩;cases r with
   | I k l=>exact ⟨(e4 j hj).1.bw _ _,(e4 j hj).2⟩
   | F f m=>exact e4 j hj
   | M l=>exact ⟨me (vs:=fun j=>c.getD (o+j) Go.undef) hr (fun v c e h=>kK e h) (fun j hj=>(e4 j hj).1) j hj,(e4 j hj).2⟩
   | G l =>
     refine ⟨kK ?_ (e4 j hj).1,(e4 j hj).2⟩;have hj':j<l.length:=hj;have:=List.any_eq_false.1 hr (l.getD j .undef) (by simp[hj']);simpa[Row.get] using this
 | map es =>
   obtain ⟨ces,clock,h1,h2,h3,h4⟩:=h;refine ⟨ces,clock,h1,h2,h3,fun j hj=>?_⟩;have hm:es.getD j (.undef,.undef) ∈ es:=by
    rw[List.getD_eq_getElem?_getD,List.getElem?_eq_getElem wO];exact List.getElem_mem _
   have hn:(es.any fun e=>vj n e.1 || vj n e.2)=false:=hr;have:=List.any_eq_false.1 hn _ hm;simp only[Bool.or_eq_true,not_or,Bool.not_eq_true] at this;exact ⟨kK this.1 (h4 j hj).1,kK this.2 (h4 j hj).2⟩
 | fmap kq f g c=>exact yc _ _ h
 | loop l=>simp[Jk] at hr

theorem fG:∀ (l:List (Nat×ao)) (n i:Nat),av (l.take n) i=if i<n then av l i else (0,.dead)
 | [],n,i=>by simp[av]
 | b::l,0,i=>by simp[av]
 | b::l,n+1,0=>by simp[av]
 | b::l,n+1,i+1=>by simp[av,fG l n i]
theorem lC:∀ {l:List (Nat×ao)} {i:Nat},(av l i).2≠.dead→av l i ∈ l
 | [],_,h=>by simp[av] at h
 | b::l,0,_=>by simp[av]
 | b::l,i+1,h=>by simp only[av];exact List.mem_cons_of_mem _ (lC (l:=l) (i:=i) h)

theorem sF:∀ (fr:aE) (x:Nat),bM fr x=.undef∨∃ y,(y,bM fr x) ∈ fr
 | [],x=>.inl rfl
 | (y,v)::r,x=>by
   simp only[bM];split
   · exact .inr ⟨y,by simp⟩
   · rcases sF r x with h | ⟨z,h⟩
     · exact .inl h
     · exact .inr ⟨z,by simp[h]⟩

theorem vz {p p1:aH} {M M1:Mu} {H:aa} {w w1:World} {nt:Nat} {fr:aE} {a:Act} {l:bK} {r:aa} (hE:cE p M H w p1 M1 (l::r) w1) (hF:bZ p1 M1 nt fr a) {n0:Nat} (hM:Marks n0 M1 (l::r) w1 a.defers) (hdom:∀ d i v t,M d i v=some t→i<aq H d) :
 ∀ (k m:Nat),aX H≤m→∃ M2,cE p M H w p1 M2 (cutAt fr l r k m) w1∧bZ p1 M2 nt fr a∧Marks n0 M2 (cutAt fr l r k m) w1 a.defers
 | 0,m,_=>⟨M1,hE,hF,hM⟩
 | k + 1, m,hm0=>by
   unfold cutAt;split
   · exact vz hE hF hM hdom k (m+1) wO
   · rename_i hno;have hno:fr.any (fun x=>vj m x.2)=false∧(l.bs.take m).any (fun x=>Jk m x.2)=false:=by simpa using hno
     obtain ⟨hno1,hno2⟩:=hno;have get:∀ d i,az ({ l with bs:=l.bs.take m } :: r) d i=if d=0∧m≤i then (0,.dead) else az (l::r) d i:=by
      intro d i;cases d with
      | zero =>
        simp only[az,fG];by_cases e:i<m
        · rw[if_pos e,if_neg wO]
        · rw[if_neg e,if_pos ⟨by trivial,Nat.le_of_not_lt e⟩]
      | succ d=>simp[az]
     have rel:bj p1 (eI m M1) ({ l with bs:=l.bs.take m } :: r) w1:=by
      refine ⟨hE.rel.pers,?_,?_,?_⟩
      · intro d i v B hg hB;rw[get] at hg;split at hg
        · simp only[Prod.mk.injEq] at hg;exact absurd hg.2.symm hB
        · rename_i e;obtain ⟨b,o,t,k1,k2,k3⟩:=hE.rel.live d i v B hg hB;refine ⟨b,o,t,by simp only[eI];rw[if_neg e];exact k1,?_,k3⟩;cases d with
          | succ d=>rw[FH _ _ _ wO];exact k2
          | zero =>
            refine G0 ?_ k2;have hi:i<m:=Nat.lt_of_not_le fun e'=>e ⟨rfl,e'⟩;have hg':av l.bs i=(v,B):=hg;have hm:av (l.bs.take m) i ∈ l.bs.take m:=lC (by rw[fG,if_pos hi,hg'];exact hB);rw[fG,if_pos hi,hg'] at hm;have:=List.any_eq_false.1 hno2 _ hm;simpa using this
      · intro d i v B d' i' v' B' b o t o' t' hg hB hg' hB' hm hm';rw[get] at hg hg';split at hg
        · simp only[Prod.mk.injEq] at hg;exact absurd hg.2.symm hB
        · split at hg'
          · simp only[Prod.mk.injEq] at hg';exact absurd hg'.2.symm hB'
          · exact hE.rel.apart d i v B d' i' v' B' b o t o' t' hg hB hg' hB' (ko _ _ _ _ _ _ hm) (ko _ _ _ _ _ _ hm')
      · intro d i v t hm;have h0:=hE.rel.dom d i v t (ko _ _ _ _ _ _ hm);have hne:¬ (d=0∧m≤i):=by
         intro e;simp only[eI] at hm;rw[if_pos e] at hm;cases hm
        rw[get,if_neg hne];refine ⟨?_,h0.2⟩;cases d with
        | zero =>
          have h1:i<l.bs.length:=h0.1;have h2:i<m:=Nat.lt_of_not_le fun e=>hne ⟨rfl,e⟩;simp only[aq,List.length_take];omega
        | succ d=>exact h0.1
     have keepc:∀ b,bE M1 (l::r) b→bE (eI m M1) ({ l with bs:=l.bs.take m } :: r) b:=by
      intro b hk d i v B hg hB hl o t hm;rw[get] at hg;split at hg
      · simp only[Prod.mk.injEq] at hg;exact absurd hg.2.symm hB
      · exact hk d i v B hg hB (by cases d<;>exact hl) o t (ko _ _ _ _ _ _ hm)
     refine ⟨eI m M1,⟨hE.pst,?_,rel,hE.stay,fun b hb hk=>keepc b (hE.bE b hb hk),hE.fresh,fun d i v b o t hm=>hE.own d i v b o t (ko _ _ _ _ _ _ hm),fun d=>?_,fun d i hd hl=>?_,fun d hd hl=>?_,hE.len,fun d=>?_,fun d i v t hm=>hE.new d i v t (ko _ _ _ _ _ _ hm)⟩,⟨hF.size,fun x=>?_⟩,?_⟩
     · intro d i v t hm;have:=hE.mu d i v t hm;have h0:=hdom d i v t hm;simp only[eI];rw[if_neg]
       · exact this
       · rintro ⟨rfl,e⟩;rw[bn] at h0;omega
     · have:=hE.lock d;cases d<;>exact this
     · rw[get,if_neg (fun e=>hd e.1)];exact hE.same d i hd hl
     · have:=hE.next d hd hl;cases d with
       | zero=>exact absurd rfl hd
       | succ d=>exact this
     · have:=hE.grow d;cases d with
       | zero=>rw[bn] at this ⊢;simp only[aq,List.length_take] at this ⊢;omega
       | succ d=>exact this
     · rcases sF fr x with e | ⟨y,e⟩
       · rw[e];exact .undef _
       · refine kK ?_ (hF.at_ x);have:=List.any_eq_false.1 hno1 _ e;simpa using this
     · obtain ⟨rs,h1,h2,h0,h3⟩:=hM;exact ⟨rs,h1,h2,h0,fun x hx=>⟨(h3 x hx).1,keepc x (h3 x hx).2.1,(h3 x hx).2.2⟩⟩

theorem rH {p p1:aH} {M M1:Mu} {H H1:aa} {w w1:World} {nt:Nat} {fr:aE} {a:Act} (hE:cE p M H w p1 M1 H1 w1) (hF:bZ p1 M1 nt fr a) {n0:Nat} (hM:Marks n0 M1 H1 w1 a.defers) (hdom:∀ d i v t,M d i v=some t→i<aq H d) :
 ∃ M2,cE p M H w p1 M2 (mn (aX H) fr H1) w1∧bZ p1 M2 nt fr a∧Marks n0 M2 (mn (aX H) fr H1) w1 a.defers:=by
 unfold mn
 cases H1 with
 | nil=>exact ⟨M1,hE,hF,hM⟩
 | cons l r =>
   simp only
   split
   · exact ⟨M1,hE,hF,hM⟩
   · exact vz hE hF hM hdom 4 (aX H) (Nat.le_refl _)

def jl (a b:Nat) (M:Mu):Mu:=fun d i v=>if d=0 then (if i=b then M 0 a v else if i=a then none else M 0 i v) else M d i v
theorem IZ (a b k:Nat) (M:Mu) (hk:0<k):(jl a b M).up k=M.up k:=by
 funext d i v;simp only[Mu.up,jl];rw[if_neg wO]
theorem tw (M:Mu):M.up 0=M:=by
 funext d i v;rfl
theorem Io (a b:Nat) (M:Mu):Mu.le (eI 0 M) (jl a b M):=fun d i v t h=>by
 simp only[eI] at h;simp only[jl];split at h
 · cases h
 · rename_i e;rw[if_neg (fun e2=>e ⟨e2,Nat.zero_le _⟩)];exact h
theorem rY {a b:Nat} {M:Mu} {d i v:Nat} (hu:(Nat.beq d 0 && Nat.beq i b)=false) (ha:¬ (d=0∧i=a)):jl a b M d i v=M d i v:=by
 simp only[jl];by_cases hd:d=0
 · subst hd;rw[if_pos rfl,if_neg (by
    rintro rfl;simp at hu),if_neg (fun h=>ha ⟨rfl,h⟩)]
 · rw[if_neg hd]
theorem jC {d i a:Nat}:(Nat.beq d 0 && Nat.beq i a)=true↔d=0∧i=a:=by simp
theorem G1 {p:aH} {M:Mu} {v:AV} {c:Value} (hr:Jl v=false) (h:al p M v c):al p (eI 0 M) v c:=by
 unfold Jl at hr;split at hr
 · exact kK (n:=0) hr h
 · exact b7 hr h
theorem cU {p:aH} {M:Mu} {a b:Nat} {v:AV} {c:Value} (hu:vl b v=false) (h:al p M v c):al p (jl a b M) (ve a b v) c:=by
 have other:∀ v,Jl v=false→al p M v c→al p (jl a b M) v c:=fun v h1 h2=>(G1 h1 h2).mono (aH.le.refl p) (Io a b M);have eb:∀ ver,jl a b M 0 b ver=M 0 a ver:=fun ver=>by simp[jl]
 cases h with
 | ptr h =>
   rename_i d i ver off blk o t;simp only[ve];by_cases e:d=0∧i=a
   · rw[if_pos (jC.2 e)];obtain ⟨rfl,rfl⟩:=e;exact .ptr (by rw[eb];exact h)
   · rw[if_neg (fun h=>e (jC.1 h))];exact .ptr (by rw[rY hu e];exact h)
 | slc h hl hc hn hx =>
   rename_i d i ver off sz len blk o t x cc cap;simp only[ve];by_cases e:d=0∧i=a
   · rw[if_pos (jC.2 e)];obtain ⟨rfl,rfl⟩:=e;exact .slc (by rw[eb];exact h) hl hc hn hx
   · rw[if_neg (fun h=>e (jC.1 h))];exact .slc (by rw[rY hu e];exact h) hl hc hn hx
 | map h =>
   rename_i d i blk o t;simp only[ve];by_cases e:d=0∧i=a
   · rw[if_pos (jC.2 e)];obtain ⟨rfl,rfl⟩:=e;exact .map (by rw[eb];exact h)
   · rw[if_neg (fun h=>e (jC.1 h))];exact .map (by rw[rY hu e];exact h)
 | yld h =>
   rename_i d i blk o t;simp only[ve];by_cases e:d=0∧i=a
   · rw[if_pos (jC.2 e)];obtain ⟨rfl,rfl⟩:=e;exact .yld (by rw[eb];exact h)
   · rw[if_neg (fun h=>e (jC.1 h))];exact .yld (by rw[rY hu e];exact h)
 | undef c=>exact .undef c
 | bool b=>exact .bool b
 | int k n=>exact .int k n
 | str s=>exact .str s
 | nilp=>exact .nilp
 | nils=>exact .nils
 | nilm=>exact .nilm
 | nilf=>exact .nilf
 | ptrT vs h0 h1 hv=>exact other _ hu (.ptrT vs h0 h1 hv)
 | slcT vs h0 h1 hv hl hf hx=>exact other _ hu (.slcT vs h0 h1 hv hl hf hx)
 | slcN=>exact .slcN
 | fn ha hb va vb=>exact other _ hu (.fn ha hb va vb)
 | agg hs h1 hv=>exact other _ hu (.agg hs h1 hv)
 | tup hs hv=>exact other _ hu (.tup hs hv)
theorem getD_map {g:AV→AV} (h0:g .undef=.undef) (l:List AV) (j:Nat):(l.map g).getD j .undef=g (l.getD j .undef):=by
 induction l generalizing j with
 | nil=>simp[h0]
 | cons x l ih =>
   cases j with
   | zero=>rfl
   | succ j=>simpa using ih j
theorem nh {p q:aH} {M N:Mu} {f:AV→Bool} {g:AV→AV} (hf:∀ v c,f v=false→al p M v c→al q N (g v) c):∀ {l:List dh} {vs:Nat→Value},anyM f l=false→(∀ j,j<aB l→al p M (getM l j) (vs j))→∀ j,j<aB l→al q N (getM (mapM' g l) j) (vs j)
 | [],_,_,_,j,hj=>by simp[aB] at hj
 | .one v::r,vs,hr,hv,0,hj=>by
   simp only[anyM,Bool.or_eq_false_iff] at hr;exact hf _ _ hr.1 (hv 0 hj)
 | .one v::r,vs,hr,hv,j+1,hj=>by
   simp only[anyM,Bool.or_eq_false_iff] at hr;have hj':j<aB r:=by simp[aB,aQ] at hj;omega
   exact nh hf (l:=r) (vs:=fun j=>vs (j+1)) hr.2 (fun j hj=>hv (j+1) (by simp[aB,aQ];omega)) j hj'
 | .arr k z n::r,vs,hr,hv,j,hj=>by
   have h0:=hv j hj;simp only[getM,mapM'] at h0 ⊢;by_cases e:j<n
   · rw[if_pos e] at h0 ⊢;exact h0.bw _ _
   · rw[if_neg e] at h0 ⊢;have hj':j-n<aB r:=by simp[aB,aQ] at hj;omega
     have:=nh hf (l:=r) (vs:=fun i=>vs (i+n)) hr (fun i hi=>by
      have:=hv (i+n) (by simp[aB,aQ];omega);simp only[getM] at this;rw[if_neg wO,Nat.add_sub_cancel] at this;exact this) (j-n) hj'
     rw[Nat.sub_add_cancel wO] at this;exact this
theorem oT {f:AV→Bool} {l:List AV} {j:Nat} (h:l.any f=false) (hj:j<l.length):f (l.getD j .undef)=false:=by
 have:=List.any_eq_false.1 h (l.getD j .undef) (by simp[hj]);simpa using this
theorem w8 {p:aH} {M:Mu} {a b:Nat} {v:AV} {c:Value} (hu:p7 (vl b) v=false) (h:al p M v c):al p (jl a b M) (nE (ve a b) v) c:=by
 cases v with
 | agg r =>
   cases r with
   | G l =>
     cases h with
     | agg hs h1 hv=>exact .agg (by simpa[Row.len] using hs) (fun j hj=>h1 j (by simpa[Row.len] using hj)) (fun j hj=>by
        have hj:j<l.length:=by simpa[Row.len] using hj
        have:=cU (a:=a) (oT hu hj) (hv j hj);show al p _ ((l.map (ve a b)).getD j .undef) _;rw[getD_map rfl];exact this)
   | I k l=>exact cU (a:=a) (b:=b) (v:=.agg (.I k l)) hu h
   | F f m=>exact cU (a:=a) (b:=b) (v:=.agg (.F f m)) hu h
   | M l =>
     cases h with
     | agg hs h1 hv=>exact .agg (by simpa[Row.len,aT] using hs) (fun j hj=>h1 j (by simpa[Row.len,aT] using hj)) (fun j hj =>
        nh (fun v c e h=>cU e h) (vs:=fun j=>(_:Array Value).getD j undef) hu hv j (by simpa[Row.len,aT] using hj))
 | fn f x y =>
   cases h with
   | fn hx hy vx vy =>
     simp only[p7,Bool.or_eq_false_iff] at hu;refine .fn (by simpa using hx) (by simpa using hy) (fun j hj=>?_) (fun j hj=>?_)
     · rw[getD_map rfl];exact cU (oT hu.1 (by simpa using hj)) (vx j (by simpa using hj))
     · rw[getD_map rfl];exact cU (oT hu.2 (by simpa using hj)) (vy j (by simpa using hj))
 | undef=>exact cU (a:=a) (b:=b) (v:=.undef) hu h
 | bool x=>exact cU (a:=a) (b:=b) (v:=.bool x) hu h
 | int x y=>exact cU (a:=a) (b:=b) (v:=.int x y) hu h
 | str x=>exact cU (a:=a) (b:=b) (v:=.str x) hu h
 | nilp=>exact cU (a:=a) (b:=b) (v:=.nilp) hu h
 | nils=>exact cU (a:=a) (b:=b) (v:=.nils) hu h
 | nilm=>exact cU (a:=a) (b:=b) (v:=.nilm) hu h
 | nilf=>exact cU (a:=a) (b:=b) (v:=.nilf) hu h
 | ptr d i v o=>exact cU (a:=a) (b:=b) (v:=.ptr d i v o) hu h
 | ptrT s r o=>exact cU (a:=a) (b:=b) (v:=.ptrT s r o) hu h
 | slc d i v o z l c=>exact cU (a:=a) (b:=b) (v:=.slc d i v o z l c) hu h
 | slcT s r z l f=>exact cU (a:=a) (b:=b) (v:=.slcT s r z l f) hu h
 | map d i=>exact cU (a:=a) (b:=b) (v:=.map d i) hu h
 | yld d i=>exact cU (a:=a) (b:=b) (v:=.yld d i) hu h
 | tup l=>exact cU (a:=a) (b:=b) (v:=.tup l) hu h
theorem IX {p:aH} {M:Mu} {a b:Nat} {B:ao} {x o t:Nat} {w:World} (hu:AG (vl b) B=false) (h:fH p M B x o t w):fH p (jl a b M) (qx (ve a b) B) x o t w:=by
 cases B with
 | dead=>trivial
 | row r =>
   obtain ⟨c,e,e1,e2,e3,e4⟩:=h;have hl:(Gt (ve a b) r).len=r.len:=by cases r<;>simp[Gt,Row.len,aT]
   refine ⟨c,e,e1,e2,by rw[hl];exact e3,fun j hj=>?_⟩;rw[hl] at hj;cases r with
   | I k l=>exact ⟨(e4 j hj).1.bw _ _,(e4 j hj).2⟩
   | F f m=>exact e4 j hj
   | M l=>exact ⟨nh (fun v c e h=>w8 e h) (vs:=fun j=>c.getD (o+j) Go.undef) hu (fun j hj=>(e4 j hj).1) j hj,(e4 j hj).2⟩
   | G l =>
     have hj':j<l.length:=hj;refine ⟨?_,(e4 j hj).2⟩;have:=w8 (a:=a) (oT hu hj') (e4 j hj).1;show al p _ ((l.map (nE (ve a b))).getD j .undef) _;rw[getD_map rfl];exact this
 | map es=>simp[AG] at hu
 | fmap kq f g c=>exact yc _ _ h
 | loop l=>simp[AG] at hu

theorem lB (g:AV→AV):∀ (l:List (Nat×ao)) (i:Nat),av (jH g l) i=((av l i).1,qx g (av l i).2)
 | [],i=>rfl
 | (v,b)::r,0=>rfl
 | (v,b)::r,i+1=>lB g r i
theorem dT (g:AV→AV):∀ (l:List (Nat×ao)),(jH g l).length=l.length
 | []=>rfl
 | (v,b)::r=>by simp[jH,dT g r]
theorem iV {g:AV→AV} {B:ao}:qx g B≠.dead↔B≠.dead:=by cases B<;>simp[qx]
theorem tl (g:AV→AV) (h0:g .undef=.undef):∀ (fr:aE) (x:Nat),bM (qy g fr) x=nE g (bM fr x)
 | [],x=>by simp[qy,bM,nE,h0]
 | (y,v)::r,x=>by
   simp only[qy,bM];split
   · rfl
   · exact tl g h0 r x
theorem oM:∀ (l:List (Nat×ao)) (j:Nat) (x:Nat×ao) (i:Nat),j<l.length→av (bR l j x) i=if i=j then x else av l i
 | [],j,x,i,h=>by simp at h
 | y::r,0,x,0,h=>by simp[bR,av]
 | y::r,0,x,i+1,h=>by simp[bR,av]
 | y::r,j+1,x,0,h=>by simp[bR,av]
 | y::r,j+1,x,i+1,h=>by
   simp only[bR,av];rw[oM r j x i (by simpa using h)];simp
theorem ju:∀ (l:List (Nat×ao)) (j:Nat) (x:Nat×ao),(bR l j x).length=l.length
 | [],j,x=>rfl
 | y::r,0,x=>rfl
 | y::r,j+1,x=>by simp[bR,ju r j x]
theorem IY {a b:Nat} {l:bK} (ha:a<l.bs.length) (hb:b<a) (i:Nat):av (xM a b l).bs i=if i=b then ((av l.bs a).1,qx (ve a b) (av l.bs a).2) else if i<a then ((av l.bs i).1,qx (ve a b) (av l.bs i).2) else (0,.dead):=by
 unfold xM;dsimp only;rw[oM _ _ _ _ (by rw[dT];simp;omega)];by_cases e:i=b
 · rw[if_pos e,if_pos e]
 · rw[if_neg e,if_neg e,lB,fG];by_cases e2:i<a
   · rw[if_pos e2,if_pos e2]
   · rw[if_neg e2,if_neg e2];rfl
theorem CW {a b:Nat} {l:bK} (ha:a<l.bs.length):(xM a b l).bs.length=a:=by
 unfold xM;dsimp only;rw[ju,dT];simp;omega
theorem rb:∀ (l:List (Nat×ao)) (n i:Nat),av (l.drop n) i=av l (n+i)
 | [],n,i=>by simp[av]
 | b::l,0,i=>by simp
 | b::l,n+1,i=>by
   rw[show n+1+i=(n+i)+1 by omega];simp only[List.drop_succ_cons,av];exact rb l n i
theorem vI {fr:aE} {bs:List (Nat×ao)}:∀ {k m h:Nat},hole fr bs k m=some h→m≤h∧h+1<bs.length∧fr.any (fun x=>p7 (vl h) x.2)=false∧∀ i,i≠h→AG (vl h) (av bs i).2=false
 | 0,m,h,e=>by simp[hole] at e
 | k + 1,m,h,e=>by
   unfold hole at e;split at e
   · rename_i hlt;split at e
     · obtain ⟨h1,h2⟩:=vI e;exact ⟨by omega,h2⟩
     · rename_i hno;simp only[Option.some.injEq] at e;subst e;rw[Bool.not_eq_true,Bool.or_eq_false_iff,Bool.or_eq_false_iff] at hno;obtain ⟨n1,n2,n3⟩:=hno;refine ⟨Nat.le_refl _,by simpa using hlt,n1,fun i hi=>?_⟩;by_cases hd:(av bs i).2=.dead
       · rw[hd];rfl
       rcases Nat.lt_or_gt_of_ne hi with h1 | h1
       · have e0:av (bs.take m) i=av bs i:=by rw[fG,if_pos h1]
         have hm:av (bs.take m) i ∈ bs.take m:=lC (by rw[e0];exact hd);have:=List.any_eq_false.1 n2 _ hm;rw[e0] at this;simpa using this
       · have e0:av (bs.drop (m+1)) (i-(m+1))=av bs i:=by rw[rb];congr 1;omega
         have hm:av (bs.drop (m+1)) (i-(m+1)) ∈ bs.drop (m+1):=lC (by rw[e0];exact hd);have:=List.any_eq_false.1 n3 _ hm;rw[e0] at this;simpa using this
   · cases e

theorem Mq {p p1:aH} {M M1:Mu} {H:aa} {w w1:World} {nt:Nat} {fr:aE} {a:Act} {l:bK} {r:aa} (hE:cE p M H w p1 M1 (l::r) w1) (hF:bZ p1 M1 nt fr a) {n0:Nat} (hM:Marks n0 M1 (l::r) w1 a.defers) (hdom:∀ d i v t,M d i v=some t→i<aq H d)
 {x h:Nat} (hx:x+1=l.bs.length) (hh:h<x) (hn:aX H≤h) (hfr:fr.any (fun x=>p7 (vl h) x.2)=false) (hbs:∀ i,i≠h→AG (vl h) (av l.bs i).2=false) :
 ∃ M2,cE p M H w p1 M2 (xM x h l::r) w1∧bZ p1 M2 nt (qy (ve x h) fr) a∧Marks n0 M2 (xM x h l::r) w1 a.defers:=by
 let old:Nat→Nat:=fun i=>if i=h then x else i
 have get0:∀ i,av (xM x h l).bs i=if i<x then ((av l.bs (old i)).1,qx (ve x h) (av l.bs (old i)).2) else (0,.dead):=by
  intro i;rw[IY wO hh];simp only[old];by_cases e:i=h
  · rw[if_pos e,if_pos e,if_pos wO]
  · rw[if_neg e,if_neg e]
 have mu0:∀ i v,i<x→jl x h M1 0 i v=M1 0 (old i) v:=by
  intro i v hi;simp only[jl,old];rw[if_pos trivial];by_cases e:i=h
  · rw[if_pos e,if_pos e]
  · rw[if_neg e,if_neg e,if_neg wO]
 have muS:∀ d i v,jl x h M1 (d+1) i v=M1 (d+1) i v:=fun d i v=>by simp[jl]
 have lock0:∀ d,aK (xM x h l::r) d=aK (l::r) d:=fun d=>by cases d<;>rfl
 have back:∀ d i v B,az (xM x h l::r) d i=(v,B)→B≠.dead→∃ i' B',az (l::r) d i'=(v,B')∧B'≠.dead∧(∀ u,jl x h M1 d i u=M1 d i' u)∧(d=0→i<x∧i'=old i∧B=qx (ve x h) B')∧(d≠0→i'=i∧B'=B):=by
  intro d i v B hg hB;cases d with
  | succ d=>exact ⟨i,B,hg,hB,fun u=>muS d i u,fun e=>absurd e (by simp),fun _=>⟨rfl,rfl⟩⟩
  | zero =>
    have hg':av (xM x h l).bs i=(v,B):=hg;rw[get0] at hg';by_cases hi:i<x
    · rw[if_pos hi] at hg';simp only[Prod.mk.injEq] at hg';obtain ⟨e1,e2⟩:=hg';refine ⟨old i,(av l.bs (old i)).2,?_,?_,fun u=>mu0 i u hi,fun _=>⟨hi,rfl,e2.symm⟩,fun e=>absurd rfl e⟩
      · show av l.bs (old i)=_;rw[← e1]
      · rw[← e2] at hB;exact iV.1 hB
    · rw[if_neg hi] at hg';simp only[Prod.mk.injEq] at hg';exact absurd hg'.2.symm hB
 have inj:∀ i j,i<x→j<x→old i=old j→i=j:=by
  intro i j hi hj e;simp only[old] at e;by_cases e1:i=h<;>by_cases e2:j=h
  · omega
  · rw[if_pos e1,if_neg e2] at e;omega
  · rw[if_neg e1,if_pos e2] at e;omega
  · rw[if_neg e1,if_neg e2] at e;exact e
 have oldne:∀ i,i<x→old i≠h:=by
  intro i hi;simp only[old];by_cases e1:i=h
  · rw[if_pos e1];omega
  · rw[if_neg e1];exact e1
 have rel:bj p1 (jl x h M1) (xM x h l::r) w1:=by
  refine ⟨hE.rel.pers,?_,?_,?_⟩
  · intro d i v B hg hB;obtain ⟨i',B',h1,h2,h3,h4,h5⟩:=back d i v B hg hB;obtain ⟨b,o,t,k1,k2,k3⟩:=hE.rel.live d i' v B' h1 h2;refine ⟨b,o,t,by rw[h3];exact k1,?_,k3⟩;cases d with
    | succ d =>
      obtain ⟨rfl,rfl⟩:=h5 (by simp);rw[IZ _ _ _ _ wO];exact k2
    | zero =>
      obtain ⟨g1,g2,g3⟩:=h4 rfl;subst g2;subst g3;rw[tw] at k2 ⊢;have hg1:av l.bs (old i)=(v,B'):=h1;have:=hbs (old i) (oldne i g1);rw[hg1] at this;exact IX this k2
  · intro d i v B d' i' v' B' b o t o' t' hg hB hg' hB' hm hm';obtain ⟨j,C,h1,h2,h3,h4,h5⟩:=back d i v B hg hB;obtain ⟨j',C',h1',h2',h3',h4',h5'⟩:=back d' i' v' B' hg' hB';rw[h3] at hm;rw[h3'] at hm';obtain ⟨e1,e2⟩:=hE.rel.apart d j v C d' j' v' C' b o t o' t' h1 h2 h1' h2' hm hm';subst e1;refine ⟨rfl,?_⟩;by_cases hd:d=0
    · obtain ⟨g1,g2,_⟩:=h4 hd;obtain ⟨g1',g2',_⟩:=h4' hd;exact inj _ _ g1 g1' (by rw[← g2,← g2',e2])
    · rw[← (h5 hd).1,← (h5' hd).1,e2]
  · intro d i v t hm;cases d with
    | succ d =>
      rw[muS] at hm;exact hE.rel.dom (d+1) i v t hm
    | zero =>
      have hi:i<x:=by
       apply Nat.lt_of_not_le;intro hle;simp only[jl] at hm;rw[if_pos trivial,if_neg wO] at hm;by_cases e:i=x
       · rw[if_pos e] at hm;cases hm
       · rw[if_neg e] at hm;have h1:i<l.bs.length:=(hE.rel.dom 0 i v t hm).1;omega
      rw[mu0 i v hi] at hm;have h0:=hE.rel.dom 0 (old i) v t hm;refine ⟨?_,?_⟩
      · show i<(xM x h l).bs.length;rw[CW wO];exact hi
      · show (av (xM x h l).bs i).2≠.dead→v≤(av (xM x h l).bs i).1;rw[get0,if_pos hi];exact fun hne=>h0.2 (iV.1 hne)
 have keepc:∀ b,bE M1 (l::r) b→bE (jl x h M1) (xM x h l::r) b:=by
  intro b hk d i v B hg hB hl o t hm;obtain ⟨i',B',h1,h2,h3,_⟩:=back d i v B hg hB;rw[h3] at hm;exact hk d i' v B' h1 h2 (by rw[← lock0];exact hl) o t hm
 have from':∀ d i v t,jl x h M1 d i v=some t→∃ i',M1 d i' v=some t∧(M1 d i v=some t∨(d=0∧i=h)):=by
  intro d i v t hm;cases d with
  | succ d=>rw[muS] at hm;exact ⟨i,hm,.inl hm⟩
  | zero =>
    simp only[jl] at hm;rw[if_pos trivial] at hm;by_cases e:i=h
    · rw[if_pos e] at hm;exact ⟨x,hm,.inr ⟨rfl,e⟩⟩
    · rw[if_neg e] at hm;by_cases e2:i=x
      · rw[if_pos e2] at hm;cases hm
      · rw[if_neg e2] at hm;exact ⟨i,hm,.inl hm⟩
 have hgrow:aX H≤x:=by omega
 refine ⟨jl x h M1,⟨hE.pst,?_,rel,hE.stay,fun b hb hk=>keepc b (hE.bE b hb hk),hE.fresh,fun d i v b o t hm=>?_,fun d=>?_,fun d i hd hl=>?_,fun d hd hl=>?_,hE.len,fun d=>?_,fun d i v t hm=>?_⟩,⟨hF.size,fun y=>?_⟩,?_⟩
 · intro d i v t hm
   have h1:=hE.mu d i v t hm
   have h0:=hdom d i v t hm
   cases d with
   | succ d=>rw[muS];exact h1
   | zero =>
     rw[bn] at h0
     rw[mu0 i v wO]
     simp only[old]
     rw[if_neg wO];exact h1
 · obtain ⟨i',h1,_⟩:=from' d i v _ hm
   exact hE.own d i' v b o t h1
 · rw[lock0];exact hE.lock d
 · have:=hE.same d i hd hl
   cases d with
   | zero=>exact absurd rfl hd
   | succ d=>exact this
 · have:=hE.next d hd hl
   cases d with
   | zero=>exact absurd rfl hd
   | succ d=>exact this
 · have:=hE.grow d
   cases d with
   | zero =>
     rw[bn]
     show aX H≤(xM x h l).bs.length
     rw[CW wO];exact hgrow
   | succ d=>exact this
 · obtain ⟨i',h1,h2 | ⟨rfl,rfl⟩⟩:=from' d i v t hm
   · exact hE.new d i v t h2
   · exact .inr (.inl (by rw[bn];exact hn))
 · rw[tl _ rfl]
   rcases sF fr y with e | ⟨z,e⟩
   · rw[e];exact .undef _
   · refine w8 ?_ (hF.at_ y)
     have:=List.any_eq_false.1 hfr _ e
     simpa using this
 · obtain ⟨rs,h1,h2,h0,h3⟩:=hM
   exact ⟨rs,h1,h2,h0,fun z hz=>⟨(h3 z hz).1,keepc z (h3 z hz).2.1,(h3 z hz).2.2⟩⟩

theorem uA {p p1:aH} {M:Mu} {H:aa} {w w1:World} {nt:Nat} {a:Act} {n0:Nat} (hdom:∀ d i v t,M d i v=some t→i<aq H d) :
 ∀ (k:Nat) (fr:aE) (H1:aa) (M1:Mu),cE p M H w p1 M1 H1 w1→bZ p1 M1 nt fr a→Marks n0 M1 H1 w1 a.defers→∃ M2,cE p M H w p1 M2 (j8 (aX H) k fr H1).2 w1∧bZ p1 M2 nt (j8 (aX H) k fr H1).1 a∧Marks n0 M2 (j8 (aX H) k fr H1).2 w1 a.defers
 | 0,fr,H1,M1,hE,hF,hM=>⟨M1,hE,hF,hM⟩
 | k+1,fr,[],M1,hE,hF,hM=>⟨M1,hE,hF,hM⟩
 | k + 1,fr,l::r,M1,hE,hF,hM=>by
   unfold j8;dsimp only;split
   · exact ⟨M1,hE,hF,hM⟩
   · rename_i h hh;obtain ⟨h1,h2,h3,h4⟩:=vI hh;obtain ⟨M2,hE2,hF2,hM2⟩:=Mq hE hF hM hdom (x:=l.bs.length-1) wO wO h1 h3 h4;obtain ⟨M3,hE3,hF3,hM3⟩:=rH hE2 hF2 hM2 hdom;exact uA hdom k _ _ M3 hE3 hF3 hM3
theorem Hs {p p1:aH} {M M1:Mu} {H H1:aa} {w w1:World} {nt:Nat} {fr:aE} {a:Act} (hE:cE p M H w p1 M1 H1 w1) (hF:bZ p1 M1 nt fr a) {n0:Nat} (hM:Marks n0 M1 H1 w1 a.defers) (hdom:∀ d i v t,M d i v=some t→i<aq H d) :
 ∃ M2,cE p M H w p1 M2 (tidy (aX H) fr H1).2 w1∧bZ p1 M2 nt (tidy (aX H) fr H1).1 a∧Marks n0 M2 (tidy (aX H) fr H1).2 w1 a.defers:=by
 obtain ⟨M2,hE2,hF2,hM2⟩:=rH hE hF hM hdom
 exact uA hdom 4 _ _ M2 hE2 hF2 hM2

def IA (p:aH) (b o n:Nat) (vs:Nat→Value) (b' o':Nat):Option Value:=if b'=b∧o≤o'∧o'<o+n then some (vs (o'-o)) else p b' o'
theorem CH {p:aH} {b:Nat} (h:∀ x,p b x=none) (o n:Nat) (vs:Nat→Value) (b' o':Nat) (v:Value) (hv:pq b' o'=some v):IA p b o n vs b' o'=some v:=by
 unfold IA;rw[if_neg]
 · exact p.2 _ _ _ hv
 · rintro ⟨rfl,_⟩;rw[p.C0 (h o')] at hv;cases hv
open Classical in
noncomputable def mC (p:aH) (b o n:Nat) (vs:Nat→Value):aH:=if h:∀ x,p b x=none then ⟨IA p b o n vs,CH h o n vs⟩ else p
theorem Ga {p:aH} {b:Nat} (h:∀ x,p b x=none) (o n:Nat) (vs:Nat→Value):mC p b o n vs=⟨IA p b o n vs,CH h o n vs⟩:=dif_pos h
theorem fW {p:aH} {b:Nat} (h:∀ x,p b x=none) (o n:Nat) (vs:Nat→Value) (b' o':Nat):mC p b o n vs b' o'=if b'=b∧o≤o'∧o'<o+n then some (vs (o'-o)) else p b' o':=by
 rw[Ga h];rfl
theorem yn {p q:aH} {M N:Mu} {r:Row} (h:wV r=true) {vs:Nat→Value} (hr:bg p M r vs):bg q N r vs:=by
 intro j hj;refine ⟨?_,(hr j hj).2⟩;have h0:=(hr j hj).1;unfold wV at h;split at h
 · exact h0.bw _ _
 · rename_i k z n;have:j<n:=by simpa[Row.len,aB,aQ] using hj
   simp only[Row.get,getM,if_pos this] at h0 ⊢;exact h0.bw _ _
 · cases h
theorem Gb {r:Row} (h:wV r=true) (o n:Nat):wV (r.sub o n)=true:=by
 unfold wV at h;split at h
 · rfl
 · rfl
 · cases h
theorem oX {d j i:Nat} {x:Bool}:(Nat.beq d 0 && (Nat.beq j i && x))=true↔d=0∧j=i∧x=true:=by simp
theorem Gc {p:aH} {M:Mu} {i ver b o t:Nat} {r:Row} {vs:Nat→Value} (hno:∀ x,p b x=none) (hm:M 0 i ver=some (b,o,t)) (hi:wV r=true) (hr:bg p M r vs) (hle:aH.le p (mC p b o r.len vs)) {v:AV} {c:Value} (h:al p M v c):al (mC p b o r.len vs) M (nD i ver r v) c:=by
 have up:=h.mono hle (Mu.le.refl M);have cell:∀ j,j<r.len→mC p b o r.len vs b (o+j)=some (vs j):=fun j hj=>by
  rw[fW hno,if_pos ⟨rfl,by omega,by omega⟩];congr 2;omega
 cases h with
 | ptr h =>
   rename_i d j v off b' o' t';simp only[nD];by_cases e:d=0∧j=i∧v=ver
   · rw[if_pos (oX.2 ⟨e.1,e.2.1,by simp[e.2.2]⟩)];obtain ⟨rfl,rfl,rfl⟩:=e;rw[hm] at h;simp only[nP] at h;obtain ⟨rfl,rfl,rfl⟩:=h;exact .ptrT vs cell (fun j hj=>(hr j hj).2) (fun j hj=>(yn hi hr j hj).1)
   · rw[if_neg (fun h=>e (by have:=oX.1 h;exact ⟨this.1,this.2.1,by simpa using this.2.2⟩))];exact up
 | slc h hl hc hn hx =>
   rename_i d j v off sz len b' o' t' x cc cap;simp only[nD];by_cases e:d=0∧j=i∧(Nat.beq v ver && Nat.ble (off+len*sz) r.len)=true
   · rw[if_pos (oX.2 e)];obtain ⟨rfl,rfl,e⟩:=e;rw[Bool.and_eq_true] at e;obtain ⟨e1,e2⟩:=e;have e1:=Nat.eq_of_beq_eq_true e1;have e2:=Nat.le_of_ble_eq_true e2;subst e1;rw[hm] at h;simp only[nP] at h;obtain ⟨rfl,rfl,rfl⟩:=h;have hs:=hr.sub off (len*sz) e2;have hsl:=Row.dv r off (len*sz) e2;refine .slcT (o:=o+off) (fun j=>vs (off+j)) (fun j hj=>?_) (fun j hj=>(hs j hj).2) (fun j hj=>(yn (Gb hi off (len*sz)) hs j hj).1) hl (fun hf=>?_) hx
     · rw[hsl] at hj;rw[Nat.add_assoc];exact cell _ wO
     · exact hc _ (by simpa using hf)
   · rw[if_neg (fun h=>e (oX.1 h))];exact up
 | undef c=>exact up
 | bool b=>exact up
 | int k n=>exact up
 | str s=>exact up
 | nilp=>exact up
 | nils=>exact up
 | nilm=>exact up
 | nilf=>exact up
 | ptrT vs h0 h1 hv=>exact up
 | slcT vs h0 h1 hv hl hf hx=>exact up
 | slcN=>exact up
 | map h=>exact up
 | yld h=>exact up
 | fn ha hb va vb=>exact up
 | agg hs h1 hv=>exact up
 | tup hs hv=>exact up
theorem qz {p q:aH} {M N:Mu} {g:AV→AV} (h0:g .undef=.undef) (hq:∀ v c,al p M v c→al q N v c) (hg:∀ v c,al p M v c→al q N (g v) c) {v:AV} {c:Value} (h:al p M v c):al q N (nE g v) c:=by
 cases v with
 | agg r =>
   cases r with
   | G l =>
     cases h with
     | agg hs h1 hv=>exact .agg (by simpa[Row.len] using hs) (fun j hj=>h1 j (by simpa[Row.len] using hj)) (fun j hj=>by
        have hj:j<l.length:=by simpa[Row.len] using hj
        show al q _ ((l.map g).getD j .undef) _;rw[getD_map h0];exact hg _ _ (hv j hj))
   | I k l=>exact hg (.agg (.I k l)) _ h
   | F f m=>exact hg (.agg (.F f m)) _ h
   | M l =>
     cases h with
     | agg hs h1 hv=>exact .agg (by simpa[Row.len,aT] using hs) (fun j hj=>h1 j (by simpa[Row.len,aT] using hj)) (fun j hj=>by
        have hj:j<aB l:=by simpa[Row.len,aT] using hj
        show al q _ (getM (mapM' g l) j) _;rcases iS g l j hj with e | ⟨k,n,e1,e2⟩
        · rw[e];exact hg _ _ (hv j hj)
        · have:=hv j hj;simp only[Row.get] at this;rw[e1] at this;rw[e2];exact this.bw _ _)
 | fn f x y =>
   cases h with
   | fn hx hy vx vy =>
     refine .fn (by simpa using hx) (by simpa using hy) (fun j hj=>?_) (fun j hj=>?_)
     · rw[getD_map h0];exact hg _ _ (vx j (by simpa using hj))
     · rw[getD_map h0];exact hg _ _ (vy j (by simpa using hj))
 | undef=>exact hg _ _ h
 | bool b=>exact hg (.bool b) _ h
 | int k n=>exact hg (.int k n) _ h
 | str s=>exact hg (.str s) _ h
 | nilp=>exact hg .nilp _ h
 | nils=>exact hg .nils _ h
 | nilm=>exact hg .nilm _ h
 | nilf=>exact hg .nilf _ h
 | ptr d i v o=>exact hg (.ptr d i v o) _ h
 | ptrT s r o=>exact hg (.ptrT s r o) _ h
 | slc d i v o z l c=>exact hg (.slc d i v o z l c) _ h
 | slcT s r z l f=>exact hg (.slcT s r z l f) _ h
 | map d i=>exact hg (.map d i) _ h
 | yld d i=>exact hg (.yld d i) _ h
 | tup l=>exact hg (.tup l) _ h
theorem Eh {p q:aH} {M:Mu} {g:AV→AV} (h0:g .undef=.undef) (hq:aH.le p q) (hg:∀ v c,al p M v c→al q M (g v) c) {B:ao} {x o t:Nat} {w:World} (h:fH p M B x o t w):fH q M (qx g B) x o t w:=by
 have hq':∀ v c,al p M v c→al q M v c:=fun v c h=>h.mono hq (Mu.le.refl M);cases B with
 | dead=>trivial
 | row r =>
   obtain ⟨c,e,e1,e2,e3,e4⟩:=h;have hl:(Gt g r).len=r.len:=by cases r<;>simp[Gt,Row.len,aT]
   refine ⟨c,e,e1,e2,by rw[hl];exact e3,fun j hj=>?_⟩;rw[hl] at hj;cases r with
   | I k l=>exact ⟨(e4 j hj).1.bw _ _,(e4 j hj).2⟩
   | F f m=>exact ⟨(e4 j hj).1.mono hq (Mu.le.refl _),(e4 j hj).2⟩
   | M l =>
     refine ⟨?_,(e4 j hj).2⟩;have h1:=(e4 j hj).1;show al q _ (getM (mapM' (nE g) l) j) _;rcases iS (nE g) l j hj with e | ⟨k,n,k1,k2⟩
     · rw[e];exact qz h0 hq' hg h1
     · simp only[Row.get] at h1;rw[k1] at h1;rw[k2];exact h1.bw _ _
   | G l =>
     refine ⟨?_,(e4 j hj).2⟩;show al q _ ((l.map (nE g)).getD j .undef) _;rw[getD_map (by simp[nE,h0])];exact qz h0 hq' hg (e4 j hj).1
 | map es=>exact h.mono hq (Mu.le.refl M) rfl
 | fmap kq f g c=>exact h.mono hq (Mu.le.refl M) rfl
 | loop l=>exact h.mono hq (Mu.le.refl M) rfl
theorem qk {p1:aH} {M1:Mu} {w1:World} {nt:Nat} {fr:aE} {a:Act} {l:bK} {r:aa} (hH:bj p1 M1 (l::r) w1) (hF:bZ p1 M1 nt fr a) (hl:l.lock=false) (i:Nat) :
 ∃ p2,cE p1 M1 (l::r) w1 p2 M1 ((mB i fr l).2::r) w1∧bZ p2 M1 nt (mB i fr l).1 a∧(mB i fr l).2.lock=false∧(mB i fr l).2.bs.length=l.bs.length:=by
 unfold mB
 split
 · rename_i ver row hb
   split
   · rename_i hc
     rw[Bool.and_eq_true] at hc
     obtain ⟨hi,-⟩:=hc
     have hil:i<l.bs.length:=by
      apply Nat.lt_of_not_le;intro hle;have:∀ (q:List (Nat×ao)) (i:Nat),q.length≤i→av q i=(0,.dead):=by
       intro q;induction q with
       | nil=>intro i _;rfl
       | cons x q ih =>
         intro i h;cases i with
         | zero=>simp at h
         | succ i=>exact ih i (by simpa using h)
      rw[this l.bs i hle] at hb;simp at hb
     have hg:az (l::r) 0 i=(ver,.row row):=hb
     obtain ⟨b,o,t,k1,k2,k3⟩:=hH.live 0 i ver (.row row) hg (by simp)
     rw[tw] at k2
     obtain ⟨vs,v1,v2⟩:=mS k2
     have hle:aH.le p1 (mC p1 b o row.len vs):=by
      intro b' o' v hv;rw[fW k3,if_neg]
      · exact hv
      · rintro ⟨rfl,_⟩;rw[k3] at hv;cases hv
     have hS:∀ v c,al p1 M1 v c→al (mC p1 b o row.len vs) M1 (nD i ver row v) c:=fun v c h=>Gc k3 k1 hi v1 hle h
     have hq':∀ v c,al p1 M1 v c→al (mC p1 b o row.len vs) M1 v c:=fun v c h=>h.mono hle (Mu.le.refl M1)
     have get:∀ d j,az ({ l with bs:=bR (jH (nD i ver row) l.bs) i (ver,.dead) } :: r) d j=if d=0 then (if j=i then (ver,.dead) else ((av l.bs j).1,qx (nD i ver row) (av l.bs j).2)) else az (l::r) d j:=by
      intro d j;cases d with
      | zero =>
        rw[if_pos rfl];show av (bR (jH (nD i ver row) l.bs) i (ver,.dead)) j=_;rw[oM _ _ _ _ (by rw[dT];exact hil),lB]
      | succ d=>rw[if_neg wO];rfl
     have rel : bj (mC p1 b o row.len vs) M1 ({ l with bs:=bR (jH (nD i ver row) l.bs) i (ver,.dead) } :: r) w1:=by
      refine ⟨?_,?_,?_,?_⟩
      · intro b' o' v hp;rw[fW k3] at hp;split at hp
        · rename_i he;obtain ⟨rfl,h1,h2⟩:=he;rw[← hp];have:=v2 (o'-o) wO;rw[show o+(o'-o)=o' by omega] at this;exact this
        · exact hH.pers _ _ _ hp
      · intro d j v B hg' hB;rw[get] at hg';have other:∀ x,(d≠0∨j≠i)→∀ b' o' t',M1 d j v=some (b',o',t')→(∃ B',az (l::r) d j=(v,B')∧B'≠.dead)→p1 b' x=none→mC p1 b o row.len vs b' x=none:=by
         intro x hne b' o' t' hm ⟨B',hg2,hB2⟩ hn;rw[fW k3,if_neg]
         · exact hn
         · rintro ⟨rfl,_⟩;have:=hH.apart d j v B' 0 i ver (.row row) b' o' t' o t hg2 hB2 hg (by simp) hm k1;omega
        split at hg'
        · rename_i hd;subst hd;split at hg'
          · simp only[Prod.mk.injEq] at hg';exact absurd hg'.2.symm hB
          · rename_i hji;simp only[Prod.mk.injEq] at hg';obtain ⟨e1,e2⟩:=hg';have hB':(av l.bs j).2≠.dead:=by rw[← e2] at hB;exact iV.1 hB
            have hg2:az (l::r) 0 j=(v,(av l.bs j).2):=by rw[← e1];rfl
            obtain ⟨b',o',t',q1,q2,q3⟩:=hH.live 0 j v _ hg2 hB';refine ⟨b',o',t',q1,?_,fun x=>other x (.inr hji) b' o' t' q1 ⟨_,hg2,hB'⟩ (q3 x)⟩;rw[tw] at q2 ⊢;rw[← e2];exact Eh rfl hle hS q2
        · rename_i hd;obtain ⟨b',o',t',q1,q2,q3⟩:=hH.live d j v B hg' hB;exact ⟨b',o',t',q1,q2.mono hle (Mu.le.refl _) rfl,fun x=>other x (.inl hd) b' o' t' q1 ⟨_,hg',hB⟩ (q3 x)⟩
      · intro d j v B d' j' v' B' b1 o1 t1 o2 t2 hg1 hB1 hg2 hB2 hm1 hm2;have back:∀ d j v B,az ({ l with bs:=bR (jH (nD i ver row) l.bs) i (ver,.dead) } :: r) d j=(v,B)→B≠.dead→∃ B',az (l::r) d j=(v,B')∧B'≠.dead:=by
         intro d j v B hg' hB;rw[get] at hg';split at hg'
         · rename_i hd;subst hd;split at hg'
           · simp only[Prod.mk.injEq] at hg';exact absurd hg'.2.symm hB
           · simp only[Prod.mk.injEq] at hg';obtain ⟨e1,e2⟩:=hg';exact ⟨(av l.bs j).2,by rw[← e1];rfl,by rw[← e2] at hB;exact iV.1 hB⟩
         · exact ⟨B,hg',hB⟩
        obtain ⟨C1,q1,q2⟩:=back _ _ _ _ hg1 hB1;obtain ⟨C2,q3,q4⟩:=back _ _ _ _ hg2 hB2;exact hH.apart d j v C1 d' j' v' C2 b1 o1 t1 o2 t2 q1 q2 q3 q4 hm1 hm2
      · intro d j v t' hm;have h0:=hH.dom d j v t' hm;rw[get];cases d with
        | succ d=>rw[if_neg wO];exact h0
        | zero =>
          refine ⟨?_,?_⟩
          · show j<(bR (jH (nD i ver row) l.bs) i (ver,.dead)).length;rw[ju,dT];exact h0.1
          · rw[if_pos rfl];have h1:(av l.bs j).2≠.dead→v≤(av l.bs j).1:=h0.2;by_cases e:j=i
            · rw[if_pos e];exact fun hne=>absurd rfl hne
            · rw[if_neg e];exact fun hne=>h1 (iV.1 hne)
     refine ⟨mC p1 b o row.len vs,⟨hle,Mu.le.refl _,rel,dz.refl _ _,fun b' hb' hk d j v B hg' hB hlk o' t' hm=>?_,fun b' o' v hp=>?_,fun d j v b' o' t' hm=>.inr ⟨d,j,v,o',t',Nat.le_refl _,hm⟩,fun d=>?_,fun d j hd hlk=>?_,fun d hd hlk=>?_,rfl,fun d=>?_,fun d j v t' hm=>.inl hm⟩,⟨hF.size,fun y=>?_⟩,hl,by show (bR _ _ _).length=_;rw[ju,dT]⟩
     · rw[get] at hg'
       have hlk':aK (l::r) d=false:=by cases d<;>exact hlk
       split at hg'
       · rename_i hd
         subst hd
         split at hg'
         · simp only[Prod.mk.injEq] at hg'
           exact absurd hg'.2.symm hB
         · simp only[Prod.mk.injEq] at hg'
           obtain ⟨e1,e2⟩:=hg'
           exact hk 0 j v (av l.bs j).2 (by rw[← e1];rfl) (by rw[← e2] at hB;exact iV.1 hB) hlk' o' t' hm
       · exact hk d j v B hg' hB hlk' o' t' hm
     · rw[fW k3] at hp
       split at hp
       · rename_i he
         obtain ⟨rfl,_⟩:=he
         exact .inr (.inr ⟨hl,i,ver,o,t,k1⟩)
       · exact .inl hp
     · cases d<;>rfl
     · rw[get,if_neg hd]
     · cases d with
       | zero=>exact absurd rfl hd
       | succ d=>rfl
     · cases d with
       | zero =>
         show l.bs.length≤(bR (jH (nD i ver row) l.bs) i (ver,.dead)).length
         rw[ju,dT];exact Nat.le_refl _
       | succ d=>exact Nat.le_refl _
     · rw[tl _ rfl]
       exact qz rfl hq' hS (hF.at_ y)
   · exact ⟨p1,cE.refl hH,hF,hl,rfl⟩
 · exact ⟨p1,cE.refl hH,hF,hl,rfl⟩
theorem sV {M1:Mu} {w1:World} {nt:Nat} {fr:aE} {a:Act} {l:bK} {r:aa} {p1:aH} (hH:bj p1 M1 (l::r) w1) (hF:bZ p1 M1 nt fr a) (hl:l.lock=false):∀ n:Nat,
 ∃ p2,cE p1 M1 (l::r) w1 p2 M1 ((jg n fr l).2::r) w1∧bZ p2 M1 nt (jg n fr l).1 a∧(jg n fr l).2.lock=false
 | 0=>⟨p1,cE.refl hH,hF,hl⟩
 | n+1=>by
   obtain ⟨p2,h1,h2,h3⟩:=sV hH hF hl n;obtain ⟨p3,k1,k2,k3,_⟩:=qk h1.rel h2 h3 n;exact ⟨p3,h1.trans k1,k2,k3⟩
theorem qW {M1:Mu} {w1:World} {nt:Nat} {fr:aE} {a:Act} {l:bK} {r:aa} {p1:aH} (hH:bj p1 M1 (l::r) w1) (hF:bZ p1 M1 nt fr a) (hl:l.lock=false):∀ n:Nat,
 ∃ p2,cE p1 M1 (l::r) w1 p2 M1 ((ey n fr l).2::r) w1∧bZ p2 M1 nt (ey n fr l).1 a∧(ey n fr l).2.lock=false
 | 0=>⟨p1,cE.refl hH,hF,hl⟩
 | n + 1=>by
   obtain ⟨p2,h1,h2,h3⟩:=qW hH hF hl n;unfold ey;split
   · exact ⟨p2,h1,h2,h3⟩
   · obtain ⟨p3,k1,k2,k3,_⟩:=qk h1.rel h2 h3 n;exact ⟨p3,h1.trans k1,k2,k3⟩
theorem yR {p:aH} {M:Mu} {sz:Nat} {v:AV} {c:Value} (h:al p M v c):al p M (I1 sz v) c:=by
 cases h with
 | nils=>exact .slcN
 | undef c=>exact .undef c
 | bool b=>exact .bool b
 | int k n=>exact .int k n
 | str s=>exact .str s
 | nilp=>exact .nilp
 | nilm=>exact .nilm
 | nilf=>exact .nilf
 | ptr h=>exact .ptr h
 | ptrT vs h0 h1 hv=>exact .ptrT vs h0 h1 hv
 | slc h hl hc hn hx=>exact .slc h hl hc hn hx
 | slcT vs h0 h1 hv hl hf hx=>exact .slcT vs h0 h1 hv hl hf hx
 | slcN=>exact .slcN
 | map h=>exact .map h
 | yld h=>exact .yld h
 | fn ha hb va vb=>exact .fn ha hb va vb
 | agg hs h1 hv=>exact .agg hs h1 hv
 | tup hs hv=>exact .tup hs hv
theorem yP (sz:Nat):∀ (c:Nat) (l:List AV),(El sz c l).length=l.length
 | c,[]=>by cases c<;>rfl
 | 0,v::l=>rfl
 | c+1,v::l=>by simp[El,yP sz c l]
theorem yQ {p:aH} {M:Mu} {sz:Nat}:∀ (c:Nat) (l:List AV) (j:Nat) (x:Value),al p M (l.getD j .undef) x→al p M ((El sz c l).getD j .undef) x
 | c,[],j,x,h=>by cases c<;>exact h
 | 0,v::l,0,x,h=>yR h
 | 0,v::l,j+1,x,h=>h
 | c+1,v::l,0,x,h=>h
 | c+1,v::l,j+1,x,h=>yQ c l j x h
theorem Gz {p:aH} {M:Mu} {c sz:Nat} {B:ao} {x o t:Nat} {w:World} (h:fH p M B x o t w):fH p M (vf c sz B) x o t w:=by
 cases B with
 | dead=>exact h
 | map es=>exact h
 | fmap kq f g c=>exact h
 | loop l=>exact h
 | row r =>
   cases r with
   | I k l=>exact h
   | F f m=>exact h
   | M l=>exact h
   | G l =>
     obtain ⟨cs,e,e1,e2,e3,e4⟩:=h;have hl:(Row.G (El sz c l)).len=(Row.G l).len:=by simp[Row.len,yP]
     refine ⟨cs,e,e1,e2,by rw[hl];exact e3,fun j hj=>?_⟩;rw[hl] at hj;exact ⟨yQ c l j _ (e4 j hj).1,(e4 j hj).2⟩
theorem qC {c sz:Nat} {B:ao}:vf c sz B≠.dead↔B≠.dead:=by
 cases B with
 | row r=>cases r<;>simp[vf]
 | dead=>simp[vf]
 | map es=>simp[vf]
 | fmap kq f g c=>simp[vf]
 | loop l=>simp[vf]
theorem vV (c sz:Nat):∀ (l:List (Nat×ao)) (i:Nat),av (mN c sz l) i=((av l i).1,vf c sz (av l i).2)
 | [],i=>rfl
 | (v,b)::r,0=>rfl
 | (v,b)::r,i+1=>vV c sz r i
theorem lA (c sz:Nat):∀ (l:List (Nat×ao)),(mN c sz l).length=l.length
 | []=>rfl
 | (v,b)::r=>by simp[mN,lA c sz r]
theorem yO {p1:aH} {M1:Mu} {w1:World} {l:bK} {r:aa} (hH:bj p1 M1 (l::r) w1) (hl:l.lock=false) (c sz:Nat) :
 cE p1 M1 (l::r) w1 p1 M1 ({ l with bs:=mN c sz l.bs } :: r) w1:=by
 have get:∀ d j,az ({ l with bs:=mN c sz l.bs } :: r) d j=if d=0 then ((av l.bs j).1,vf c sz (av l.bs j).2) else az (l::r) d j:=by
  intro d j;cases d with
  | zero =>
    rw[if_pos rfl];exact vV c sz l.bs j
  | succ d=>rw[if_neg wO];rfl
 have back:∀ d j v B,az ({ l with bs:=mN c sz l.bs } :: r) d j=(v,B)→B≠.dead→∃ B',az (l::r) d j=(v,B')∧B'≠.dead:=by
  intro d j v B hg' hB;rw[get] at hg';split at hg'
  · rename_i hd;subst hd;simp only[Prod.mk.injEq] at hg';obtain ⟨e1,e2⟩:=hg';exact ⟨(av l.bs j).2,by rw[← e1];rfl,by rw[← e2] at hB;exact qC.1 hB⟩
  · exact ⟨B,hg',hB⟩
 have rel:bj p1 M1 ({ l with bs:=mN c sz l.bs } :: r) w1:=by
  refine ⟨hH.pers,?_,?_,?_⟩
  · intro d j v B hg' hB;rw[get] at hg';split at hg'
    · rename_i hd;subst hd;simp only[Prod.mk.injEq] at hg';obtain ⟨e1,e2⟩:=hg';have hB':(av l.bs j).2≠.dead:=by rw[← e2] at hB;exact qC.1 hB
      have hg2:az (l::r) 0 j=(v,(av l.bs j).2):=by rw[← e1];rfl
      obtain ⟨b',o',t',q1,q2,q3⟩:=hH.live 0 j v _ hg2 hB';refine ⟨b',o',t',q1,?_,q3⟩;rw[← e2];exact Gz q2
    · exact hH.live d j v B hg' hB
  · intro d j v B d' j' v' B' b1 o1 t1 o2 t2 hg1 hB1 hg2 hB2 hm1 hm2;obtain ⟨C1,q1,q2⟩:=back _ _ _ _ hg1 hB1;obtain ⟨C2,q3,q4⟩:=back _ _ _ _ hg2 hB2;exact hH.apart d j v C1 d' j' v' C2 b1 o1 t1 o2 t2 q1 q2 q3 q4 hm1 hm2
  · intro d j v t' hm;have h0:=hH.dom d j v t' hm;rw[get];cases d with
    | succ d=>rw[if_neg wO];exact h0
    | zero =>
      refine ⟨?_,?_⟩
      · show j<(mN c sz l.bs).length;rw[lA];exact h0.1
      · rw[if_pos rfl];have h1:(av l.bs j).2≠.dead→v≤(av l.bs j).1:=h0.2;exact fun hne=>h1 (qC.1 hne)
 refine ⟨aH.le.refl _,Mu.le.refl _,rel,dz.refl _ _,fun b' hb' hk d j v B hg' hB hlk o' t' hm=>?_,fun b' o' v hp=>.inl hp,fun d j v b' o' t' hm=>.inr ⟨d,j,v,o',t',Nat.le_refl _,hm⟩,fun d=>?_,fun d j hd hlk=>?_,fun d hd hlk=>?_,rfl,fun d=>?_,fun d j v t' hm=>.inl hm⟩
 · obtain ⟨C1,q1,q2⟩:=back _ _ _ _ hg' hB
   have hlk':aK (l::r) d=false:=by cases d<;>exact hlk
   exact hk d j v C1 q1 q2 hlk' o' t' hm
 · cases d<;>rfl
 · rw[get,if_neg hd]
 · cases d with
   | zero=>exact absurd rfl hd
   | succ d=>rfl
 · cases d with
   | zero =>
     show l.bs.length≤(mN c sz l.bs).length
     rw[lA];exact Nat.le_refl _
   | succ d=>exact Nat.le_refl _
theorem IB {p p1:aH} {M M1:Mu} {H H1:aa} {w w1:World} {nt m:Nat} {fr:aE} {a:Act} (hE:cE p M H w p1 M1 H1 w1) (hF:bZ p1 M1 nt (bT fr m) a) {n0:Nat} (hM:Marks n0 M1 H1 w1 a.defers) :
 ∃ p2,cE p M H w p2 M1 (Eb (bT fr m) H1).2 w1∧bZ p2 M1 nt (Eb (bT fr m) H1).1 a∧Marks n0 M1 (Eb (bT fr m) H1).2 w1 a.defers:=by
 cases H1 with
 | nil=>exact ⟨p1,hE,hF,hM⟩
 | cons l r =>
   cases hl:l.lock with
   | true =>
     have e:Eb (bT fr m) (l::r)=(bT fr m,l::r):=by unfold Eb;dsimp only;rw[hl];rfl
     rw[e]
     exact ⟨p1,hE,hF,hM⟩
   | false =>
     have e:Eb (bT fr m) (l::r)=((jg l.bs.length (bT fr m) l).1,(jg l.bs.length (bT fr m) l).2::r):=by unfold Eb;dsimp only;rw[hl];rfl
     rw[e]
     obtain ⟨p2,h1,h2,_⟩:=sV hE.rel hF hl l.bs.length
     exact ⟨p2,hE.trans h1,h2,hM.xJ h1⟩
theorem F9 {p p1:aH} {M M1:Mu} {H H1:aa} {w w1:World} {nt m:Nat} {fr:aE} {a:Act} (hE:cE p M H w p1 M1 H1 w1) (hF:bZ p1 M1 nt (bT fr m) a) {n0:Nat} (hM:Marks n0 M1 H1 w1 a.defers) :
 ∃ p2,cE p M H w p2 M1 (uX (bT fr m) H1).2 w1∧bZ p2 M1 nt (uX (bT fr m) H1).1 a∧Marks n0 M1 (uX (bT fr m) H1).2 w1 a.defers:=by
 cases H1 with
 | nil=>exact ⟨p1,hE,hF,hM⟩
 | cons l r =>
   cases hl:l.lock with
   | true =>
     have e:uX (bT fr m) (l::r)=(bT fr m,l::r):=by unfold uX;dsimp only;rw[hl];rfl
     rw[e]
     exact ⟨p1,hE,hF,hM⟩
   | false =>
     have e:uX (bT fr m) (l::r)=((ey l.bs.length (bT fr m) l).1,(ey l.bs.length (bT fr m) l).2::r):=by unfold uX;dsimp only;rw[hl];rfl
     rw[e]
     obtain ⟨p2,h1,h2,_⟩:=qW hE.rel hF hl l.bs.length
     exact ⟨p2,hE.trans h1,h2,hM.xJ h1⟩
theorem A8 {p p1:aH} {M M1:Mu} {H H1:aa} {w w1:World} {nt m:Nat} {fr:aE} {a:Act} (hE:cE p M H w p1 M1 H1 w1) (hF:bZ p1 M1 nt (bT fr m) a) {n0:Nat} (hM:Marks n0 M1 H1 w1 a.defers) :
 ∃ p2,cE p M H w p2 M1 (jh m fr H1).2 w1∧bZ p2 M1 nt (jh m fr H1).1 a∧Marks n0 M1 (jh m fr H1).2 w1 a.defers:=by
 unfold jh
 split
 · obtain ⟨p2,h1,h2,h3⟩:=IB hE hF hM
   split
   · exact ⟨p2,h1,h2,h3⟩
   · generalize (Eb (bT fr m) H1).2=H2 at h1 h3 ⊢
     unfold vg
     cases H2 with
     | nil=>exact ⟨p2,h1,h2,h3⟩
     | cons l r =>
       dsimp only
       cases hl:l.lock with
       | true=>rw[if_pos rfl];exact ⟨p2,h1,h2,h3⟩
       | false =>
         rw[if_neg (by simp)]
         have k:=yO h1.rel hl (Nat.shiftRight m 4003 % 8) (Nat.shiftRight m 4003 / 8)
         rw[hl] at k
         exact ⟨p2,h1.trans k,h2,h3.xJ k⟩
 · split
   · unfold wT
     cases H1 with
     | nil=>exact ⟨p1,hE,hF,hM⟩
     | cons l r =>
       dsimp only
       cases hl:l.lock with
       | true=>rw[if_pos rfl];exact ⟨p1,hE,hF,hM⟩
       | false =>
         rw[if_neg (by simp)]
         split
         · rename_i i _
           obtain ⟨p2,h1,h2,_⟩:=qk hE.rel hF hl i
           exact ⟨p2,hE.trans h1,h2,hM.xJ h1⟩
         · exact ⟨p1,hE,hF,hM⟩
   · split
     · split
       · exact F9 hE hF hM
       · exact ⟨p1,hE,hF,hM⟩
     · exact ⟨p1,hE,hF,hM⟩
theorem GA {p p1:aH} {M M1:Mu} {H H1:aa} {w w1:World} {a:Act} (hE:cE p M H w p1 M1 H1 w1) {n0:Nat} (hM:Marks n0 M1 H1 w1 a.defers) (k:Nat) :
 cE p M H w p1 M1 (vg k H1) w1∧Marks n0 M1 (vg k H1) w1 a.defers:=by
 unfold vg
 cases H1 with
 | nil=>exact ⟨hE,hM⟩
 | cons l r =>
   dsimp only
   cases hl:l.lock with
   | true=>rw[if_pos rfl];exact ⟨hE,hM⟩
   | false =>
     rw[if_neg (by simp)]
     have q:=yO hE.rel hl (k % 8) (k / 8)
     rw[hl] at q
     exact ⟨hE.trans q,hM.xJ q⟩
theorem A9 {p p1:aH} {M M1:Mu} {H H1:aa} {w w1:World} {nt m:Nat} {fr:aE} {a:Act} (hE:cE p M H w p1 M1 H1 w1) (hF:bZ p1 M1 nt (bT fr m) a) {n0:Nat} (hM:Marks n0 M1 H1 w1 a.defers) :
 ∃ p2,cE p M H w p2 M1 (ll m fr H1).2 w1∧bZ p2 M1 nt (ll m fr H1).1 a∧Marks n0 M1 (ll m fr H1).2 w1 a.defers:=by
 obtain ⟨p2,h1,h2,h3⟩:=A8 hE hF hM
 unfold ll
 split
 · split
   · obtain ⟨k1,k2⟩:=GA h1 h3 (Nat.shiftRight m 3985 % 4096)
     exact ⟨p2,k1,h2,k2⟩
   · exact ⟨p2,h1,h2,h3⟩
 · exact ⟨p2,h1,h2,h3⟩
theorem yN {p:aH} {M:Mu} {s sz:Nat}:∀ (fr:aE) (x:Nat) {c:Value},al p M (bM fr x) c→al p M (bM (Ek s sz fr) x) c
 | [],x,c,h=>h
 | (y,v)::r,x,c,h=>by
   simp only[Ek,bM] at h ⊢;split at h
   · rename_i e;rw[if_pos e];cases Nat.beq y s with
     | true=>exact yR h
     | false=>exact h
   · rename_i e;rw[if_neg e];exact yN r x h
theorem Ba {p p1:aH} {M M1:Mu} {H H1:aa} {w w1:World} {nt m:Nat} {fr:aE} {a:Act} (hE:cE p M H w p1 M1 H1 w1) (hF:bZ p1 M1 nt (bT fr m) a) {n0:Nat} (hM:Marks n0 M1 H1 w1 a.defers) :
 ∃ p2,cE p M H w p2 M1 (ln m fr H1).2 w1∧bZ p2 M1 nt (ln m fr H1).1 a∧Marks n0 M1 (ln m fr H1).2 w1 a.defers:=by
 obtain ⟨p2,h1,h2,h3⟩:=A9 hE hF hM
 unfold ln
 split
 · exact ⟨p2,h1,⟨h2.size,fun x=>yN _ x (h2.at_ x)⟩,h3⟩
 · exact ⟨p2,h1,h2,h3⟩
theorem x5:∀ (fr:aE) (x:Nat),bM (Em fr) x=jK (bM fr x)
 | [],x=>rfl
 | (y,v)::r,x=>by
   simp only[Em,bM];split
   · rfl
   · exact x5 r x
theorem vJ {p p1:aH} {M M1:Mu} {H H1:aa} {w w1:World} {nt m:Nat} {fr:aE} {a:Act} (hE:cE p M H w p1 M1 H1 w1) (hF:bZ p1 M1 nt (bT fr m) a) {n0:Nat} (hM:Marks n0 M1 H1 w1 a.defers) :
 ∃ p2,cE p M H w p2 M1 (px m fr H1).2 w1∧bZ p2 M1 nt (px m fr H1).1 a∧Marks n0 M1 (px m fr H1).2 w1 a.defers:=by
 obtain ⟨p2,h1,h2,h3⟩:=Ba hE hF hM
 unfold px
 split
 · exact ⟨p2,h1,⟨h2.size,fun x=>by rw[x5];exact kG (h2.at_ x)⟩,h3⟩
 · exact ⟨p2,h1,h2,h3⟩

end Go.Eng
