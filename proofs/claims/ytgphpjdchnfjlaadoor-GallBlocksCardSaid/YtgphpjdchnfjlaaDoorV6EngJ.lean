/- The engine, part J: marks; cutting a level back. -/
import Derived.Test.YtgphpjdchnfjlaaDoorV6EngGx3
set_option linter.unusedVariables false
set_option linter.unusedSimpArgs false
namespace Go.Eng

def Marks (n0:Nat) (M:Mu) (H:ab) (w:World) (ds:List Deferred):Prop :=
 ∃ rs:List Nat,ds=rs.map (fun r=>{ target:=.collected r,args:=#[] })∧rs.Nodup∧n0≤w.heap.size∧∀ r ∈ rs,w.heap[r]?=some (.deferred (some []))∧bA M H r∧n0≤r

theorem Marks.nil (M:Mu) (H:ab) (w:World):Marks w.heap.size M H w []:=⟨[],rfl,List.nodup_nil,Nat.le_refl _,fun r hr=>by simp at hr⟩
theorem Marks.xB {p p':aF} {M M':Mu} {H H':ab} {w w':World} {n0:Nat} {ds:List Deferred} (h:Marks n0 M H w ds) (hE:cC p M H w p' M' H' w'):Marks n0 M' H' w' ds:=by
 obtain ⟨rs,h1,h2,h0,h3⟩:=h;refine ⟨rs,h1,h2,Nat.le_trans h0 hE.stay.size,fun r hr=>?_⟩;obtain ⟨k1,k2,k3⟩:=h3 r hr;have hlt:r<w.heap.size:=(Array.getElem?_eq_some_iff.1 k1).1;exact ⟨by rw[hE.stay.block r hlt k2];exact k1,hE.bA r hlt k2,k3⟩

def eE (n:Nat) (M:Mu):Mu:=fun d i v=>if d=0∧n≤i then none else M d i v
theorem jT (n:Nat) (M:Mu):Mu.le (eE n M) M:=fun d i v t h=>by
 simp only[eE] at h;split at h
 · cases h
 · exact h
theorem FB (n k:Nat) (M:Mu) (hk:0<k):(eE n M).up k=M.up k:=by
 funext d i v;simp only[Mu.up,eE];rw[if_neg wO]

theorem FC (n s:Nat) (M:Mu):pA (eE n M) (some (s+1))=pA M (some (s+1)):=by
 funext d i v;show eE n M (d+(s+1)) i v=M (d+(s+1)) i v;simp only[eE];rw[if_neg];omega
theorem Fq {p:aF} {M N:Mu} {v:AV} {c:Value} (hv:DQ v=true) (h:al p M v c):al p N v c:=by
 cases h with
 | bool b=>exact .bool b
 | int k n=>exact .int k n
 | nils=>exact .nils
 | ptrT vs h0 h1 hr =>
   rename_i s r off b o;cases s with
   | none=>exact .ptrT vs h0 h1 hr
   | some s=>simp[DQ] at hv
 | slcT vs h0 h1 hr hl hf hx =>
   rename_i s r sz len b o x cc full;cases s with
   | none=>exact .slcT vs h0 h1 hr hl hf hx
   | some s=>simp[DQ] at hv
 | slcN=>exact .slcN
 | _=>simp[DQ] at hv
theorem Fp {p:aF} {M N:Mu} {r:Row} {vs:Nat→Value} (hr:NR r=true) (h:∀ j,j<r.len→al p (jc M r) (r.get j) (vs j)):∀ j,j<r.len→al p (jc N r) (r.get j) (vs j):=by
 cases r with
 | I k l=>exact fun j hj=>(h j hj).bp _ _
 | F f m=>exact h
 | G l =>
   intro j hj;have hj':j<l.length:=hj;have:DQ (l.getD j .undef)=true:=by
    have:=List.all_eq_true.1 hr (l.getD j .undef) (by simp[hj']);exact this
   exact Fq this (h j hj)
 | M l=>exact bg.fI hr h
theorem bZ {p:aF} {M:Mu} {n:Nat} {v:AV} {c:Value} (hr:lq n v=false) (h:al p M v c):al p (eE n M) v c:=by
 have here:∀ {d i:Nat},(Nat.beq d 0 && Nat.ble n i)=false→∀ ver,eE n M d i ver=M d i ver:=by
  intro d i e ver;simp only[eE];rw[if_neg];rintro ⟨rfl,h2⟩;have:Nat.ble n i=true:=by simpa using h2
  simp[this] at e
 cases h with
 | undef c=>exact .undef c
 | bool b=>exact .bool b
 | int k n=>exact .int k n
 | str s=>exact .str s
 | nilp=>exact .nilp
 | nils=>exact .nils
 | nilm=>exact .nilm
 | nilf=>exact .nilf
 | ptr h=>exact .ptr (by rw[here hr];exact h)
 | ptrT vs h0 h1 hv =>
   rename_i s r off b o;cases s with
   | none=>exact .ptrT vs h0 h1 hv
   | some s =>
     cases s with
     | zero=>exact .ptrT vs h0 h1 (Fp (by simpa[lq,Cu] using hr) hv)
     | succ s=>exact .ptrT vs h0 h1 (by rw[FC];exact hv)
 | slc h hl hc hn hx=>exact .slc (by rw[here hr];exact h) hl hc hn hx
 | slcT vs h0 h1 hv hl hf hx =>
   rename_i s r sz len b o x cc full;cases s with
   | none=>exact .slcT vs h0 h1 hv hl hf hx
   | some s =>
     cases s with
     | zero=>simp[lq,Cu] at hr
     | succ s=>exact .slcT vs h0 h1 (by rw[FC];exact hv) hl hf hx
 | slcN=>exact .slcN
 | map h=>exact .map (by rw[here hr];exact h)
 | yld h=>exact .yld (by rw[here hr];exact h)
 | fn=>simp[lq] at hr
 | agg hs h1 hv =>
   rename_i r cs;cases r with
   | I k l=>exact .agg hs h1 (fun j hj=>(hv j hj).bp _ _)
   | F f m=>exact .agg hs h1 hv
   | G l=>simp[lq] at hr
   | M l=>exact .agg hs h1 (bg.fI (by simpa[lq] using hr) hv)
 | tup hs hv =>
   rename_i l cs;cases l with
   | nil=>exact .tup hs (fun j hj=>absurd hj (by simp))
   | cons=>simp[lq] at hr

theorem lC {p q:aF} {M N:Mu} {f:AV→Bool}:∀ {l:List db} {vs:Nat→Value},anyM f l=false→(∀ v c,f v=false→al p M v c→al q N v c)→(∀ j,j<ay l→al p M (getM l j) (vs j))→∀ j,j<ay l→al q N (getM l j) (vs j)
 | [],_,_,_,_,j,hj=>by simp[ay] at hj
 | .one v::r,vs,hr,hf,hv,0,hj=>by
   simp only[anyM,Bool.or_eq_false_iff] at hr;exact hf _ _ hr.1 (hv 0 hj)
 | .one v::r,vs,hr,hf,hv,j+1,hj=>by
   simp only[anyM,Bool.or_eq_false_iff] at hr;have hj':j<ay r:=by simp[ay,aP] at hj;omega
   exact lC (vs:=fun j=>vs (j+1)) hr.2 hf (fun j hj=>hv (j+1) (by simp[ay,aP];omega)) j hj'
 | .arr k z n::r,vs,hr,hf,hv,j,hj=>by
   have h0:=hv j hj;simp only[getM] at h0 ⊢;by_cases e:j<n
   · rw[if_pos e] at h0 ⊢;exact h0.bp _ _
   · rw[if_neg e] at h0 ⊢;have hj':j-n<ay r:=by simp[ay,aP] at hj;omega
     have:=lC (p:=p) (M:=M) (q:=q) (N:=N) (l:=r) (vs:=fun i=>vs (i+n)) hr hf (fun i hi=>by
      have:=hv (i+n) (by simp[ay,aP];omega);simp only[getM] at this;rw[if_neg wO,Nat.add_sub_cancel] at this;exact this) (j-n) hj'
     rw[Nat.sub_add_cancel wO] at this;exact this
theorem kb {p:aF} {M:Mu} {n:Nat} {v:AV} {c:Value} (hr:uR n v=false) (h:al p M v c):al p (eE n M) v c:=by
 have getF:∀ {l:List AV} {j:Nat},l.any (lq n)=false→j<l.length→lq n (l.getD j .undef)=false:=by
  intro l j h hj;have:=List.any_eq_false.1 h (l.getD j .undef) (by simp[hj]);simpa using this
 cases v with
 | agg r =>
   cases r with
   | G l =>
     cases h with
     | agg hs h1 hv=>exact .agg hs h1 (fun j hj=>bZ (getF hr hj) (hv j hj))
   | I k l=>exact bZ hr h
   | F f m=>exact bZ hr h
   | M l =>
     cases h with
     | agg hs h1 hv=>exact .agg hs h1 (lC hr (fun v c e h=>bZ e h) hv)
 | fn f x y =>
   cases h with
   | fn hx hy vx vy =>
     simp only[uR,Bool.or_eq_false_iff] at hr;exact .fn hx hy (fun j hj=>bZ (getF hr.1 hj) (vx j hj)) (fun j hj=>bZ (getF hr.2 hj) (vy j hj))
 | undef=>exact bZ hr h
 | bool=>exact bZ hr h
 | int=>exact bZ hr h
 | str=>exact bZ hr h
 | nilp=>exact bZ hr h
 | nils=>exact bZ hr h
 | nilm=>exact bZ hr h
 | nilf=>exact bZ hr h
 | ptr=>exact bZ hr h
 | ptrT s r off =>
   have other:(∀ l,s=some 0→r≠.M l)→lq n (.ptrT s r off)=false:=fun hn=>by
    rcases s with _ | s
    · rfl
    · cases s with
      | succ s=>rfl
      | zero =>
        cases r with
        | M l=>exact absurd rfl (hn l rfl)
        | I=>exact hr
        | F=>exact hr
        | G=>exact hr
   by_cases e:∃ l,s=some 0∧r=.M l
   · obtain ⟨l,rfl,rfl⟩:=e;cases h with
     | ptrT vs h0 h1 hv =>
       refine .ptrT vs h0 h1 ?_;have e1:jc (pA M (some 0)) (.M l)=M:=Mu.mW M;have e2:jc (pA (eE n M) (some 0)) (.M l)=eE n M:=Mu.mW _;rw[e1] at hv;rw[e2];exact lC hr (fun v c e h=>bZ e h) hv
   · exact bZ (other fun l h1 h2=>e ⟨l,h1,h2⟩) h
 | slc=>exact bZ hr h
 | slcT=>exact bZ hr h
 | map=>exact bZ hr h
 | yld=>exact bZ hr h
 | tup=>exact bZ hr h

theorem GK {p:aF} {M:Mu} {n:Nat} {B:an} {b o t:Nat} {w:World} (hr:I0 n B=false) (h:fB p M B b o t w):fB p (eE n M) B b o t w:=by
 cases B with
 | dead=>trivial
 | row r =>
   obtain ⟨c,e,e1,e2,e3,e4⟩:=h;refine ⟨c,e,e1,e2,e3,fun j hj=>?_⟩;cases r with
   | I k l=>exact ⟨(e4 j hj).1.bp _ _,(e4 j hj).2⟩
   | F f m=>exact e4 j hj
   | M l=>exact ⟨lC (vs:=fun j=>c.getD (o+j) Go.undef) hr (fun v c e h=>kb e h) (fun j hj=>(e4 j hj).1) j hj,(e4 j hj).2⟩
   | G l =>
     refine ⟨kb ?_ (e4 j hj).1,(e4 j hj).2⟩;have hj':j<l.length:=hj;have:=List.any_eq_false.1 hr (l.getD j .undef) (by simp[hj']);simpa[Row.get] using this
 | map es =>
   obtain ⟨ces,clock,h1,h2,h3,h4⟩:=h;refine ⟨ces,clock,h1,h2,h3,fun j hj=>?_⟩;have hm:es.getD j (.undef,.undef) ∈ es:=by
    rw[List.getD_eq_getElem?_getD,List.getElem?_eq_getElem wO];exact List.getElem_mem _
   have hn:(es.any fun e=>uR n e.1 || uR n e.2)=false:=hr;have:=List.any_eq_false.1 hn _ hm;simp only[Bool.or_eq_true,not_or,Bool.not_eq_true] at this;exact ⟨kb this.1 (h4 j hj).1,kb this.2 (h4 j hj).2⟩
 | fmap kq f g c=>exact x6 _ _ h
 | loop l=>simp[I0] at hr

theorem fA:∀ (l:List (Nat×an)) (n i:Nat),au (l.take n) i=if i<n then au l i else (0,.dead)
 | [],n,i=>by simp[au]
 | b::l,0,i=>by simp[au]
 | b::l,n+1,0=>by simp[au]
 | b::l,n+1,i+1=>by simp[au,fA l n i]
theorem kM:∀ {l:List (Nat×an)} {i:Nat},(au l i).2≠.dead→au l i ∈ l
 | [],_,h=>by simp[au] at h
 | b::l,0,_=>by simp[au]
 | b::l,i+1,h=>by simp only[au];exact List.mem_cons_of_mem _ (kM (l:=l) (i:=i) h)

theorem sh:∀ (fr:aA) (x:Nat),bM fr x=.undef∨∃ y,(y,bM fr x) ∈ fr
 | [],x=>.inl rfl
 | (y,v)::r,x=>by
   simp only[bM];split
   · exact .inr ⟨y,by simp⟩
   · rcases sh r x with h | ⟨z,h⟩
     · exact .inl h
     · exact .inr ⟨z,by simp[h]⟩

theorem vi {p p1:aF} {M M1:Mu} {H:ab} {w w1:World} {nt:Nat} {fr:aA} {a:Act} {l:bJ} {r:ab} (hE:cC p M H w p1 M1 (l::r) w1) (hF:bX p1 M1 nt fr a) {n0:Nat} (hM:Marks n0 M1 (l::r) w1 a.defers) (hdom:∀ d i v t,M d i v=some t→i<ao H d) :
 ∀ (k m:Nat),aZ H≤m→∃ M2,cC p M H w p1 M2 (cutAt fr l r k m) w1∧bX p1 M2 nt fr a∧Marks n0 M2 (cutAt fr l r k m) w1 a.defers
 | 0,m,_=>⟨M1,hE,hF,hM⟩
 | k + 1, m,hm0=>by
   unfold cutAt;split
   · exact vi hE hF hM hdom k (m+1) wO
   · rename_i hno;have hno:fr.any (fun x=>uR m x.2)=false∧(l.bs.take m).any (fun x=>I0 m x.2)=false:=by simpa using hno
     obtain ⟨hno1,hno2⟩:=hno;have get:∀ d i,az ({ l with bs:=l.bs.take m } :: r) d i=if d=0∧m≤i then (0,.dead) else az (l::r) d i:=by
      intro d i;cases d with
      | zero =>
        simp only[az,fA];by_cases e:i<m
        · rw[if_pos e,if_neg wO]
        · rw[if_neg e,if_pos ⟨by trivial,Nat.le_of_not_lt e⟩]
      | succ d=>simp[az]
     have rel:bj p1 (eE m M1) ({ l with bs:=l.bs.take m } :: r) w1:=by
      refine ⟨hE.rel.pers,?_,?_,?_⟩
      · intro d i v B hg hB;rw[get] at hg;split at hg
        · simp only[Prod.mk.injEq] at hg;exact absurd hg.2.symm hB
        · rename_i e;obtain ⟨b,o,t,k1,k2,k3⟩:=hE.rel.live d i v B hg hB;refine ⟨b,o,t,by simp only[eE];rw[if_neg e];exact k1,?_,k3⟩;cases d with
          | succ d=>rw[FB _ _ _ wO];exact k2
          | zero =>
            refine GK ?_ k2;have hi:i<m:=Nat.lt_of_not_le fun e'=>e ⟨rfl,e'⟩;have hg':au l.bs i=(v,B):=hg;have hm:au (l.bs.take m) i ∈ l.bs.take m:=kM (by rw[fA,if_pos hi,hg'];exact hB);rw[fA,if_pos hi,hg'] at hm;have:=List.any_eq_false.1 hno2 _ hm;simpa using this
      · intro d i v B d' i' v' B' b o t o' t' hg hB hg' hB' hm hm';rw[get] at hg hg';split at hg
        · simp only[Prod.mk.injEq] at hg;exact absurd hg.2.symm hB
        · split at hg'
          · simp only[Prod.mk.injEq] at hg';exact absurd hg'.2.symm hB'
          · exact hE.rel.apart d i v B d' i' v' B' b o t o' t' hg hB hg' hB' (jT _ _ _ _ _ _ hm) (jT _ _ _ _ _ _ hm')
      · intro d i v t hm;have h0:=hE.rel.dom d i v t (jT _ _ _ _ _ _ hm);have hne:¬ (d=0∧m≤i):=by
         intro e;simp only[eE] at hm;rw[if_pos e] at hm;cases hm
        rw[get,if_neg hne];refine ⟨?_,h0.2⟩;cases d with
        | zero =>
          have h1:i<l.bs.length:=h0.1;have h2:i<m:=Nat.lt_of_not_le fun e=>hne ⟨rfl,e⟩;simp only[ao,List.length_take];omega
        | succ d=>exact h0.1
     have keepc:∀ b,bA M1 (l::r) b→bA (eE m M1) ({ l with bs:=l.bs.take m } :: r) b:=by
      intro b hk d i v B hg hB hl o t hm;rw[get] at hg;split at hg
      · simp only[Prod.mk.injEq] at hg;exact absurd hg.2.symm hB
      · exact hk d i v B hg hB (by cases d<;>exact hl) o t (jT _ _ _ _ _ _ hm)
     refine ⟨eE m M1,⟨hE.pst,?_,rel,hE.stay,fun b hb hk=>keepc b (hE.bA b hb hk),hE.fresh,fun d i v b o t hm=>hE.own d i v b o t (jT _ _ _ _ _ _ hm),fun d=>?_,fun d i hd hl=>?_,fun d hd hl=>?_,hE.len,fun d=>?_,fun d i v t hm=>hE.new d i v t (jT _ _ _ _ _ _ hm)⟩,⟨hF.size,fun x=>?_⟩,?_⟩
     · intro d i v t hm;have:=hE.mu d i v t hm;have h0:=hdom d i v t hm;simp only[eE];rw[if_neg]
       · exact this
       · rintro ⟨rfl,e⟩;rw[bm] at h0;omega
     · have:=hE.lock d;cases d<;>exact this
     · rw[get,if_neg (fun e=>hd e.1)];exact hE.same d i hd hl
     · have:=hE.next d hd hl;cases d with
       | zero=>exact absurd rfl hd
       | succ d=>exact this
     · have:=hE.grow d;cases d with
       | zero=>rw[bm] at this ⊢;simp only[ao,List.length_take] at this ⊢;omega
       | succ d=>exact this
     · rcases sh fr x with e | ⟨y,e⟩
       · rw[e];exact .undef _
       · refine kb ?_ (hF.at_ x);have:=List.any_eq_false.1 hno1 _ e;simpa using this
     · obtain ⟨rs,h1,h2,h0,h3⟩:=hM;exact ⟨rs,h1,h2,h0,fun x hx=>⟨(h3 x hx).1,keepc x (h3 x hx).2.1,(h3 x hx).2.2⟩⟩

theorem ri {p p1:aF} {M M1:Mu} {H H1:ab} {w w1:World} {nt:Nat} {fr:aA} {a:Act} (hE:cC p M H w p1 M1 H1 w1) (hF:bX p1 M1 nt fr a) {n0:Nat} (hM:Marks n0 M1 H1 w1 a.defers) (hdom:∀ d i v t,M d i v=some t→i<ao H d) :
 ∃ M2,cC p M H w p1 M2 (lJ (aZ H) fr H1) w1∧bX p1 M2 nt fr a∧Marks n0 M2 (lJ (aZ H) fr H1) w1 a.defers:=by
 unfold lJ
 cases H1 with
 | nil=>exact ⟨M1,hE,hF,hM⟩
 | cons l r =>
   simp only
   split
   · exact ⟨M1,hE,hF,hM⟩
   · exact vi hE hF hM hdom 4 (aZ H) (Nat.le_refl _)

def iU (a b:Nat) (M:Mu):Mu:=fun d i v=>if d=0 then (if i=b then M 0 a v else if i=a then none else M 0 i v) else M d i v
theorem IG (a b k:Nat) (M:Mu) (hk:0<k):(iU a b M).up k=M.up k:=by
 funext d i v;simp only[Mu.up,iU];rw[if_neg wO]
theorem s6 (M:Mu):M.up 0=M:=by
 funext d i v;rfl
theorem H3 (a b:Nat) (M:Mu):Mu.le (eE 0 M) (iU a b M):=fun d i v t h=>by
 simp only[eE] at h;simp only[iU];split at h
 · cases h
 · rename_i e;rw[if_neg (fun e2=>e ⟨e2,Nat.zero_le _⟩)];exact h
theorem rz {a b:Nat} {M:Mu} {d i v:Nat} (hu:(Nat.beq d 0 && Nat.beq i b)=false) (ha:¬ (d=0∧i=a)):iU a b M d i v=M d i v:=by
 simp only[iU];by_cases hd:d=0
 · subst hd;rw[if_pos rfl,if_neg (by
    rintro rfl;simp at hu),if_neg (fun h=>ha ⟨rfl,h⟩)]
 · rw[if_neg hd]
theorem jk {d i a:Nat}:(Nat.beq d 0 && Nat.beq i a)=true↔d=0∧i=a:=by simp
theorem GL {p:aF} {M:Mu} {v:AV} {c:Value} (hr:I1 v=false) (h:al p M v c):al p (eE 0 M) v c:=by
 unfold I1 at hr;split at hr
 · exact kb (n:=0) hr h
 · exact bZ hr h
theorem cP {p:aF} {M:Mu} {a b:Nat} {v:AV} {c:Value} (hu:uT b v=false) (h:al p M v c):al p (iU a b M) (uM a b v) c:=by
 have other:∀ v,I1 v=false→al p M v c→al p (iU a b M) v c:=fun v h1 h2=>(GL h1 h2).mono (aF.le.refl p) (H3 a b M);have eb:∀ ver,iU a b M 0 b ver=M 0 a ver:=fun ver=>by simp[iU]
 cases h with
 | ptr h =>
   rename_i d i ver off blk o t;simp only[uM];by_cases e:d=0∧i=a
   · rw[if_pos (jk.2 e)];obtain ⟨rfl,rfl⟩:=e;exact .ptr (by rw[eb];exact h)
   · rw[if_neg (fun h=>e (jk.1 h))];exact .ptr (by rw[rz hu e];exact h)
 | slc h hl hc hn hx =>
   rename_i d i ver off sz len blk o t x cc cap;simp only[uM];by_cases e:d=0∧i=a
   · rw[if_pos (jk.2 e)];obtain ⟨rfl,rfl⟩:=e;exact .slc (by rw[eb];exact h) hl hc hn hx
   · rw[if_neg (fun h=>e (jk.1 h))];exact .slc (by rw[rz hu e];exact h) hl hc hn hx
 | map h =>
   rename_i d i blk o t;simp only[uM];by_cases e:d=0∧i=a
   · rw[if_pos (jk.2 e)];obtain ⟨rfl,rfl⟩:=e;exact .map (by rw[eb];exact h)
   · rw[if_neg (fun h=>e (jk.1 h))];exact .map (by rw[rz hu e];exact h)
 | yld h =>
   rename_i d i blk o t;simp only[uM];by_cases e:d=0∧i=a
   · rw[if_pos (jk.2 e)];obtain ⟨rfl,rfl⟩:=e;exact .yld (by rw[eb];exact h)
   · rw[if_neg (fun h=>e (jk.1 h))];exact .yld (by rw[rz hu e];exact h)
 | undef c=>exact .undef c
 | bool b=>exact .bool b
 | int k n=>exact .int k n
 | str s=>exact .str s
 | nilp=>exact .nilp
 | nils=>exact .nils
 | nilm=>exact .nilm
 | nilf=>exact .nilf
 | ptrT vs h0 h1 hv=>exact other _ hu (.ptrT vs h0 h1 hv)
 | slcT vs h0 h1 hv hl hf hx=>exact other _ hu (.slcT vs h0 h1 hv hl hf hx)
 | slcN=>exact .slcN
 | fn ha hb va vb=>exact other _ hu (.fn ha hb va vb)
 | agg hs h1 hv=>exact other _ hu (.agg hs h1 hv)
 | tup hs hv=>exact other _ hu (.tup hs hv)
theorem getD_map {g:AV→AV} (h0:g .undef=.undef) (l:List AV) (j:Nat):(l.map g).getD j .undef=g (l.getD j .undef):=by
 induction l generalizing j with
 | nil=>simp[h0]
 | cons x l ih =>
   cases j with
   | zero=>rfl
   | succ j=>simpa using ih j
theorem mL {p q:aF} {M N:Mu} {f:AV→Bool} {g:AV→AV} (hf:∀ v c,f v=false→al p M v c→al q N (g v) c):∀ {l:List db} {vs:Nat→Value},anyM f l=false→(∀ j,j<ay l→al p M (getM l j) (vs j))→∀ j,j<ay l→al q N (getM (mapM' g l) j) (vs j)
 | [],_,_,_,j,hj=>by simp[ay] at hj
 | .one v::r,vs,hr,hv,0,hj=>by
   simp only[anyM,Bool.or_eq_false_iff] at hr;exact hf _ _ hr.1 (hv 0 hj)
 | .one v::r,vs,hr,hv,j+1,hj=>by
   simp only[anyM,Bool.or_eq_false_iff] at hr;have hj':j<ay r:=by simp[ay,aP] at hj;omega
   exact mL hf (l:=r) (vs:=fun j=>vs (j+1)) hr.2 (fun j hj=>hv (j+1) (by simp[ay,aP];omega)) j hj'
 | .arr k z n::r,vs,hr,hv,j,hj=>by
   have h0:=hv j hj;simp only[getM,mapM'] at h0 ⊢;by_cases e:j<n
   · rw[if_pos e] at h0 ⊢;exact h0.bp _ _
   · rw[if_neg e] at h0 ⊢;have hj':j-n<ay r:=by simp[ay,aP] at hj;omega
     have:=mL hf (l:=r) (vs:=fun i=>vs (i+n)) hr (fun i hi=>by
      have:=hv (i+n) (by simp[ay,aP];omega);simp only[getM] at this;rw[if_neg wO,Nat.add_sub_cancel] at this;exact this) (j-n) hj'
     rw[Nat.sub_add_cancel wO] at this;exact this
theorem ow {f:AV→Bool} {l:List AV} {j:Nat} (h:l.any f=false) (hj:j<l.length):f (l.getD j .undef)=false:=by
 have:=List.any_eq_false.1 h (l.getD j .undef) (by simp[hj]);simpa using this
theorem wN {p:aF} {M:Mu} {a b:Nat} {v:AV} {c:Value} (hu:pE (uT b) v=false) (h:al p M v c):al p (iU a b M) (na (uM a b) v) c:=by
 cases v with
 | agg r =>
   cases r with
   | G l =>
     cases h with
     | agg hs h1 hv=>exact .agg (by simpa[Row.len] using hs) (fun j hj=>h1 j (by simpa[Row.len] using hj)) (fun j hj=>by
        have hj:j<l.length:=by simpa[Row.len] using hj
        have:=cP (a:=a) (ow hu hj) (hv j hj);show al p _ ((l.map (uM a b)).getD j .undef) _;rw[getD_map rfl];exact this)
   | I k l=>exact cP (a:=a) (b:=b) (v:=.agg (.I k l)) hu h
   | F f m=>exact cP (a:=a) (b:=b) (v:=.agg (.F f m)) hu h
   | M l =>
     cases h with
     | agg hs h1 hv=>exact .agg (by simpa[Row.len,aU] using hs) (fun j hj=>h1 j (by simpa[Row.len,aU] using hj)) (fun j hj =>
        mL (fun v c e h=>cP e h) (vs:=fun j=>(_:Array Value).getD j undef) hu hv j (by simpa[Row.len,aU] using hj))
 | fn f x y =>
   cases h with
   | fn hx hy vx vy =>
     simp only[pE,Bool.or_eq_false_iff] at hu;refine .fn (by simpa using hx) (by simpa using hy) (fun j hj=>?_) (fun j hj=>?_)
     · rw[getD_map rfl];exact cP (ow hu.1 (by simpa using hj)) (vx j (by simpa using hj))
     · rw[getD_map rfl];exact cP (ow hu.2 (by simpa using hj)) (vy j (by simpa using hj))
 | undef=>exact cP (a:=a) (b:=b) (v:=.undef) hu h
 | bool x=>exact cP (a:=a) (b:=b) (v:=.bool x) hu h
 | int x y=>exact cP (a:=a) (b:=b) (v:=.int x y) hu h
 | str x=>exact cP (a:=a) (b:=b) (v:=.str x) hu h
 | nilp=>exact cP (a:=a) (b:=b) (v:=.nilp) hu h
 | nils=>exact cP (a:=a) (b:=b) (v:=.nils) hu h
 | nilm=>exact cP (a:=a) (b:=b) (v:=.nilm) hu h
 | nilf=>exact cP (a:=a) (b:=b) (v:=.nilf) hu h
 | ptr d i v o=>exact cP (a:=a) (b:=b) (v:=.ptr d i v o) hu h
 | ptrT s r o=>exact cP (a:=a) (b:=b) (v:=.ptrT s r o) hu h
 | slc d i v o z l c=>exact cP (a:=a) (b:=b) (v:=.slc d i v o z l c) hu h
 | slcT s r z l f=>exact cP (a:=a) (b:=b) (v:=.slcT s r z l f) hu h
 | map d i=>exact cP (a:=a) (b:=b) (v:=.map d i) hu h
 | yld d i=>exact cP (a:=a) (b:=b) (v:=.yld d i) hu h
 | tup l=>exact cP (a:=a) (b:=b) (v:=.tup l) hu h
theorem IE {p:aF} {M:Mu} {a b:Nat} {B:an} {x o t:Nat} {w:World} (hu:AE (uT b) B=false) (h:fB p M B x o t w):fB p (iU a b M) (p7 (uM a b) B) x o t w:=by
 cases B with
 | dead=>trivial
 | row r =>
   obtain ⟨c,e,e1,e2,e3,e4⟩:=h;have hl:(Ge (uM a b) r).len=r.len:=by cases r<;>simp[Ge,Row.len,aU]
   refine ⟨c,e,e1,e2,by rw[hl];exact e3,fun j hj=>?_⟩;rw[hl] at hj;cases r with
   | I k l=>exact ⟨(e4 j hj).1.bp _ _,(e4 j hj).2⟩
   | F f m=>exact e4 j hj
   | M l=>exact ⟨mL (fun v c e h=>wN e h) (vs:=fun j=>c.getD (o+j) Go.undef) hu (fun j hj=>(e4 j hj).1) j hj,(e4 j hj).2⟩
   | G l =>
     have hj':j<l.length:=hj;refine ⟨?_,(e4 j hj).2⟩;have:=wN (a:=a) (ow hu hj') (e4 j hj).1;show al p _ ((l.map (na (uM a b))).getD j .undef) _;rw[getD_map rfl];exact this
 | map es=>simp[AE] at hu
 | fmap kq f g c=>exact x6 _ _ h
 | loop l=>simp[AE] at hu

theorem kL (g:AV→AV):∀ (l:List (Nat×an)) (i:Nat),au (jr g l) i=((au l i).1,p7 g (au l i).2)
 | [],i=>rfl
 | (v,b)::r,0=>rfl
 | (v,b)::r,i+1=>kL g r i
theorem dR (g:AV→AV):∀ (l:List (Nat×an)),(jr g l).length=l.length
 | []=>rfl
 | (v,b)::r=>by simp[jr,dR g r]
theorem iC {g:AV→AV} {B:an}:p7 g B≠.dead↔B≠.dead:=by cases B<;>simp[p7]
theorem sS (g:AV→AV) (h0:g .undef=.undef):∀ (fr:aA) (x:Nat),bM (p8 g fr) x=na g (bM fr x)
 | [],x=>by simp[p8,bM,na,h0]
 | (y,v)::r,x=>by
   simp only[p8,bM];split
   · rfl
   · exact sS g h0 r x
theorem oe:∀ (l:List (Nat×an)) (j:Nat) (x:Nat×an) (i:Nat),j<l.length→au (bQ l j x) i=if i=j then x else au l i
 | [],j,x,i,h=>by simp at h
 | y::r,0,x,0,h=>by simp[bQ,au]
 | y::r,0,x,i+1,h=>by simp[bQ,au]
 | y::r,j+1,x,0,h=>by simp[bQ,au]
 | y::r,j+1,x,i+1,h=>by
   simp only[bQ,au];rw[oe r j x i (by simpa using h)];simp
theorem ja:∀ (l:List (Nat×an)) (j:Nat) (x:Nat×an),(bQ l j x).length=l.length
 | [],j,x=>rfl
 | y::r,0,x=>rfl
 | y::r,j+1,x=>by simp[bQ,ja r j x]
theorem IF {a b:Nat} {l:bJ} (ha:a<l.bs.length) (hb:b<a) (i:Nat):au (xC a b l).bs i=if i=b then ((au l.bs a).1,p7 (uM a b) (au l.bs a).2) else if i<a then ((au l.bs i).1,p7 (uM a b) (au l.bs i).2) else (0,.dead):=by
 unfold xC;dsimp only;rw[oe _ _ _ _ (by rw[dR];simp;omega)];by_cases e:i=b
 · rw[if_pos e,if_pos e]
 · rw[if_neg e,if_neg e,kL,fA];by_cases e2:i<a
   · rw[if_pos e2,if_pos e2]
   · rw[if_neg e2,if_neg e2];rfl
theorem CQ {a b:Nat} {l:bJ} (ha:a<l.bs.length):(xC a b l).bs.length=a:=by
 unfold xC;dsimp only;rw[ja,dR];simp;omega
theorem qK:∀ (l:List (Nat×an)) (n i:Nat),au (l.drop n) i=au l (n+i)
 | [],n,i=>by simp[au]
 | b::l,0,i=>by simp
 | b::l,n+1,i=>by
   rw[show n+1+i=(n+i)+1 by omega];simp only[List.drop_succ_cons,au];exact qK l n i
theorem vr {fr:aA} {bs:List (Nat×an)}:∀ {k m h:Nat},hole fr bs k m=some h→m≤h∧h+1<bs.length∧fr.any (fun x=>pE (uT h) x.2)=false∧∀ i,i≠h→AE (uT h) (au bs i).2=false
 | 0,m,h,e=>by simp[hole] at e
 | k + 1,m,h,e=>by
   unfold hole at e;split at e
   · rename_i hlt;split at e
     · obtain ⟨h1,h2⟩:=vr e;exact ⟨by omega,h2⟩
     · rename_i hno;simp only[Option.some.injEq] at e;subst e;rw[Bool.not_eq_true,Bool.or_eq_false_iff,Bool.or_eq_false_iff] at hno;obtain ⟨n1,n2,n3⟩:=hno;refine ⟨Nat.le_refl _,by simpa using hlt,n1,fun i hi=>?_⟩;by_cases hd:(au bs i).2=.dead
       · rw[hd];rfl
       rcases Nat.lt_or_gt_of_ne hi with h1 | h1
       · have e0:au (bs.take m) i=au bs i:=by rw[fA,if_pos h1]
         have hm:au (bs.take m) i ∈ bs.take m:=kM (by rw[e0];exact hd);have:=List.any_eq_false.1 n2 _ hm;rw[e0] at this;simpa using this
       · have e0:au (bs.drop (m+1)) (i-(m+1))=au bs i:=by rw[qK];congr 1;omega
         have hm:au (bs.drop (m+1)) (i-(m+1)) ∈ bs.drop (m+1):=kM (by rw[e0];exact hd);have:=List.any_eq_false.1 n3 _ hm;rw[e0] at this;simpa using this
   · cases e

theorem Ma {p p1:aF} {M M1:Mu} {H:ab} {w w1:World} {nt:Nat} {fr:aA} {a:Act} {l:bJ} {r:ab} (hE:cC p M H w p1 M1 (l::r) w1) (hF:bX p1 M1 nt fr a) {n0:Nat} (hM:Marks n0 M1 (l::r) w1 a.defers) (hdom:∀ d i v t,M d i v=some t→i<ao H d)
 {x h:Nat} (hx:x+1=l.bs.length) (hh:h<x) (hn:aZ H≤h) (hfr:fr.any (fun x=>pE (uT h) x.2)=false) (hbs:∀ i,i≠h→AE (uT h) (au l.bs i).2=false) :
 ∃ M2,cC p M H w p1 M2 (xC x h l::r) w1∧bX p1 M2 nt (p8 (uM x h) fr) a∧Marks n0 M2 (xC x h l::r) w1 a.defers:=by
 let old:Nat→Nat:=fun i=>if i=h then x else i
 have get0:∀ i,au (xC x h l).bs i=if i<x then ((au l.bs (old i)).1,p7 (uM x h) (au l.bs (old i)).2) else (0,.dead):=by
  intro i;rw[IF wO hh];simp only[old];by_cases e:i=h
  · rw[if_pos e,if_pos e,if_pos wO]
  · rw[if_neg e,if_neg e]
 have mu0:∀ i v,i<x→iU x h M1 0 i v=M1 0 (old i) v:=by
  intro i v hi;simp only[iU,old];rw[if_pos trivial];by_cases e:i=h
  · rw[if_pos e,if_pos e]
  · rw[if_neg e,if_neg e,if_neg wO]
 have muS:∀ d i v,iU x h M1 (d+1) i v=M1 (d+1) i v:=fun d i v=>by simp[iU]
 have lock0:∀ d,aL (xC x h l::r) d=aL (l::r) d:=fun d=>by cases d<;>rfl
 have back:∀ d i v B,az (xC x h l::r) d i=(v,B)→B≠.dead→∃ i' B',az (l::r) d i'=(v,B')∧B'≠.dead∧(∀ u,iU x h M1 d i u=M1 d i' u)∧(d=0→i<x∧i'=old i∧B=p7 (uM x h) B')∧(d≠0→i'=i∧B'=B):=by
  intro d i v B hg hB;cases d with
  | succ d=>exact ⟨i,B,hg,hB,fun u=>muS d i u,fun e=>absurd e (by simp),fun _=>⟨rfl,rfl⟩⟩
  | zero =>
    have hg':au (xC x h l).bs i=(v,B):=hg;rw[get0] at hg';by_cases hi:i<x
    · rw[if_pos hi] at hg';simp only[Prod.mk.injEq] at hg';obtain ⟨e1,e2⟩:=hg';refine ⟨old i,(au l.bs (old i)).2,?_,?_,fun u=>mu0 i u hi,fun _=>⟨hi,rfl,e2.symm⟩,fun e=>absurd rfl e⟩
      · show au l.bs (old i)=_;rw[← e1]
      · rw[← e2] at hB;exact iC.1 hB
    · rw[if_neg hi] at hg';simp only[Prod.mk.injEq] at hg';exact absurd hg'.2.symm hB
 have inj:∀ i j,i<x→j<x→old i=old j→i=j:=by
  intro i j hi hj e;simp only[old] at e;by_cases e1:i=h<;>by_cases e2:j=h
  · omega
  · rw[if_pos e1,if_neg e2] at e;omega
  · rw[if_neg e1,if_pos e2] at e;omega
  · rw[if_neg e1,if_neg e2] at e;exact e
 have oldne:∀ i,i<x→old i≠h:=by
  intro i hi;simp only[old];by_cases e1:i=h
  · rw[if_pos e1];omega
  · rw[if_neg e1];exact e1
 have rel:bj p1 (iU x h M1) (xC x h l::r) w1:=by
  refine ⟨hE.rel.pers,?_,?_,?_⟩
  · intro d i v B hg hB;obtain ⟨i',B',h1,h2,h3,h4,h5⟩:=back d i v B hg hB;obtain ⟨b,o,t,k1,k2,k3⟩:=hE.rel.live d i' v B' h1 h2;refine ⟨b,o,t,by rw[h3];exact k1,?_,k3⟩;cases d with
    | succ d =>
      obtain ⟨rfl,rfl⟩:=h5 (by simp);rw[IG _ _ _ _ wO];exact k2
    | zero =>
      obtain ⟨g1,g2,g3⟩:=h4 rfl;subst g2;subst g3;rw[s6] at k2 ⊢;have hg1:au l.bs (old i)=(v,B'):=h1;have:=hbs (old i) (oldne i g1);rw[hg1] at this;exact IE this k2
  · intro d i v B d' i' v' B' b o t o' t' hg hB hg' hB' hm hm';obtain ⟨j,C,h1,h2,h3,h4,h5⟩:=back d i v B hg hB;obtain ⟨j',C',h1',h2',h3',h4',h5'⟩:=back d' i' v' B' hg' hB';rw[h3] at hm;rw[h3'] at hm';obtain ⟨e1,e2⟩:=hE.rel.apart d j v C d' j' v' C' b o t o' t' h1 h2 h1' h2' hm hm';subst e1;refine ⟨rfl,?_⟩;by_cases hd:d=0
    · obtain ⟨g1,g2,_⟩:=h4 hd;obtain ⟨g1',g2',_⟩:=h4' hd;exact inj _ _ g1 g1' (by rw[← g2,← g2',e2])
    · rw[← (h5 hd).1,← (h5' hd).1,e2]
  · intro d i v t hm;cases d with
    | succ d =>
      rw[muS] at hm;exact hE.rel.dom (d+1) i v t hm
    | zero =>
      have hi:i<x:=by
       apply Nat.lt_of_not_le;intro hle;simp only[iU] at hm;rw[if_pos trivial,if_neg wO] at hm;by_cases e:i=x
       · rw[if_pos e] at hm;cases hm
       · rw[if_neg e] at hm;have h1:i<l.bs.length:=(hE.rel.dom 0 i v t hm).1;omega
      rw[mu0 i v hi] at hm;have h0:=hE.rel.dom 0 (old i) v t hm;refine ⟨?_,?_⟩
      · show i<(xC x h l).bs.length;rw[CQ wO];exact hi
      · show (au (xC x h l).bs i).2≠.dead→v≤(au (xC x h l).bs i).1;rw[get0,if_pos hi];exact fun hne=>h0.2 (iC.1 hne)
 have keepc:∀ b,bA M1 (l::r) b→bA (iU x h M1) (xC x h l::r) b:=by
  intro b hk d i v B hg hB hl o t hm;obtain ⟨i',B',h1,h2,h3,_⟩:=back d i v B hg hB;rw[h3] at hm;exact hk d i' v B' h1 h2 (by rw[← lock0];exact hl) o t hm
 have from':∀ d i v t,iU x h M1 d i v=some t→∃ i',M1 d i' v=some t∧(M1 d i v=some t∨(d=0∧i=h)):=by
  intro d i v t hm;cases d with
  | succ d=>rw[muS] at hm;exact ⟨i,hm,.inl hm⟩
  | zero =>
    simp only[iU] at hm;rw[if_pos trivial] at hm;by_cases e:i=h
    · rw[if_pos e] at hm;exact ⟨x,hm,.inr ⟨rfl,e⟩⟩
    · rw[if_neg e] at hm;by_cases e2:i=x
      · rw[if_pos e2] at hm;cases hm
      · rw[if_neg e2] at hm;exact ⟨i,hm,.inl hm⟩
 have hgrow:aZ H≤x:=by omega
 refine ⟨iU x h M1,⟨hE.pst,?_,rel,hE.stay,fun b hb hk=>keepc b (hE.bA b hb hk),hE.fresh,fun d i v b o t hm=>?_,fun d=>?_,fun d i hd hl=>?_,fun d hd hl=>?_,hE.len,fun d=>?_,fun d i v t hm=>?_⟩,⟨hF.size,fun y=>?_⟩,?_⟩
 · intro d i v t hm
   have h1:=hE.mu d i v t hm
   have h0:=hdom d i v t hm
   cases d with
   | succ d=>rw[muS];exact h1
   | zero =>
     rw[bm] at h0
     rw[mu0 i v wO]
     simp only[old]
     rw[if_neg wO];exact h1
 · obtain ⟨i',h1,_⟩:=from' d i v _ hm
   exact hE.own d i' v b o t h1
 · rw[lock0];exact hE.lock d
 · have:=hE.same d i hd hl
   cases d with
   | zero=>exact absurd rfl hd
   | succ d=>exact this
 · have:=hE.next d hd hl
   cases d with
   | zero=>exact absurd rfl hd
   | succ d=>exact this
 · have:=hE.grow d
   cases d with
   | zero =>
     rw[bm]
     show aZ H≤(xC x h l).bs.length
     rw[CQ wO];exact hgrow
   | succ d=>exact this
 · obtain ⟨i',h1,h2 | ⟨rfl,rfl⟩⟩:=from' d i v t hm
   · exact hE.new d i v t h2
   · exact .inr (.inl (by rw[bm];exact hn))
 · rw[sS _ rfl]
   rcases sh fr y with e | ⟨z,e⟩
   · rw[e];exact .undef _
   · refine wN ?_ (hF.at_ y)
     have:=List.any_eq_false.1 hfr _ e
     simpa using this
 · obtain ⟨rs,h1,h2,h0,h3⟩:=hM
   exact ⟨rs,h1,h2,h0,fun z hz=>⟨(h3 z hz).1,keepc z (h3 z hz).2.1,(h3 z hz).2.2⟩⟩

theorem tV {p p1:aF} {M:Mu} {H:ab} {w w1:World} {nt:Nat} {a:Act} {n0:Nat} (hdom:∀ d i v t,M d i v=some t→i<ao H d) :
 ∀ (k:Nat) (fr:aA) (H1:ab) (M1:Mu),cC p M H w p1 M1 H1 w1→bX p1 M1 nt fr a→Marks n0 M1 H1 w1 a.defers→∃ M2,cC p M H w p1 M2 (jJ (aZ H) k fr H1).2 w1∧bX p1 M2 nt (jJ (aZ H) k fr H1).1 a∧Marks n0 M2 (jJ (aZ H) k fr H1).2 w1 a.defers
 | 0,fr,H1,M1,hE,hF,hM=>⟨M1,hE,hF,hM⟩
 | k+1,fr,[],M1,hE,hF,hM=>⟨M1,hE,hF,hM⟩
 | k + 1,fr,l::r,M1,hE,hF,hM=>by
   unfold jJ;dsimp only;split
   · exact ⟨M1,hE,hF,hM⟩
   · rename_i h hh;obtain ⟨h1,h2,h3,h4⟩:=vr hh;obtain ⟨M2,hE2,hF2,hM2⟩:=Ma hE hF hM hdom (x:=l.bs.length-1) wO wO h1 h3 h4;obtain ⟨M3,hE3,hF3,hM3⟩:=ri hE2 hF2 hM2 hdom;exact tV hdom k _ _ M3 hE3 hF3 hM3
theorem Hd {p p1:aF} {M M1:Mu} {H H1:ab} {w w1:World} {nt:Nat} {fr:aA} {a:Act} (hE:cC p M H w p1 M1 H1 w1) (hF:bX p1 M1 nt fr a) {n0:Nat} (hM:Marks n0 M1 H1 w1 a.defers) (hdom:∀ d i v t,M d i v=some t→i<ao H d) :
 ∃ M2,cC p M H w p1 M2 (tidy (aZ H) fr H1).2 w1∧bX p1 M2 nt (tidy (aZ H) fr H1).1 a∧Marks n0 M2 (tidy (aZ H) fr H1).2 w1 a.defers:=by
 obtain ⟨M2,hE2,hF2,hM2⟩:=ri hE hF hM hdom
 exact tV hdom 4 _ _ M2 hE2 hF2 hM2

def Ih (p:aF) (b o n:Nat) (vs:Nat→Value) (b' o':Nat):Option Value:=if b'=b∧o≤o'∧o'<o+n then some (vs (o'-o)) else p b' o'
theorem CB {p:aF} {b:Nat} (h:∀ x,p b x=none) (o n:Nat) (vs:Nat→Value) (b' o':Nat) (v:Value) (hv:oS b' o'=some v):Ih p b o n vs b' o'=some v:=by
 unfold Ih;rw[if_neg]
 · exact p.2 _ _ _ hv
 · rintro ⟨rfl,_⟩;rw[p.CT (h o')] at hv;cases hv
open Classical in
noncomputable def lT (p:aF) (b o n:Nat) (vs:Nat→Value):aF:=if h:∀ x,p b x=none then ⟨Ih p b o n vs,CB h o n vs⟩ else p
theorem FZ {p:aF} {b:Nat} (h:∀ x,p b x=none) (o n:Nat) (vs:Nat→Value):lT p b o n vs=⟨Ih p b o n vs,CB h o n vs⟩:=dif_pos h
theorem fR {p:aF} {b:Nat} (h:∀ x,p b x=none) (o n:Nat) (vs:Nat→Value) (b' o':Nat):lT p b o n vs b' o'=if b'=b∧o≤o'∧o'<o+n then some (vs (o'-o)) else p b' o':=by
 rw[FZ h];rfl
theorem yj {p q:aF} {M N:Mu} {r:Row} (h:wC r=true) {vs:Nat→Value} (hr:bg p M r vs):bg q N r vs:=by
 intro j hj;refine ⟨?_,(hr j hj).2⟩;have h0:=(hr j hj).1;unfold wC at h;split at h
 · exact h0.bp _ _
 · rename_i k z n;have:j<n:=by simpa[Row.len,ay,aP] using hj
   simp only[Row.get,getM,if_pos this] at h0 ⊢;exact h0.bp _ _
 · cases h
theorem F0 {r:Row} (h:wC r=true) (o n:Nat):wC (r.sub o n)=true:=by
 unfold wC at h;split at h
 · rfl
 · rfl
 · cases h
theorem oD {d j i:Nat} {x:Bool}:(Nat.beq d 0 && (Nat.beq j i && x))=true↔d=0∧j=i∧x=true:=by simp
theorem F1 {p:aF} {M:Mu} {i ver b o t:Nat} {r:Row} {vs:Nat→Value} (hno:∀ x,p b x=none) (hm:M 0 i ver=some (b,o,t)) (hi:wC r=true) (hr:bg p M r vs) (hle:aF.le p (lT p b o r.len vs)) {v:AV} {c:Value} (h:al p M v c):al (lT p b o r.len vs) M (m8 i ver r v) c:=by
 have up:=h.mono hle (Mu.le.refl M);have cell:∀ j,j<r.len→lT p b o r.len vs b (o+j)=some (vs j):=fun j hj=>by
  rw[fR hno,if_pos ⟨rfl,by omega,by omega⟩];congr 2;omega
 cases h with
 | ptr h =>
   rename_i d j v off b' o' t';simp only[m8];by_cases e:d=0∧j=i∧v=ver
   · rw[if_pos (oD.2 ⟨e.1,e.2.1,by simp[e.2.2]⟩)];obtain ⟨rfl,rfl,rfl⟩:=e;rw[hm] at h;simp only[nP] at h;obtain ⟨rfl,rfl,rfl⟩:=h;exact .ptrT vs cell (fun j hj=>(hr j hj).2) (fun j hj=>(yj hi hr j hj).1)
   · rw[if_neg (fun h=>e (by have:=oD.1 h;exact ⟨this.1,this.2.1,by simpa using this.2.2⟩))];exact up
 | slc h hl hc hn hx =>
   rename_i d j v off sz len b' o' t' x cc cap;simp only[m8];by_cases e:d=0∧j=i∧(Nat.beq v ver && Nat.ble (off+len*sz) r.len)=true
   · rw[if_pos (oD.2 e)];obtain ⟨rfl,rfl,e⟩:=e;rw[Bool.and_eq_true] at e;obtain ⟨e1,e2⟩:=e;have e1:=Nat.eq_of_beq_eq_true e1;have e2:=Nat.le_of_ble_eq_true e2;subst e1;rw[hm] at h;simp only[nP] at h;obtain ⟨rfl,rfl,rfl⟩:=h;have hs:=hr.sub off (len*sz) e2;have hsl:=Row.dp r off (len*sz) e2;refine .slcT (o:=o+off) (fun j=>vs (off+j)) (fun j hj=>?_) (fun j hj=>(hs j hj).2) (fun j hj=>(yj (F0 hi off (len*sz)) hs j hj).1) hl (fun hf=>?_) hx
     · rw[hsl] at hj;rw[Nat.add_assoc];exact cell _ wO
     · exact hc _ (by simpa using hf)
   · rw[if_neg (fun h=>e (oD.1 h))];exact up
 | undef c=>exact up
 | bool b=>exact up
 | int k n=>exact up
 | str s=>exact up
 | nilp=>exact up
 | nils=>exact up
 | nilm=>exact up
 | nilf=>exact up
 | ptrT vs h0 h1 hv=>exact up
 | slcT vs h0 h1 hv hl hf hx=>exact up
 | slcN=>exact up
 | map h=>exact up
 | yld h=>exact up
 | fn ha hb va vb=>exact up
 | agg hs h1 hv=>exact up
 | tup hs hv=>exact up
theorem p9 {p q:aF} {M N:Mu} {g:AV→AV} (h0:g .undef=.undef) (hq:∀ v c,al p M v c→al q N v c) (hg:∀ v c,al p M v c→al q N (g v) c) {v:AV} {c:Value} (h:al p M v c):al q N (na g v) c:=by
 cases v with
 | agg r =>
   cases r with
   | G l =>
     cases h with
     | agg hs h1 hv=>exact .agg (by simpa[Row.len] using hs) (fun j hj=>h1 j (by simpa[Row.len] using hj)) (fun j hj=>by
        have hj:j<l.length:=by simpa[Row.len] using hj
        show al q _ ((l.map g).getD j .undef) _;rw[getD_map h0];exact hg _ _ (hv j hj))
   | I k l=>exact hg (.agg (.I k l)) _ h
   | F f m=>exact hg (.agg (.F f m)) _ h
   | M l =>
     cases h with
     | agg hs h1 hv=>exact .agg (by simpa[Row.len,aU] using hs) (fun j hj=>h1 j (by simpa[Row.len,aU] using hj)) (fun j hj=>by
        have hj:j<ay l:=by simpa[Row.len,aU] using hj
        show al q _ (getM (mapM' g l) j) _;rcases iz g l j hj with e | ⟨k,n,e1,e2⟩
        · rw[e];exact hg _ _ (hv j hj)
        · have:=hv j hj;simp only[Row.get] at this;rw[e1] at this;rw[e2];exact this.bp _ _)
 | fn f x y =>
   cases h with
   | fn hx hy vx vy =>
     refine .fn (by simpa using hx) (by simpa using hy) (fun j hj=>?_) (fun j hj=>?_)
     · rw[getD_map h0];exact hg _ _ (vx j (by simpa using hj))
     · rw[getD_map h0];exact hg _ _ (vy j (by simpa using hj))
 | undef=>exact hg _ _ h
 | bool b=>exact hg (.bool b) _ h
 | int k n=>exact hg (.int k n) _ h
 | str s=>exact hg (.str s) _ h
 | nilp=>exact hg .nilp _ h
 | nils=>exact hg .nils _ h
 | nilm=>exact hg .nilm _ h
 | nilf=>exact hg .nilf _ h
 | ptr d i v o=>exact hg (.ptr d i v o) _ h
 | ptrT s r o=>exact hg (.ptrT s r o) _ h
 | slc d i v o z l c=>exact hg (.slc d i v o z l c) _ h
 | slcT s r z l f=>exact hg (.slcT s r z l f) _ h
 | map d i=>exact hg (.map d i) _ h
 | yld d i=>exact hg (.yld d i) _ h
 | tup l=>exact hg (.tup l) _ h
theorem Eb {p q:aF} {M:Mu} {g:AV→AV} (h0:g .undef=.undef) (hq:aF.le p q) (hg:∀ v c,al p M v c→al q M (g v) c) {B:an} {x o t:Nat} {w:World} (h:fB p M B x o t w):fB q M (p7 g B) x o t w:=by
 have hq':∀ v c,al p M v c→al q M v c:=fun v c h=>h.mono hq (Mu.le.refl M);cases B with
 | dead=>trivial
 | row r =>
   obtain ⟨c,e,e1,e2,e3,e4⟩:=h;have hl:(Ge g r).len=r.len:=by cases r<;>simp[Ge,Row.len,aU]
   refine ⟨c,e,e1,e2,by rw[hl];exact e3,fun j hj=>?_⟩;rw[hl] at hj;cases r with
   | I k l=>exact ⟨(e4 j hj).1.bp _ _,(e4 j hj).2⟩
   | F f m=>exact ⟨(e4 j hj).1.mono hq (Mu.le.refl _),(e4 j hj).2⟩
   | M l =>
     refine ⟨?_,(e4 j hj).2⟩;have h1:=(e4 j hj).1;show al q _ (getM (mapM' (na g) l) j) _;rcases iz (na g) l j hj with e | ⟨k,n,k1,k2⟩
     · rw[e];exact p9 h0 hq' hg h1
     · simp only[Row.get] at h1;rw[k1] at h1;rw[k2];exact h1.bp _ _
   | G l =>
     refine ⟨?_,(e4 j hj).2⟩;show al q _ ((l.map (na g)).getD j .undef) _;rw[getD_map (by simp[na,h0])];exact p9 h0 hq' hg (e4 j hj).1
 | map es=>exact h.mono hq (Mu.le.refl M) rfl
 | fmap kq f g c=>exact h.mono hq (Mu.le.refl M) rfl
 | loop l=>exact h.mono hq (Mu.le.refl M) rfl
theorem pT {p1:aF} {M1:Mu} {w1:World} {nt:Nat} {fr:aA} {a:Act} {l:bJ} {r:ab} (hH:bj p1 M1 (l::r) w1) (hF:bX p1 M1 nt fr a) (hl:l.lock=false) (i:Nat) :
 ∃ p2,cC p1 M1 (l::r) w1 p2 M1 ((lS i fr l).2::r) w1∧bX p2 M1 nt (lS i fr l).1 a∧(lS i fr l).2.lock=false∧(lS i fr l).2.bs.length=l.bs.length:=by
 unfold lS
 split
 · rename_i ver row hb
   split
   · rename_i hc
     rw[Bool.and_eq_true] at hc
     obtain ⟨hi,-⟩:=hc
     have hil:i<l.bs.length:=by
      apply Nat.lt_of_not_le;intro hle;have:∀ (q:List (Nat×an)) (i:Nat),q.length≤i→au q i=(0,.dead):=by
       intro q;induction q with
       | nil=>intro i _;rfl
       | cons x q ih =>
         intro i h;cases i with
         | zero=>simp at h
         | succ i=>exact ih i (by simpa using h)
      rw[this l.bs i hle] at hb;simp at hb
     have hg:az (l::r) 0 i=(ver,.row row):=hb
     obtain ⟨b,o,t,k1,k2,k3⟩:=hH.live 0 i ver (.row row) hg (by simp)
     rw[s6] at k2
     obtain ⟨vs,v1,v2⟩:=mh k2
     have hle:aF.le p1 (lT p1 b o row.len vs):=by
      intro b' o' v hv;rw[fR k3,if_neg]
      · exact hv
      · rintro ⟨rfl,_⟩;rw[k3] at hv;cases hv
     have hS:∀ v c,al p1 M1 v c→al (lT p1 b o row.len vs) M1 (m8 i ver row v) c:=fun v c h=>F1 k3 k1 hi v1 hle h
     have hq':∀ v c,al p1 M1 v c→al (lT p1 b o row.len vs) M1 v c:=fun v c h=>h.mono hle (Mu.le.refl M1)
     have get:∀ d j,az ({ l with bs:=bQ (jr (m8 i ver row) l.bs) i (ver,.dead) } :: r) d j=if d=0 then (if j=i then (ver,.dead) else ((au l.bs j).1,p7 (m8 i ver row) (au l.bs j).2)) else az (l::r) d j:=by
      intro d j;cases d with
      | zero =>
        rw[if_pos rfl];show au (bQ (jr (m8 i ver row) l.bs) i (ver,.dead)) j=_;rw[oe _ _ _ _ (by rw[dR];exact hil),kL]
      | succ d=>rw[if_neg wO];rfl
     have rel : bj (lT p1 b o row.len vs) M1 ({ l with bs:=bQ (jr (m8 i ver row) l.bs) i (ver,.dead) } :: r) w1:=by
      refine ⟨?_,?_,?_,?_⟩
      · intro b' o' v hp;rw[fR k3] at hp;split at hp
        · rename_i he;obtain ⟨rfl,h1,h2⟩:=he;rw[← hp];have:=v2 (o'-o) wO;rw[show o+(o'-o)=o' by omega] at this;exact this
        · exact hH.pers _ _ _ hp
      · intro d j v B hg' hB;rw[get] at hg';have other:∀ x,(d≠0∨j≠i)→∀ b' o' t',M1 d j v=some (b',o',t')→(∃ B',az (l::r) d j=(v,B')∧B'≠.dead)→p1 b' x=none→lT p1 b o row.len vs b' x=none:=by
         intro x hne b' o' t' hm ⟨B',hg2,hB2⟩ hn;rw[fR k3,if_neg]
         · exact hn
         · rintro ⟨rfl,_⟩;have:=hH.apart d j v B' 0 i ver (.row row) b' o' t' o t hg2 hB2 hg (by simp) hm k1;omega
        split at hg'
        · rename_i hd;subst hd;split at hg'
          · simp only[Prod.mk.injEq] at hg';exact absurd hg'.2.symm hB
          · rename_i hji;simp only[Prod.mk.injEq] at hg';obtain ⟨e1,e2⟩:=hg';have hB':(au l.bs j).2≠.dead:=by rw[← e2] at hB;exact iC.1 hB
            have hg2:az (l::r) 0 j=(v,(au l.bs j).2):=by rw[← e1];rfl
            obtain ⟨b',o',t',q1,q2,q3⟩:=hH.live 0 j v _ hg2 hB';refine ⟨b',o',t',q1,?_,fun x=>other x (.inr hji) b' o' t' q1 ⟨_,hg2,hB'⟩ (q3 x)⟩;rw[s6] at q2 ⊢;rw[← e2];exact Eb rfl hle hS q2
        · rename_i hd;obtain ⟨b',o',t',q1,q2,q3⟩:=hH.live d j v B hg' hB;exact ⟨b',o',t',q1,q2.mono hle (Mu.le.refl _) rfl,fun x=>other x (.inl hd) b' o' t' q1 ⟨_,hg',hB⟩ (q3 x)⟩
      · intro d j v B d' j' v' B' b1 o1 t1 o2 t2 hg1 hB1 hg2 hB2 hm1 hm2;have back:∀ d j v B,az ({ l with bs:=bQ (jr (m8 i ver row) l.bs) i (ver,.dead) } :: r) d j=(v,B)→B≠.dead→∃ B',az (l::r) d j=(v,B')∧B'≠.dead:=by
         intro d j v B hg' hB;rw[get] at hg';split at hg'
         · rename_i hd;subst hd;split at hg'
           · simp only[Prod.mk.injEq] at hg';exact absurd hg'.2.symm hB
           · simp only[Prod.mk.injEq] at hg';obtain ⟨e1,e2⟩:=hg';exact ⟨(au l.bs j).2,by rw[← e1];rfl,by rw[← e2] at hB;exact iC.1 hB⟩
         · exact ⟨B,hg',hB⟩
        obtain ⟨C1,q1,q2⟩:=back _ _ _ _ hg1 hB1;obtain ⟨C2,q3,q4⟩:=back _ _ _ _ hg2 hB2;exact hH.apart d j v C1 d' j' v' C2 b1 o1 t1 o2 t2 q1 q2 q3 q4 hm1 hm2
      · intro d j v t' hm;have h0:=hH.dom d j v t' hm;rw[get];cases d with
        | succ d=>rw[if_neg wO];exact h0
        | zero =>
          refine ⟨?_,?_⟩
          · show j<(bQ (jr (m8 i ver row) l.bs) i (ver,.dead)).length;rw[ja,dR];exact h0.1
          · rw[if_pos rfl];have h1:(au l.bs j).2≠.dead→v≤(au l.bs j).1:=h0.2;by_cases e:j=i
            · rw[if_pos e];exact fun hne=>absurd rfl hne
            · rw[if_neg e];exact fun hne=>h1 (iC.1 hne)
     refine ⟨lT p1 b o row.len vs,⟨hle,Mu.le.refl _,rel,dx.refl _ _,fun b' hb' hk d j v B hg' hB hlk o' t' hm=>?_,fun b' o' v hp=>?_,fun d j v b' o' t' hm=>.inr ⟨d,j,v,o',t',Nat.le_refl _,hm⟩,fun d=>?_,fun d j hd hlk=>?_,fun d hd hlk=>?_,rfl,fun d=>?_,fun d j v t' hm=>.inl hm⟩,⟨hF.size,fun y=>?_⟩,hl,by show (bQ _ _ _).length=_;rw[ja,dR]⟩
     · rw[get] at hg'
       have hlk':aL (l::r) d=false:=by cases d<;>exact hlk
       split at hg'
       · rename_i hd
         subst hd
         split at hg'
         · simp only[Prod.mk.injEq] at hg'
           exact absurd hg'.2.symm hB
         · simp only[Prod.mk.injEq] at hg'
           obtain ⟨e1,e2⟩:=hg'
           exact hk 0 j v (au l.bs j).2 (by rw[← e1];rfl) (by rw[← e2] at hB;exact iC.1 hB) hlk' o' t' hm
       · exact hk d j v B hg' hB hlk' o' t' hm
     · rw[fR k3] at hp
       split at hp
       · rename_i he
         obtain ⟨rfl,_⟩:=he
         exact .inr (.inr ⟨hl,i,ver,o,t,k1⟩)
       · exact .inl hp
     · cases d<;>rfl
     · rw[get,if_neg hd]
     · cases d with
       | zero=>exact absurd rfl hd
       | succ d=>rfl
     · cases d with
       | zero =>
         show l.bs.length≤(bQ (jr (m8 i ver row) l.bs) i (ver,.dead)).length
         rw[ja,dR];exact Nat.le_refl _
       | succ d=>exact Nat.le_refl _
     · rw[sS _ rfl]
       exact p9 rfl hq' hS (hF.at_ y)
   · exact ⟨p1,cC.refl hH,hF,hl,rfl⟩
 · exact ⟨p1,cC.refl hH,hF,hl,rfl⟩
theorem sD {M1:Mu} {w1:World} {nt:Nat} {fr:aA} {a:Act} {l:bJ} {r:ab} {p1:aF} (hH:bj p1 M1 (l::r) w1) (hF:bX p1 M1 nt fr a) (hl:l.lock=false):∀ n:Nat,
 ∃ p2,cC p1 M1 (l::r) w1 p2 M1 ((iN n fr l).2::r) w1∧bX p2 M1 nt (iN n fr l).1 a∧(iN n fr l).2.lock=false
 | 0=>⟨p1,cC.refl hH,hF,hl⟩
 | n+1=>by
   obtain ⟨p2,h1,h2,h3⟩:=sD hH hF hl n;obtain ⟨p3,k1,k2,k3,_⟩:=pT h1.rel h2 h3 n;exact ⟨p3,h1.trans k1,k2,k3⟩
theorem qD {M1:Mu} {w1:World} {nt:Nat} {fr:aA} {a:Act} {l:bJ} {r:ab} {p1:aF} (hH:bj p1 M1 (l::r) w1) (hF:bX p1 M1 nt fr a) (hl:l.lock=false):∀ n:Nat,
 ∃ p2,cC p1 M1 (l::r) w1 p2 M1 ((ew n fr l).2::r) w1∧bX p2 M1 nt (ew n fr l).1 a∧(ew n fr l).2.lock=false
 | 0=>⟨p1,cC.refl hH,hF,hl⟩
 | n + 1=>by
   obtain ⟨p2,h1,h2,h3⟩:=qD hH hF hl n;unfold ew;split
   · exact ⟨p2,h1,h2,h3⟩
   · obtain ⟨p3,k1,k2,k3,_⟩:=pT h1.rel h2 h3 n;exact ⟨p3,h1.trans k1,k2,k3⟩
theorem yO {p:aF} {M:Mu} {sz:Nat} {v:AV} {c:Value} (h:al p M v c):al p M (II sz v) c:=by
 cases h with
 | nils=>exact .slcN
 | undef c=>exact .undef c
 | bool b=>exact .bool b
 | int k n=>exact .int k n
 | str s=>exact .str s
 | nilp=>exact .nilp
 | nilm=>exact .nilm
 | nilf=>exact .nilf
 | ptr h=>exact .ptr h
 | ptrT vs h0 h1 hv=>exact .ptrT vs h0 h1 hv
 | slc h hl hc hn hx=>exact .slc h hl hc hn hx
 | slcT vs h0 h1 hv hl hf hx=>exact .slcT vs h0 h1 hv hl hf hx
 | slcN=>exact .slcN
 | map h=>exact .map h
 | yld h=>exact .yld h
 | fn ha hb va vb=>exact .fn ha hb va vb
 | agg hs h1 hv=>exact .agg hs h1 hv
 | tup hs hv=>exact .tup hs hv
theorem yM (sz:Nat):∀ (c:Nat) (l:List AV),(Ef sz c l).length=l.length
 | c,[]=>by cases c<;>rfl
 | 0,v::l=>rfl
 | c+1,v::l=>by simp[Ef,yM sz c l]
theorem yN {p:aF} {M:Mu} {sz:Nat}:∀ (c:Nat) (l:List AV) (j:Nat) (x:Value),al p M (l.getD j .undef) x→al p M ((Ef sz c l).getD j .undef) x
 | c,[],j,x,h=>by cases c<;>exact h
 | 0,v::l,0,x,h=>yO h
 | 0,v::l,j+1,x,h=>h
 | c+1,v::l,0,x,h=>h
 | c+1,v::l,j+1,x,h=>yN c l j x h
theorem Gj {p:aF} {M:Mu} {c sz:Nat} {B:an} {x o t:Nat} {w:World} (h:fB p M B x o t w):fB p M (uN c sz B) x o t w:=by
 cases B with
 | dead=>exact h
 | map es=>exact h
 | fmap kq f g c=>exact h
 | loop l=>exact h
 | row r =>
   cases r with
   | I k l=>exact h
   | F f m=>exact h
   | M l=>exact h
   | G l =>
     obtain ⟨cs,e,e1,e2,e3,e4⟩:=h;have hl:(Row.G (Ef sz c l)).len=(Row.G l).len:=by simp[Row.len,yM]
     refine ⟨cs,e,e1,e2,by rw[hl];exact e3,fun j hj=>?_⟩;rw[hl] at hj;exact ⟨yN c l j _ (e4 j hj).1,(e4 j hj).2⟩
theorem qc {c sz:Nat} {B:an}:uN c sz B≠.dead↔B≠.dead:=by
 cases B with
 | row r=>cases r<;>simp[uN]
 | dead=>simp[uN]
 | map es=>simp[uN]
 | fmap kq f g c=>simp[uN]
 | loop l=>simp[uN]
theorem vH (c sz:Nat):∀ (l:List (Nat×an)) (i:Nat),au (l8 c sz l) i=((au l i).1,uN c sz (au l i).2)
 | [],i=>rfl
 | (v,b)::r,0=>rfl
 | (v,b)::r,i+1=>vH c sz r i
theorem kK (c sz:Nat):∀ (l:List (Nat×an)),(l8 c sz l).length=l.length
 | []=>rfl
 | (v,b)::r=>by simp[l8,kK c sz r]
theorem yL {p1:aF} {M1:Mu} {w1:World} {l:bJ} {r:ab} (hH:bj p1 M1 (l::r) w1) (hl:l.lock=false) (c sz:Nat) :
 cC p1 M1 (l::r) w1 p1 M1 ({ l with bs:=l8 c sz l.bs } :: r) w1:=by
 have get:∀ d j,az ({ l with bs:=l8 c sz l.bs } :: r) d j=if d=0 then ((au l.bs j).1,uN c sz (au l.bs j).2) else az (l::r) d j:=by
  intro d j;cases d with
  | zero =>
    rw[if_pos rfl];exact vH c sz l.bs j
  | succ d=>rw[if_neg wO];rfl
 have back:∀ d j v B,az ({ l with bs:=l8 c sz l.bs } :: r) d j=(v,B)→B≠.dead→∃ B',az (l::r) d j=(v,B')∧B'≠.dead:=by
  intro d j v B hg' hB;rw[get] at hg';split at hg'
  · rename_i hd;subst hd;simp only[Prod.mk.injEq] at hg';obtain ⟨e1,e2⟩:=hg';exact ⟨(au l.bs j).2,by rw[← e1];rfl,by rw[← e2] at hB;exact qc.1 hB⟩
  · exact ⟨B,hg',hB⟩
 have rel:bj p1 M1 ({ l with bs:=l8 c sz l.bs } :: r) w1:=by
  refine ⟨hH.pers,?_,?_,?_⟩
  · intro d j v B hg' hB;rw[get] at hg';split at hg'
    · rename_i hd;subst hd;simp only[Prod.mk.injEq] at hg';obtain ⟨e1,e2⟩:=hg';have hB':(au l.bs j).2≠.dead:=by rw[← e2] at hB;exact qc.1 hB
      have hg2:az (l::r) 0 j=(v,(au l.bs j).2):=by rw[← e1];rfl
      obtain ⟨b',o',t',q1,q2,q3⟩:=hH.live 0 j v _ hg2 hB';refine ⟨b',o',t',q1,?_,q3⟩;rw[← e2];exact Gj q2
    · exact hH.live d j v B hg' hB
  · intro d j v B d' j' v' B' b1 o1 t1 o2 t2 hg1 hB1 hg2 hB2 hm1 hm2;obtain ⟨C1,q1,q2⟩:=back _ _ _ _ hg1 hB1;obtain ⟨C2,q3,q4⟩:=back _ _ _ _ hg2 hB2;exact hH.apart d j v C1 d' j' v' C2 b1 o1 t1 o2 t2 q1 q2 q3 q4 hm1 hm2
  · intro d j v t' hm;have h0:=hH.dom d j v t' hm;rw[get];cases d with
    | succ d=>rw[if_neg wO];exact h0
    | zero =>
      refine ⟨?_,?_⟩
      · show j<(l8 c sz l.bs).length;rw[kK];exact h0.1
      · rw[if_pos rfl];have h1:(au l.bs j).2≠.dead→v≤(au l.bs j).1:=h0.2;exact fun hne=>h1 (qc.1 hne)
 refine ⟨aF.le.refl _,Mu.le.refl _,rel,dx.refl _ _,fun b' hb' hk d j v B hg' hB hlk o' t' hm=>?_,fun b' o' v hp=>.inl hp,fun d j v b' o' t' hm=>.inr ⟨d,j,v,o',t',Nat.le_refl _,hm⟩,fun d=>?_,fun d j hd hlk=>?_,fun d hd hlk=>?_,rfl,fun d=>?_,fun d j v t' hm=>.inl hm⟩
 · obtain ⟨C1,q1,q2⟩:=back _ _ _ _ hg' hB
   have hlk':aL (l::r) d=false:=by cases d<;>exact hlk
   exact hk d j v C1 q1 q2 hlk' o' t' hm
 · cases d<;>rfl
 · rw[get,if_neg hd]
 · cases d with
   | zero=>exact absurd rfl hd
   | succ d=>rfl
 · cases d with
   | zero =>
     show l.bs.length≤(l8 c sz l.bs).length
     rw[kK];exact Nat.le_refl _
   | succ d=>exact Nat.le_refl _
theorem Ii {p p1:aF} {M M1:Mu} {H H1:ab} {w w1:World} {nt m:Nat} {fr:aA} {a:Act} (hE:cC p M H w p1 M1 H1 w1) (hF:bX p1 M1 nt (bT fr m) a) {n0:Nat} (hM:Marks n0 M1 H1 w1 a.defers) :
 ∃ p2,cC p M H w p2 M1 (D5 (bT fr m) H1).2 w1∧bX p2 M1 nt (D5 (bT fr m) H1).1 a∧Marks n0 M1 (D5 (bT fr m) H1).2 w1 a.defers:=by
 cases H1 with
 | nil=>exact ⟨p1,hE,hF,hM⟩
 | cons l r =>
   cases hl:l.lock with
   | true =>
     have e:D5 (bT fr m) (l::r)=(bT fr m,l::r):=by unfold D5;dsimp only;rw[hl];rfl
     rw[e]
     exact ⟨p1,hE,hF,hM⟩
   | false =>
     have e:D5 (bT fr m) (l::r)=((iN l.bs.length (bT fr m) l).1,(iN l.bs.length (bT fr m) l).2::r):=by unfold D5;dsimp only;rw[hl];rfl
     rw[e]
     obtain ⟨p2,h1,h2,_⟩:=sD hE.rel hF hl l.bs.length
     exact ⟨p2,hE.trans h1,h2,hM.xB h1⟩
theorem FY {p p1:aF} {M M1:Mu} {H H1:ab} {w w1:World} {nt m:Nat} {fr:aA} {a:Act} (hE:cC p M H w p1 M1 H1 w1) (hF:bX p1 M1 nt (bT fr m) a) {n0:Nat} (hM:Marks n0 M1 H1 w1 a.defers) :
 ∃ p2,cC p M H w p2 M1 (uF (bT fr m) H1).2 w1∧bX p2 M1 nt (uF (bT fr m) H1).1 a∧Marks n0 M1 (uF (bT fr m) H1).2 w1 a.defers:=by
 cases H1 with
 | nil=>exact ⟨p1,hE,hF,hM⟩
 | cons l r =>
   cases hl:l.lock with
   | true =>
     have e:uF (bT fr m) (l::r)=(bT fr m,l::r):=by unfold uF;dsimp only;rw[hl];rfl
     rw[e]
     exact ⟨p1,hE,hF,hM⟩
   | false =>
     have e:uF (bT fr m) (l::r)=((ew l.bs.length (bT fr m) l).1,(ew l.bs.length (bT fr m) l).2::r):=by unfold uF;dsimp only;rw[hl];rfl
     rw[e]
     obtain ⟨p2,h1,h2,_⟩:=qD hE.rel hF hl l.bs.length
     exact ⟨p2,hE.trans h1,h2,hM.xB h1⟩
theorem A6 {p p1:aF} {M M1:Mu} {H H1:ab} {w w1:World} {nt m:Nat} {fr:aA} {a:Act} (hE:cC p M H w p1 M1 H1 w1) (hF:bX p1 M1 nt (bT fr m) a) {n0:Nat} (hM:Marks n0 M1 H1 w1 a.defers) :
 ∃ p2,cC p M H w p2 M1 (iO m fr H1).2 w1∧bX p2 M1 nt (iO m fr H1).1 a∧Marks n0 M1 (iO m fr H1).2 w1 a.defers:=by
 unfold iO
 split
 · obtain ⟨p2,h1,h2,h3⟩:=Ii hE hF hM
   split
   · exact ⟨p2,h1,h2,h3⟩
   · generalize (D5 (bT fr m) H1).2=H2 at h1 h3 ⊢
     unfold uO
     cases H2 with
     | nil=>exact ⟨p2,h1,h2,h3⟩
     | cons l r =>
       dsimp only
       cases hl:l.lock with
       | true=>rw[if_pos rfl];exact ⟨p2,h1,h2,h3⟩
       | false =>
         rw[if_neg (by simp)]
         have k:=yL h1.rel hl (Nat.shiftRight m 4003 % 8) (Nat.shiftRight m 4003 / 8)
         rw[hl] at k
         exact ⟨p2,h1.trans k,h2,h3.xB k⟩
 · split
   · unfold wA
     cases H1 with
     | nil=>exact ⟨p1,hE,hF,hM⟩
     | cons l r =>
       dsimp only
       cases hl:l.lock with
       | true=>rw[if_pos rfl];exact ⟨p1,hE,hF,hM⟩
       | false =>
         rw[if_neg (by simp)]
         split
         · rename_i i _
           obtain ⟨p2,h1,h2,_⟩:=pT hE.rel hF hl i
           exact ⟨p2,hE.trans h1,h2,hM.xB h1⟩
         · exact ⟨p1,hE,hF,hM⟩
   · split
     · split
       · exact FY hE hF hM
       · exact ⟨p1,hE,hF,hM⟩
     · exact ⟨p1,hE,hF,hM⟩
theorem Gk {p p1:aF} {M M1:Mu} {H H1:ab} {w w1:World} {a:Act} (hE:cC p M H w p1 M1 H1 w1) {n0:Nat} (hM:Marks n0 M1 H1 w1 a.defers) (k:Nat) :
 cC p M H w p1 M1 (uO k H1) w1∧Marks n0 M1 (uO k H1) w1 a.defers:=by
 unfold uO
 cases H1 with
 | nil=>exact ⟨hE,hM⟩
 | cons l r =>
   dsimp only
   cases hl:l.lock with
   | true=>rw[if_pos rfl];exact ⟨hE,hM⟩
   | false =>
     rw[if_neg (by simp)]
     have q:=yL hE.rel hl (k % 8) (k / 8)
     rw[hl] at q
     exact ⟨hE.trans q,hM.xB q⟩
theorem A7 {p p1:aF} {M M1:Mu} {H H1:ab} {w w1:World} {nt m:Nat} {fr:aA} {a:Act} (hE:cC p M H w p1 M1 H1 w1) (hF:bX p1 M1 nt (bT fr m) a) {n0:Nat} (hM:Marks n0 M1 H1 w1 a.defers) :
 ∃ p2,cC p M H w p2 M1 (kE m fr H1).2 w1∧bX p2 M1 nt (kE m fr H1).1 a∧Marks n0 M1 (kE m fr H1).2 w1 a.defers:=by
 obtain ⟨p2,h1,h2,h3⟩:=A6 hE hF hM
 unfold kE
 split
 · split
   · obtain ⟨k1,k2⟩:=Gk h1 h3 (Nat.shiftRight m 3985 % 4096)
     exact ⟨p2,k1,h2,k2⟩
   · exact ⟨p2,h1,h2,h3⟩
 · exact ⟨p2,h1,h2,h3⟩
theorem yK {p:aF} {M:Mu} {s sz:Nat}:∀ (fr:aA) (x:Nat) {c:Value},al p M (bM fr x) c→al p M (bM (Ee s sz fr) x) c
 | [],x,c,h=>h
 | (y,v)::r,x,c,h=>by
   simp only[Ee,bM] at h ⊢;split at h
   · rename_i e;rw[if_pos e];cases Nat.beq y s with
     | true=>exact yO h
     | false=>exact h
   · rename_i e;rw[if_neg e];exact yK r x h
theorem A8 {p p1:aF} {M M1:Mu} {H H1:ab} {w w1:World} {nt m:Nat} {fr:aA} {a:Act} (hE:cC p M H w p1 M1 H1 w1) (hF:bX p1 M1 nt (bT fr m) a) {n0:Nat} (hM:Marks n0 M1 H1 w1 a.defers) :
 ∃ p2,cC p M H w p2 M1 (kF m fr H1).2 w1∧bX p2 M1 nt (kF m fr H1).1 a∧Marks n0 M1 (kF m fr H1).2 w1 a.defers:=by
 obtain ⟨p2,h1,h2,h3⟩:=A7 hE hF hM
 unfold kF
 split
 · exact ⟨p2,h1,⟨h2.size,fun x=>yK _ x (h2.at_ x)⟩,h3⟩
 · exact ⟨p2,h1,h2,h3⟩
theorem xU:∀ (fr:aA) (x:Nat),bM (Eg fr) x=ju (bM fr x)
 | [],x=>rfl
 | (y,v)::r,x=>by
   simp only[Eg,bM];split
   · rfl
   · exact xU r x
theorem vt {p p1:aF} {M M1:Mu} {H H1:ab} {w w1:World} {nt m:Nat} {fr:aA} {a:Act} (hE:cC p M H w p1 M1 H1 w1) (hF:bX p1 M1 nt (bT fr m) a) {n0:Nat} (hM:Marks n0 M1 H1 w1 a.defers) :
 ∃ p2,cC p M H w p2 M1 (oW m fr H1).2 w1∧bX p2 M1 nt (oW m fr H1).1 a∧Marks n0 M1 (oW m fr H1).2 w1 a.defers:=by
 obtain ⟨p2,h1,h2,h3⟩:=A8 hE hF hM
 unfold oW
 split
 · exact ⟨p2,h1,⟨h2.size,fun x=>by rw[xU];exact j7 (h2.at_ x)⟩,h3⟩
 · exact ⟨p2,h1,h2,h3⟩

end Go.Eng
