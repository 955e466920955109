/- The engine, part J: marks; cutting a level back. -/
import Derived.Test.YtgphpjdchnfjlaaDoorV6EngGx3
set_option linter.unusedVariables false
set_option linter.unusedSimpArgs false
namespace Go.Eng

def Marks (n0:Nat) (M:Mu) (H:aa) (w:World) (ds:List Deferred):Prop :=
 ∃ rs:List Nat,ds=rs.map (fun r=>{ target:=.collected r,args:=#[] })∧rs.Nodup∧n0≤w.heap.size∧∀ r ∈ rs,w.heap[r]?=some (.deferred (some []))∧bD M H r∧n0≤r

theorem Marks.nil (M:Mu) (H:aa) (w:World):Marks w.heap.size M H w []:=⟨[],rfl,List.nodup_nil,Nat.le_refl _,fun r hr=>by simp at hr⟩
theorem Marks.ye {p p':aL} {M M':Mu} {H H':aa} {w w':World} {n0:Nat} {ds:List Deferred} (h:Marks n0 M H w ds) (hE:cG p M H w p' M' H' w'):Marks n0 M' H' w' ds:=by
 obtain ⟨rs,h1,h2,h0,h3⟩:=h;refine ⟨rs,h1,h2,Nat.le_trans h0 hE.stay.size,fun r hr=>?_⟩;obtain ⟨k1,k2,k3⟩:=h3 r hr;have hlt:r<w.heap.size:=(Array.getElem?_eq_some_iff.1 k1).1;exact ⟨by rw[hE.stay.block r hlt k2];exact k1,hE.bD r hlt k2,k3⟩

def eQ (n:Nat) (M:Mu):Mu:=fun d i v=>if d=0∧n≤i then none else M d i v
theorem kF (n:Nat) (M:Mu):Mu.le (eQ n M) M:=fun d i v t h=>by
 simp only[eQ] at h;split at h
 · cases h
 · exact h
theorem Gv (n k:Nat) (M:Mu) (hk:0<k):(eQ n M).up k=M.up k:=by
 funext d i v;simp only[Mu.up,eQ];rw[if_neg wO]

theorem Gw (n s:Nat) (M:Mu):p7 (eQ n M) (some (s+1))=p7 M (some (s+1)):=by
 funext d i v;show eQ n M (d+(s+1)) i v=M (d+(s+1)) i v;simp only[eQ];rw[if_neg];omega
theorem Gh {p:aL} {M N:Mu} {v:AV} {c:Value} (hv:EC v=true) (h:an p M v c):an p N v c:=by
 cases h with
 | bool b=>exact .bool b
 | int k n=>exact .int k n
 | nils=>exact .nils
 | ptrT vs h0 h1 hr =>
   rename_i s r off b o;cases s with
   | none=>exact .ptrT vs h0 h1 hr
   | some s=>simp[EC] at hv
 | slcT vs h0 h1 hr hl hf hx =>
   rename_i s r sz len b o x cc full;cases s with
   | none=>exact .slcT vs h0 h1 hr hl hf hx
   | some s=>simp[EC] at hv
 | slcN=>exact .slcN
 | _=>simp[EC] at hv
theorem Gg {p:aL} {M N:Mu} {r:Row} {vs:Nat→Value} (hr:Pv r=true) (h:∀ j,j<r.len→an p (jN M r) (r.get j) (vs j)):∀ j,j<r.len→an p (jN N r) (r.get j) (vs j):=by
 cases r with
 | I k l=>exact fun j hj=>(h j hj).bx _ _
 | F f m=>exact h
 | G l =>
   intro j hj;have hj':j<l.length:=hj;have:EC (l.getD j .undef)=true:=by
    have:=List.all_eq_true.1 hr (l.getD j .undef) (by simp[hj']);exact this
   exact Gh this (h j hj)
 | M l=>exact bk.fY hr h
theorem b7 {p:aL} {M:Mu} {n:Nat} {v:AV} {c:Value} (hr:mc n v=false) (h:an p M v c):an p (eQ n M) v c:=by
 have here:∀ {d i:Nat},(Nat.beq d 0 && Nat.ble n i)=false→∀ ver,eQ n M d i ver=M d i ver:=by
  intro d i e ver;simp only[eQ];rw[if_neg];rintro ⟨rfl,h2⟩;have:Nat.ble n i=true:=by simpa using h2
  simp[this] at e
 cases h with
 | undef c=>exact .undef c
 | bool b=>exact .bool b
 | int k n=>exact .int k n
 | str s=>exact .str s
 | nilp=>exact .nilp
 | nils=>exact .nils
 | nilm=>exact .nilm
 | nilf=>exact .nilf
 | ptr h=>exact .ptr (by rw[here hr];exact h)
 | ptrT vs h0 h1 hv =>
   rename_i s r off b o;cases s with
   | none=>exact .ptrT vs h0 h1 hv
   | some s =>
     cases s with
     | zero=>exact .ptrT vs h0 h1 (Gg (by simpa[mc,Df] using hr) hv)
     | succ s=>exact .ptrT vs h0 h1 (by rw[Gw];exact hv)
 | slc h hl hc hn hx=>exact .slc (by rw[here hr];exact h) hl hc hn hx
 | slcT vs h0 h1 hv hl hf hx =>
   rename_i s r sz len b o x cc full;cases s with
   | none=>exact .slcT vs h0 h1 hv hl hf hx
   | some s =>
     cases s with
     | zero=>simp[mc,Df] at hr
     | succ s=>exact .slcT vs h0 h1 (by rw[Gw];exact hv) hl hf hx
 | slcN=>exact .slcN
 | map h=>exact .map (by rw[here hr];exact h)
 | yld h=>exact .yld (by rw[here hr];exact h)
 | fn=>simp[mc] at hr
 | agg hs h1 hv =>
   rename_i r cs;cases r with
   | I k l=>exact .agg hs h1 (fun j hj=>(hv j hj).bx _ _)
   | F f m=>exact .agg hs h1 hv
   | G l=>simp[mc] at hr
   | M l=>exact .agg hs h1 (bk.fY (by simpa[mc] using hr) hv)
 | tup hs hv =>
   rename_i l cs;cases l with
   | nil=>exact .tup hs (fun j hj=>absurd hj (by simp))
   | cons=>simp[mc] at hr

theorem mn {p q:aL} {M N:Mu} {f:AV→Bool}:∀ {l:List dp} {vs:Nat→Value},anyM f l=false→(∀ v c,f v=false→an p M v c→an q N v c)→(∀ j,j<aE l→an p M (getM l j) (vs j))→∀ j,j<aE l→an q N (getM l j) (vs j)
 | [],_,_,_,_,j,hj=>by simp[aE] at hj
 | .one v::r,vs,hr,hf,hv,0,hj=>by
   simp only[anyM,Bool.or_eq_false_iff] at hr;exact hf _ _ hr.1 (hv 0 hj)
 | .one v::r,vs,hr,hf,hv,j+1,hj=>by
   simp only[anyM,Bool.or_eq_false_iff] at hr;have hj':j<aE r:=by simp[aE,aU] at hj;omega
   exact mn (vs:=fun j=>vs (j+1)) hr.2 hf (fun j hj=>hv (j+1) (by simp[aE,aU];omega)) j hj'
 | .arr k z n::r,vs,hr,hf,hv,j,hj=>by
   have h0:=hv j hj;simp only[getM] at h0 ⊢;by_cases e:j<n
   · rw[if_pos e] at h0 ⊢;exact h0.bx _ _
   · rw[if_neg e] at h0 ⊢;have hj':j-n<aE r:=by simp[aE,aU] at hj;omega
     have:=mn (p:=p) (M:=M) (q:=q) (N:=N) (l:=r) (vs:=fun i=>vs (i+n)) hr hf (fun i hi=>by
      have:=hv (i+n) (by simp[aE,aU];omega);simp only[getM] at this;rw[if_neg wO,Nat.add_sub_cancel] at this;exact this) (j-n) hj'
     rw[Nat.sub_add_cancel wO] at this;exact this
theorem kU {p:aL} {M:Mu} {n:Nat} {v:AV} {c:Value} (hr:vG n v=false) (h:an p M v c):an p (eQ n M) v c:=by
 have getF:∀ {l:List AV} {j:Nat},l.any (mc n)=false→j<l.length→mc n (l.getD j .undef)=false:=by
  intro l j h hj;have:=List.any_eq_false.1 h (l.getD j .undef) (by simp[hj]);simpa using this
 cases v with
 | agg r =>
   cases r with
   | G l =>
     cases h with
     | agg hs h1 hv=>exact .agg hs h1 (fun j hj=>b7 (getF hr hj) (hv j hj))
   | I k l=>exact b7 hr h
   | F f m=>exact b7 hr h
   | M l =>
     cases h with
     | agg hs h1 hv=>exact .agg hs h1 (mn hr (fun v c e h=>b7 e h) hv)
 | fn f x y =>
   cases h with
   | fn hx hy vx vy =>
     simp only[vG,Bool.or_eq_false_iff] at hr;exact .fn hx hy (fun j hj=>b7 (getF hr.1 hj) (vx j hj)) (fun j hj=>b7 (getF hr.2 hj) (vy j hj))
 | undef=>exact b7 hr h
 | bool=>exact b7 hr h
 | int=>exact b7 hr h
 | str=>exact b7 hr h
 | nilp=>exact b7 hr h
 | nils=>exact b7 hr h
 | nilm=>exact b7 hr h
 | nilf=>exact b7 hr h
 | ptr=>exact b7 hr h
 | ptrT s r off =>
   have other:(∀ l,s=some 0→r≠.M l)→mc n (.ptrT s r off)=false:=fun hn=>by
    rcases s with _ | s
    · rfl
    · cases s with
      | succ s=>rfl
      | zero =>
        cases r with
        | M l=>exact absurd rfl (hn l rfl)
        | I=>exact hr
        | F=>exact hr
        | G=>exact hr
   by_cases e:∃ l,s=some 0∧r=.M l
   · obtain ⟨l,rfl,rfl⟩:=e;cases h with
     | ptrT vs h0 h1 hv =>
       refine .ptrT vs h0 h1 ?_;have e1:jN (p7 M (some 0)) (.M l)=M:=Mu.nB M;have e2:jN (p7 (eQ n M) (some 0)) (.M l)=eQ n M:=Mu.nB _;rw[e1] at hv;rw[e2];exact mn hr (fun v c e h=>b7 e h) hv
   · exact b7 (other fun l h1 h2=>e ⟨l,h1,h2⟩) h
 | slc=>exact b7 hr h
 | slcT=>exact b7 hr h
 | map=>exact b7 hr h
 | yld=>exact b7 hr h
 | tup=>exact b7 hr h

theorem HM {p:aL} {M:Mu} {n:Nat} {B:ak} {b o t:Nat} {w:World} (hr:Ki n B=false) (h:fP p M B b o t w):fP p (eQ n M) B b o t w:=by
 cases B with
 | dead=>trivial
 | row r =>
   obtain ⟨c,e,e1,e2,e3,e4⟩:=h;refine ⟨c,e,e1,e2,e3,fun j hj=>?_⟩;cases r with
   | I k l=>exact ⟨(e4 j hj).1.bx _ _,(e4 j hj).2⟩
   | F f m=>exact e4 j hj
   | M l=>exact ⟨mn (vs:=fun j=>c.getD (o+j) Go.undef) hr (fun v c e h=>kU e h) (fun j hj=>(e4 j hj).1) j hj,(e4 j hj).2⟩
   | G l =>
     refine ⟨kU ?_ (e4 j hj).1,(e4 j hj).2⟩;have hj':j<l.length:=hj;have:=List.any_eq_false.1 hr (l.getD j .undef) (by simp[hj']);simpa[Row.get] using this
 | map es =>
   obtain ⟨ces,clock,h1,h2,h3,h4⟩:=h;refine ⟨ces,clock,h1,h2,h3,fun j hj=>?_⟩;have hm:es.getD j (.undef,.undef) ∈ es:=by
    rw[List.getD_eq_getElem?_getD,List.getElem?_eq_getElem wO];exact List.getElem_mem _
   have hn:(es.any fun e=>vG n e.1 || vG n e.2)=false:=hr;have:=List.any_eq_false.1 hn _ hm;simp only[Bool.or_eq_true,not_or,Bool.not_eq_true] at this;exact ⟨kU this.1 (h4 j hj).1,kU this.2 (h4 j hj).2⟩
 | fmap kq f g c=>exact yE _ _ h
 | loop l=>simp[Ki] at hr

theorem fO:∀ (l:List (Nat×ak)) (n i:Nat),av (l.take n) i=if i<n then av l i else (0,.dead)
 | [],n,i=>by simp[av]
 | b::l,0,i=>by simp[av]
 | b::l,n+1,0=>by simp[av]
 | b::l,n+1,i+1=>by simp[av,fO l n i]
theorem lL:∀ {l:List (Nat×ak)} {i:Nat},(av l i).2≠.dead→av l i ∈ l
 | [],_,h=>by simp[av] at h
 | b::l,0,_=>by simp[av]
 | b::l,i+1,h=>by simp only[av];exact List.mem_cons_of_mem _ (lL (l:=l) (i:=i) h)

theorem sS:∀ (fr:aD) (x:Nat),bO fr x=.undef∨∃ y,(y,bO fr x) ∈ fr
 | [],x=>.inl rfl
 | (y,v)::r,x=>by
   simp only[bO];split
   · exact .inr ⟨y,by simp⟩
   · rcases sS r x with h | ⟨z,h⟩
     · exact .inl h
     · exact .inr ⟨z,by simp[h]⟩

theorem vU {p p1:aL} {M M1:Mu} {H:aa} {w w1:World} {nt:Nat} {fr:aD} {a:Act} {l:bB} {r:aa} (hE:cG p M H w p1 M1 (l::r) w1) (hF:bZ p1 M1 nt fr a) {n0:Nat} (hM:Marks n0 M1 (l::r) w1 a.defers) (hdom:∀ d i v t,M d i v=some t→i<ao H d) :
 ∀ (k m:Nat),aY H≤m→∃ M2,cG p M H w p1 M2 (cutAt fr l r k m) w1∧bZ p1 M2 nt fr a∧Marks n0 M2 (cutAt fr l r k m) w1 a.defers
 | 0,m,_=>⟨M1,hE,hF,hM⟩
 | k + 1, m,hm0=>by
   unfold cutAt;split
   · exact vU hE hF hM hdom k (m+1) wO
   · rename_i hno;have hno:fr.any (fun x=>vG m x.2)=false∧(l.bs.take m).any (fun x=>Ki m x.2)=false:=by simpa using hno
     obtain ⟨hno1,hno2⟩:=hno;have get:∀ d i,aB ({ l with bs:=l.bs.take m } :: r) d i=if d=0∧m≤i then (0,.dead) else aB (l::r) d i:=by
      intro d i;cases d with
      | zero =>
        simp only[aB,fO];by_cases e:i<m
        · rw[if_pos e,if_neg wO]
        · rw[if_neg e,if_pos ⟨by trivial,Nat.le_of_not_lt e⟩]
      | succ d=>simp[aB]
     have rel:bn p1 (eQ m M1) ({ l with bs:=l.bs.take m } :: r) w1:=by
      refine ⟨hE.rel.pers,?_,?_,?_⟩
      · intro d i v B hg hB;rw[get] at hg;split at hg
        · simp only[Prod.mk.injEq] at hg;exact absurd hg.2.symm hB
        · rename_i e;obtain ⟨b,o,t,k1,k2,k3⟩:=hE.rel.live d i v B hg hB;refine ⟨b,o,t,by simp only[eQ];rw[if_neg e];exact k1,?_,k3⟩;cases d with
          | succ d=>rw[Gv _ _ _ wO];exact k2
          | zero =>
            refine HM ?_ k2;have hi:i<m:=Nat.lt_of_not_le fun e'=>e ⟨rfl,e'⟩;have hg':av l.bs i=(v,B):=hg;have hm:av (l.bs.take m) i ∈ l.bs.take m:=lL (by rw[fO,if_pos hi,hg'];exact hB);rw[fO,if_pos hi,hg'] at hm;have:=List.any_eq_false.1 hno2 _ hm;simpa using this
      · intro d i v B d' i' v' B' b o t o' t' hg hB hg' hB' hm hm';rw[get] at hg hg';split at hg
        · simp only[Prod.mk.injEq] at hg;exact absurd hg.2.symm hB
        · split at hg'
          · simp only[Prod.mk.injEq] at hg';exact absurd hg'.2.symm hB'
          · exact hE.rel.apart d i v B d' i' v' B' b o t o' t' hg hB hg' hB' (kF _ _ _ _ _ _ hm) (kF _ _ _ _ _ _ hm')
      · intro d i v t hm;have h0:=hE.rel.dom d i v t (kF _ _ _ _ _ _ hm);have hne:¬ (d=0∧m≤i):=by
         intro e;simp only[eQ] at hm;rw[if_pos e] at hm;cases hm
        rw[get,if_neg hne];refine ⟨?_,h0.2⟩;cases d with
        | zero =>
          have h1:i<l.bs.length:=h0.1;have h2:i<m:=Nat.lt_of_not_le fun e=>hne ⟨rfl,e⟩;simp only[ao,List.length_take];omega
        | succ d=>exact h0.1
     have keepc:∀ b,bD M1 (l::r) b→bD (eQ m M1) ({ l with bs:=l.bs.take m } :: r) b:=by
      intro b hk d i v B hg hB hl o t hm;rw[get] at hg;split at hg
      · simp only[Prod.mk.injEq] at hg;exact absurd hg.2.symm hB
      · exact hk d i v B hg hB (by cases d<;>exact hl) o t (kF _ _ _ _ _ _ hm)
     refine ⟨eQ m M1,⟨hE.pst,?_,rel,hE.stay,fun b hb hk=>keepc b (hE.bD b hb hk),hE.fresh,fun d i v b o t hm=>hE.own d i v b o t (kF _ _ _ _ _ _ hm),fun d=>?_,fun d i hd hl=>?_,fun d hd hl=>?_,hE.len,fun d=>?_,fun d i v t hm=>hE.new d i v t (kF _ _ _ _ _ _ hm)⟩,⟨hF.size,fun x=>?_⟩,?_⟩
     · intro d i v t hm;have:=hE.mu d i v t hm;have h0:=hdom d i v t hm;simp only[eQ];rw[if_neg]
       · exact this
       · rintro ⟨rfl,e⟩;rw[br] at h0;omega
     · have:=hE.lock d;cases d<;>exact this
     · rw[get,if_neg (fun e=>hd e.1)];exact hE.same d i hd hl
     · have:=hE.next d hd hl;cases d with
       | zero=>exact absurd rfl hd
       | succ d=>exact this
     · have:=hE.grow d;cases d with
       | zero=>rw[br] at this ⊢;simp only[ao,List.length_take] at this ⊢;omega
       | succ d=>exact this
     · rcases sS fr x with e | ⟨y,e⟩
       · rw[e];exact .undef _
       · refine kU ?_ (hF.at_ x);have:=List.any_eq_false.1 hno1 _ e;simpa using this
     · obtain ⟨rs,h1,h2,h0,h3⟩:=hM;exact ⟨rs,h1,h2,h0,fun x hx=>⟨(h3 x hx).1,keepc x (h3 x hx).2.1,(h3 x hx).2.2⟩⟩

theorem rU {p p1:aL} {M M1:Mu} {H H1:aa} {w w1:World} {nt:Nat} {fr:aD} {a:Act} (hE:cG p M H w p1 M1 H1 w1) (hF:bZ p1 M1 nt fr a) {n0:Nat} (hM:Marks n0 M1 H1 w1 a.defers) (hdom:∀ d i v t,M d i v=some t→i<ao H d) :
 ∃ M2,cG p M H w p1 M2 (mA (aY H) fr H1) w1∧bZ p1 M2 nt fr a∧Marks n0 M2 (mA (aY H) fr H1) w1 a.defers:=by
 unfold mA
 cases H1 with
 | nil=>exact ⟨M1,hE,hF,hM⟩
 | cons l r =>
   simp only
   split
   · exact ⟨M1,hE,hF,hM⟩
   · exact vU hE hF hM hdom 4 (aY H) (Nat.le_refl _)

def jz (a b:Nat) (M:Mu):Mu:=fun d i v=>if d=0 then (if i=b then M 0 a v else if i=a then none else M 0 i v) else M d i v
theorem JW (a b k:Nat) (M:Mu) (hk:0<k):(jz a b M).up k=M.up k:=by
 funext d i v;simp only[Mu.up,jz];rw[if_neg wO]
theorem tR (M:Mu):M.up 0=M:=by
 funext d i v;rfl
theorem Jk (a b:Nat) (M:Mu):Mu.le (eQ 0 M) (jz a b M):=fun d i v t h=>by
 simp only[eQ] at h;simp only[jz];split at h
 · cases h
 · rename_i e;rw[if_neg (fun e2=>e ⟨e2,Nat.zero_le _⟩)];exact h
theorem sd {a b:Nat} {M:Mu} {d i v:Nat} (hu:(Nat.beq d 0 && Nat.beq i b)=false) (ha:¬ (d=0∧i=a)):jz a b M d i v=M d i v:=by
 simp only[jz];by_cases hd:d=0
 · subst hd;rw[if_pos rfl,if_neg (by
    rintro rfl;simp at hu),if_neg (fun h=>ha ⟨rfl,h⟩)]
 · rw[if_neg hd]
theorem jQ {d i a:Nat}:(Nat.beq d 0 && Nat.beq i a)=true↔d=0∧i=a:=by simp
theorem HN {p:aL} {M:Mu} {v:AV} {c:Value} (hr:Kj v=false) (h:an p M v c):an p (eQ 0 M) v c:=by
 unfold Kj at hr;split at hr
 · exact kU (n:=0) hr h
 · exact b7 hr h
theorem cY {p:aL} {M:Mu} {a b:Nat} {v:AV} {c:Value} (hu:vJ b v=false) (h:an p M v c):an p (jz a b M) (vB a b v) c:=by
 have other:∀ v,Kj v=false→an p M v c→an p (jz a b M) v c:=fun v h1 h2=>(HN h1 h2).mono (aL.le.refl p) (Jk a b M);have eb:∀ ver,jz a b M 0 b ver=M 0 a ver:=fun ver=>by simp[jz]
 cases h with
 | ptr h =>
   rename_i d i ver off blk o t;simp only[vB];by_cases e:d=0∧i=a
   · rw[if_pos (jQ.2 e)];obtain ⟨rfl,rfl⟩:=e;exact .ptr (by rw[eb];exact h)
   · rw[if_neg (fun h=>e (jQ.1 h))];exact .ptr (by rw[sd hu e];exact h)
 | slc h hl hc hn hx =>
   rename_i d i ver off sz len blk o t x cc cap;simp only[vB];by_cases e:d=0∧i=a
   · rw[if_pos (jQ.2 e)];obtain ⟨rfl,rfl⟩:=e;exact .slc (by rw[eb];exact h) hl hc hn hx
   · rw[if_neg (fun h=>e (jQ.1 h))];exact .slc (by rw[sd hu e];exact h) hl hc hn hx
 | map h =>
   rename_i d i blk o t;simp only[vB];by_cases e:d=0∧i=a
   · rw[if_pos (jQ.2 e)];obtain ⟨rfl,rfl⟩:=e;exact .map (by rw[eb];exact h)
   · rw[if_neg (fun h=>e (jQ.1 h))];exact .map (by rw[sd hu e];exact h)
 | yld h =>
   rename_i d i blk o t;simp only[vB];by_cases e:d=0∧i=a
   · rw[if_pos (jQ.2 e)];obtain ⟨rfl,rfl⟩:=e;exact .yld (by rw[eb];exact h)
   · rw[if_neg (fun h=>e (jQ.1 h))];exact .yld (by rw[sd hu e];exact h)
 | undef c=>exact .undef c
 | bool b=>exact .bool b
 | int k n=>exact .int k n
 | str s=>exact .str s
 | nilp=>exact .nilp
 | nils=>exact .nils
 | nilm=>exact .nilm
 | nilf=>exact .nilf
 | ptrT vs h0 h1 hv=>exact other _ hu (.ptrT vs h0 h1 hv)
 | slcT vs h0 h1 hv hl hf hx=>exact other _ hu (.slcT vs h0 h1 hv hl hf hx)
 | slcN=>exact .slcN
 | fn ha hb va vb=>exact other _ hu (.fn ha hb va vb)
 | agg hs h1 hv=>exact other _ hu (.agg hs h1 hv)
 | tup hs hv=>exact other _ hu (.tup hs hv)
theorem getD_map {g:AV→AV} (h0:g .undef=.undef) (l:List AV) (j:Nat):(l.map g).getD j .undef=g (l.getD j .undef):=by
 induction l generalizing j with
 | nil=>simp[h0]
 | cons x l ih =>
   cases j with
   | zero=>rfl
   | succ j=>simpa using ih j
theorem np {p q:aL} {M N:Mu} {f:AV→Bool} {g:AV→AV} (hf:∀ v c,f v=false→an p M v c→an q N (g v) c):∀ {l:List dp} {vs:Nat→Value},anyM f l=false→(∀ j,j<aE l→an p M (getM l j) (vs j))→∀ j,j<aE l→an q N (getM (mapM' g l) j) (vs j)
 | [],_,_,_,j,hj=>by simp[aE] at hj
 | .one v::r,vs,hr,hv,0,hj=>by
   simp only[anyM,Bool.or_eq_false_iff] at hr;exact hf _ _ hr.1 (hv 0 hj)
 | .one v::r,vs,hr,hv,j+1,hj=>by
   simp only[anyM,Bool.or_eq_false_iff] at hr;have hj':j<aE r:=by simp[aE,aU] at hj;omega
   exact np hf (l:=r) (vs:=fun j=>vs (j+1)) hr.2 (fun j hj=>hv (j+1) (by simp[aE,aU];omega)) j hj'
 | .arr k z n::r,vs,hr,hv,j,hj=>by
   have h0:=hv j hj;simp only[getM,mapM'] at h0 ⊢;by_cases e:j<n
   · rw[if_pos e] at h0 ⊢;exact h0.bx _ _
   · rw[if_neg e] at h0 ⊢;have hj':j-n<aE r:=by simp[aE,aU] at hj;omega
     have:=np hf (l:=r) (vs:=fun i=>vs (i+n)) hr (fun i hi=>by
      have:=hv (i+n) (by simp[aE,aU];omega);simp only[getM] at this;rw[if_neg wO,Nat.add_sub_cancel] at this;exact this) (j-n) hj'
     rw[Nat.sub_add_cancel wO] at this;exact this
theorem oU {f:AV→Bool} {l:List AV} {j:Nat} (h:l.any f=false) (hj:j<l.length):f (l.getD j .undef)=false:=by
 have:=List.any_eq_false.1 h (l.getD j .undef) (by simp[hj]);simpa using this
theorem xA {p:aL} {M:Mu} {a b:Nat} {v:AV} {c:Value} (hu:qe (vJ b) v=false) (h:an p M v c):an p (jz a b M) (nH (vB a b) v) c:=by
 cases v with
 | agg r =>
   cases r with
   | G l =>
     cases h with
     | agg hs h1 hv=>exact .agg (by simpa[Row.len] using hs) (fun j hj=>h1 j (by simpa[Row.len] using hj)) (fun j hj=>by
        have hj:j<l.length:=by simpa[Row.len] using hj
        have:=cY (a:=a) (oU hu hj) (hv j hj);show an p _ ((l.map (vB a b)).getD j .undef) _;rw[getD_map rfl];exact this)
   | I k l=>exact cY (a:=a) (b:=b) (v:=.agg (.I k l)) hu h
   | F f m=>exact cY (a:=a) (b:=b) (v:=.agg (.F f m)) hu h
   | M l =>
     cases h with
     | agg hs h1 hv=>exact .agg (by simpa[Row.len,aX] using hs) (fun j hj=>h1 j (by simpa[Row.len,aX] using hj)) (fun j hj =>
        np (fun v c e h=>cY e h) (vs:=fun j=>(_:Array Value).getD j undef) hu hv j (by simpa[Row.len,aX] using hj))
 | fn f x y =>
   cases h with
   | fn hx hy vx vy =>
     simp only[qe,Bool.or_eq_false_iff] at hu;refine .fn (by simpa using hx) (by simpa using hy) (fun j hj=>?_) (fun j hj=>?_)
     · rw[getD_map rfl];exact cY (oU hu.1 (by simpa using hj)) (vx j (by simpa using hj))
     · rw[getD_map rfl];exact cY (oU hu.2 (by simpa using hj)) (vy j (by simpa using hj))
 | undef=>exact cY (a:=a) (b:=b) (v:=.undef) hu h
 | bool x=>exact cY (a:=a) (b:=b) (v:=.bool x) hu h
 | int x y=>exact cY (a:=a) (b:=b) (v:=.int x y) hu h
 | str x=>exact cY (a:=a) (b:=b) (v:=.str x) hu h
 | nilp=>exact cY (a:=a) (b:=b) (v:=.nilp) hu h
 | nils=>exact cY (a:=a) (b:=b) (v:=.nils) hu h
 | nilm=>exact cY (a:=a) (b:=b) (v:=.nilm) hu h
 | nilf=>exact cY (a:=a) (b:=b) (v:=.nilf) hu h
 | ptr d i v o=>exact cY (a:=a) (b:=b) (v:=.ptr d i v o) hu h
 | ptrT s r o=>exact cY (a:=a) (b:=b) (v:=.ptrT s r o) hu h
 | slc d i v o z l c=>exact cY (a:=a) (b:=b) (v:=.slc d i v o z l c) hu h
 | slcT s r z l f=>exact cY (a:=a) (b:=b) (v:=.slcT s r z l f) hu h
 | map d i=>exact cY (a:=a) (b:=b) (v:=.map d i) hu h
 | yld d i=>exact cY (a:=a) (b:=b) (v:=.yld d i) hu h
 | tup l=>exact cY (a:=a) (b:=b) (v:=.tup l) hu h
theorem JU {p:aL} {M:Mu} {a b:Nat} {B:ak} {x o t:Nat} {w:World} (hu:Bh (vJ b) B=false) (h:fP p M B x o t w):fP p (jz a b M) (qF (vB a b) B) x o t w:=by
 cases B with
 | dead=>trivial
 | row r =>
   obtain ⟨c,e,e1,e2,e3,e4⟩:=h;have hl:(Ha (vB a b) r).len=r.len:=by cases r<;>simp[Ha,Row.len,aX]
   refine ⟨c,e,e1,e2,by rw[hl];exact e3,fun j hj=>?_⟩;rw[hl] at hj;cases r with
   | I k l=>exact ⟨(e4 j hj).1.bx _ _,(e4 j hj).2⟩
   | F f m=>exact e4 j hj
   | M l=>exact ⟨np (fun v c e h=>xA e h) (vs:=fun j=>c.getD (o+j) Go.undef) hu (fun j hj=>(e4 j hj).1) j hj,(e4 j hj).2⟩
   | G l =>
     have hj':j<l.length:=hj;refine ⟨?_,(e4 j hj).2⟩;have:=xA (a:=a) (oU hu hj') (e4 j hj).1;show an p _ ((l.map (nH (vB a b))).getD j .undef) _;rw[getD_map rfl];exact this
 | map es=>simp[Bh] at hu
 | fmap kq f g c=>exact yE _ _ h
 | loop l=>simp[Bh] at hu

theorem lK (g:AV→AV):∀ (l:List (Nat×ak)) (i:Nat),av (jV g l) i=((av l i).1,qF g (av l i).2)
 | [],i=>rfl
 | (v,b)::r,0=>rfl
 | (v,b)::r,i+1=>lK g r i
theorem dW (g:AV→AV):∀ (l:List (Nat×ak)),(jV g l).length=l.length
 | []=>rfl
 | (v,b)::r=>by simp[jV,dW g r]
theorem jh {g:AV→AV} {B:ak}:qF g B≠.dead↔B≠.dead:=by cases B<;>simp[qF]
theorem tH (g:AV→AV) (h0:g .undef=.undef):∀ (fr:aD) (x:Nat),bO (qG g fr) x=nH g (bO fr x)
 | [],x=>by simp[qG,bO,nH,h0]
 | (y,v)::r,x=>by
   simp only[qG,bO];split
   · rfl
   · exact tH g h0 r x
theorem oN:∀ (l:List (Nat×ak)) (j:Nat) (x:Nat×ak) (i:Nat),j<l.length→av (bT l j x) i=if i=j then x else av l i
 | [],j,x,i,h=>by simp at h
 | y::r,0,x,0,h=>by simp[bT,av]
 | y::r,0,x,i+1,h=>by simp[bT,av]
 | y::r,j+1,x,0,h=>by simp[bT,av]
 | y::r,j+1,x,i+1,h=>by
   simp only[bT,av];rw[oN r j x i (by simpa using h)];simp
theorem jH:∀ (l:List (Nat×ak)) (j:Nat) (x:Nat×ak),(bT l j x).length=l.length
 | [],j,x=>rfl
 | y::r,0,x=>rfl
 | y::r,j+1,x=>by simp[bT,jH r j x]
theorem JV {a b:Nat} {l:bB} (ha:a<l.bs.length) (hb:b<a) (i:Nat):av (yg a b l).bs i=if i=b then ((av l.bs a).1,qF (vB a b) (av l.bs a).2) else if i<a then ((av l.bs i).1,qF (vB a b) (av l.bs i).2) else (0,.dead):=by
 unfold yg;dsimp only;rw[oN _ _ _ _ (by rw[dW];simp;omega)];by_cases e:i=b
 · rw[if_pos e,if_pos e]
 · rw[if_neg e,if_neg e,lK,fO];by_cases e2:i<a
   · rw[if_pos e2,if_pos e2]
   · rw[if_neg e2,if_neg e2];rfl
theorem DB {a b:Nat} {l:bB} (ha:a<l.bs.length):(yg a b l).bs.length=a:=by
 unfold yg;dsimp only;rw[jH,dW];simp;omega
theorem ru:∀ (l:List (Nat×ak)) (n i:Nat),av (l.drop n) i=av l (n+i)
 | [],n,i=>by simp[av]
 | b::l,0,i=>by simp
 | b::l,n+1,i=>by
   rw[show n+1+i=(n+i)+1 by omega];simp only[List.drop_succ_cons,av];exact ru l n i
theorem wc {fr:aD} {bs:List (Nat×ak)}:∀ {k m h:Nat},hole fr bs k m=some h→m≤h∧h+1<bs.length∧fr.any (fun x=>qe (vJ h) x.2)=false∧∀ i,i≠h→Bh (vJ h) (av bs i).2=false
 | 0,m,h,e=>by simp[hole] at e
 | k + 1,m,h,e=>by
   unfold hole at e;split at e
   · rename_i hlt;split at e
     · obtain ⟨h1,h2⟩:=wc e;exact ⟨by omega,h2⟩
     · rename_i hno;simp only[Option.some.injEq] at e;subst e;rw[Bool.not_eq_true,Bool.or_eq_false_iff,Bool.or_eq_false_iff] at hno;obtain ⟨n1,n2,n3⟩:=hno;refine ⟨Nat.le_refl _,by simpa using hlt,n1,fun i hi=>?_⟩;by_cases hd:(av bs i).2=.dead
       · rw[hd];rfl
       rcases Nat.lt_or_gt_of_ne hi with h1 | h1
       · have e0:av (bs.take m) i=av bs i:=by rw[fO,if_pos h1]
         have hm:av (bs.take m) i ∈ bs.take m:=lL (by rw[e0];exact hd);have:=List.any_eq_false.1 n2 _ hm;rw[e0] at this;simpa using this
       · have e0:av (bs.drop (m+1)) (i-(m+1))=av bs i:=by rw[ru];congr 1;omega
         have hm:av (bs.drop (m+1)) (i-(m+1)) ∈ bs.drop (m+1):=lL (by rw[e0];exact hd);have:=List.any_eq_false.1 n3 _ hm;rw[e0] at this;simpa using this
   · cases e

theorem NN {p p1:aL} {M M1:Mu} {H:aa} {w w1:World} {nt:Nat} {fr:aD} {a:Act} {l:bB} {r:aa} (hE:cG p M H w p1 M1 (l::r) w1) (hF:bZ p1 M1 nt fr a) {n0:Nat} (hM:Marks n0 M1 (l::r) w1 a.defers) (hdom:∀ d i v t,M d i v=some t→i<ao H d)
 {x h:Nat} (hx:x+1=l.bs.length) (hh:h<x) (hn:aY H≤h) (hfr:fr.any (fun x=>qe (vJ h) x.2)=false) (hbs:∀ i,i≠h→Bh (vJ h) (av l.bs i).2=false) :
 ∃ M2,cG p M H w p1 M2 (yg x h l::r) w1∧bZ p1 M2 nt (qG (vB x h) fr) a∧Marks n0 M2 (yg x h l::r) w1 a.defers:=by
 let old:Nat→Nat:=fun i=>if i=h then x else i
 have get0:∀ i,av (yg x h l).bs i=if i<x then ((av l.bs (old i)).1,qF (vB x h) (av l.bs (old i)).2) else (0,.dead):=by
  intro i;rw[JV wO hh];simp only[old];by_cases e:i=h
  · rw[if_pos e,if_pos e,if_pos wO]
  · rw[if_neg e,if_neg e]
 have mu0:∀ i v,i<x→jz x h M1 0 i v=M1 0 (old i) v:=by
  intro i v hi;simp only[jz,old];rw[if_pos trivial];by_cases e:i=h
  · rw[if_pos e,if_pos e]
  · rw[if_neg e,if_neg e,if_neg wO]
 have muS:∀ d i v,jz x h M1 (d+1) i v=M1 (d+1) i v:=fun d i v=>by simp[jz]
 have lock0:∀ d,aM (yg x h l::r) d=aM (l::r) d:=fun d=>by cases d<;>rfl
 have back:∀ d i v B,aB (yg x h l::r) d i=(v,B)→B≠.dead→∃ i' B',aB (l::r) d i'=(v,B')∧B'≠.dead∧(∀ u,jz x h M1 d i u=M1 d i' u)∧(d=0→i<x∧i'=old i∧B=qF (vB x h) B')∧(d≠0→i'=i∧B'=B):=by
  intro d i v B hg hB;cases d with
  | succ d=>exact ⟨i,B,hg,hB,fun u=>muS d i u,fun e=>absurd e (by simp),fun _=>⟨rfl,rfl⟩⟩
  | zero =>
    have hg':av (yg x h l).bs i=(v,B):=hg;rw[get0] at hg';by_cases hi:i<x
    · rw[if_pos hi] at hg';simp only[Prod.mk.injEq] at hg';obtain ⟨e1,e2⟩:=hg';refine ⟨old i,(av l.bs (old i)).2,?_,?_,fun u=>mu0 i u hi,fun _=>⟨hi,rfl,e2.symm⟩,fun e=>absurd rfl e⟩
      · show av l.bs (old i)=_;rw[← e1]
      · rw[← e2] at hB;exact jh.1 hB
    · rw[if_neg hi] at hg';simp only[Prod.mk.injEq] at hg';exact absurd hg'.2.symm hB
 have inj:∀ i j,i<x→j<x→old i=old j→i=j:=by
  intro i j hi hj e;simp only[old] at e;by_cases e1:i=h<;>by_cases e2:j=h
  · omega
  · rw[if_pos e1,if_neg e2] at e;omega
  · rw[if_neg e1,if_pos e2] at e;omega
  · rw[if_neg e1,if_neg e2] at e;exact e
 have oldne:∀ i,i<x→old i≠h:=by
  intro i hi;simp only[old];by_cases e1:i=h
  · rw[if_pos e1];omega
  · rw[if_neg e1];exact e1
 have rel:bn p1 (jz x h M1) (yg x h l::r) w1:=by
  refine ⟨hE.rel.pers,?_,?_,?_⟩
  · intro d i v B hg hB;obtain ⟨i',B',h1,h2,h3,h4,h5⟩:=back d i v B hg hB;obtain ⟨b,o,t,k1,k2,k3⟩:=hE.rel.live d i' v B' h1 h2;refine ⟨b,o,t,by rw[h3];exact k1,?_,k3⟩;cases d with
    | succ d =>
      obtain ⟨rfl,rfl⟩:=h5 (by simp);rw[JW _ _ _ _ wO];exact k2
    | zero =>
      obtain ⟨g1,g2,g3⟩:=h4 rfl;subst g2;subst g3;rw[tR] at k2 ⊢;have hg1:av l.bs (old i)=(v,B'):=h1;have:=hbs (old i) (oldne i g1);rw[hg1] at this;exact JU this k2
  · intro d i v B d' i' v' B' b o t o' t' hg hB hg' hB' hm hm';obtain ⟨j,C,h1,h2,h3,h4,h5⟩:=back d i v B hg hB;obtain ⟨j',C',h1',h2',h3',h4',h5'⟩:=back d' i' v' B' hg' hB';rw[h3] at hm;rw[h3'] at hm';obtain ⟨e1,e2⟩:=hE.rel.apart d j v C d' j' v' C' b o t o' t' h1 h2 h1' h2' hm hm';subst e1;refine ⟨rfl,?_⟩;by_cases hd:d=0
    · obtain ⟨g1,g2,_⟩:=h4 hd;obtain ⟨g1',g2',_⟩:=h4' hd;exact inj _ _ g1 g1' (by rw[← g2,← g2',e2])
    · rw[← (h5 hd).1,← (h5' hd).1,e2]
  · intro d i v t hm;cases d with
    | succ d =>
      rw[muS] at hm;exact hE.rel.dom (d+1) i v t hm
    | zero =>
      have hi:i<x:=by
       apply Nat.lt_of_not_le;intro hle;simp only[jz] at hm;rw[if_pos trivial,if_neg wO] at hm;by_cases e:i=x
       · rw[if_pos e] at hm;cases hm
       · rw[if_neg e] at hm;have h1:i<l.bs.length:=(hE.rel.dom 0 i v t hm).1;omega
      rw[mu0 i v hi] at hm;have h0:=hE.rel.dom 0 (old i) v t hm;refine ⟨?_,?_⟩
      · show i<(yg x h l).bs.length;rw[DB wO];exact hi
      · show (av (yg x h l).bs i).2≠.dead→v≤(av (yg x h l).bs i).1;rw[get0,if_pos hi];exact fun hne=>h0.2 (jh.1 hne)
 have keepc:∀ b,bD M1 (l::r) b→bD (jz x h M1) (yg x h l::r) b:=by
  intro b hk d i v B hg hB hl o t hm;obtain ⟨i',B',h1,h2,h3,_⟩:=back d i v B hg hB;rw[h3] at hm;exact hk d i' v B' h1 h2 (by rw[← lock0];exact hl) o t hm
 have from':∀ d i v t,jz x h M1 d i v=some t→∃ i',M1 d i' v=some t∧(M1 d i v=some t∨(d=0∧i=h)):=by
  intro d i v t hm;cases d with
  | succ d=>rw[muS] at hm;exact ⟨i,hm,.inl hm⟩
  | zero =>
    simp only[jz] at hm;rw[if_pos trivial] at hm;by_cases e:i=h
    · rw[if_pos e] at hm;exact ⟨x,hm,.inr ⟨rfl,e⟩⟩
    · rw[if_neg e] at hm;by_cases e2:i=x
      · rw[if_pos e2] at hm;cases hm
      · rw[if_neg e2] at hm;exact ⟨i,hm,.inl hm⟩
 have hgrow:aY H≤x:=by omega
 refine ⟨jz x h M1,⟨hE.pst,?_,rel,hE.stay,fun b hb hk=>keepc b (hE.bD b hb hk),hE.fresh,fun d i v b o t hm=>?_,fun d=>?_,fun d i hd hl=>?_,fun d hd hl=>?_,hE.len,fun d=>?_,fun d i v t hm=>?_⟩,⟨hF.size,fun y=>?_⟩,?_⟩
 · intro d i v t hm
   have h1:=hE.mu d i v t hm
   have h0:=hdom d i v t hm
   cases d with
   | succ d=>rw[muS];exact h1
   | zero =>
     rw[br] at h0
     rw[mu0 i v wO]
     simp only[old]
     rw[if_neg wO];exact h1
 · obtain ⟨i',h1,_⟩:=from' d i v _ hm
   exact hE.own d i' v b o t h1
 · rw[lock0];exact hE.lock d
 · have:=hE.same d i hd hl
   cases d with
   | zero=>exact absurd rfl hd
   | succ d=>exact this
 · have:=hE.next d hd hl
   cases d with
   | zero=>exact absurd rfl hd
   | succ d=>exact this
 · have:=hE.grow d
   cases d with
   | zero =>
     rw[br]
     show aY H≤(yg x h l).bs.length
     rw[DB wO];exact hgrow
   | succ d=>exact this
 · obtain ⟨i',h1,h2 | ⟨rfl,rfl⟩⟩:=from' d i v t hm
   · exact hE.new d i v t h2
   · exact .inr (.inl (by rw[br];exact hn))
 · rw[tH _ rfl]
   rcases sS fr y with e | ⟨z,e⟩
   · rw[e];exact .undef _
   · refine xA ?_ (hF.at_ y)
     have:=List.any_eq_false.1 hfr _ e
     simpa using this
 · obtain ⟨rs,h1,h2,h0,h3⟩:=hM
   exact ⟨rs,h1,h2,h0,fun z hz=>⟨(h3 z hz).1,keepc z (h3 z hz).2.1,(h3 z hz).2.2⟩⟩

theorem uS {p p1:aL} {M:Mu} {H:aa} {w w1:World} {nt:Nat} {a:Act} {n0:Nat} (hdom:∀ d i v t,M d i v=some t→i<ao H d) :
 ∀ (k:Nat) (fr:aD) (H1:aa) (M1:Mu),cG p M H w p1 M1 H1 w1→bZ p1 M1 nt fr a→Marks n0 M1 H1 w1 a.defers→∃ M2,cG p M H w p1 M2 (kr (aY H) k fr H1).2 w1∧bZ p1 M2 nt (kr (aY H) k fr H1).1 a∧Marks n0 M2 (kr (aY H) k fr H1).2 w1 a.defers
 | 0,fr,H1,M1,hE,hF,hM=>⟨M1,hE,hF,hM⟩
 | k+1,fr,[],M1,hE,hF,hM=>⟨M1,hE,hF,hM⟩
 | k + 1,fr,l::r,M1,hE,hF,hM=>by
   unfold kr;dsimp only;split
   · exact ⟨M1,hE,hF,hM⟩
   · rename_i h hh;obtain ⟨h1,h2,h3,h4⟩:=wc hh;obtain ⟨M2,hE2,hF2,hM2⟩:=NN hE hF hM hdom (x:=l.bs.length-1) wO wO h1 h3 h4;obtain ⟨M3,hE3,hF3,hM3⟩:=rU hE2 hF2 hM2 hdom;exact uS hdom k _ _ M3 hE3 hF3 hM3
theorem Io {p p1:aL} {M M1:Mu} {H H1:aa} {w w1:World} {nt:Nat} {fr:aD} {a:Act} (hE:cG p M H w p1 M1 H1 w1) (hF:bZ p1 M1 nt fr a) {n0:Nat} (hM:Marks n0 M1 H1 w1 a.defers) (hdom:∀ d i v t,M d i v=some t→i<ao H d) :
 ∃ M2,cG p M H w p1 M2 (tidy (aY H) fr H1).2 w1∧bZ p1 M2 nt (tidy (aY H) fr H1).1 a∧Marks n0 M2 (tidy (aY H) fr H1).2 w1 a.defers:=by
 obtain ⟨M2,hE2,hF2,hM2⟩:=rU hE hF hM hdom
 exact uS hdom 4 _ _ M2 hE2 hF2 hM2

def Jz (p:aL) (b o n:Nat) (vs:Nat→Value) (b' o':Nat):Option Value:=if b'=b∧o≤o'∧o'<o+n then some (vs (o'-o)) else p b' o'
theorem Dl {p:aL} {b:Nat} (h:∀ x,p b x=none) (o n:Nat) (vs:Nat→Value) (b' o':Nat) (v:Value) (hv:pq b' o'=some v):Jz p b o n vs b' o'=some v:=by
 unfold Jz;rw[if_neg]
 · exact p.2 _ _ _ hv
 · rintro ⟨rfl,_⟩;rw[p.DE (h o')] at hv;cases hv
open Classical in
noncomputable def mJ (p:aL) (b o n:Nat) (vs:Nat→Value):aL:=if h:∀ x,p b x=none then ⟨Jz p b o n vs,Dl h o n vs⟩ else p
theorem GU {p:aL} {b:Nat} (h:∀ x,p b x=none) (o n:Nat) (vs:Nat→Value):mJ p b o n vs=⟨Jz p b o n vs,Dl h o n vs⟩:=dif_pos h
theorem gk {p:aL} {b:Nat} (h:∀ x,p b x=none) (o n:Nat) (vs:Nat→Value) (b' o':Nat):mJ p b o n vs b' o'=if b'=b∧o≤o'∧o'<o+n then some (vs (o'-o)) else p b' o':=by
 rw[GU h];rfl
theorem yQ {p q:aL} {M N:Mu} {r:Row} (h:xv r=true) {vs:Nat→Value} (hr:bk p M r vs):bk q N r vs:=by
 intro j hj;refine ⟨?_,(hr j hj).2⟩;have h0:=(hr j hj).1;unfold xv at h;split at h
 · exact h0.bx _ _
 · rename_i k z n;have:j<n:=by simpa[Row.len,aE,aU] using hj
   simp only[Row.get,getM,if_pos this] at h0 ⊢;exact h0.bx _ _
 · cases h
theorem GV {r:Row} (h:xv r=true) (o n:Nat):xv (r.sub o n)=true:=by
 unfold xv at h;split at h
 · rfl
 · rfl
 · cases h
theorem oX {d j i:Nat} {x:Bool}:(Nat.beq d 0 && (Nat.beq j i && x))=true↔d=0∧j=i∧x=true:=by simp
theorem GW {p:aL} {M:Mu} {i ver b o t:Nat} {r:Row} {vs:Nat→Value} (hno:∀ x,p b x=none) (hm:M 0 i ver=some (b,o,t)) (hi:xv r=true) (hr:bk p M r vs) (hle:aL.le p (mJ p b o r.len vs)) {v:AV} {c:Value} (h:an p M v c):an (mJ p b o r.len vs) M (nG i ver r v) c:=by
 have up:=h.mono hle (Mu.le.refl M);have cell:∀ j,j<r.len→mJ p b o r.len vs b (o+j)=some (vs j):=fun j hj=>by
  rw[gk hno,if_pos ⟨rfl,by omega,by omega⟩];congr 2;omega
 cases h with
 | ptr h =>
   rename_i d j v off b' o' t';simp only[nG];by_cases e:d=0∧j=i∧v=ver
   · rw[if_pos (oX.2 ⟨e.1,e.2.1,by simp[e.2.2]⟩)];obtain ⟨rfl,rfl,rfl⟩:=e;rw[hm] at h;simp only[nP] at h;obtain ⟨rfl,rfl,rfl⟩:=h;exact .ptrT vs cell (fun j hj=>(hr j hj).2) (fun j hj=>(yQ hi hr j hj).1)
   · rw[if_neg (fun h=>e (by have:=oX.1 h;exact ⟨this.1,this.2.1,by simpa using this.2.2⟩))];exact up
 | slc h hl hc hn hx =>
   rename_i d j v off sz len b' o' t' x cc cap;simp only[nG];by_cases e:d=0∧j=i∧(Nat.beq v ver && Nat.ble (off+len*sz) r.len)=true
   · rw[if_pos (oX.2 e)];obtain ⟨rfl,rfl,e⟩:=e;rw[Bool.and_eq_true] at e;obtain ⟨e1,e2⟩:=e;have e1:=Nat.eq_of_beq_eq_true e1;have e2:=Nat.le_of_ble_eq_true e2;subst e1;rw[hm] at h;simp only[nP] at h;obtain ⟨rfl,rfl,rfl⟩:=h;have hs:=hr.sub off (len*sz) e2;have hsl:=Row.dy r off (len*sz) e2;refine .slcT (o:=o+off) (fun j=>vs (off+j)) (fun j hj=>?_) (fun j hj=>(hs j hj).2) (fun j hj=>(yQ (GV hi off (len*sz)) hs j hj).1) hl (fun hf=>?_) hx
     · rw[hsl] at hj;rw[Nat.add_assoc];exact cell _ wO
     · exact hc _ (by simpa using hf)
   · rw[if_neg (fun h=>e (oX.1 h))];exact up
 | undef c=>exact up
 | bool b=>exact up
 | int k n=>exact up
 | str s=>exact up
 | nilp=>exact up
 | nils=>exact up
 | nilm=>exact up
 | nilf=>exact up
 | ptrT vs h0 h1 hv=>exact up
 | slcT vs h0 h1 hv hl hf hx=>exact up
 | slcN=>exact up
 | map h=>exact up
 | yld h=>exact up
 | fn ha hb va vb=>exact up
 | agg hs h1 hv=>exact up
 | tup hs hv=>exact up
theorem qH {p q:aL} {M N:Mu} {g:AV→AV} (h0:g .undef=.undef) (hq:∀ v c,an p M v c→an q N v c) (hg:∀ v c,an p M v c→an q N (g v) c) {v:AV} {c:Value} (h:an p M v c):an q N (nH g v) c:=by
 cases v with
 | agg r =>
   cases r with
   | G l =>
     cases h with
     | agg hs h1 hv=>exact .agg (by simpa[Row.len] using hs) (fun j hj=>h1 j (by simpa[Row.len] using hj)) (fun j hj=>by
        have hj:j<l.length:=by simpa[Row.len] using hj
        show an q _ ((l.map g).getD j .undef) _;rw[getD_map h0];exact hg _ _ (hv j hj))
   | I k l=>exact hg (.agg (.I k l)) _ h
   | F f m=>exact hg (.agg (.F f m)) _ h
   | M l =>
     cases h with
     | agg hs h1 hv=>exact .agg (by simpa[Row.len,aX] using hs) (fun j hj=>h1 j (by simpa[Row.len,aX] using hj)) (fun j hj=>by
        have hj:j<aE l:=by simpa[Row.len,aX] using hj
        show an q _ (getM (mapM' g l) j) _;rcases je g l j hj with e | ⟨k,n,e1,e2⟩
        · rw[e];exact hg _ _ (hv j hj)
        · have:=hv j hj;simp only[Row.get] at this;rw[e1] at this;rw[e2];exact this.bx _ _)
 | fn f x y =>
   cases h with
   | fn hx hy vx vy =>
     refine .fn (by simpa using hx) (by simpa using hy) (fun j hj=>?_) (fun j hj=>?_)
     · rw[getD_map h0];exact hg _ _ (vx j (by simpa using hj))
     · rw[getD_map h0];exact hg _ _ (vy j (by simpa using hj))
 | undef=>exact hg _ _ h
 | bool b=>exact hg (.bool b) _ h
 | int k n=>exact hg (.int k n) _ h
 | str s=>exact hg (.str s) _ h
 | nilp=>exact hg .nilp _ h
 | nils=>exact hg .nils _ h
 | nilm=>exact hg .nilm _ h
 | nilf=>exact hg .nilf _ h
 | ptr d i v o=>exact hg (.ptr d i v o) _ h
 | ptrT s r o=>exact hg (.ptrT s r o) _ h
 | slc d i v o z l c=>exact hg (.slc d i v o z l c) _ h
 | slcT s r z l f=>exact hg (.slcT s r z l f) _ h
 | map d i=>exact hg (.map d i) _ h
 | yld d i=>exact hg (.yld d i) _ h
 | tup l=>exact hg (.tup l) _ h
theorem EX {p q:aL} {M:Mu} {g:AV→AV} (h0:g .undef=.undef) (hq:aL.le p q) (hg:∀ v c,an p M v c→an q M (g v) c) {B:ak} {x o t:Nat} {w:World} (h:fP p M B x o t w):fP q M (qF g B) x o t w:=by
 have hq':∀ v c,an p M v c→an q M v c:=fun v c h=>h.mono hq (Mu.le.refl M);cases B with
 | dead=>trivial
 | row r =>
   obtain ⟨c,e,e1,e2,e3,e4⟩:=h;have hl:(Ha g r).len=r.len:=by cases r<;>simp[Ha,Row.len,aX]
   refine ⟨c,e,e1,e2,by rw[hl];exact e3,fun j hj=>?_⟩;rw[hl] at hj;cases r with
   | I k l=>exact ⟨(e4 j hj).1.bx _ _,(e4 j hj).2⟩
   | F f m=>exact ⟨(e4 j hj).1.mono hq (Mu.le.refl _),(e4 j hj).2⟩
   | M l =>
     refine ⟨?_,(e4 j hj).2⟩;have h1:=(e4 j hj).1;show an q _ (getM (mapM' (nH g) l) j) _;rcases je (nH g) l j hj with e | ⟨k,n,k1,k2⟩
     · rw[e];exact qH h0 hq' hg h1
     · simp only[Row.get] at h1;rw[k1] at h1;rw[k2];exact h1.bx _ _
   | G l =>
     refine ⟨?_,(e4 j hj).2⟩;show an q _ ((l.map (nH g)).getD j .undef) _;rw[getD_map (by simp[nH,h0])];exact qH h0 hq' hg (e4 j hj).1
 | map es=>exact h.mono hq (Mu.le.refl M) rfl
 | fmap kq f g c=>exact h.mono hq (Mu.le.refl M) rfl
 | loop l=>exact h.mono hq (Mu.le.refl M) rfl
theorem qu {p1:aL} {M1:Mu} {w1:World} {nt:Nat} {fr:aD} {a:Act} {l:bB} {r:aa} (hH:bn p1 M1 (l::r) w1) (hF:bZ p1 M1 nt fr a) (hl:l.lock=false) (i:Nat) :
 ∃ p2,cG p1 M1 (l::r) w1 p2 M1 ((mI i fr l).2::r) w1∧bZ p2 M1 nt (mI i fr l).1 a∧(mI i fr l).2.lock=false∧(mI i fr l).2.bs.length=l.bs.length:=by
 unfold mI
 split
 · rename_i ver row hb
   split
   · rename_i hc
     rw[Bool.and_eq_true] at hc
     obtain ⟨hi,-⟩:=hc
     have hil:i<l.bs.length:=by
      apply Nat.lt_of_not_le;intro hle;have:∀ (q:List (Nat×ak)) (i:Nat),q.length≤i→av q i=(0,.dead):=by
       intro q;induction q with
       | nil=>intro i _;rfl
       | cons x q ih =>
         intro i h;cases i with
         | zero=>simp at h
         | succ i=>exact ih i (by simpa using h)
      rw[this l.bs i hle] at hb;simp at hb
     have hg:aB (l::r) 0 i=(ver,.row row):=hb
     obtain ⟨b,o,t,k1,k2,k3⟩:=hH.live 0 i ver (.row row) hg (by simp)
     rw[tR] at k2
     obtain ⟨vs,v1,v2⟩:=mX k2
     have hle:aL.le p1 (mJ p1 b o row.len vs):=by
      intro b' o' v hv;rw[gk k3,if_neg]
      · exact hv
      · rintro ⟨rfl,_⟩;rw[k3] at hv;cases hv
     have hS:∀ v c,an p1 M1 v c→an (mJ p1 b o row.len vs) M1 (nG i ver row v) c:=fun v c h=>GW k3 k1 hi v1 hle h
     have hq':∀ v c,an p1 M1 v c→an (mJ p1 b o row.len vs) M1 v c:=fun v c h=>h.mono hle (Mu.le.refl M1)
     have get:∀ d j,aB ({ l with bs:=bT (jV (nG i ver row) l.bs) i (ver,.dead) } :: r) d j=if d=0 then (if j=i then (ver,.dead) else ((av l.bs j).1,qF (nG i ver row) (av l.bs j).2)) else aB (l::r) d j:=by
      intro d j;cases d with
      | zero =>
        rw[if_pos rfl];show av (bT (jV (nG i ver row) l.bs) i (ver,.dead)) j=_;rw[oN _ _ _ _ (by rw[dW];exact hil),lK]
      | succ d=>rw[if_neg wO];rfl
     have rel : bn (mJ p1 b o row.len vs) M1 ({ l with bs:=bT (jV (nG i ver row) l.bs) i (ver,.dead) } :: r) w1:=by
      refine ⟨?_,?_,?_,?_⟩
      · intro b' o' v hp;rw[gk k3] at hp;split at hp
        · rename_i he;obtain ⟨rfl,h1,h2⟩:=he;rw[← hp];have:=v2 (o'-o) wO;rw[show o+(o'-o)=o' by omega] at this;exact this
        · exact hH.pers _ _ _ hp
      · intro d j v B hg' hB;rw[get] at hg';have other:∀ x,(d≠0∨j≠i)→∀ b' o' t',M1 d j v=some (b',o',t')→(∃ B',aB (l::r) d j=(v,B')∧B'≠.dead)→p1 b' x=none→mJ p1 b o row.len vs b' x=none:=by
         intro x hne b' o' t' hm ⟨B',hg2,hB2⟩ hn;rw[gk k3,if_neg]
         · exact hn
         · rintro ⟨rfl,_⟩;have:=hH.apart d j v B' 0 i ver (.row row) b' o' t' o t hg2 hB2 hg (by simp) hm k1;omega
        split at hg'
        · rename_i hd;subst hd;split at hg'
          · simp only[Prod.mk.injEq] at hg';exact absurd hg'.2.symm hB
          · rename_i hji;simp only[Prod.mk.injEq] at hg';obtain ⟨e1,e2⟩:=hg';have hB':(av l.bs j).2≠.dead:=by rw[← e2] at hB;exact jh.1 hB
            have hg2:aB (l::r) 0 j=(v,(av l.bs j).2):=by rw[← e1];rfl
            obtain ⟨b',o',t',q1,q2,q3⟩:=hH.live 0 j v _ hg2 hB';refine ⟨b',o',t',q1,?_,fun x=>other x (.inr hji) b' o' t' q1 ⟨_,hg2,hB'⟩ (q3 x)⟩;rw[tR] at q2 ⊢;rw[← e2];exact EX rfl hle hS q2
        · rename_i hd;obtain ⟨b',o',t',q1,q2,q3⟩:=hH.live d j v B hg' hB;exact ⟨b',o',t',q1,q2.mono hle (Mu.le.refl _) rfl,fun x=>other x (.inl hd) b' o' t' q1 ⟨_,hg',hB⟩ (q3 x)⟩
      · intro d j v B d' j' v' B' b1 o1 t1 o2 t2 hg1 hB1 hg2 hB2 hm1 hm2;have back:∀ d j v B,aB ({ l with bs:=bT (jV (nG i ver row) l.bs) i (ver,.dead) } :: r) d j=(v,B)→B≠.dead→∃ B',aB (l::r) d j=(v,B')∧B'≠.dead:=by
         intro d j v B hg' hB;rw[get] at hg';split at hg'
         · rename_i hd;subst hd;split at hg'
           · simp only[Prod.mk.injEq] at hg';exact absurd hg'.2.symm hB
           · simp only[Prod.mk.injEq] at hg';obtain ⟨e1,e2⟩:=hg';exact ⟨(av l.bs j).2,by rw[← e1];rfl,by rw[← e2] at hB;exact jh.1 hB⟩
         · exact ⟨B,hg',hB⟩
        obtain ⟨C1,q1,q2⟩:=back _ _ _ _ hg1 hB1;obtain ⟨C2,q3,q4⟩:=back _ _ _ _ hg2 hB2;exact hH.apart d j v C1 d' j' v' C2 b1 o1 t1 o2 t2 q1 q2 q3 q4 hm1 hm2
      · intro d j v t' hm;have h0:=hH.dom d j v t' hm;rw[get];cases d with
        | succ d=>rw[if_neg wO];exact h0
        | zero =>
          refine ⟨?_,?_⟩
          · show j<(bT (jV (nG i ver row) l.bs) i (ver,.dead)).length;rw[jH,dW];exact h0.1
          · rw[if_pos rfl];have h1:(av l.bs j).2≠.dead→v≤(av l.bs j).1:=h0.2;by_cases e:j=i
            · rw[if_pos e];exact fun hne=>absurd rfl hne
            · rw[if_neg e];exact fun hne=>h1 (jh.1 hne)
     refine ⟨mJ p1 b o row.len vs,⟨hle,Mu.le.refl _,rel,dC.refl _ _,fun b' hb' hk d j v B hg' hB hlk o' t' hm=>?_,fun b' o' v hp=>?_,fun d j v b' o' t' hm=>.inr ⟨d,j,v,o',t',Nat.le_refl _,hm⟩,fun d=>?_,fun d j hd hlk=>?_,fun d hd hlk=>?_,rfl,fun d=>?_,fun d j v t' hm=>.inl hm⟩,⟨hF.size,fun y=>?_⟩,hl,by show (bT _ _ _).length=_;rw[jH,dW]⟩
     · rw[get] at hg'
       have hlk':aM (l::r) d=false:=by cases d<;>exact hlk
       split at hg'
       · rename_i hd
         subst hd
         split at hg'
         · simp only[Prod.mk.injEq] at hg'
           exact absurd hg'.2.symm hB
         · simp only[Prod.mk.injEq] at hg'
           obtain ⟨e1,e2⟩:=hg'
           exact hk 0 j v (av l.bs j).2 (by rw[← e1];rfl) (by rw[← e2] at hB;exact jh.1 hB) hlk' o' t' hm
       · exact hk d j v B hg' hB hlk' o' t' hm
     · rw[gk k3] at hp
       split at hp
       · rename_i he
         obtain ⟨rfl,_⟩:=he
         exact .inr (.inr ⟨hl,i,ver,o,t,k1⟩)
       · exact .inl hp
     · cases d<;>rfl
     · rw[get,if_neg hd]
     · cases d with
       | zero=>exact absurd rfl hd
       | succ d=>rfl
     · cases d with
       | zero =>
         show l.bs.length≤(bT (jV (nG i ver row) l.bs) i (ver,.dead)).length
         rw[jH,dW];exact Nat.le_refl _
       | succ d=>exact Nat.le_refl _
     · rw[tH _ rfl]
       exact qH rfl hq' hS (hF.at_ y)
   · exact ⟨p1,cG.refl hH,hF,hl,rfl⟩
 · exact ⟨p1,cG.refl hH,hF,hl,rfl⟩
theorem tk {M1:Mu} {w1:World} {nt:Nat} {fr:aD} {a:Act} {l:bB} {r:aa} {p1:aL} (hH:bn p1 M1 (l::r) w1) (hF:bZ p1 M1 nt fr a) (hl:l.lock=false):∀ n:Nat,
 ∃ p2,cG p1 M1 (l::r) w1 p2 M1 ((jt n fr l).2::r) w1∧bZ p2 M1 nt (jt n fr l).1 a∧(jt n fr l).2.lock=false
 | 0=>⟨p1,cG.refl hH,hF,hl⟩
 | n+1=>by
   obtain ⟨p2,h1,h2,h3⟩:=tk hH hF hl n;obtain ⟨p3,k1,k2,k3,_⟩:=qu h1.rel h2 h3 n;exact ⟨p3,h1.trans k1,k2,k3⟩
theorem rk {M1:Mu} {w1:World} {nt:Nat} {fr:aD} {a:Act} {l:bB} {r:aa} {p1:aL} (hH:bn p1 M1 (l::r) w1) (hF:bZ p1 M1 nt fr a) (hl:l.lock=false):∀ n:Nat,
 ∃ p2,cG p1 M1 (l::r) w1 p2 M1 ((eD n fr l).2::r) w1∧bZ p2 M1 nt (eD n fr l).1 a∧(eD n fr l).2.lock=false
 | 0=>⟨p1,cG.refl hH,hF,hl⟩
 | n + 1=>by
   obtain ⟨p2,h1,h2,h3⟩:=rk hH hF hl n;unfold eD;split
   · exact ⟨p2,h1,h2,h3⟩
   · obtain ⟨p3,k1,k2,k3,_⟩:=qu h1.rel h2 h3 n;exact ⟨p3,h1.trans k1,k2,k3⟩
theorem zF {p:aL} {M:Mu} {sz:Nat} {v:AV} {c:Value} (h:an p M v c):an p M (JY sz v) c:=by
 cases h with
 | nils=>exact .slcN
 | undef c=>exact .undef c
 | bool b=>exact .bool b
 | int k n=>exact .int k n
 | str s=>exact .str s
 | nilp=>exact .nilp
 | nilm=>exact .nilm
 | nilf=>exact .nilf
 | ptr h=>exact .ptr h
 | ptrT vs h0 h1 hv=>exact .ptrT vs h0 h1 hv
 | slc h hl hc hn hx=>exact .slc h hl hc hn hx
 | slcT vs h0 h1 hv hl hf hx=>exact .slcT vs h0 h1 hv hl hf hx
 | slcN=>exact .slcN
 | map h=>exact .map h
 | yld h=>exact .yld h
 | fn ha hb va vb=>exact .fn ha hb va vb
 | agg hs h1 hv=>exact .agg hs h1 hv
 | tup hs hv=>exact .tup hs hv
theorem zD (sz:Nat):∀ (c:Nat) (l:List AV),(E0 sz c l).length=l.length
 | c,[]=>by cases c<;>rfl
 | 0,v::l=>rfl
 | c+1,v::l=>by simp[E0,zD sz c l]
theorem zE {p:aL} {M:Mu} {sz:Nat}:∀ (c:Nat) (l:List AV) (j:Nat) (x:Value),an p M (l.getD j .undef) x→an p M ((E0 sz c l).getD j .undef) x
 | c,[],j,x,h=>by cases c<;>exact h
 | 0,v::l,0,x,h=>zF h
 | 0,v::l,j+1,x,h=>h
 | c+1,v::l,0,x,h=>h
 | c+1,v::l,j+1,x,h=>zE c l j x h
theorem Hh {p:aL} {M:Mu} {c sz:Nat} {B:ak} {x o t:Nat} {w:World} (h:fP p M B x o t w):fP p M (vC c sz B) x o t w:=by
 cases B with
 | dead=>exact h
 | map es=>exact h
 | fmap kq f g c=>exact h
 | loop l=>exact h
 | row r =>
   cases r with
   | I k l=>exact h
   | F f m=>exact h
   | M l=>exact h
   | G l =>
     obtain ⟨cs,e,e1,e2,e3,e4⟩:=h;have hl:(Row.G (E0 sz c l)).len=(Row.G l).len:=by simp[Row.len,zD]
     refine ⟨cs,e,e1,e2,by rw[hl];exact e3,fun j hj=>?_⟩;rw[hl] at hj;exact ⟨zE c l j _ (e4 j hj).1,(e4 j hj).2⟩
theorem qK {c sz:Nat} {B:ak}:vC c sz B≠.dead↔B≠.dead:=by
 cases B with
 | row r=>cases r<;>simp[vC]
 | dead=>simp[vC]
 | map es=>simp[vC]
 | fmap kq f g c=>simp[vC]
 | loop l=>simp[vC]
theorem wz (c sz:Nat):∀ (l:List (Nat×ak)) (i:Nat),av (mR c sz l) i=((av l i).1,vC c sz (av l i).2)
 | [],i=>rfl
 | (v,b)::r,0=>rfl
 | (v,b)::r,i+1=>wz c sz r i
theorem lJ (c sz:Nat):∀ (l:List (Nat×ak)),(mR c sz l).length=l.length
 | []=>rfl
 | (v,b)::r=>by simp[mR,lJ c sz r]
theorem zC {p1:aL} {M1:Mu} {w1:World} {l:bB} {r:aa} (hH:bn p1 M1 (l::r) w1) (hl:l.lock=false) (c sz:Nat) :
 cG p1 M1 (l::r) w1 p1 M1 ({ l with bs:=mR c sz l.bs } :: r) w1:=by
 have get:∀ d j,aB ({ l with bs:=mR c sz l.bs } :: r) d j=if d=0 then ((av l.bs j).1,vC c sz (av l.bs j).2) else aB (l::r) d j:=by
  intro d j;cases d with
  | zero =>
    rw[if_pos rfl];exact wz c sz l.bs j
  | succ d=>rw[if_neg wO];rfl
 have back:∀ d j v B,aB ({ l with bs:=mR c sz l.bs } :: r) d j=(v,B)→B≠.dead→∃ B',aB (l::r) d j=(v,B')∧B'≠.dead:=by
  intro d j v B hg' hB;rw[get] at hg';split at hg'
  · rename_i hd;subst hd;simp only[Prod.mk.injEq] at hg';obtain ⟨e1,e2⟩:=hg';exact ⟨(av l.bs j).2,by rw[← e1];rfl,by rw[← e2] at hB;exact qK.1 hB⟩
  · exact ⟨B,hg',hB⟩
 have rel:bn p1 M1 ({ l with bs:=mR c sz l.bs } :: r) w1:=by
  refine ⟨hH.pers,?_,?_,?_⟩
  · intro d j v B hg' hB;rw[get] at hg';split at hg'
    · rename_i hd;subst hd;simp only[Prod.mk.injEq] at hg';obtain ⟨e1,e2⟩:=hg';have hB':(av l.bs j).2≠.dead:=by rw[← e2] at hB;exact qK.1 hB
      have hg2:aB (l::r) 0 j=(v,(av l.bs j).2):=by rw[← e1];rfl
      obtain ⟨b',o',t',q1,q2,q3⟩:=hH.live 0 j v _ hg2 hB';refine ⟨b',o',t',q1,?_,q3⟩;rw[← e2];exact Hh q2
    · exact hH.live d j v B hg' hB
  · intro d j v B d' j' v' B' b1 o1 t1 o2 t2 hg1 hB1 hg2 hB2 hm1 hm2;obtain ⟨C1,q1,q2⟩:=back _ _ _ _ hg1 hB1;obtain ⟨C2,q3,q4⟩:=back _ _ _ _ hg2 hB2;exact hH.apart d j v C1 d' j' v' C2 b1 o1 t1 o2 t2 q1 q2 q3 q4 hm1 hm2
  · intro d j v t' hm;have h0:=hH.dom d j v t' hm;rw[get];cases d with
    | succ d=>rw[if_neg wO];exact h0
    | zero =>
      refine ⟨?_,?_⟩
      · show j<(mR c sz l.bs).length;rw[lJ];exact h0.1
      · rw[if_pos rfl];have h1:(av l.bs j).2≠.dead→v≤(av l.bs j).1:=h0.2;exact fun hne=>h1 (qK.1 hne)
 refine ⟨aL.le.refl _,Mu.le.refl _,rel,dC.refl _ _,fun b' hb' hk d j v B hg' hB hlk o' t' hm=>?_,fun b' o' v hp=>.inl hp,fun d j v b' o' t' hm=>.inr ⟨d,j,v,o',t',Nat.le_refl _,hm⟩,fun d=>?_,fun d j hd hlk=>?_,fun d hd hlk=>?_,rfl,fun d=>?_,fun d j v t' hm=>.inl hm⟩
 · obtain ⟨C1,q1,q2⟩:=back _ _ _ _ hg' hB
   have hlk':aM (l::r) d=false:=by cases d<;>exact hlk
   exact hk d j v C1 q1 q2 hlk' o' t' hm
 · cases d<;>rfl
 · rw[get,if_neg hd]
 · cases d with
   | zero=>exact absurd rfl hd
   | succ d=>rfl
 · cases d with
   | zero =>
     show l.bs.length≤(mR c sz l.bs).length
     rw[lJ];exact Nat.le_refl _
   | succ d=>exact Nat.le_refl _
theorem JA {p p1:aL} {M M1:Mu} {H H1:aa} {w w1:World} {nt m:Nat} {fr:aD} {a:Act} (hE:cG p M H w p1 M1 H1 w1) (hF:bZ p1 M1 nt (bX fr m) a) {n0:Nat} (hM:Marks n0 M1 H1 w1 a.defers) :
 ∃ p2,cG p M H w p2 M1 (EP (bX fr m) H1).2 w1∧bZ p2 M1 nt (EP (bX fr m) H1).1 a∧Marks n0 M1 (EP (bX fr m) H1).2 w1 a.defers:=by
 cases H1 with
 | nil=>exact ⟨p1,hE,hF,hM⟩
 | cons l r =>
   cases hl:l.lock with
   | true =>
     have e:EP (bX fr m) (l::r)=(bX fr m,l::r):=by unfold EP;dsimp only;rw[hl];rfl
     rw[e]
     exact ⟨p1,hE,hF,hM⟩
   | false =>
     have e:EP (bX fr m) (l::r)=((jt l.bs.length (bX fr m) l).1,(jt l.bs.length (bX fr m) l).2::r):=by unfold EP;dsimp only;rw[hl];rfl
     rw[e]
     obtain ⟨p2,h1,h2,_⟩:=tk hE.rel hF hl l.bs.length
     exact ⟨p2,hE.trans h1,h2,hM.ye h1⟩
theorem GS {p p1:aL} {M M1:Mu} {H H1:aa} {w w1:World} {nt m:Nat} {fr:aD} {a:Act} (hE:cG p M H w p1 M1 H1 w1) (hF:bZ p1 M1 nt (bX fr m) a) {n0:Nat} (hM:Marks n0 M1 H1 w1 a.defers) :
 ∃ p2,cG p M H w p2 M1 (vq (bX fr m) H1).2 w1∧bZ p2 M1 nt (vq (bX fr m) H1).1 a∧Marks n0 M1 (vq (bX fr m) H1).2 w1 a.defers:=by
 cases H1 with
 | nil=>exact ⟨p1,hE,hF,hM⟩
 | cons l r =>
   cases hl:l.lock with
   | true =>
     have e:vq (bX fr m) (l::r)=(bX fr m,l::r):=by unfold vq;dsimp only;rw[hl];rfl
     rw[e]
     exact ⟨p1,hE,hF,hM⟩
   | false =>
     have e:vq (bX fr m) (l::r)=((eD l.bs.length (bX fr m) l).1,(eD l.bs.length (bX fr m) l).2::r):=by unfold vq;dsimp only;rw[hl];rfl
     rw[e]
     obtain ⟨p2,h1,h2,_⟩:=rk hE.rel hF hl l.bs.length
     exact ⟨p2,hE.trans h1,h2,hM.ye h1⟩
theorem BL {p p1:aL} {M M1:Mu} {H H1:aa} {w w1:World} {nt m:Nat} {fr:aD} {a:Act} (hE:cG p M H w p1 M1 H1 w1) (hF:bZ p1 M1 nt (bX fr m) a) {n0:Nat} (hM:Marks n0 M1 H1 w1 a.defers) :
 ∃ p2,cG p M H w p2 M1 (ju m fr H1).2 w1∧bZ p2 M1 nt (ju m fr H1).1 a∧Marks n0 M1 (ju m fr H1).2 w1 a.defers:=by
 unfold ju
 split
 · obtain ⟨p2,h1,h2,h3⟩:=JA hE hF hM
   split
   · exact ⟨p2,h1,h2,h3⟩
   · generalize (EP (bX fr m) H1).2=H2 at h1 h3 ⊢
     unfold vD
     cases H2 with
     | nil=>exact ⟨p2,h1,h2,h3⟩
     | cons l r =>
       dsimp only
       cases hl:l.lock with
       | true=>rw[if_pos rfl];exact ⟨p2,h1,h2,h3⟩
       | false =>
         rw[if_neg (by simp)]
         have k:=zC h1.rel hl (Nat.shiftRight m 4003 % 8) (Nat.shiftRight m 4003 / 8)
         rw[hl] at k
         exact ⟨p2,h1.trans k,h2,h3.ye k⟩
 · split
   · unfold xt
     cases H1 with
     | nil=>exact ⟨p1,hE,hF,hM⟩
     | cons l r =>
       dsimp only
       cases hl:l.lock with
       | true=>rw[if_pos rfl];exact ⟨p1,hE,hF,hM⟩
       | false =>
         rw[if_neg (by simp)]
         split
         · rename_i i _
           obtain ⟨p2,h1,h2,_⟩:=qu hE.rel hF hl i
           exact ⟨p2,hE.trans h1,h2,hM.ye h1⟩
         · exact ⟨p1,hE,hF,hM⟩
   · split
     · split
       · exact GS hE hF hM
       · exact ⟨p1,hE,hF,hM⟩
     · exact ⟨p1,hE,hF,hM⟩
theorem Hi {p p1:aL} {M M1:Mu} {H H1:aa} {w w1:World} {a:Act} (hE:cG p M H w p1 M1 H1 w1) {n0:Nat} (hM:Marks n0 M1 H1 w1 a.defers) (k:Nat) :
 cG p M H w p1 M1 (vD k H1) w1∧Marks n0 M1 (vD k H1) w1 a.defers:=by
 unfold vD
 cases H1 with
 | nil=>exact ⟨hE,hM⟩
 | cons l r =>
   dsimp only
   cases hl:l.lock with
   | true=>rw[if_pos rfl];exact ⟨hE,hM⟩
   | false =>
     rw[if_neg (by simp)]
     have q:=zC hE.rel hl (k % 8) (k / 8)
     rw[hl] at q
     exact ⟨hE.trans q,hM.ye q⟩
theorem BM {p p1:aL} {M M1:Mu} {H H1:aa} {w w1:World} {nt m:Nat} {fr:aD} {a:Act} (hE:cG p M H w p1 M1 H1 w1) (hF:bZ p1 M1 nt (bX fr m) a) {n0:Nat} (hM:Marks n0 M1 H1 w1 a.defers) :
 ∃ p2,cG p M H w p2 M1 (lB m fr H1).2 w1∧bZ p2 M1 nt (lB m fr H1).1 a∧Marks n0 M1 (lB m fr H1).2 w1 a.defers:=by
 obtain ⟨p2,h1,h2,h3⟩:=BL hE hF hM
 unfold lB
 split
 · split
   · obtain ⟨k1,k2⟩:=Hi h1 h3 (Nat.shiftRight m 3985 % 4096)
     exact ⟨p2,k1,h2,k2⟩
   · exact ⟨p2,h1,h2,h3⟩
 · exact ⟨p2,h1,h2,h3⟩
theorem zB {p:aL} {M:Mu} {s sz:Nat}:∀ (fr:aD) (x:Nat) {c:Value},an p M (bO fr x) c→an p M (bO (EZ s sz fr) x) c
 | [],x,c,h=>h
 | (y,v)::r,x,c,h=>by
   simp only[EZ,bO] at h ⊢;split at h
   · rename_i e;rw[if_pos e];cases Nat.beq y s with
     | true=>exact zF h
     | false=>exact h
   · rename_i e;rw[if_neg e];exact zB r x h
theorem BN {p p1:aL} {M M1:Mu} {H H1:aa} {w w1:World} {nt m:Nat} {fr:aD} {a:Act} (hE:cG p M H w p1 M1 H1 w1) (hF:bZ p1 M1 nt (bX fr m) a) {n0:Nat} (hM:Marks n0 M1 H1 w1 a.defers) :
 ∃ p2,cG p M H w p2 M1 (lC m fr H1).2 w1∧bZ p2 M1 nt (lC m fr H1).1 a∧Marks n0 M1 (lC m fr H1).2 w1 a.defers:=by
 obtain ⟨p2,h1,h2,h3⟩:=BM hE hF hM
 unfold lC
 split
 · exact ⟨p2,h1,⟨h2.size,fun x=>zB _ x (h2.at_ x)⟩,h3⟩
 · exact ⟨p2,h1,h2,h3⟩
theorem yx:∀ (fr:aD) (x:Nat),bO (Fa fr) x=jY (bO fr x)
 | [],x=>rfl
 | (y,v)::r,x=>by
   simp only[Fa,bO];split
   · rfl
   · exact yx r x
theorem we {p p1:aL} {M M1:Mu} {H H1:aa} {w w1:World} {nt m:Nat} {fr:aD} {a:Act} (hE:cG p M H w p1 M1 H1 w1) (hF:bZ p1 M1 nt (bX fr m) a) {n0:Nat} (hM:Marks n0 M1 H1 w1 a.defers) :
 ∃ p2,cG p M H w p2 M1 (px m fr H1).2 w1∧bZ p2 M1 nt (px m fr H1).1 a∧Marks n0 M1 (px m fr H1).2 w1 a.defers:=by
 obtain ⟨p2,h1,h2,h3⟩:=BN hE hF hM
 unfold px
 split
 · exact ⟨p2,h1,⟨h2.size,fun x=>by rw[yx];exact kQ (h2.at_ x)⟩,h3⟩
 · exact ⟨p2,h1,h2,h3⟩

end Go.Eng
