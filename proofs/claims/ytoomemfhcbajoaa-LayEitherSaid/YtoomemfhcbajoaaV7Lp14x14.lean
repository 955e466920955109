/- Lay: what a plan's turns are; a right plan is one only if no cells crowd; Plan's answer is right. -/
import Derived.Test.YtoomemfhcbajoaaV7Lb42x5
import Derived.Test.YtoomemfhcbajoaaV7EngRnLx7
import Derived.Test.YtoomemfhcbajoaaV7EngKtL
import Derived.Test.YtoomemfhcbajoaaProg
import Derived.KernelRfl
import Derived.Test.YtoomemfhcbajoaaChecked
set_option linter.unusedVariables false
set_option linter.unusedSimpArgs false
set_option maxRecDepth 100000
section
namespace Go.Eng
theorem BL:∀ n,cn (fun _=>true) n=n
 | 0=>rfl
 | n+1=>by
   show cn (fun _=>true) n+1=n+1
   rw[BL n]
theorem GW {l:Nat} {z:Nat→Int} {c:Int} (h:np l z c=false):0≤c∧c<l∧z c.toNat=0:=by
 unfold np at h
 simp only[Bool.or_eq_false_iff,Bool.not_eq_false',Bool.and_eq_true,decide_eq_true_eq,decide_eq_false_iff_not,ne_eq,Classical.not_not] at h
 exact ⟨h.1.1,h.1.2,h.2⟩
section
variable {l m:Nat} {f:Nat→Nat→Int} {g:Nat→Nat}
def Nb (l:Nat) (f:Nat→Nat→Int) (g:Nat→Nat) (m:Nat):Prop:=∀ i,i<m→∀ j,j<g i→0≤f i j∧f i j<l∧fp (f i) ((i+1:Nat):Int) (cJ f g i) j (f i j).toNat=0
theorem FP (h:bV (mN l f g) m=false):Nb l f g m:=fun i hi j hj=>GW (dN (dN h i hi) j hj)
theorem C4 {o:Nat→Int} {T:Int} {z:Nat→Int} {c:Nat} (hc:z c≠0):∀ J,(∀ j,j<J→fp o T z j (o j).toNat=0)→fp o T z J c=z c
 | 0,_=>rfl
 | J + 1,h=>by
   have ih:=C4 (o:=o) (T:=T) hc J (fun j hj=>h j (by omega))
   show uI (fp o T z J) (o J).toNat T c=z c
   unfold uI
   by_cases e:c=(o J).toNat
   · have:=h J (by omega)
     rw[← e,ih] at this
     exact absurd this hc
   · rw[if_neg e,ih]
theorem GA {o:Nat→Int} {T:Int} {z:Nat→Int} (hT:T≠0) {j:Nat}:∀ J,j<J→(∀ j,j<J→fp o T z j (o j).toNat=0)→fp o T z J (o j).toNat=T
 | 0,hj,_=>by omega
 | J + 1,hj,h=>by
   show uI (fp o T z J) (o J).toNat T (o j).toNat=T
   unfold uI
   by_cases e:(o j).toNat=(o J).toNat
   · rw[if_pos e]
   · rw[if_neg e]
     have:j≠J:=fun e2=>e (by rw[e2])
     exact GA hT J (by omega) (fun j hj=>h j (by omega))
theorem xP {o:Nat→Int} {T:Int} {z:Nat→Int} {c:Nat}:∀ J,fp o T z J c=z c∨∃ j,j<J∧(o j).toNat=c∧fp o T z J c=T
 | 0=>.inl rfl
 | J + 1=>by
   show uI (fp o T z J) (o J).toNat T c=z c∨∃ j,j<J+1∧(o j).toNat=c∧uI (fp o T z J) (o J).toNat T c=T
   unfold uI
   by_cases e:c=(o J).toNat
   · rw[if_pos e];exact .inr ⟨J,by omega,e.symm,rfl⟩
   · rw[if_neg e]
     rcases xP (o:=o) (T:=T) (z:=z) (c:=c) J with h | ⟨j,h1,h2,h3⟩
     · exact .inl h
     · exact .inr ⟨j,by omega,h2,h3⟩
theorem Da {c:Nat} {i:Nat} (hc:cJ f g i c≠0):∀ q,Nb l f g (i+q)→cJ f g (i+q) c=cJ f g i c
 | 0,_=>rfl
 | q+1,h=>by
   have ih:=Da hc q (fun i' hi=>h i' (by omega))
   show fp (f (i+q)) ((i+q+1:Nat):Int) (cJ f g (i+q)) (g (i+q)) c=_
   rw[C4 (by rw[ih];exact hc) _ (fun j hj=>(h (i+q) (by omega) j hj).2.2),ih]
theorem GH (h:Nb l f g m) {i j:Nat} (hi:i<m) (hj:j<g i):cJ f g m (f i j).toNat=((i+1:Nat):Int):=by
 have e1:cJ f g (i+1) (f i j).toNat=((i+1:Nat):Int):=by
  show fp (f i) ((i+1:Nat):Int) (cJ f g i) (g i) (f i j).toNat=_
  exact GA (by omega) (g i) hj (fun j hj=>(h i hi j hj).2.2)
 obtain ⟨q,rfl⟩:∃ q,m=i+1+q:=⟨m-(i+1),by omega⟩
 rw[Da (by rw[e1];omega) q h,e1]
theorem xU {c:Nat}:∀ m,cJ f g m c≠0→∃ i,i<m∧∃ j,j<g i∧(f i j).toNat=c∧cJ f g m c=((i+1:Nat):Int)
 | 0,h=>absurd rfl h
 | m + 1,h=>by
   have e:cJ f g (m+1) c=fp (f m) ((m+1:Nat):Int) (cJ f g m) (g m) c:=rfl
   rcases xP (o:=f m) (T:=((m+1:Nat):Int)) (z:=cJ f g m) (c:=c) (g m) with h1 | ⟨j,h1,h2,h3⟩
   · rw[e,h1] at h
     obtain ⟨i,a,j,b,cc,dd⟩:=xU m h
     exact ⟨i,by omega,j,b,cc,by rw[e,h1];exact dd⟩
   · exact ⟨m,by omega,j,h1,h2,by rw[e,h3]⟩
theorem Jr {o:Nat→Int} {T:Int} {z:Nat→Int} (hT:T≠0):∀ J,(∀ j,j<J→0≤o j∧o j<l∧fp o T z j (o j).toNat=0)→cn (fun c=>decide (fp o T z J c≠0)) l=cn (fun c=>decide (z c≠0)) l+J
 | 0,_=>rfl
 | J+1,h=>by
   have ih:=Jr (o:=o) (T:=T) (z:=z) hT J (fun j hj=>h j (by omega))
   obtain ⟨h1,h2,h3⟩:=h J (by omega)
   rw[gK (p:=fun c=>decide (fp o T z J c≠0)) (q:=fun c=>decide (fp o T z (J+1) c≠0)) (i:=(o J).toNat) (by simp[h3]) (by
    show decide (uI (fp o T z J) (o J).toNat T (o J).toNat≠0)=true
    unfold uI
    rw[if_pos rfl];simpa using hT) (fun j _ hj=>by
    show decide (uI (fp o T z J) (o J).toNat T j≠0)=_
    unfold uI
    rw[if_neg hj]) (by omega),ih,Nat.add_assoc]
theorem C9:∀ m,Nb l f g m→cn (fun c=>decide (cJ f g m c≠0)) l=bu g m
 | 0,_=>mP (fun j _=>by show decide (Int.ofNat 0≠0)=false;decide)
 | m+1,h=>by
   have ih:=C9 m (fun i hi=>h i (by omega))
   have:=Jr (l:=l) (o:=f m) (T:=((m+1:Nat):Int)) (z:=cJ f g m) (by omega) (g m) (h m (by omega))
   rw[ih] at this
   exact this
theorem Gw (h:nn l m f g=0):m≤40∧Nb l f g m∧bu g m=l:=by
 unfold nn at h
 by_cases c:40<m
 · rw[if_pos c] at h;omega
 · rw[if_neg c] at h
   by_cases c2:bV (mN l f g) m=true∨bu g m≠l
   · rw[if_pos c2] at h;omega
   · refine ⟨by omega,FP ?_,?_⟩
     · cases e:bV (mN l f g) m with
       | false=>rfl
       | true=>exact absurd (.inl e) c2
     · exact Classical.byContradiction (fun h=>c2 (.inr h))
theorem Nm (hm:m≤40) (hb:bV (mN l f g) m=false) (ht:bu g m=l):nn l m f g=0:=by
 unfold nn
 rw[if_neg (by omega),if_neg (by rw[hb,ht];simp)]
theorem Db (h:nn l m f g=0) {c:Nat} (hc:c<l):∃ i,i<m∧(∃ j,j<g i∧f i j=(c:Int))∧cJ f g m c=((i+1:Nat):Int):=by
 obtain ⟨h1,h2,h3⟩:=Gw h
 have:=BK (p:=fun c=>decide (cJ f g m c≠0)) (n:=l) (by rw[C9 m h2,h3]) c hc
 obtain ⟨i,a,j,b,e1,e2⟩:=xU m (by simpa using this)
 have:=(h2 i a j b).1
 exact ⟨i,a,⟨j,b,by omega⟩,e2⟩
theorem Gx {h:Int} {T:Nat} (hg:∀ i,i<T→(g i:Int)≤h):∀ i,i≤T→(bu g i:Int)≤h*i
 | 0,_=>by show ((0:Nat):Int)≤h*((0:Nat):Int);simp
 | i+1,hi=>by
   have ih:=Gx hg i (by omega)
   have:=hg i (by omega)
   show ((bu g i+g i:Nat):Int)≤h*((i+1:Nat):Int)
   rw[Int.natCast_add,Int.natCast_add,Int.mul_add]
   simp only[Int.natCast_one,Int.mul_one]
   omega
theorem IC (h:nn l m f g=0) {hh:Int} (h0:0≤hh) (hg:∀ i,i<m→(g i:Int)≤hh) (T:Nat):(cn (fun c=>decide (cJ f g m c≤(T:Int))) l:Int)≤hh*T:=by
 obtain ⟨h1,h2,h3⟩:=Gw h
 by_cases c:m≤T
 · have a:=Gx hg m (Nat.le_refl _)
   have b:=lY (fun c=>decide (cJ f g m c≤(T:Int))) l
   have d:hh*(m:Int)≤hh*(T:Int):=Int.mul_le_mul_of_nonneg_left (by omega) h0
   omega
 · have hT:Nb l f g T:=fun i hi=>h2 i (by omega)
   have a:=C9 T hT
   have b:=Gx hg T (by omega)
   have:cn (fun c=>decide (cJ f g m c≤(T:Int))) l≤cn (fun c=>decide (cJ f g T c≠0)) l:=kN (fun c hc hp=>by
    obtain ⟨i,q1,⟨j,q2,q3⟩,q4⟩:=Db h hc
    have q5:cJ f g m c≤(T:Int):=by simpa using hp
    have:=GH hT (i:=i) (j:=j) (by omega) q2
    rw[q3,Int.toNat_natCast] at this
    rw[decide_eq_true_eq,this]
    omega)
   omega
theorem MB {t z:Nat→Int} (h:bV (pM t z) l=false) {j:Nat} (hj:j<l) (h0:0≤t j):z j<z (t j).toNat:=by
 have:=dN h j hj
 unfold pM at this
 rw[decide_eq_true h0,Bool.true_and,decide_eq_false_iff_not] at this
 omega
theorem Gf {t z:Nat→Int} (hf:Fw l t) (hr:∀ j,j<l→0≤t j→z j<z (t j).toNat) {i:Nat} (hi:i<l):∀ q,q<iX l t i→z i+q≤z (bE t q (i:Int)).toNat
 | 0,_=>by
   show z i+((0:Nat):Int)≤z ((i:Int)).toNat
   rw[Int.toNat_natCast];omega
 | q+1,hq=>by
   have ih:=Gf hf hr hi q (by omega)
   have h1:=(nU hf hi q (by omega)).1
   have h2:=(nU hf hi (q+1) hq).1
   have h3:=gA hf.tl (x:=(i:Int)) (by omega) q
   rw[r7 h1] at h2 ⊢
   have:=hr (bE t q (i:Int)).toNat (by omega) h2
   omega
theorem ya {t e:Nat→Int} {hh:Int} (hf:Fw l t) (h:nn l m f g=0) (h0:0≤hh) (hg:∀ i,i<m→(g i:Int)≤hh) (hr:∀ j,j<l→0≤t j→cJ f g m j<cJ f g m (t j).toNat) (he:∀ j,j<l→cJ f g m j≤e j):ct l t e hh=true:=by
 refine (oI l t e hh).2 (fun T hT=>?_)
 have:=IC h h0 hg T
 have:AK l t e T≤cn (fun c=>decide (cJ f g m c≤(T:Int))) l:=kN (fun c hc hp=>by
  have a:gv l t e c≤T:=by simpa using hp
  have b:cJ f g m c≤gv l t e c:=(vG hf hc).2 (fun q hq=>by
   have:=Gf hf hr hc q hq
   have h1:=(nU hf hc q hq).1
   have h2:=gA hf.tl (x:=(c:Int)) (by omega) q
   have:=he (bE t q (c:Int)).toNat (by omega)
   omega)
  rw[decide_eq_true_eq];omega)
 omega

end
section
variable {l k:Nat} {t d:Nat→Int} {h:Int} {m:Nat} {f:Nat→Nat→Int} {g:Nat→Nat}
structure Rp (l k:Nat) (t d:Nat→Int) (h:Int) (m:Nat) (f:Nat→Nat→Int) (g:Nat→Nat):Prop where
 sh:Sh l t k d
 h1:1≤h
 h10:h≤10
 tn:nn l m f g=0
 gh:∀ i,i<m→(g i:Int)≤h
 ru:∀ j,j<l→0≤t j→cJ f g m j<cJ f g m (t j).toNat
 la:∀ j,j<l→cJ f g m j≤d j
theorem I5 (hc:rL l k t d h m f g=0):Rp l k t d h m f g:=by
 unfold rL at hc
 by_cases a:cX l t k d h=0
 · rw[if_neg (by rw[a];decide)] at hc
   by_cases b:nn l m f g=0
   · rw[if_neg (by rw[b];decide)] at hc
     cases e1:bV (rU h g) m with
     | true=>rw[e1] at hc;simp at hc
     | false =>
       cases e2:bV (pM t (cJ f g m)) l with
       | true=>rw[e1,e2] at hc;simp at hc
       | false =>
         cases e3:bV (qk d (cJ f g m)) l with
         | true=>rw[e1,e2,e3] at hc;simp at hc
         | false =>
           obtain ⟨s,s1,s2⟩:=kI a
           refine ⟨s,s1,s2,b,fun i hi=>?_,fun j hj h0=>MB e2 hj h0,fun j hj=>?_⟩
           · have:=dN e1 i hi
             unfold rU at this
             rw[decide_eq_false_iff_not] at this
             omega
           · have:=dN e3 j hj
             unfold qk at this
             rw[decide_eq_false_iff_not] at this
             omega
   · rw[if_pos b] at hc;exact absurd hc b
 · rw[if_pos a] at hc;exact absurd hc a
theorem Mz (r:Rp l k t d h m f g):rL l k t d h m f g=0:=by
 unfold rL
 have a:=Ey r.sh r.h1 r.h10
 rw[if_neg (by rw[a];decide),if_neg (by rw[r.tn];decide),if_neg,if_neg,if_neg]
 · intro e
   obtain ⟨j,j1,j2⟩:=(dj _ _).1 e
   have:=r.la j j1
   unfold qk at j2
   rw[decide_eq_true_eq] at j2
   omega
 · intro e
   obtain ⟨j,j1,j2⟩:=(dj _ _).1 e
   unfold pM at j2
   rw[Bool.and_eq_true,decide_eq_true_eq,decide_eq_true_eq] at j2
   have:=r.ru j j1 j2.1
   omega
 · intro e
   obtain ⟨j,j1,j2⟩:=(dj _ _).1 e
   have:=r.gh j j1
   unfold rU at j2
   rw[decide_eq_true_eq] at j2
   omega
theorem KG (r:Rp l k t d h m f g):ct l t d h=true:=ya r.sh.fw r.tn (by have:=r.h1;omega) r.gh r.ru r.la
theorem CI (r:Rp l k t d h m f g) {c:Nat} (hc:c<l):1≤cJ f g m c∧cJ f g m c≤m:=by
 obtain ⟨i,a,_,b⟩:=Db r.tn hc
 omega
theorem MA (r:Rp l k t d h m f g):c8 l t d h≤m:=by
 have hm:=(Gw r.tn).1
 have h1:1≤m:=by
  have:=CI r (c:=0) r.sh.l1
  omega
 have hb:=Ce (fun T=>ct l t (fun i=>min (d i) (T:Nat)) h)
 unfold c8
 by_cases c:m<40
 · refine (A6 (fun T=>ct l t (fun i=>min (d i) (T:Nat)) h)).2 m h1 c ?_
   exact ya r.sh.fw r.tn (by have:=r.h1;omega) r.gh r.ru (fun j hj=>by
    have:=r.la j hj
    have:=CI r hj
    omega)
 · omega
theorem Ie (hs:Sh l t k d) (hc:ct l t d h=true) (h1:1≤h) (h10:h≤10):Rp l k t d h (c8 l t d h) (fP l k t d h (c8 l t d h-1)) (gP l k t d h (c8 l t d h-1)):=by
 have row:∀ i,i<c8 l t d h→_:=fun i hi=>KF hs hc ⟨h1,h10⟩ (T:=c8 l t d h-1) hi (by omega)
 have hlen:∀ i,i<c8 l t d h→(gP l k t d h (c8 l t d h-1) i:Int)≤h:=fun i hi=>by
  have:=KB hs hc ⟨h1,h10⟩ hi
  rw[(row i hi).1];exact this.2
 obtain ⟨T1,T40⟩:=(lF hs hc).2
 generalize c8 l t d h-1=T at *
 have cell:∀ i,i<c8 l t d h→∀ j,j<gP l k t d h T i→∃ c:Nat,c ∈ rN l k t d h i∧fP l k t d h T i j=c:=fun i hi j hj=>by
  exact ((row i hi).2.2 _).1 ⟨j,hj,rfl⟩
 have nb:∀ i,i<c8 l t d h→∀ j,j<gP l k t d h T i→np l (fp (fP l k t d h T i) ((i+1:Nat):Int) (cJ (fP l k t d h T) (gP l k t d h T) i) j) (fP l k t d h T i j)=false:=fun i hi j hj=>by
  obtain ⟨c,c1,c2⟩:=cell i hi j hj
  have hcl:=((zI (h:=h) hs i).2 c c1).1
  unfold np
  rw[c2,Int.toNat_natCast,decide_eq_true (show (0:Int)≤(c:Int) by omega),decide_eq_true (show (c:Int)<l by omega)]
  have:fp (fP l k t d h T i) ((i+1:Nat):Int) (cJ (fP l k t d h T) (gP l k t d h T) i) j c=0:=by
   apply Classical.byContradiction
   intro hne
   rcases xP (o:=fP l k t d h T i) (T:=((i+1:Nat):Int)) (z:=cJ (fP l k t d h T) (gP l k t d h T) i) (c:=c) j with e | ⟨j',e1,e2,_⟩
   · rw[e] at hne
     obtain ⟨i',q1,j',q2,q3,_⟩:=xU i hne
     obtain ⟨c',c3,c4⟩:=cell i' (by omega) j' q2
     rw[c4,Int.toNat_natCast] at q3
     subst q3
     have:=KC hs c1 c3
     omega
   · have:=(row i hi).2.1 j' j e1 hj
     obtain ⟨c',c3,c4⟩:=cell i hi j' (by omega)
     rw[c4,Int.toNat_natCast] at e2
     rw[c4,c2] at this
     omega
  rw[this];rfl
 have hb:bV (mN l (fP l k t d h T) (gP l k t d h T)) (c8 l t d h)=false:=jN (fun i hi=>jN (fun j hj=>nb i hi j hj))
 have hset:∀ c,c<l→∃ i,i<c8 l t d h∧c ∈ rN l k t d h i∧((i:Nat):Int)+1≤d c∧cJ (fP l k t d h T) (gP l k t d h T) (c8 l t d h) c=((i+1:Nat):Int):=fun c hcl=>by
  obtain ⟨i,i1,i2,i3⟩:=Kz hs hc ⟨h1,h10⟩ hcl
  obtain ⟨j,j1,j2⟩:=((row i i1).2.2 (c:Int)).2 ⟨c,i3,rfl⟩
  have:=GH (FP hb) i1 j1
  rw[j2,Int.toNat_natCast] at this
  exact ⟨i,i1,i3,i2,this⟩
 have htot:bu (gP l k t d h T) (c8 l t d h)=l:=by
  rw[← C9 (l:=l) (f:=fP l k t d h T) (c8 l t d h) (FP hb)]
  have:cn (fun c=>decide (cJ (fP l k t d h T) (gP l k t d h T) (c8 l t d h) c≠0)) l=cn (fun _=>true) l:=dD (fun c hcl=>by
   obtain ⟨i,_,_,_,e⟩:=hset c hcl
   rw[e]
   exact decide_eq_true (by omega))
  rw[this,BL]
 refine ⟨hs,h1,h10,Nm T40 hb htot,hlen,fun j hj h0=>?_,fun j hj=>?_⟩
 · have htl:=hs.tl j hj
   obtain ⟨i,_,i2,_,e⟩:=hset j hj
   obtain ⟨i',_,i2',_,e'⟩:=hset (t j).toNat (by omega)
   have:=KA hs i2 i2' (by omega)
   rw[e,e'];omega
 · obtain ⟨i,_,_,i3,e⟩:=hset j hj
   rw[e];omega
end
end Go.Eng
end
section
namespace Go.Eng
open Go.Proofs
noncomputable def gL (A:List AV) (P:AV→Prop) (E:AV→Int):List AV→Option (Prop×AV)
 | [a,b,c]=>some ([a,b]=A∧P c,.int .i64 (E c))
 | _=>none
section
variable {m m':Nat} {f f':Nat→Nat→Int} {g g':Nat→Nat}
theorem Ip (h:dK m f g=dK m' f' g'):m=m'∧f=f'∧g=g':=by
 unfold dK cA at h
 injection h with _ h1 _ h2 _
 injection h1 with h3 _
 refine ⟨h2,?_,?_⟩
 · funext j
   have:=congrFun h3 j
   injection this with _ a _ _ _
   injection a with a
   injection a with a _
   injection a with _ a _
 · funext j
   have:=congrFun h3 j
   injection this with _ _ _ a _
end
noncomputable def IJ (l k:Nat) (t d:Nat→Int) (h:Int) (c:AV):Int:=by
 classical exact if e:∃ q:Nat×(Nat→Nat→Int)×(Nat→Nat),c=dK q.1 q.2.1 q.2.2 then rL l k t d h e.choose.1 e.choose.2.1 e.choose.2.2 else 0
theorem AJ (l k:Nat) (t d:Nat→Int) (h:Int) (m:Nat) (f:Nat→Nat→Int) (g:Nat→Nat):IJ l k t d h (dK m f g)=rL l k t d h m f g:=by
 have e:∃ q:Nat×(Nat→Nat→Int)×(Nat→Nat),dK m f g=dK q.1 q.2.1 q.2.2:=⟨(m,f,g),rfl⟩
 unfold IJ
 rw[dif_pos e]
 obtain ⟨a,b,c⟩:=Ip e.choose_spec
 rw[← a,← b,← c]
def ME (c:AV):Prop:=∃ (m:Nat) (f:Nat→Nat→Int) (g:Nat→Nat),c=dK m f g∧m≤50∧∀ i,i<m→g i≤40
theorem BU {c fn l k:Nat} {t d:Nat→Int} {h:Int} {T:ov} (hT:T.Ok (cd c)) (h2:∀ m f g H,m≤50→(∀ i,i<m→g i≤40)→cd c (.fn fn) [bR l t k d,.int .i64 h,dK m f g] H=some (.int .i64 (rL l k t d h m f g),H)):(uw T fn (gL [bR l t k d,.int .i64 h] ME (IJ l k t d h))).Ok (cd c):=by
 refine nH hT (fun args p v hg hp H=>?_)
 unfold gL at hg
 split at hg
 · simp only[nP] at hg
   obtain ⟨rfl,rfl⟩:=hg
   obtain ⟨e,m,f,g,rfl,h3,h4⟩:=hp
   simp only[List.cons.injEq,and_true] at e
   obtain ⟨rfl,rfl⟩:=e
   rw[AJ]
   exact h2 m f g H h3 h4
 · cases hg
section
variable (n l k:Nat) (t d:Nat→Int) (h:Int) (m:Nat) (f:Nat→Nat→Int) (g:Nat→Nat) (H:aa)
end
end Go.Eng
end
section
namespace Go.Eng
open Go.Proofs
noncomputable def gT (A:List AV) (E:Int→Int):List AV→Option (Prop×AV)
 | [a,b,.int .i64 x]=>some ([a,b]=A,.int .i64 (E x))
 | _=>none
theorem QO (n l k:Nat) (t d:Nat→Int) (h w:Int) (m:Nat) (f:Nat→Nat→Int) (g:Nat→Nat) (b1 b2:Bool) (H:aa):aX Try.prog (cd n) 100000 7 Try.f7 (KtL.kt 7) (il (uw (tX (tX aD 43 [bR l t k d] (.bool b1)) 24 [dK m f g] (.bool b2)) 16 LR) n 0) aK aL [(bR l t k d,none),(.int .u8 h,none),(.int .u8 w,none),(dK m f g,none)] H =
 (fun (Z0:List AV)=>((fun (Z1:List AV)=>Tr.reqP (Z0=Z0) (Tr.ite (aY b1) (Tr.reqP True (Tr.ok ((AV.bool true,none),H))) (Tr.reqP (Z1=Z1) (Tr.ite b2 (Tr.reqP True (Tr.ok ((AV.bool true,none),H))) (Tr.req (aY (cI (Int.ofNat 10) (Int.ofNat 0))) (Tr.req (aY (cI (Int.ofNat 41) (Int.ofNat 0))) Tr.bad)))))) [AV.slcT none (Row.F (fun j=>AV.slcT none (Row.M [ah.arr .i64 (f j) (g j)]) 1 (g j) false) m) 1 m false])) [AV.agg (Row.G [AV.slcT none (Row.M [ah.arr .i64 t l]) 1 l false,AV.slcT none (Row.M [ah.arr .i64 d k]) 1 k false])]:=by kernel_rfl
theorem T6 (n l k:Nat) (t d:Nat→Int) (h w hv:Int) (m:Nat) (f:Nat→Nat→Int) (g:Nat→Nat) (c:Int) (P:AV→Prop) (E:AV→Int) (E2:Int→Int) (H:aa):aX Try.prog (cd n) 100000 7 Try.f7 (KtL.kt 7) (il (uw (uw (uw (uw (uw (tX (tX (tX (tX aD 43 [bR l t k d] (.bool true)) 24 [dK m f g] (.bool false)) 27 [bR l t k d,.int .i64 hv] (.tup [.nils,.int .i64 13])) 32 [bR l t k d,.int .i64 hv] (.tup [.int .i64 c,.int .i64 0])) 29 (gL [bR l t k d,.int .i64 hv] P E)) 30 (gL [bR l t k d,.int .i64 hv] P E)) 37 (gT [bR l t k d,.int .i64 hv] E2)) 38 (gT [bR l t k d,.int .i64 hv] E2)) 16 LR) n 0) aK aL [(bR l t k d,none),(.int .u8 h,none),(.int .u8 w,none),(dK m f g,none)] H =
 (fun (Z0:Row)=>((fun (Z1:List AV)=>((fun (Z2:Row)=>Tr.reqP ([AV.agg Z0]=[AV.agg Z0]) (Tr.ite (aY true) (Tr.reqP True (Tr.ok ((AV.bool true,none),H))) (Tr.reqP ([AV.slcT none Z2 1 m false]=[AV.slcT none Z2 1 m false]) (Tr.ite false (Tr.reqP True (Tr.ok ((AV.bool true,none),H))) (Tr.req (aY (cI (Int.ofNat 10) (Int.ofNat 0))) (Tr.req (aY (cI (Int.ofNat 41) (Int.ofNat 0))) (Tr.reqP (Z1=[AV.agg Z0,AV.int .i64 hv]) (Tr.reqP (Z1=[AV.agg Z0,AV.int .i64 hv]) (Tr.reqP (Z1=[AV.agg Z0,AV.int .i64 hv]∧P (AV.slcT none Z2 1 m false)) (Tr.reqP (Z1=[AV.agg Z0,AV.int .i64 hv]) (Tr.ite (cI (Int.ofNat 13) (Int.ofNat 0)) (Tr.ite (cI (Int.ofNat 0) (Int.ofNat 5)) (Tr.ite (cI c (Int.ofNat 0)) (Tr.reqP (Z1=[AV.agg Z0,AV.int .i64 hv]∧P AV.nils) (Tr.ite (cI (E AV.nils) (Int.ofNat 0)) (Tr.reqP (Z1=[AV.agg Z0,AV.int .i64 hv]∧P AV.nils) (Tr.ite (cI (E AV.nils) (Int.ofNat 0)) (Tr.ite (cI (E2 (qA IntKind.i64 (Ar IntKind.i64 w) (Int.ofNat 41))) (Int.ofNat 14)) (Tr.ite (aY (cI (E (AV.slcT none Z2 1 m false)) (Int.ofNat 0))) (Tr.reqP True (Tr.ok ((AV.bool true,none),H))) (Tr.ite (lM (Int.ofNat 0) (Int.ofNat m)) (Tr.reqP True (Tr.ok ((AV.bool true,none),H))) (Tr.ok ((AV.bool false,some 1),H)))) (Tr.ok ((AV.bool false,some 1),H))) (Tr.ok ((AV.bool false,some 1),H)))) (Tr.ok ((AV.bool false,some 1),H)))) (Tr.ok ((AV.bool false,some 1),H))) (Tr.ok ((AV.bool false,some 1),H))) (Tr.ite (cI (Int.ofNat 13) (Int.ofNat 13)) (Tr.ite (cI (Int.ofNat 0) (Int.ofNat 0)) (Tr.reqP (Z1=[AV.agg Z0,AV.int .i64 hv]) (Tr.ite (cI (E2 c) (Int.ofNat 0)) (Tr.reqP (Z1=[AV.agg Z0,AV.int .i64 hv]) (Tr.ite (cI (E2 c) (Int.ofNat 0)) (Tr.ite (aY (cI (E2 (qA IntKind.i64 (Ar IntKind.i64 w) (Int.ofNat 41))) (Int.ofNat 0))) (Tr.ite (aY (cI (E (AV.slcT none Z2 1 m false)) (Int.ofNat 0))) (Tr.reqP True (Tr.ok ((AV.bool true,none),H))) (Tr.ok ((AV.bool false,some 1),H))) (Tr.ite (lM c (qA IntKind.i64 (Ar IntKind.i64 w) (Int.ofNat 41))) (Tr.ite (aY (cI (E (AV.slcT none Z2 1 m false)) (Int.ofNat 0))) (Tr.reqP True (Tr.ok ((AV.bool true,none),H))) (Tr.ok ((AV.bool false,some 1),H))) (Tr.ok ((AV.bool false,some 1),H)))) (Tr.ok ((AV.bool false,some 1),H)))) (Tr.ok ((AV.bool false,some 1),H)))) (Tr.ok ((AV.bool false,some 1),H))) (Tr.ok ((AV.bool false,some 1),H)))))))))))))) (Row.F (fun j=>AV.slcT none (Row.M [ah.arr .i64 (f j) (g j)]) 1 (g j) false) m))) [AV.agg Z0,AV.int .i64 (bG .i64 (Int.ofNat 1) (qA IntKind.i64 (Ar IntKind.i64 h) (Int.ofNat 10)))])) (Row.G [AV.slcT none (Row.M [ah.arr .i64 t l]) 1 l false,AV.slcT none (Row.M [ah.arr .i64 d k]) 1 k false]):=by kernel_rfl
theorem u7 (n l k:Nat) (t d:Nat→Int) (h w hv:Int) (m:Nat) (f:Nat→Nat→Int) (g:Nat→Nat) (T:Nat) (F:Nat→Nat→Int) (G:Nat→Nat) (P:AV→Prop) (E:AV→Int) (E2:Int→Int) (H:aa):aX Try.prog (cd n) 100000 7 Try.f7 (KtL.kt 7) (il (uw (uw (uw (uw (uw (tX (tX (tX (tX aD 43 [bR l t k d] (.bool true)) 24 [dK m f g] (.bool false)) 27 [bR l t k d,.int .i64 hv] (.tup [dK T F G,.int .i64 0])) 32 [bR l t k d,.int .i64 hv] (.tup [.int .i64 0,.int .i64 5])) 29 (gL [bR l t k d,.int .i64 hv] P E)) 30 (gL [bR l t k d,.int .i64 hv] P E)) 37 (gT [bR l t k d,.int .i64 hv] E2)) 38 (gT [bR l t k d,.int .i64 hv] E2)) 16 LR) n 0) aK aL [(bR l t k d,none),(.int .u8 h,none),(.int .u8 w,none),(dK m f g,none)] H =
 (fun (Z0:Row)=>((fun (Z1:List AV)=>((fun (Z2:Row)=>((fun (Z3:AV)=>Tr.reqP ([AV.agg Z0]=[AV.agg Z0]) (Tr.ite (aY true) (Tr.reqP True (Tr.ok ((AV.bool true,none),H))) (Tr.reqP ([AV.slcT none Z2 1 m false]=[AV.slcT none Z2 1 m false]) (Tr.ite false (Tr.reqP True (Tr.ok ((AV.bool true,none),H))) (Tr.req (aY (cI (Int.ofNat 10) (Int.ofNat 0))) (Tr.req (aY (cI (Int.ofNat 41) (Int.ofNat 0))) (Tr.reqP (Z1=[AV.agg Z0,AV.int .i64 hv]) (Tr.reqP (Z1=[AV.agg Z0,AV.int .i64 hv]) (Tr.reqP (Z1=[AV.agg Z0,AV.int .i64 hv]∧P (AV.slcT none Z2 1 m false)) (Tr.reqP (Z1=[AV.agg Z0,AV.int .i64 hv]) (Tr.ite (cI (Int.ofNat 0) (Int.ofNat 0)) (Tr.ite (cI (Int.ofNat 5) (Int.ofNat 5)) (Tr.ite (cI (Int.ofNat 0) (Int.ofNat 0)) (Tr.reqP (Z1=[AV.agg Z0,AV.int .i64 hv]∧P Z3) (Tr.ite (cI (E Z3) (Int.ofNat 0)) (Tr.reqP (Z1=[AV.agg Z0,AV.int .i64 hv]∧P Z3) (Tr.ite (cI (E Z3) (Int.ofNat 0)) (Tr.ite (cI (E2 (qA IntKind.i64 (Ar IntKind.i64 w) (Int.ofNat 41))) (Int.ofNat 14)) (Tr.ite (aY (cI (E (AV.slcT none Z2 1 m false)) (Int.ofNat 0))) (Tr.reqP True (Tr.ok ((AV.bool true,none),H))) (Tr.ite (lM (Int.ofNat T) (Int.ofNat m)) (Tr.reqP True (Tr.ok ((AV.bool true,none),H))) (Tr.ok ((AV.bool false,some 1),H)))) (Tr.ok ((AV.bool false,some 1),H))) (Tr.ok ((AV.bool false,some 1),H)))) (Tr.ok ((AV.bool false,some 1),H)))) (Tr.ok ((AV.bool false,some 1),H))) (Tr.ok ((AV.bool false,some 1),H))) (Tr.ite (cI (Int.ofNat 0) (Int.ofNat 13)) (Tr.ite (cI (Int.ofNat T) (Int.ofNat 0)) (Tr.ite (cI (Int.ofNat 5) (Int.ofNat 0)) (Tr.reqP (Z1=[AV.agg Z0,AV.int .i64 hv]) (Tr.ite (cI (E2 (Int.ofNat 0)) (Int.ofNat 0)) (Tr.reqP (Z1=[AV.agg Z0,AV.int .i64 hv]) (Tr.ite (cI (E2 (Int.ofNat 0)) (Int.ofNat 0)) (Tr.ite (aY (cI (E2 (qA IntKind.i64 (Ar IntKind.i64 w) (Int.ofNat 41))) (Int.ofNat 0))) (Tr.ite (aY (cI (E (AV.slcT none Z2 1 m false)) (Int.ofNat 0))) (Tr.reqP True (Tr.ok ((AV.bool true,none),H))) (Tr.ok ((AV.bool false,some 1),H))) (Tr.ite (lM (Int.ofNat 0) (qA IntKind.i64 (Ar IntKind.i64 w) (Int.ofNat 41))) (Tr.ite (aY (cI (E (AV.slcT none Z2 1 m false)) (Int.ofNat 0))) (Tr.reqP True (Tr.ok ((AV.bool true,none),H))) (Tr.ok ((AV.bool false,some 1),H))) (Tr.ok ((AV.bool false,some 1),H)))) (Tr.ok ((AV.bool false,some 1),H)))) (Tr.ok ((AV.bool false,some 1),H)))) (Tr.ok ((AV.bool false,some 1),H))) (Tr.ok ((AV.bool false,some 1),H))) (Tr.ok ((AV.bool false,some 1),H)))))))))))))) (AV.slcT none (Row.F (fun j=>AV.slcT none (Row.M [ah.arr .i64 (F j) (G j)]) 1 (G j) false) T) 1 T false))) (Row.F (fun j=>AV.slcT none (Row.M [ah.arr .i64 (f j) (g j)]) 1 (g j) false) m))) [AV.agg Z0,AV.int .i64 (bG .i64 (Int.ofNat 1) (qA IntKind.i64 (Ar IntKind.i64 h) (Int.ofNat 10)))])) (Row.G [AV.slcT none (Row.M [ah.arr .i64 t l]) 1 l false,AV.slcT none (Row.M [ah.arr .i64 d k]) 1 k false]):=by kernel_rfl
theorem BV {c fn l k:Nat} {t d:Nat→Int} {h:Int} {E:Int→Int} {T:ov} (hT:T.Ok (cd c)) (h2:∀ x H,cd c (.fn fn) [bR l t k d,.int .i64 h,.int .i64 x] H=some (.int .i64 (E x),H)):(uw T fn (gT [bR l t k d,.int .i64 h] E)).Ok (cd c):=by
 refine nH hT (fun args p v hg hp H=>?_)
 unfold gT at hg
 split at hg
 · simp only[nP] at hg
   obtain ⟨rfl,rfl⟩:=hg
   simp only[List.cons.injEq,and_true] at hp
   obtain ⟨rfl,rfl⟩:=hp
   exact h2 _ H
 · cases hg
theorem JL {l:Nat} {t e:Nat→Int} {h:Int} (hc:ct l t e h=false):0≤pW l t e h∧pW l t e h≤40∧rM l t e h (pW l t e h)=true∧∀ T:Nat,T≤40→rM l t e h (T:Nat)=true→pW l t e h≤T:=by
 unfold ct at hc
 unfold pW A0
 have hx:bV (fun T=>rM l t e h (T:Nat)) 41=true:=by simpa using hc
 rw[if_pos hx]
 have a:=ig hx
 obtain ⟨_,_,b,c⟩:=kR (fun T=>rM l t e h (T:Nat)) 41 0
 refine ⟨by omega,by omega,c (by omega),fun T h1 h2=>?_⟩
 apply Classical.byContradiction
 intro hn
 have:=b T (by omega) (by omega)
 rw[h2] at this;cases this
section
variable (n l k:Nat) (t d:Nat→Int) (h w:Int) (m:Nat) (f:Nat→Nat→Int) (g:Nat→Nat) (H:aa)
theorem c7 (hh:0≤h∧h≤255) (hw:0≤w∧w≤255):cd (n+14) (.fn 7) [bR l t k d,.int .u8 h,.int .u8 w,dK m f g] H=some (.bool true,H):=by
 have h43:∀ H,cd (n+13) (.fn 43) [bR l t k d] H=some (.bool (decide (oi l t k d=0)),H):=fun H=>Rb (n+10) l k t d H
 have h24:∀ H,cd (n+13) (.fn 24) [dK m f g] H=some (.bool (decide (50<m) || bV (fun j=>decide (40<g j)) m),H):=fun H=>Q4 (n+12) m f g H
 by_cases hb1:oi l t k d=0
 · rw [decide_eq_true hb1] at h43
   cases hb2:(decide (50<m) || bV (fun j=>decide (40<g j)) m) with
   | true =>
     refine aC (n:=n+13) Try.func7 rfl rfl rfl (QO (n+13) l k t d h w m f g _ _ H) (aQ _ (n+13) (Nz (by omega) (bo (bo (aB _) h43) h24))) (af _ _) (ag _ _) ?_
     rw[hb2]
     exact wF
   | false =>
     rw[hb2] at h24
     simp only[Bool.or_eq_false_iff,decide_eq_false_iff_not] at hb2
     have hm:m≤50:=by omega
     have hg:∀ i,i<m→g i≤40:=fun i hi=>by
      have:=dN hb2.2 i hi
      rw[decide_eq_false_iff_not] at this
      omega
     clear hb2
     have hs:=CL hb1
     have m1:h.tmod 10=h % 10:=Int.tmod_eq_emod_of_nonneg hh.1
     have m2:w.tmod 41=w % 41:=Int.tmod_eq_emod_of_nonneg hw.1
     have hh1:1≤1+h % 10:=by omega
     have hh2:1+h % 10≤10:=by omega
     obtain ⟨W,hW⟩:∃ W:Nat,w % 41=W:=⟨(w % 41).toNat,by omega⟩
     have hW40:W≤40:=by omega
     have e2:qA .i64 (Ar .i64 w) (Int.ofNat 41)=(W:Nat):=by
      rw[GB (by omega) (by omega),xz,show Int.ofNat 41=41 from rfl,m2,hW]
     generalize hhv:1+h % 10=hv at *
     have e1:bG .i64 (Int.ofNat 1) (qA .i64 (Ar .i64 h) (Int.ofNat 10))=hv:=by
      rw[GB (by omega) (by omega),xz,show Int.ofNat 10=10 from rfl,m1,show Int.ofNat 1=1 from rfl,GL (by omega) (by omega),hhv]
     have ha:=Ey hs hh1 hh2
     have h27:∀ H,cd (n+13) (.fn 27) [bR l t k d,.int .i64 hv] H=some (Kx l k t d hv,H):=fun H=>Q5 (n+1) l k t d hv H
     have h29:∀ m f g H,m≤50→(∀ i,i<m→g i≤40)→cd (n+13) (.fn 29) [bR l t k d,.int .i64 hv,dK m f g] H=some (.int .i64 (rL l k t d hv m f g),H):=fun m f g H a b=>Q6 (n+2) l k t d hv m f g H a b
     have h30:∀ m f g H,m≤50→(∀ i,i<m→g i≤40)→cd (n+13) (.fn 30) [bR l t k d,.int .i64 hv,dK m f g] H=some (.int .i64 (rL l k t d hv m f g),H):=fun m f g H a b=>Q7 (n+9) l k t d hv m f g H a b
     have h32:∀ H,cd (n+13) (.fn 32) [bR l t k d,.int .i64 hv] H=some (JO l k t d hv,H):=fun H=>Q8 (n+2) l k t d H hv
     have h37:∀ x H,cd (n+13) (.fn 37) [bR l t k d,.int .i64 hv,.int .i64 x] H=some (.int .i64 (Dk l k t d hv x),H):=fun x H=>Q9 (n+2) l k t d H hv x
     have h38:∀ x H,cd (n+13) (.fn 38) [bR l t k d,.int .i64 hv,.int .i64 x] H=some (.int .i64 (Dk l k t d hv x),H):=fun x H=>Ra (n+9) l k t d H hv x
     have hP:ME (dK m f g):=⟨m,f,g,rfl,hm,hg⟩
     obtain ⟨x,hx⟩:∃ x,rL l k t d hv m f g=x:=⟨_,rfl⟩
     have hE1:IJ l k t d hv (AV.slcT none (.F (fun j=>AV.slcT none (.M [.arr .i64 (f j) (g j)]) 1 (g j) false) m) 1 m false)=x:=by rw[← hx];exact AJ l k t d hv m f g
     have hcc:∀ T:Int,0≤T→T≤40→Dk l k t d hv T=if rM l t d hv T=true then 0 else 14:=fun T a b=>by
      unfold Dk
      rw[if_pos ha,if_neg (by omega)]
     by_cases hc:ct l t d hv=true
     · have hn:gH l k t d hv=0:=by unfold gH;rw[if_pos ha,if_pos hc]
       have rp:=Ie hs hc hh1 hh2
       have hp:=Mz rp
       rw[show Kx l k t d hv=.tup [dK (c8 l t d hv) (fP l k t d hv (c8 l t d hv-1)) (gP l k t d hv (c8 l t d hv-1)),.int .i64 0] from by unfold Kx;rw[if_pos hn]] at h27
       rw[show JO l k t d hv=.tup [.int .i64 0,.int .i64 5] from by unfold JO;rw[if_pos ha,if_pos hc]] at h32
       have hT:=(lF hs hc).2
       have hlen:∀ j,j<c8 l t d hv→gP l k t d hv (c8 l t d hv-1) j≤40:=fun j hj=>by
        have:=rp.gh j hj
        omega
       have hP2:ME (dK (c8 l t d hv) (fP l k t d hv (c8 l t d hv-1)) (gP l k t d hv (c8 l t d hv-1))):=⟨_,_,_,rfl,by omega,hlen⟩
       have hE2:IJ l k t d hv (dK (c8 l t d hv) (fP l k t d hv (c8 l t d hv-1)) (gP l k t d hv (c8 l t d hv-1)))=0:=by rw[AJ];exact hp
       have hi:x≠0∨c8 l t d hv≤m:=by
        by_cases e:x=0
        · exact .inr (MA (I5 (by rw[hx];exact e)))
        · exact .inl e
       have hcr:Dk l k t d hv (W:Nat)=14:=by
        rw[hcc _ (by omega) (by omega),if_neg]
        have:=(oI l t d hv).1 hc W hW40
        unfold rM
        rw[decide_eq_true_eq];omega
       clear rp hp hlen hx
       generalize fP l k t d hv (c8 l t d hv-1)=F at *
       generalize gP l k t d hv (c8 l t d hv-1)=G at *
       generalize c8 l t d hv=T at *
       have hE2':IJ l k t d hv (AV.slcT none (.F (fun j=>AV.slcT none (.M [.arr .i64 (F j) (G j)]) 1 (G j) false) T) 1 T false)=0:=hE2
       refine aC (n:=n+13) Try.func7 rfl rfl rfl (u7 (n+13) l k t d h w hv m f g T F G ME (IJ l k t d hv) (Dk l k t d hv) H) (aQ _ (n+13) (Nz (by omega) (BV (BV (BU (BU (bo (bo (bo (bo (aB _) h43) h24) h27) h32) h29) h30) h37) h38))) (af _ _) (ag _ _) ?_
       rw[e1,e2]
       repeat' first | (refine Tr.bh (fun hc=>?_) (fun hc=>?_)<;>(try simp (disch:=omega) only[nV,nW,hE1,hE2',hcr] at hc)<;>(try (exfalso;omega))) | (refine Tr.cj ?_ ?_;· ((try simp (disch:=omega) only[nV,nW,hE1,hE2',hcr]);try omega)) | (refine Tr.bf ?_ ?_;· first | exact trivial | rfl | exact ⟨rfl,rfl⟩ | exact ⟨trivial,rfl⟩ | exact ⟨rfl,by assumption⟩ | exact ⟨rfl,rfl,rfl⟩ | (simp (disch:=omega) only[nV,nW,hE1,hE2',hcr];done) | ((try simp (disch:=omega) only[nV,nW,hE1,hE2',hcr]);omega)) | fail
       all_goals first
        | exact Tr.ba ⟨rfl,rfl⟩
        | fail
     · have hc:ct l t d hv=false:=by simpa using hc
       have hn:gH l k t d hv=13:=by unfold gH;rw[if_pos ha,if_neg (by rw[hc];decide)]
       rw[show Kx l k t d hv=.tup [.nils,.int .i64 13] from by unfold Kx;rw[if_neg (by rw[hn];decide),hn]] at h27
       rw[show JO l k t d hv=.tup [.int .i64 (pW l t d hv),.int .i64 0] from by unfold JO;rw[if_pos ha,if_neg (by rw[hc];decide)]] at h32
       obtain ⟨q1,q2,q3,q4⟩:=JL hc
       have hE3:Dk l k t d hv (pW l t d hv)=0:=by rw[hcc _ q1 q2,if_pos q3]
       have hi:x≠0:=fun e=>by
        have:=KG (I5 (by rw[hx];exact e))
        rw[hc] at this;cases this
       obtain ⟨y,hy⟩:∃ y,Dk l k t d hv (W:Nat)=y:=⟨_,rfl⟩
       have hy2:y≠0∨pW l t d hv≤(W:Int):=by
        by_cases e:rM l t d hv (W:Nat)=true
        · exact .inr (q4 W hW40 e)
        · refine .inl ?_
          rw[← hy,hcc _ (by omega) (by omega),if_neg e];decide
       clear hx
       generalize pW l t d hv=C at *
       refine aC (n:=n+13) Try.func7 rfl rfl rfl (T6 (n+13) l k t d h w hv m f g C ME (IJ l k t d hv) (Dk l k t d hv) H) (aQ _ (n+13) (Nz (by omega) (BV (BV (BU (BU (bo (bo (bo (bo (aB _) h43) h24) h27) h32) h29) h30) h37) h38))) (af _ _) (ag _ _) ?_
       rw[e1,e2]
       repeat' first | (refine Tr.bh (fun hc=>?_) (fun hc=>?_)<;>(try simp (disch:=omega) only[nV,nW,hE1,hE3,hy] at hc)<;>(try (exfalso;omega))) | (refine Tr.cj ?_ ?_;· ((try simp (disch:=omega) only[nV,nW,hE1,hE3,hy]);try omega)) | (refine Tr.bf ?_ ?_;· first | exact trivial | rfl | exact ⟨rfl,rfl⟩ | exact ⟨trivial,rfl⟩ | exact ⟨rfl,by assumption⟩ | exact ⟨rfl,rfl,rfl⟩ | (simp (disch:=omega) only[nV,nW,hE1,hE3,hy];done) | ((try simp (disch:=omega) only[nV,nW,hE1,hE3,hy]);omega)) | fail
       all_goals first
        | exact Tr.ba ⟨rfl,rfl⟩
        | fail
 · rw[decide_eq_false hb1] at h43
   refine aC (n:=n+13) Try.func7 rfl rfl rfl (QO (n+13) l k t d h w m f g _ _ H) (aQ _ (n+13) (Nz (by omega) (bo (bo (aB _) h43) h24))) (af _ _) (ag _ _) ?_
   exact wF
end
end Go.Eng
end
section
namespace Go.Proofs.Ytoomemfhcbajoaa.Known
open Go.Eng Go.Proofs
theorem named:c9 Try.prog:=by
 have h:(Try.prog.funcs.toList.all fun fn=>fn.body.isNone || !(fn.name == "runtime.NumGoroutine"))=true:=by kernel_rfl
 intro f fn hf hb
 have:=List.all_eq_true.1 h fn (by simpa using Array.mem_of_getElem? hf)
 rw[hb] at this
 simpa using this
theorem mixed:Try.prog.follows .mixedOrders=true:=by kernel_rfl
theorem HS:∀ e ∈ ([]:List gb),bx Try.prog e:=fun e h=>by cases h
theorem cq {e:gb} {t:List gb} (h:bx Try.prog e) (k:∀ x ∈ t,bx Try.prog x):∀ x ∈ e::t,bx Try.prog x:=fun x hx=>by
 rcases List.mem_cons.1 hx with rfl | hx
 · exact h
 · exact k x hx
def M8:List gb:=[]
theorem CQ:∀ e ∈ M8,bx Try.prog e:=HS
def cM:List Nat→Code→Code
 | [],c=>c
 | x :: p,c=>match c with
   | .seq a b=>match x with
     | 0=>cM p a
     | _=>cM p b
   | .cond _ a b=>match x with
     | 0=>cM p a
     | _=>cM p b
   | .block _ b=>cM p b
   | .loop b=>cM p b
   | .scope b=>cM p b
   | .rangeFunc _ _ a b=>match x with
     | 0=>cM p a
     | _=>cM p b
   | c=>c
def lr:Code→Array Oper
 | .region _ ops _=>ops
 | _=>#[]
noncomputable def eM:Code:=Try.f90.body.getD .skip
def JY (l:List Oper):Oper:=l.headD { dst:=none,op:=.move (.tmp 0),type:=0,pos := "",after:=#[],guard:=none }
noncomputable def cZ:cK:={ id0:=3,ops0:=lr (cM [1,1,1,0,0] eM),pre:=(lr (cM [1,1,1,0,0] eM)).toList.take 1,ro:=JY ((lr (cM [1,1,1,0,0] eM)).toList.drop 1),m:=9,ty:=95 }
noncomputable def bA:bt:={ out:=0,jB:=4,id2:=5,nxt:=1,ops1:=lr (cM [1,1,1,0,1,0,0,0] eM),ops2:=lr (cM [1,1,1,0,1,0,0,1,1,0,0] eM),no:=JY (lr (cM [1,1,1,0,1,0,0,0] eM)).toList,eo:=JY (lr (cM [1,1,1,0,1,0,0,1,1,0,0] eM)).toList,t1:=(lr (cM [1,1,1,0,1,0,0,0] eM)).toList.tail,t2:=(lr (cM [1,1,1,0,1,0,0,1,1,0,0] eM)).toList.tail,it:=10,nx:=11,mo:=12,en:=13,rest:=cM [1,1,1,0,1,0,0,1,1,0,1] eM,km:=16775424 }
noncomputable def pick:ow:={ f:=90,pre:=[cM [0] eM,cM [1,0] eM,cM [1,1,0] eM],S:=cZ,L:=bA,suf:=cM [1,1,1,1] eM }
theorem Bh:Try.f90.body=some (assemble pick.pre (cZ.code bA) pick.suf):=by kernel_rfl
theorem xn:cZ.ops0.toList=cZ.pre++[cZ.ro]:=by kernel_rfl
theorem xr:cZ.ro.op=.range cZ.ty (.tmp cZ.m):=by kernel_rfl
theorem xh:cZ.ro.dst=some bA.it:=by kernel_rfl
theorem xk:cZ.ro.guard=none:=by kernel_rfl
theorem xo:bA.ops1.toList=bA.no::bA.t1:=by kernel_rfl
theorem xt:bA.no.op=.next (.tmp bA.it) false:=by kernel_rfl
theorem xi:bA.no.dst=some bA.nx:=by kernel_rfl
theorem xl:bA.no.guard=none:=by kernel_rfl
theorem xp:bA.ops2.toList=bA.eo::bA.t2:=by kernel_rfl
theorem xu:bA.eo.op=.entry (.tmp bA.it):=by kernel_rfl
theorem xj:bA.eo.dst=some bA.en:=by kernel_rfl
theorem xm:bA.eo.guard=none:=by kernel_rfl
theorem xv:pick.Ok Try.prog:=⟨⟨Try.f90,Try.func90,Bh⟩,⟨xn,xr,xh,xk,⟨_,_,Try.underlying95⟩⟩,⟨xo,xt,xi,xl,xp,xu,xj,xm⟩⟩
noncomputable def rs:List ow:=[pick]
theorem eU:∀ r ∈ rs,r.Ok Try.prog:=fun r h=>by
 rcases List.mem_cons.1 h with rfl | h
 · exact xv
 · cases h
end Go.Proofs.Ytoomemfhcbajoaa.Known
end
section
namespace Go.Proofs.Ytoomemfhcbajoaa.Known
open Go.Eng Go.Proofs
noncomputable def E1:gb:=⟨50,[.int .i64 5],.agg (.G [.slcT none (.I .i64 [2,2,6,5,5,6,-1]) 1 7 true,.slcT none (.I .i64 [5,5,5,5,5,5,5]) 1 7 true])⟩
theorem Tt:bx Try.prog E1:=b7 named mixed CQ eU [54,95] KtL.kt 100000 40 (H':=[⟨true,[]⟩]) (by kernel_rfl) (by kernel_rfl)
noncomputable def M9:List gb:=E1::M8
theorem CR:∀ e ∈ M9,bx Try.prog e:=cq Tt CQ
noncomputable def E2:gb:=⟨50,[.int .i64 4],.agg (.G [.slcT none (.I .i64 [2,2,6,5,5,6,-1]) 1 7 true,.slcT none (.I .i64 [4,4,4,4,4,4,4]) 1 7 true])⟩
theorem Tu:bx Try.prog E2:=b7 named mixed CR eU [54,95] KtL.kt 100000 40 (H':=[⟨true,[]⟩]) (by kernel_rfl) (by kernel_rfl)
noncomputable def Na:List gb:=E2::M9
theorem CS:∀ e ∈ Na,bx Try.prog e:=cq Tu CR
end Go.Proofs.Ytoomemfhcbajoaa.Known
end
section
namespace Go.Proofs.Ytoomemfhcbajoaa.Known
open Go.Eng Go.Proofs
noncomputable def E3:gb:=⟨50,[.int .i64 3],.agg (.G [.slcT none (.I .i64 [2,2,6,5,5,6,-1]) 1 7 true,.slcT none (.I .i64 [3,3,3,3,3,3,3]) 1 7 true])⟩
theorem Tv:bx Try.prog E3:=b7 named mixed CS eU [54,95] KtL.kt 100000 40 (H':=[⟨true,[]⟩]) (by kernel_rfl) (by kernel_rfl)
noncomputable def Nd:List gb:=E3::Na
theorem CT:∀ e ∈ Nd,bx Try.prog e:=cq Tv CS
noncomputable def E4:gb:=⟨21,[.agg (.G [.slcT none (.I .i64 [2,2,6,5,5,6,-1]) 1 7 true,.slcT none (.I .i64 [5,5,5,5,5,5,5]) 1 7 true])],.int .i64 0⟩
theorem Tw:bx Try.prog E4:=b7 named mixed CT eU [54,95] KtL.kt 100000 40 (H':=[⟨true,[]⟩]) (by kernel_rfl) (by kernel_rfl)
noncomputable def Nf:List gb:=E4::Nd
theorem CU:∀ e ∈ Nf,bx Try.prog e:=cq Tw CT
end Go.Proofs.Ytoomemfhcbajoaa.Known
end
section
namespace Go.Proofs.Ytoomemfhcbajoaa.Known
open Go.Eng Go.Proofs
noncomputable def E5:gb:=⟨17,[.agg (.G [.slcT none (.I .i64 [2,2,6,5,5,6,-1]) 1 7 true,.slcT none (.I .i64 [5,5,5,5,5,5,5]) 1 7 true])],.tup [.slcT none (.I .i64 [3,3,2,3,3,2,1]) 1 7 false,.int .i64 0]⟩
theorem Tx:bx Try.prog E5:=b7 named mixed CU eU [54,95] KtL.kt 100000 40 (H':=[⟨true,[]⟩]) (by kernel_rfl) (by kernel_rfl)
noncomputable def Ng:List gb:=E5::Nf
theorem CV:∀ e ∈ Ng,bx Try.prog e:=cq Tx CU
noncomputable def E6:gb:=⟨19,[.agg (.G [.slcT none (.I .i64 [2,2,6,5,5,6,-1]) 1 7 true,.slcT none (.I .i64 [5,5,5,5,5,5,5]) 1 7 true])],.tup [.slcT none (.I .i64 [3,3,4,3,3,4,5]) 1 7 false,.int .i64 0]⟩
theorem Ty:bx Try.prog E6:=b7 named mixed CV eU [54,95] KtL.kt 100000 40 (H':=[⟨true,[]⟩]) (by kernel_rfl) (by kernel_rfl)
noncomputable def Nh:List gb:=E6::Ng
theorem CW:∀ e ∈ Nh,bx Try.prog e:=cq Ty CV
end Go.Proofs.Ytoomemfhcbajoaa.Known
end
section
namespace Go.Proofs.Ytoomemfhcbajoaa.Known
open Go.Eng Go.Proofs
noncomputable def E7:gb:=⟨21,[.agg (.G [.slcT none (.I .i64 [2,2,6,5,5,6,-1]) 1 7 true,.slcT none (.I .i64 [4,4,4,4,4,4,4]) 1 7 true])],.int .i64 0⟩
theorem Tz:bx Try.prog E7:=b7 named mixed CW eU [54,95] KtL.kt 100000 40 (H':=[⟨true,[]⟩]) (by kernel_rfl) (by kernel_rfl)
noncomputable def Ni:List gb:=E7::Nh
theorem CX:∀ e ∈ Ni,bx Try.prog e:=cq Tz CW
noncomputable def E8:gb:=⟨21,[.agg (.G [.slcT none (.I .i64 [2,2,6,5,5,6,-1]) 1 7 true,.slcT none (.I .i64 [3,3,3,3,3,3,3]) 1 7 true])],.int .i64 0⟩
theorem TA:bx Try.prog E8:=b7 named mixed CX eU [54,95] KtL.kt 100000 40 (H':=[⟨true,[]⟩]) (by kernel_rfl) (by kernel_rfl)
noncomputable def Nj:List gb:=E8::Ni
theorem CY:∀ e ∈ Nj,bx Try.prog e:=cq TA CX
end Go.Proofs.Ytoomemfhcbajoaa.Known
end
section
namespace Go.Proofs.Ytoomemfhcbajoaa.Known
open Go.Eng Go.Proofs
noncomputable def E9:gb:=⟨32,[.agg (.G [.slcT none (.I .i64 [2,2,6,5,5,6,-1]) 1 7 true,.slcT none (.I .i64 [3,3,3,3,3,3,3]) 1 7 true]),.int .i64 2],.tup [.int .i64 1,.int .i64 0]⟩
theorem TB:bx Try.prog E9:=b7 named mixed CY eU [54,95] KtL.kt 100000 40 (H':=[⟨true,[]⟩]) (by kernel_rfl) (by kernel_rfl)
noncomputable def Nk:List gb:=E9::Nj
theorem CZ:∀ e ∈ Nk,bx Try.prog e:=cq TB CY
noncomputable def Qm:gb:=⟨32,[.agg (.G [.slcT none (.I .i64 [2,2,6,5,5,6,-1]) 1 7 true,.slcT none (.I .i64 [4,4,4,4,4,4,4]) 1 7 true]),.int .i64 2],.tup [.int .i64 0,.int .i64 5]⟩
theorem O9:bx Try.prog Qm:=b7 named mixed CZ eU [54,95] KtL.kt 100000 40 (H':=[⟨true,[]⟩]) (by kernel_rfl) (by kernel_rfl)
noncomputable def Jf:List gb:=Qm::Nk
theorem z9:∀ e ∈ Jf,bx Try.prog e:=cq O9 CZ
end Go.Proofs.Ytoomemfhcbajoaa.Known
end
section
namespace Go.Proofs.Ytoomemfhcbajoaa.Known
open Go.Eng Go.Proofs
noncomputable def Qn:gb:=⟨34,[.agg (.G [.slcT none (.I .i64 [2,2,6,5,5,6,-1]) 1 7 true,.slcT none (.I .i64 [3,3,3,3,3,3,3]) 1 7 true])],.tup [.int .i64 4,.int .i64 0]⟩
theorem Pa:bx Try.prog Qn:=b7 named mixed z9 eU [54,95] KtL.kt 100000 40 (H':=[⟨true,[]⟩]) (by kernel_rfl) (by kernel_rfl)
noncomputable def Jg:List gb:=Qn::Jf
theorem Aa:∀ e ∈ Jg,bx Try.prog e:=cq Pa z9
noncomputable def Qo:gb:=⟨36,[.agg (.G [.slcT none (.I .i64 [2,2,6,5,5,6,-1]) 1 7 true,.slcT none (.I .i64 [5,5,5,5,5,5,5]) 1 7 true]),.int .i64 4],.tup [.int .i64 3,.int .i64 0]⟩
theorem Pb:bx Try.prog Qo:=b7 named mixed Aa eU [54,95] KtL.kt 100000 40 (H':=[⟨true,[]⟩]) (by kernel_rfl) (by kernel_rfl)
noncomputable def Jh:List gb:=Qo::Jg
theorem Ab:∀ e ∈ Jh,bx Try.prog e:=cq Pb Aa
end Go.Proofs.Ytoomemfhcbajoaa.Known
end
section
namespace Go.Proofs.Ytoomemfhcbajoaa.Known
open Go.Eng Go.Proofs
noncomputable def Qp:gb:=⟨39,[.agg (.G [.slcT none (.I .i64 [2,2,6,5,5,6,-1]) 1 7 true,.slcT none (.I .i64 [4,4,4,4,4,4,4]) 1 7 true]),.int .i64 2,.int .i64 5],.tup [.int .i64 3,.int .i64 0]⟩
theorem Pc:bx Try.prog Qp:=b7 named mixed Ab eU [54,95] KtL.kt 100000 40 (H':=[⟨true,[]⟩]) (by kernel_rfl) (by kernel_rfl)
noncomputable def Ji:List gb:=Qp::Jh
theorem Ac:∀ e ∈ Ji,bx Try.prog e:=cq Pc Ab
noncomputable def Qq:gb:=⟨41,[.agg (.G [.slcT none (.I .i64 [2,2,6,5,5,6,-1]) 1 7 true,.slcT none (.I .i64 [5,5,5,5,5,5,5]) 1 7 true]),.int .i64 2],.tup [.slcT none (.I .i64 [1,2,3,4,5]) 1 5 false,.int .i64 0]⟩
theorem Pd:bx Try.prog Qq:=b7 named mixed Ac eU [54,95] KtL.kt 100000 40 (H':=[⟨true,[]⟩]) (by kernel_rfl) (by kernel_rfl)
noncomputable def Jj:List gb:=Qq::Ji
theorem Ad:∀ e ∈ Jj,bx Try.prog e:=cq Pd Ac
end Go.Proofs.Ytoomemfhcbajoaa.Known
end
section
namespace Go.Proofs.Ytoomemfhcbajoaa.Known
open Go.Eng Go.Proofs
noncomputable def Qr:gb:=⟨37,[.agg (.G [.slcT none (.I .i64 [2,2,6,5,5,6,-1]) 1 7 true,.slcT none (.I .i64 [3,3,3,3,3,3,3]) 1 7 true]),.int .i64 2,.int .i64 1],.int .i64 0⟩
theorem Pe:bx Try.prog Qr:=b7 named mixed Ad eU [54,95] KtL.kt 100000 40 (H':=[⟨true,[]⟩]) (by kernel_rfl) (by kernel_rfl)
noncomputable def Jk:List gb:=Qr::Jj
theorem Ae:∀ e ∈ Jk,bx Try.prog e:=cq Pe Ad
noncomputable def Qs:gb:=⟨37,[.agg (.G [.slcT none (.I .i64 [2,2,6,5,5,6,-1]) 1 7 true,.slcT none (.I .i64 [4,4,4,4,4,4,4]) 1 7 true]),.int .i64 2,.int .i64 1],.int .i64 14⟩
theorem Pf:bx Try.prog Qs:=b7 named mixed Ae eU [54,95] KtL.kt 100000 40 (H':=[⟨true,[]⟩]) (by kernel_rfl) (by kernel_rfl)
noncomputable def Jl:List gb:=Qs::Jk
theorem Af:∀ e ∈ Jl,bx Try.prog e:=cq Pf Ae
end Go.Proofs.Ytoomemfhcbajoaa.Known
end
section
namespace Go.Proofs.Ytoomemfhcbajoaa.Known
open Go.Eng Go.Proofs
noncomputable def Qt:gb:=⟨34,[.agg (.G [.slcT none (.I .i64 [2,2,6,5,5,6,-1]) 1 7 true,.slcT none (.I .i64 [5,5,5,5,5,5,5]) 1 7 true])],.tup [.int .i64 2,.int .i64 0]⟩
theorem Pg:bx Try.prog Qt:=b7 named mixed Af eU [54,95] KtL.kt 100000 40 (H':=[⟨true,[]⟩]) (by kernel_rfl) (by kernel_rfl)
noncomputable def Jm:List gb:=Qt::Jl
theorem Ag:∀ e ∈ Jm,bx Try.prog e:=cq Pg Af
noncomputable def Qu:gb:=⟨34,[.agg (.G [.slcT none (.I .i64 [2,2,6,5,5,6,-1]) 1 7 true,.slcT none (.I .i64 [4,4,4,4,4,4,4]) 1 7 true])],.tup [.int .i64 2,.int .i64 0]⟩
theorem Ph:bx Try.prog Qu:=b7 named mixed Ag eU [54,95] KtL.kt 100000 40 (H':=[⟨true,[]⟩]) (by kernel_rfl) (by kernel_rfl)
noncomputable def Jn:List gb:=Qu::Jm
theorem Ah:∀ e ∈ Jn,bx Try.prog e:=cq Ph Ag
end Go.Proofs.Ytoomemfhcbajoaa.Known
end
section
namespace Go.Proofs.Ytoomemfhcbajoaa.Known
open Go.Eng Go.Proofs
noncomputable def Qv:gb:=⟨36,[.agg (.G [.slcT none (.I .i64 [2,2,6,5,5,6,-1]) 1 7 true,.slcT none (.I .i64 [5,5,5,5,5,5,5]) 1 7 true]),.int .i64 2],.tup [.int .i64 4,.int .i64 0]⟩
theorem Pj:bx Try.prog Qv:=b7 named mixed Ah eU [54,95] KtL.kt 100000 40 (H':=[⟨true,[]⟩]) (by kernel_rfl) (by kernel_rfl)
noncomputable def Jo:List gb:=Qv::Jn
theorem Ai:∀ e ∈ Jo,bx Try.prog e:=cq Pj Ah
noncomputable def Qw:gb:=⟨36,[.agg (.G [.slcT none (.I .i64 [2,2,6,5,5,6,-1]) 1 7 true,.slcT none (.I .i64 [5,5,5,5,5,5,5]) 1 7 true]),.int .i64 3],.tup [.int .i64 4,.int .i64 0]⟩
theorem Pk:bx Try.prog Qw:=b7 named mixed Ai eU [54,95] KtL.kt 100000 40 (H':=[⟨true,[]⟩]) (by kernel_rfl) (by kernel_rfl)
noncomputable def Jp:List gb:=Qw::Jo
theorem Aj:∀ e ∈ Jp,bx Try.prog e:=cq Pk Ai
end Go.Proofs.Ytoomemfhcbajoaa.Known
end
